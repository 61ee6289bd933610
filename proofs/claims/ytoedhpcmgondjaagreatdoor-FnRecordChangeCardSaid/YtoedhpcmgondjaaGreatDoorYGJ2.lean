import Derived.Test.YtoedhpcmgondjaaGreatDoorYGJ1
import Derived.Deep.CutBlock
set_option linter.all false
set_option maxHeartbeats 8000000
namespace Go.Proofs.YtoedhpcmgondjaaGreatDoor
open Go.Lib(hid)
open Go.RowKit Go.Proofs.Tryz
set_option maxRecDepth 100000
attribute [local instance] mU hZ cvZ
attribute [local go_sem high] zG zF zH zV zN yu zD zl zn zt zi zu y9 zK yE zJ
theorem jl {B b:Nat}{K:Kn}{A An Ap:Option Addr}{cap cn cp:Nat}(d:Bs)(w:World)(g:y5 w B b K A An Ap cap cn cp)(hk:K.ok)(X:d≠[])(d2:d.length≤100000)(a4:d.all (uq K.l)=true):
 Calls prog 163 #[.pointer (some ⟨b,0,none⟩),sv d] w (rT w (.tuple #[.int .i64 (K.find (K.longest d)),ivn (K.longest d).length])):=by
 obtain⟨x,r,E⟩:∃x r,d=x::r:=by cases d with
  |nil=>exact absurd rfl X
  |cons x r=>exact⟨x,r,rfl⟩
 have b5:=hk.st;have d3:=hk.bd;have F:=hk.fine;have b6:=F.KI;have d4:=F.tr.lits;have b7:(x.toNat:Int)<K.cl:=by
  have h:=List.all_eq_true.1 a4 x (by rw[E];exact List.mem_cons_self);simpa [uq,Kn.cl] using h
 have b8:x.toNat<K.tr.nds.length:=oo;have b9:byteAt d 0=(x.toNat:Int):=(by rw[E];rfl);have a5:d.length=r.length+1:=(by rw[E];rfl);have a6:Hid (∀(k:Nat) (h:k<r.length),byteAt d ((k:Int)+1)=(r[k].toNat:Int)):=fun k h=>by
  rw[show((k:Int)+1)=((k+1:Nat):Int) by omega,E,yh _ _ (by simp;omega),List.getElem_cons_succ]
 have a7:Hid (∀n k,K.tr.desc x.toNat r=(n,k)→
  n<K.tr.nds.length∧k≤r.length∧
  (K.gr=true→k<r.length→n=K.tr.xG K.cl K.last→byteAt d ((k:Int)+1)=((K.tr.nds[n]?.getD ⟨0,0,0,0⟩).first.toNat:Int)→K.find (K.longest d)=K.nx∧(K.longest d).length=k+2)∧
  (¬(K.gr=true∧k<r.length∧n=K.tr.xG K.cl K.last∧byteAt d ((k:Int)+1)=((K.tr.nds[n]?.getD ⟨0,0,0,0⟩).first.toNat:Int))→K.find (K.longest d)=(K.tr.nds[n]?.getD ⟨0,0,0,0⟩).code∧(K.longest d).length=k+1)):=fun n k h=>by
  have:=K.VF hk b7 h;rw[←E] at this;exact this
 have a8:=hid (jQ.start K.tr x r);have G:=hid a5;clear E a5 a4 X;have X:0<d.length:=(by have:=G.out;omega);obtain⟨d5,d6⟩:=b6;generalize K.find (K.longest d)=d7 at*;generalize(K.longest d).length=L at*;go_enter func163,ntmps163;go_upto_block 0 with(fail)
 go_cut [6,7] (fun a c wx=>∃n k:Nat,a= .int .i64 (n:Int)∧c= .int .i64 ((k:Int)+1)∧Hid (K.tr.desc x.toNat r=(n,k))∧w=wx)
 case first=>
  go_wp2_with fail;go_loop [6,7] (fun a c=>∃n k:Nat,a= .int .i64 (n:Int)∧c= .int .i64 ((k:Int)+1)∧n<K.tr.nds.length∧k≤r.length∧Hid (jQ K.tr x r n k)) (fun _ c=>d.length - (intOf c).toNat)
  case atStart=>exact⟨x.toNat,0,rfl,rfl,b8,oo,a8⟩
  case round=>
   obtain⟨n,k,rfl,rfl,T,c0,Y⟩:=hrel;by_cases Z:k<r.length
   ·have c1:(k:Int)+1<d.length:=by have:=G.out;omega
    have c2:=a6.out k Z;have a9:Hid (∀m,K.tr.kid n r[k]=some m→jQ K.tr x r m (k+1)):=fun m hm=>Y.out.next Z hm;have a':Hid (K.tr.kid n r[k]=none→K.tr.desc x.toNat r=(n,k)):=fun hm=>Y.out.stop Z hm;obtain⟨y,hy⟩:∃y,r[k]=y:=⟨_,rfl⟩;rw[hy] at c2 a9 a';have c3:(y.toNat:Int)≤255:=(by have:=y.toNat_lt;omega);have cC:=WH n (y.toNat:Int) w g F T oo c3;rw[show UInt8.ofNat ((y.toNat:Int)).toNat=y by simp] at cC;have c4:Hid (K.tr.kC n y<0→K.tr.kid n y=none):=fun h=>Sj h;have c5:Hid (0≤K.tr.kC n y→K.tr.kid n y=some (K.tr.kC n y).toNat∧(K.tr.kC n y).toNat<K.tr.nds.length):=fun h=>PO h;generalize K.tr.kC n y=b1 at*;clear hy;by_cases hq:b1<0
    ·have s:=hid (a'.out (c4.out hq))
     go_wp2_with(go_at_call 187;refine cC.mono ?_;rintro e w' ⟨rfl,rfl⟩);go_meet;exact⟨n,k,rfl,rfl,s,rfl⟩
    ·obtain⟨b2,b3⟩:=c5.out oo
     have s:=hid (a9.out _ b2);clear b2;obtain⟨m,rfl⟩:=Int.eq_ofNat_of_zero_le (show 0≤b1 by omega);rw[Int.toNat_natCast] at b3 s;go_wp2_with(go_at_call 187;refine cC.mono ?_;rintro e w' ⟨rfl,rfl⟩);go_round
     case rel=>exact⟨m,k+1,rfl,by go_num,b3,oo,s⟩
     case measure=>have:=G.out;simp [intOf];omega
   ·have c1:¬(k:Int)+1<d.length:=by have:=G.out;omega
    have s:=hid (Y.out.fin oo);go_wp2;go_meet;exact⟨n,k,rfl,rfl,s,rfl⟩
 case rest=>
  obtain⟨n,k,rfl,rfl,s,rfl⟩:=hcut;obtain⟨T,c0,U,V⟩:=a7.out n k s.out;clear a7 s a8 a6 b9;have d8:(k:Int)+1≤d.length:=(by have:=G.out;omega);have D:(k:Int)+1<d.length↔k<r.length:=(by have:=G.out;omega);obtain⟨v,d9,hv,d'⟩:=g.nds.form oo;injection hv with e1 e2 e3
  subst e1 e3;clear e2;have H:=g.box.lt;have M:=(g.nds.lt v rfl).2;have I:=g.box.cell;have z:=(g.nds.cellAt (n*6+4) oo).trans (vU _ _ T oo);have q:=(g.nds.cellAt (n*6+5) oo).trans (vU _ _ T oo);simp only[ndV,List.getElem?_cons_zero,List.getElem?_cons_succ] at z q;have e0:(n:Int)<K.tr.nds.length:=oo;obtain⟨N,b4⟩:∃N,K.tr.nds[n]?.getD ⟨0,0,0,0⟩=N:=⟨_,rfl⟩;rw[b4] at z q U V;clear b4;have O:=zM I H;have Q:=um z M;have e4:=zQ d ((k:Int)+1);have e5:=yG d ((k:Int)+1);obtain⟨P,hP⟩:∃P,K.tr.xG K.cl K.last=P:=⟨_,rfl⟩;have o:Hid (K.gr=true→∀w,y5 w B b K A (some ⟨v,0,none⟩) Ap cap cn cp→Calls prog 186 #[.pointer (some ⟨b,0,none⟩),K.last] w (rT w (.int .i64 (P:Int)))):=fun hg w h=>by
   have:=pX K.last w h F (K.qf hk hg);rw[hP] at this;exact this
  rw[hP] at U V;have J:=hid U;have t:=hid V;clear U V hP;have c':(¬(k:Int)+1<d.length)∨((k:Int)+1<d.length∧K.gr=false)∨((k:Int)+1<d.length∧K.gr=true∧((n:Int)==(P:Int))=false)∨
   ((k:Int)+1<d.length∧K.gr=true∧((n:Int)==(P:Int))=true∧(byteAt d ((k:Int)+1)==(N.first.toNat:Int))=false)∨((k:Int)+1<d.length∧K.gr=true∧((n:Int)==(P:Int))=true∧(byteAt d ((k:Int)+1)==(N.first.toNat:Int))=true):=by
   by_cases h1:(k:Int)+1<d.length
   ·cases h2:K.gr
    ·exact .inr (.inl ⟨h1,rfl⟩)
    ·cases R:((n:Int)==(P:Int))
     ·exact .inr (.inr (.inl ⟨h1,rfl,rfl⟩))
     ·cases W:(byteAt d ((k:Int)+1)==(N.first.toNat:Int))
      ·exact .inr (.inr (.inr (.inl ⟨h1,rfl,rfl,rfl⟩)))
      ·exact .inr (.inr (.inr (.inr ⟨h1,rfl,rfl,rfl⟩)))
   ·exact .inl h1
  rcases c' with h1|⟨h1,h2⟩|⟨h1,h2,R⟩|⟨h1,h2,R,W⟩|⟨h1,h2,R,W⟩
  ·have i:=hid (t.out (fun C=>h1 (D.2 C.2.1)))
   have e6:decide ((k:Int)+1<d.length)=false:=decide_eq_false h1;clear D t J;have o:=hid (fun w h=>pX (B:=B) (b:=b) (K:=K) (A:=A) (An:=some ⟨v,0,none⟩) (Ap:=Ap) (cap:=cap) (cn:=cn) (cp:=cp) 0 w h F (.inl ⟨by omega,oo⟩));go_wp2_with fail;refine wp_region_quiet_below kr kr ?_;repeat(go_big_quiet_step ((first|(go_at_call 162;exact Calls.regrown_of (uU K A cap _ hk))|(go_at_call 186;exact Calls.regrown_of (o.out _ (g.keep (below_regrown _ _ _)))))))
   refine wpQuiet_nil ?_;intro u j;have f:Below _ _ u:=zh j;clear j;have c6:=(f.cell (p:=⟨v,n*6+5,none⟩) M).trans q;have S:=(g.box.below f H).cell;clear O Q I z q;go_wp2;go_ret2;refine⟨?_,f⟩;rw[i.out.1,i.out.2];rfl
  ·have i:=hid (t.out (fun C=>by rw[h2] at C;cases C.1))
   clear D t J;have o:=hid (fun w h=>pX (B:=B) (b:=b) (K:=K) (A:=A) (An:=some ⟨v,0,none⟩) (Ap:=Ap) (cap:=cap) (cn:=cn) (cp:=cp) 0 w h F (.inl ⟨by omega,oo⟩));go_wp2_with fail;refine wp_region_quiet_below kr kr ?_;repeat(go_big_quiet_step ((first|(go_at_call 162;exact Calls.regrown_of (uU K A cap _ hk))|(go_at_call 186;exact Calls.regrown_of (o.out _ (g.keep (below_regrown _ _ _)))))))
   refine wpQuiet_nil ?_;intro u j;have f:Below _ _ u:=zh j;clear j;have c6:=(f.cell (p:=⟨v,n*6+5,none⟩) M).trans q;have S:=(g.box.below f H).cell;clear O Q I z q;go_wp2;go_ret2;refine⟨?_,f⟩;rw[i.out.1,i.out.2];rfl
  ·have i:=hid (t.out (fun C=>by have:=C.2.2.1;simp at R;omega))
   have o:=hid (o.out h2);clear D t J;go_wp2_with fail;refine wp_region_quiet_below kr kr ?_;repeat(go_big_quiet_step ((first|(go_at_call 162;exact Calls.regrown_of (uU K A cap _ hk))|(go_at_call 186;exact Calls.regrown_of (o.out _ (g.keep (below_regrown _ _ _)))))))
   refine wpQuiet_nil ?_;intro u j;have f:Below _ _ u:=zh j;clear j;have c6:=(f.cell (p:=⟨v,n*6+5,none⟩) M).trans q;have S:=(g.box.below f H).cell;clear O Q I z q;go_wp2;go_ret2;refine⟨?_,f⟩;rw[i.out.1,i.out.2];rfl
  ·have i:=hid (t.out (fun C=>by have:=C.2.2.2;simp at W;omega))
   have o:=hid (o.out h2);clear D t J;go_wp2_with fail;refine wp_region_quiet_below kr kr ?_;repeat(go_big_quiet_step ((first|(go_at_call 162;exact Calls.regrown_of (uU K A cap _ hk))|(go_at_call 186;exact Calls.regrown_of (o.out _ (g.keep (below_regrown _ _ _)))))))
   refine wpQuiet_nil ?_;intro u j;have f:Below _ _ u:=zh j;clear j;have c6:=(f.cell (p:=⟨v,n*6+5,none⟩) M).trans q;have S:=(g.box.below f H).cell;clear O Q I z q;go_wp2;go_ret2;refine⟨?_,f⟩;rw[i.out.1,i.out.2];rfl
  ·have i:=hid (J.out h2 (D.1 h1) (by simp at R;omega) (by simpa using W))
   have o:=hid (o.out h2);clear D t J;go_wp2_with fail;refine wp_region_quiet_below kr kr ?_;repeat(go_big_quiet_step ((first|(go_at_call 162;exact Calls.regrown_of (uU K A cap _ hk))|(go_at_call 186;exact Calls.regrown_of (o.out _ (g.keep (below_regrown _ _ _)))))))
   refine wpQuiet_nil ?_;intro u j;have f:Below _ _ u:=zh j;clear j;have S:=(g.box.below f H).cell;clear O Q I z q;go_wp2_with fail;refine(xM K A cap _ b5 oo).mono ?_;rintro e w3 ⟨rfl,d0⟩;clear S;have g3:=f.trans (d0.mono f.size);go_wp2;go_ret2;refine⟨?_,g3⟩;have e:ivn (k+2)= .int .i64 ((k:Int)+1+1):=by
    show Value.int .i64 ((k+2:Nat):Int)=_;rw[show((k+2:Nat):Int)=(k:Int)+1+1 by omega]
   rw[i.out.1,i.out.2,e];rfl
def JW (j:Nat):List Value:=[.int .i64 (-1),.int .i64 (-1),.int .i64 (-1),.int .u8 (j:Int),.int .u8 (j:Int),.int .i64 (j:Int)]
def ZV (m:Nat):List Value:=(List.range m).flatMap JW
theorem RJ (m:Nat):ZV (m+1)=ZV m++JW m:=by unfold ZV;rw[List.range_succ,List.flatMap_append];simp
theorem Q8 (cl:Int)(h:cl≤256):ZV cl.toNat=ndC (Tr.lits cl).nds (Tr.lits cl).nds.length:=by
 have c:(Tr.lits cl).nds.length=cl.toNat:=(by simp [Tr.lits]);have b:∀i,i<cl.toNat→(Tr.lits cl).nds[i]?.getD ⟨0,0,0,0⟩=⟨-1,UInt8.ofNat i,UInt8.ofNat i,i⟩:=fun i a=>by
  rw[List.getElem?_eq_getElem (by omega)];simp [Tr.lits]
 have hk:∀(p:Nat) m,m≤cl.toNat→yN (Tr.lits cl).nds (p:Int) m= -1:=fun p m=>by
  induction m with
  |zero=>intro _;rfl
  |succ m d=>
   intro f;rw[yN,b m (by omega),if_neg (by show ¬(-1:Int)=p;omega)];exact d oo
 unfold ZV ndC;rw[c];apply fB;intro i a;rw[List.mem_range] at a;have e:(UInt8.ofNat i).toNat=i:=(by rw[UInt8.toNat_ofNat'];omega);unfold JW ndV nxt;rw[hk i _ (Nat.le_refl _),b i a];simp only[e];rw[if_pos (by omega)]
def Ic (K:Kn)(w:World)(e:Ending)(w':World):Prop:=∃b A An Ap cap cn cp,e= .returned (.pointer (some ⟨b,0,none⟩))∧y5 w' w.heap.size b K A An Ap cap cn cp∧Below w.heap.size w w'
theorem aT (K:Kn)(A:Option Addr)(cap:Nat)(w:World)(hk:K.ok)(D:Sl w A K.ps.length cap 2 (psV K.ps)):
 Calls prog 160 #[knV K A cap] w (Ic K w):=by
 obtain⟨i,hi,a3,a4,a5⟩:=info_parts Wh;have L:=hk.st;have E:=hk.fine.cl;have d6:=hk.fine.len;have a6:=D.1;obtain⟨cl,F⟩:∃cl:Nat,pow2 K.l=cl:=⟨(pow2 K.l).toNat,by unfold Kn.cl at E;omega⟩;have M:2≤cl∧cl≤256:=(by unfold Kn.cl at E;omega);obtain⟨M,d7⟩:=M;have N:=hid F;have cC:Hid (∀w,Calls prog 159 #[.agg #[K.o,K.l,K.m]] w (rT w (.int .i64 (cl:Int)))):=fun w=>by
  have:=xq K.o K.l K.m w L;rw[F] at this;exact this
 clear F E;go_enter func160,ntmps160;go_upto_region 3 with(fail)
 have G:Bk ((w.alloc (.cells (knC K A cap) 94)).alloc (.cells #[K.o,K.l,K.m,.slice none 0 0,K.base,K.last,.slice none 0 0,.slice none 0 0] 180)) w.heap.size 94 (knC K A cap):=tBk;have H:Bk ((w.alloc (.cells (knC K A cap) 94)).alloc (.cells #[K.o,K.l,K.m,.slice none 0 0,K.base,K.last,.slice none 0 0,.slice none 0 0] 180)) (w.heap.size+1) 180 #[K.o,K.l,K.m,.slice none 0 0,K.base,K.last,.slice none 0 0,.slice none 0 0]:=tBk;have O:Below w.heap.size w ((w.alloc (.cells (knC K A cap) 94)).alloc (.cells #[K.o,K.l,K.m,.slice none 0 0,K.base,K.last,.slice none 0 0,.slice none 0 0] 180)):=zy;generalize(w.alloc (.cells (knC K A cap) 94)).alloc (.cells #[K.o,K.l,K.m,.slice none 0 0,K.base,K.last,.slice none 0 0,.slice none 0 0] 180)=w0 at*;have a8:=G.cell;have d9:=H.lt;go_wp2_with fail;refine(cC.out _).mono ?_;rintro e w1 ⟨rfl,d⟩;have e0:=d.size;have P:=G.below d oo;have Q:=H.below d oo;have R:=O.trans (d.mono oo);clear d G H O a8;go_wp2_with fail;go_loopw [17] (fun v wr=>∃(j:Nat) (An:Option Addr) (cn:Nat),v= .int .i64 (j:Int)∧j≤cl∧Bk wr w.heap.size 94 (knC K A cap)∧Bk wr (w.heap.size+1) 180 #[K.o,K.l,K.m,.slice none 0 0,K.base,K.last,.slice An j cn,.slice none 0 0]∧
  wr.ownsRow w.heap.size 195 6 (.slice An j cn) j (ZV j)∧Below w.heap.size w wr) (fun v _=>cl - (intOf v).toNat)
 case atStart=>exact⟨0,none,0,rfl,by omega,P,Q,⟨by simp [ZV],.inl ⟨rfl,rfl⟩⟩,R⟩
 case round=>
  obtain⟨j,An,cn,rfl,hj,s,a,b,I⟩:=hrel;clear P Q R;have S:=a.cell;have e2:=a.lt;by_cases t:j<cl
  ·have a9:(j:Int)<(cl:Int):=oo
   have a':j+1≤maxLen:=(by unfold maxLen;omega);have b0:(j+1)*40≤140737488355328:=oo;go_wp2_with(at_builtin;go_must(refine zT _ rfl _ _ 178 rfl (w.heap.size) 195 i _ 6 40 underlying178 hi a3 a4 a5 rfl (by omega) _ _ _ rfl (b.alloc _) _ 1 1 [.int .i64 (-1),.int .i64 (-1),.int .i64 (-1),.int .u8 (j:Int),.int .u8 (j:Int),.int .i64 (j:Int)] rfl (Sl.newAt wr #[.int .i64 (-1),.int .i64 (-1),.int .i64 (-1),.int .u8 (j:Int),.int .u8 (j:Int),(j:Int)] _ 1 6 (by first|rfl|simp) (by simp) (by omega)) (by simp [Value.oneCell']) a' b0 ?_ ?_));try(case refine_1=>first|omega|(simp<;>omega;done))
   intro A5 b2 w5 T u b3;have x:=Bk.grown (a.alloc _) u (own_ne b a (by decide));have b4:=Bk.grown (s.alloc _) u (own_ne b s (by decide));have g5:=yD I u oo (fun k hk=>(b.lt k hk).1);have e4:=x.cell;have e5:=x.free;clear S u b3 b a s I;go_wp2;go_roundw
   case rel=>
    refine⟨j+1,A5,b2,by go_num,oo,b4.far (p:=⟨w.heap.size+1,6,none⟩) (by show w.heap.size≠w.heap.size+1;omega) _,x.set 6 _,?_,g5.setCell (by show w.heap.size≤w.heap.size+1;omega) _⟩;rw[RJ];exact zL T (p:=⟨w.heap.size+1,6,none⟩) (own_ne T x (by decide)) _
   case measure=>simp [intOf];omega
  ·have a9:¬(j:Int)<(cl:Int):=oo
   have b6:j=cl:=oo;subst b6;have e6:=s.cell;have U:K.cl.toNat=j:=(by have:=N.out;unfold Kn.cl;omega);have e7:=a6;have HS:Hid (∀wr,Below w.heap.size w wr→Sl wr A K.ps.length cap 2 (psV K.ps)):=fun wr h=>D.below h;clear S D;have V:y5 wr w.heap.size (w.heap.size+1) { K with ps:=K.ps.take 0 } none An none 0 cn 0:=by
    have J:({ K with ps:=K.ps.take 0 } :Kn).tr=Tr.lits K.cl:=rfl;have W:(Tr.lits K.cl).nds.length=j:=(by rw[←U];simp [Tr.lits]);refine⟨by omega,?_,?_,?_,?_⟩
    ·unfold trC
     rw[J,W];exact a
    ·exact⟨by simp [psV],.inl ⟨rfl,rfl⟩⟩
    ·rw[J,←Q8 K.cl (by have:=N.out;unfold Kn.cl;omega),U,W]
     exact b
    ·rw[J]
     exact⟨by simp [Tr.lits],.inl ⟨rfl,rfl⟩⟩
   clear a b;go_wp2_with fail;go_loopw [39] (fun v X=>∃(q:Nat) (f n r:Option Addr) (y z B:Nat),v= .int .i64 (q:Int)∧q≤K.ps.length∧y5 X w.heap.size (w.heap.size+1) { K with ps:=K.ps.take q } f n r y z B∧Below w.heap.size w X) (fun v _=>K.ps.length - (intOf v).toNat)
   case atStart=>exact⟨0,none,An,none,0,cn,0,rfl,oo,V,I⟩
   case round=>
    obtain⟨q,f,n,r,y,z,B,rfl,hq,c,C⟩:=hrel;clear V;by_cases t:q<K.ps.length
    ·have b8:(q:Int)<K.ps.length:=oo
     obtain⟨g,e9,hA,hg,Y,Z⟩:=dX (HS.out wr C) q t;obtain⟨b',c0,c1⟩:=hk.pairs q t;have c2:(K.ps.take q).length=q:=(by rw[List.length_take];omega);have a0:Hid (({ ({ K with ps:=K.ps.take q } :Kn) with ps:=({ K with ps:=K.ps.take q } :Kn).ps++[(K.ps[q].1,K.ps[q].2)] } :Kn)= { K with ps:=K.ps.take (q+1) }):=by
      show _=_;have:K.ps.take (q+1)=K.ps.take q++[K.ps[q]]:=List.take_succ_eq_append_getElem t;rw[this]
     have c3:({ K with ps:=K.ps.take q } :Kn).fine:=⟨L,jq hk.pairs _,by show(K.ps.take q).length≤1020;omega⟩;have cL:Hid (∀w',y5 w' w.heap.size (w.heap.size+1) { K with ps:=K.ps.take q } f n r y z B→Calls prog 183 #[.pointer (some ⟨w.heap.size+1,0,none⟩),.agg #[.int .i64 K.ps[q].1,.int .i64 K.ps[q].2]] w' (kS w.heap.size (w.heap.size+1) { K with ps:=K.ps.take (q+1) } (ru (w.heap.size+1) f n r) w')):=fun w' h=>by
      have:=Wy K.ps[q].1 K.ps[q].2 w' h c3 (by show(K.ps.take q).length<1020;omega) (by show codeOk K.cl (K.ps.take q).length _;rw[c2];exact b') c0 c1;rw[a0.out] at this;exact this
     generalize K.ps[q]=pr at*;obtain⟨p1,p2⟩:=pr;simp only at Y Z cL;subst hA;clear a0;go_wp2_with fail;refine(cL.out _ (c.alloc _)).mono ?_;rintro e w6 ⟨rfl,⟨A6,c8,c9,c',d0,d1,d2,f1⟩,g6⟩;have d4:=(C.alloc (by have:=c.box.lt;omega) (.cells #[p1,p2] 173)).trans (g6.below (by have:=c.box.lt;simp;omega));clear c C Y Z;go_wp2;go_roundw
     case rel=>exact⟨q+1,A6,c8,c9,c',d0,d1,by go_num,oo,d2,d4⟩
     case measure=>simp [intOf];omega
    ·have b8:¬(q:Int)<K.ps.length:=oo
     have d5:q=K.ps.length:=oo;rw[d5,List.take_length] at c;go_wp2;go_ret;exact⟨w.heap.size+1,f,n,r,y,z,B,rfl,c,C⟩
theorem nN (K:Kn)(A:Option Addr)(cap:Nat)(w:World)(Q:K.ps.length≤100000)(r:Sl w A K.ps.length cap 2 (psV K.ps)):
 Calls prog 164 #[knV K A cap] w (og K w):=by
 obtain⟨i,s,t,u,x⟩:=info_parts nY;have y:0+K.ps.length≤maxLen:=(by unfold maxLen;omega);have z:(0+K.ps.length)*16≤140737488355328:=oo;go_enter func164,ntmps164;have e:Bk ((w.alloc (.cells (knC K A cap) 94)).alloc (.cells knZ 94)) w.heap.size 94 (knC K A cap):=tBk;have h:Bk ((w.alloc (.cells (knC K A cap) 94)).alloc (.cells knZ 94)) (w.heap.size+1) 94 knZ:=tBk;have j:Below w.heap.size w ((w.alloc (.cells (knC K A cap) 94)).alloc (.cells knZ 94)):=zy;go_upto_region 1 with(fail)
 generalize(w.alloc (.cells (knC K A cap) 94)).alloc (.cells knZ 94)=R at*;have B:=e.cell;have C:=e.free;have S:=h.lt;have m:=r.below j;go_wp2_with(at_builtin;go_must(refine zT _ rfl _ _ 92 rfl (w.heap.size+2) 173 i _ 2 16 underlying92 s t u x rfl (by omega) (.slice none 0 0) 0 [] rfl ⟨by simp,.inl ⟨rfl,rfl⟩⟩ A K.ps.length cap (psV K.ps) rfl m (VE _) y z ?_ ?_));try(case refine_1=>omega)
 intro c d D n f E;have F:∀k:Nat,(Value.slice none 0 0).ownBlock=some k→k≠w.heap.size:=fun k hk=>(by cases hk);have G:∀k:Nat,(Value.slice none 0 0).ownBlock=some k→k≠w.heap.size+1:=fun k hk=>(by cases hk);have g:=e.grown f F;have o:=h.grown f G;have q:=j.grown f oo (fun k hk=>by cases hk);have H:=g.cell;have I:=g.free;clear B C f E e h j m;have J:=g.set 3 (.slice c K.ps.length d);have l:=o.far (p:=⟨w.heap.size,3,none⟩) (by show w.heap.size+1≠w.heap.size;omega) (.slice c K.ps.length d);have L:=ownsRow_setCell_below n (a:=⟨w.heap.size,3,none⟩) (by show w.heap.size<w.heap.size+2;omega) (.slice c K.ps.length d);have M:=q.setCell (p:=⟨w.heap.size,3,none⟩) (Nat.le_refl _) (.slice c K.ps.length d);go_upto_region 2 with(fail)
 generalize D.setCell ⟨w.heap.size,3,none⟩ (.slice c K.ps.length d)=T at*;clear H I g o q n;have U:=J.cell;have V:=l.free;have W:=l.cell;go_wp2;have N:=(vw l K c d).cell;have O:=yC M (b:=w.heap.size+1) oo K c d;have P:=zI (B':=w.heap.size) (yI L (b:=w.heap.size+1) oo K c d) oo;try simp only[Exit.inBlock,Exit.then]
 refine bodyPost_ret (v:=knV K c d) (by simp [results,results164,go_sem,N]) rfl ?_;exact⟨c,d,rfl,P,O⟩
def JK (K:Kn)(w:World)(e:Ending)(w':World):Prop:=∃A cap x,e= .returned (.tuple #[knV K A cap,(x:Int)])∧w'.ownsRow w.heap.size 173 2 (.slice A K.ps.length cap) K.ps.length (psV K.ps)∧Below w.heap.size w w'
theorem Q7 (K:Kn)(A:Option Addr)(cap:Nat)(d:Bs)(w:World)(hk:K.ok)(R:Sl w A K.ps.length cap 2 (psV K.ps))(hl:d.length≤100000)(hf:d.all (uq K.l)=true):
 Calls prog 131 #[knV K A cap,sv d] w (JK (K.learn d) w):=by
 have b0:=K.xy hk;have b1:Hid (K.learn d=(wO d.length K.cleared (d.drop 0)).rest):=rfl;have d6:=hk.st;have cN:=fun w R=>aT K A cap w hk R;have CN:=hid cN;have i3:Hid (K.cl=pow2 K.l):=rfl;have CF:Hid (∀B b Z An Ap c2 cn cp w',y5 w' B b K Z An Ap c2 cn cp→Calls prog 161 #[.pointer (some ⟨b,0,none⟩),.int .i64 (pow2 K.l)] w' (kS B b K.cleared (ru b Z An Ap) w')):=fun B b Z An Ap c2 cn cp w' h=>lD w' h hk;have d9:=R;clear cN d9;have b4:K.cleared.l=K.l:=rfl;generalize b5:K.learn d=G at*;have i4:=hid b5;clear b5 hk;generalize K.cleared=K0 at*;have e0:=hid b4;clear b4;go_enter func131,ntmps131;have a0:Bk ((w.alloc (.cells (knC K A cap) 94)).alloc (.cells knZ 94)) w.heap.size 94 (knC K A cap):=tBk;have a1:Bk ((w.alloc (.cells (knC K A cap) 94)).alloc (.cells knZ 94)) (w.heap.size+1) 94 knZ:=tBk;have g0:Below w.heap.size w ((w.alloc (.cells (knC K A cap) 94)).alloc (.cells knZ 94)):=zy;go_upto_region 1 with(fail)
 generalize(w.alloc (.cells (knC K A cap) 94)).alloc (.cells knZ 94)=S at*;have e1:=a0.cell;have i5:=a1.lt;have b6:=R.below g0;go_wp2_with fail;refine(CN.out _ b6).mono ?_;rintro e w1 ⟨b,A1,i8,i9,i',j0,j1,rfl,b7,u⟩;have j2:=u.size;have a3:=a0.below u oo;have b8:=a1.below u oo;have g1:=g0.trans (u.mono oo);clear u a0 a1 g0 e1 b6;have e2:=a3.cell;go_wp2_with fail;refine(xq _ _ _ _ d6).mono ?_;rintro e w2 ⟨rfl,r⟩;have a4:=b7.keep r;have b':=a3.below r oo;have c0:=b8.below r oo;have g2:=g1.trans (r.mono oo);have j4:=r.size;clear r a3 b8 g1 e2 b7;have j5:=a4.bB;go_wp2_with fail;refine(CF.out _ _ _ _ _ _ _ _ _ a4).mono ?_;rintro e w3 ⟨rfl,⟨A3,e4,e5,e6,e7,e8,c3,e9⟩,g3⟩;have y:=g3.below oo;have j7:=y.size;have e':=b'.below y oo;have c5:=c0.below y oo;have g4:=g2.trans (y.mono oo);clear y b' c0 g2 a4 g3 e9;go_wp2_with fail;go_loopw [7,8] (fun f0 v wr=>∃(f n:Nat) (x:Int) (a:Kn) (o z C:Option Addr) (s T U:Nat),f0= .int .i64 x∧v= .int .i64 (f:Int)∧f≤d.length∧d.length≤f+n∧a.ok∧Hid (a.l=K.l)∧Hid (G=(wO n a (d.drop f)).rest)∧
  y5 wr S.heap.size b a o z C s T U∧Bk wr (w.heap.size+1) 94 knZ∧Below w.heap.size w wr) (fun _ v _=>d.length - (intOf v).toNat)
 case atStart=>exact⟨0,d.length,0,K0,A3,e4,e5,e6,e7,e8,rfl,rfl,oo,oo,b0,e0.out,b1,c3,c5,g4⟩
 case round=>
  obtain⟨f,n,x,a,o,z,C,s,T,U,rfl,rfl,j8,j9,q,HL,V,t,D,W⟩:=hrel;clear c3 e' c5 g4 b1 b0;have hX:=t.box.cell;have j':=t.box.lt;have k0:=q.st;have c9:=D.lt;by_cases k1:f<d.length
  ·have f1:(f:Int)<d.length:=oo
   have E:d.drop f≠[]:=fun h=>(by have:=congrArg List.length h;simp at this;omega);have a5:(d.drop f).all (uq a.l)=true:=(by rw[HL.out];exact qB _ _ _ hf);have a6:(d.drop f).length=d.length - f:=(by simp);obtain⟨m,rfl⟩:∃m,n=m+1:=⟨n - 1,oo⟩;have F:=a.rC q E a5;obtain⟨F,_,k2⟩:=F;have f2:=(a.yQ (d.drop f)).2;have k3:=a.xE E;have f3:=a.uy q F;have HN:Hid (G=(wO m (a.after (a.find (a.longest (d.drop f)))) (d.drop (f+(a.longest (d.drop f)).length))).rest):=by
    show _=_;rw[V.out,Yn m a _ E,List.drop_drop]
   have f5:Hid ((a.after (a.find (a.longest (d.drop f)))).l=K.l):=HL.out;have cG:=hid (fun w=>uU a o s w q);have cL:Hid (∀w',y5 w' S.heap.size b a o z C s T U→Calls prog 163 #[.pointer (some ⟨b,0,none⟩),sv (d.drop f)] w' (rT w' (.tuple #[.int .i64 (a.find (a.longest (d.drop f))),ivn (a.longest (d.drop f)).length]))):=fun w' h=>jl _ w' h q E oo a5;have cF:Hid (∀w',y5 w' S.heap.size b a o z C s T U→Calls prog 161 #[.pointer (some ⟨b,0,none⟩),.int .i64 (a.find (a.longest (d.drop f)))] w' (kS S.heap.size b (a.after (a.find (a.longest (d.drop f)))) (ru b o z C) w')):=fun w' h=>kP _ w' h q F;clear V F E a5;generalize a.after (a.find (a.longest (d.drop f)))=K1 at*;generalize a.find (a.longest (d.drop f))=c at*;generalize(a.longest (d.drop f)).length=L at*;have k4:=hid a6;rw[a6] at f2;clear a6;go_wp2_with fail;refine(cG.out _).mono ?_;rintro e g ⟨rfl,i⟩;have a7:=t.keep i;have H:=D.below i c9;have I:=W.trans (i.mono oo);have f':=i.size;clear hX i t D W cG
   cases hgr:a.gr
   all_goals
    go_wp2_with fail;refine(cL.out _ a7).mono ?_;rintro e w6 ⟨rfl,J⟩;have d0:=a7.keep J;have M:=H.below J oo;have N:=I.trans (J.mono oo);have k6:=J.size;clear J a7 H I hgr;go_wp2_with fail;refine(cF.out _ d0).mono ?_;rintro e w7 ⟨rfl,⟨A7,g6,g7,g8,g9,g',h0,h1⟩,X⟩;have a8:=X.below oo;have O:=M.below a8 oo;have Y:=N.trans (a8.mono oo);clear a8 d0 M N X h1;go_wp2;go_roundw
    case rel=>exact⟨f+L,m,_,K1,A7,g6,g7,g8,g9,g',rfl,by go_num,oo,oo,f3,f5,HN,h0,O,Y⟩
    case measure=>simp [intOf];omega
  ·have f1:¬(f:Int)<d.length:=oo
   have h2:f=d.length:=oo;have HE:Hid (G=a.rest):=by
    show _=_;rw[V.out,h2,List.drop_length,aW]
   clear V;have h3:a.ps.length≤100000:=(by have:=q.fine.len;omega);go_wp2_with fail;refine(nN a o s _ h3 (Sl.own t.prs)).mono ?_;rintro e g ⟨j,k,rfl,o5,i⟩;have f':=i.size;have H:=(D.below i c9).alloc (.cells (knC a j k) 94);have P:=Bk.new g (knC a j k) 94;have o6:=o5.alloc (.cells (knC a j k) 94);have I:=(W.trans (i.mono oo)).alloc oo (.cells (knC a j k) 94);have k8:g.heap.size≠w.heap.size+1:=oo;clear hX t D W i o5;go_upto_region 12 with(fail)
   generalize g.alloc (.cells (knC a j k) 94)=h4 at*;have h5:=P.cell;have h6:=P.free;have Q:=P.set 4 (.int .i64 (a.ps.length:Int));have M:=H.far (p:=⟨g.heap.size,4,none⟩) (by show w.heap.size+1≠g.heap.size;omega) (.int .i64 (a.ps.length:Int));have o7:=zL o6 (p:=⟨g.heap.size,4,none⟩) (own_ne o6 P (by decide)) (.int .i64 (a.ps.length:Int));have N:=I.setCell (p:=⟨g.heap.size,4,none⟩) (by show w.heap.size≤g.heap.size;omega) (.int .i64 (a.ps.length:Int));go_upto_region 13 with(fail)
   generalize h4.setCell ⟨g.heap.size,4,none⟩ (.int .i64 (a.ps.length:Int))=W2 at*;clear h5 h6 P H o6 I;have h8:=Q.cell;have h9:=Q.free;have h':=Q.set 5 (.int .i64 (-1));have O:=M.far (p:=⟨g.heap.size,5,none⟩) (by show w.heap.size+1≠g.heap.size;omega) (.int .i64 (-1));have o8:=zL o7 (p:=⟨g.heap.size,5,none⟩) (own_ne o7 Q (by decide)) (.int .i64 (-1));have X:=N.setCell (p:=⟨g.heap.size,5,none⟩) (by show w.heap.size≤g.heap.size;omega) (.int .i64 (-1));go_upto_region 14 with(fail)
   generalize W2.setCell ⟨g.heap.size,5,none⟩ (.int .i64 (-1))=W3 at*;clear h8 h9 Q M o7 N;have k':=h'.cell;have l0:=O.free;have l1:=O.cell;go_wp2;have hQ:=(vw O a.rest j k).cell;have Y:=yC X (b:=w.heap.size+1) oo a.rest j k;have o9:=zI (B':=w.heap.size) (yI o8 (b:=w.heap.size+1) oo a.rest j k) oo;simp only[Kn.rest] at hQ Y o9;have hG:=HE.out;clear HE;subst hG;try simp only[Exit.inBlock,Exit.then]
   refine bodyPost_ret (v:=.tuple #[knV a.rest j k,x]) (by simp [results,results131,go_sem,hQ,Kn.rest]) rfl ?_;exact⟨j,k,x,rfl,o9,Y⟩
theorem Za (o l m c:Int)(n:Nat)(w:World)(g:vk o l m)(A:n≤100000):
 Calls prog 158 #[.agg #[o,l,m],(n:Int),c] w (rT w (.bool (decide (codeOk (pow2 l) n c)))):=by
 obtain⟨h0,h1,h2,B⟩:=g.lm;have t:=xu l h0 h1;obtain⟨C,E⟩:=t;have d:Hid (∀b:Bool,(b=true↔codeOk (pow2 l) n c)→b=decide (codeOk (pow2 l) n c)):=fun b h=>by
  rw[Bool.eq_iff_iff,h,decide_eq_true_eq]
 generalize u:decide (codeOk (pow2 l) n c)=D at*;clear u;by_cases v:0≤c
 ·go_enter func158,ntmps158
  go_wp2_with fail;refine(wE _ _ _ _ g).mono ?_;rintro e f ⟨rfl,a⟩;have p:=a.size;simp only[World.size_alloc] at p;have q:=zU (yF _ _ _) a (by simp);have r:w.heap.size<f.heap.size:=oo;have i:Below w.heap.size w f:=((Below.refl _ _).alloc (Nat.le_refl _) _).trans (a.mono (by simp));clear a;go_wp2_with fail;refine(xq _ _ _ _ g).mono ?_;rintro e s ⟨rfl,j⟩;have F:=j.size;have G:=zU q j r;have H:w.heap.size<s.heap.size:=oo;have k:Below w.heap.size w s:=i.trans (j.mono oo);clear j q r i;by_cases I:c<pow2 l
  ·go_wp2
   go_ret;exact⟨zS (d.out _ (by simp [codeOk];omega)),k⟩
  ·by_cases x:pow2 l+1<c
   ·by_cases y:c≤pow2 l+1+n
    ·go_wp2
     go_ret;exact⟨zS (d.out _ (by simp [codeOk];omega)),k⟩
    ·have J:decide (c≤pow2 l+1+n)=false:=decide_eq_false y
     go_wp2;go_ret;exact⟨zS (d.out _ (by simp [codeOk];omega)),k⟩
   ·have z:decide (pow2 l+1<c)=false:=decide_eq_false x
    go_wp2;go_ret;exact⟨zS (d.out _ (by simp [codeOk];omega)),k⟩
 ·have K:decide (0≤c)=false:=decide_eq_false v
  go_enter func158,ntmps158;go_wp2_with fail;refine(wE _ _ _ _ g).mono ?_;rintro e f ⟨rfl,a⟩;have p:=a.size;simp only[World.size_alloc] at p;have q:=zU (yF _ _ _) a (by simp);have r:w.heap.size<f.heap.size:=oo;have i:Below w.heap.size w f:=((Below.refl _ _).alloc (Nat.le_refl _) _).trans (a.mono (by simp));clear a;have z:decide (pow2 l+1<c)=false:=decide_eq_false oo;go_wp2;go_ret;exact⟨zS (d.out _ (by simp [codeOk];omega)),i⟩
theorem vK (K:Kn)(A:Option Addr)(cap:Nat)(w:World)(hk:K.ok)(s:Sl w A K.ps.length cap 2 (psV K.ps)):
 Calls prog 130 #[knV K A cap] w (rT w (.bool true)):=by
 have d:=hk.st;have hb:=hk.bd;have R:=hk.len;have b2:=hk.base0;have b3:=hk.base1;unfold Kn.cl Kn.top at R;have S:K.ps.length≤100000:=oo;have T:=hk.lm;obtain⟨U,V,W,X⟩:=T;have b4:=xu K.l U V;have b5:=xu K.m W X;have J:Hid (∀w,Calls prog 59 #[.agg #[K.o,K.l,K.m]] w (rT w (.bool true))):=fun w=>(xX _ _ _ w).mono fun e w' ⟨h1,h2⟩=>⟨by rw[h1,decide_eq_true hk.st],h2⟩;have Y:Hid (∀(i:Nat) (f:i<K.ps.length) w,Calls prog 158 #[.agg #[K.o,K.l,K.m],(i:Int),.int .i64 K.ps[i].1] w (rT w (.bool true))):=fun i f w=>(Za _ _ _ _ i w d (by omega)).mono fun e w' ⟨h1,h2⟩=>⟨by rw[h1,decide_eq_true (show codeOk (pow2 K.l) i K.ps[i].1 from(hk.pairs i f).1)],h2⟩;have Z:Hid (∀(i:Nat) (f:i<K.ps.length),0≤K.ps[i].2∧K.ps[i].2<K.cl):=fun i f=>(hk.pairs i f).2;have t:=hk.last;have b6:=s.1;have b7:=s.2.1;have HS:Hid (∀wr,Below w.heap.size w wr→Sl wr A K.ps.length cap 2 (psV K.ps)):=fun wr h=>s.below h;clear s;go_enter func130,ntmps130;go_wp2_with fail;have u:Bk ((w.alloc (.cells (knC K A cap) 94)).alloc (.cells #[K.o,K.l,K.m] 24)) w.heap.size 94 (knC K A cap):=tBk;have j:Bk ((w.alloc (.cells (knC K A cap) 94)).alloc (.cells #[K.o,K.l,K.m] 24)) (w.heap.size+1) 24 #[K.o,K.l,K.m]:=tBk;have L:Below w.heap.size w ((w.alloc (.cells (knC K A cap) 94)).alloc (.cells #[K.o,K.l,K.m] 24)):=zy;generalize(w.alloc (.cells (knC K A cap) 94)).alloc (.cells #[K.o,K.l,K.m] 24)=w0 at*;have B:=zM u.cell u.lt;have C:=zM j.cell j.lt;have b9:=j.lt;have b':decide (pow2 K.m - 1 - (pow2 K.l+1)<(K.ps.length:Int))=false:=(by simp;omega);refine wp_region_quiet_below kr kr ?_;repeat(go_big_quiet_step ((first|(go_at_call 59;exact Calls.regrown_of (J.out _))|(go_at_call 156;exact Calls.regrown_of (rF _ _ _ _ d))|(go_at_call 157;exact Calls.regrown_of (wE _ _ _ _ d)))))
 refine wpQuiet_nil ?_;intro w2 n;have p:Below _ _ w2:=zh n;clear n;have c0:=p.size;have D:=u.below p oo;have M:=j.below p oo;have N:=L.trans (p.mono oo);clear B C u j L p J;have a2:=D.cell;go_wp2;go_loopw [25] (fun i wr=>∃k:Nat,i= .int .i64 (k:Int)∧k≤K.ps.length∧Bk wr w.heap.size 94 (knC K A cap)∧Bk wr (w.heap.size+1) 24 #[K.o,K.l,K.m]∧Below w.heap.size w wr) (fun i _=>K.ps.length - (intOf i).toNat)
 case atStart=>exact⟨0,rfl,oo,D,M,N⟩
 case round=>
  obtain⟨k,rfl,c1,E,v,q⟩:=hrel;clear D M N a2;have c2:=v.lt;have hX:=E.cell;have hY:=v.cell;by_cases F:k<K.ps.length
  ·have a5:(k:Int)<K.ps.length:=oo
   obtain⟨g,c3,rfl,hg,h1,h2⟩:=dX (HS.out wr q) k F;have G:=Y.out k F;have H:=Z.out k F;unfold Kn.cl at H;generalize K.ps[k]=pr at*;obtain⟨c,a⟩:=pr;simp only at h1 h2 G H;obtain⟨c5,c6⟩:=H;have c7:decide (a<0)=false:=(by simp;omega);have c8:decide (pow2 K.l≤a)=false:=(by simp;omega);have x:=E.alloc (.cells #[c,a] 173);have y:=v.alloc (.cells #[c,a] 173);have I:=Bk.new wr #[c,a] 173;have z:=q.alloc oo (.cells #[c,a] 173);have c9:wr.heap.size<(wr.alloc (.cells #[c,a] 173)).heap.size:=(by simp);go_upto_region 7 with(fail)
   generalize wr.alloc (.cells #[c,a] 173)=c' at*;clear hX hY E v q h1 h2;have B:=zM x.cell x.lt;have C:=zM y.cell y.lt;have a7:=zM I.cell I.lt;refine wp_region_quiet_below kr kr ?_;repeat(go_big_quiet_step ((first|(go_at_call 158;exact Calls.regrown_of (G _))|(go_at_call 159;exact Calls.regrown_of (xq _ _ _ _ d)))))
   refine wpQuiet_nil ?_;intro O n;have b:Below _ _ O:=zh n;clear n;have d0:=b.size;have a8:=x.below b oo;have a9:=y.below b oo;have g5:=z.trans (b.mono oo);clear B C a7 x y z b G I;go_wp2;go_roundw
   case rel=>exact⟨k+1,by go_num,oo,a8,a9,g5⟩
   case measure=>simp [intOf];omega
  ·have a5:¬(k:Int)<K.ps.length:=oo
   have d1:decide (K.base<0)=false:=(by simp;omega);have d2:decide ((K.ps.length:Int)<K.base)=false:=(by simp;omega);by_cases r:K.last= -1
   ·have b0:(K.last==(-1:Int))=true:=by simpa using r
    have P:K.base=K.ps.length:=by
     rcases t with h|h
     ·exact h.2
     ·unfold codeOk at h;omega
    have d3:(K.base==(K.ps.length:Int))=true:=(by simpa using P);clear t r P;go_wp2;go_ret;exact⟨rfl,q⟩
   ·have b0:(K.last==(-1:Int))=false:=by simpa using r
    have Q:codeOk (pow2 K.l) K.ps.length K.last:=t.elim (fun h=>absurd h.1 r) id;have hd:decide (codeOk (pow2 K.l) K.ps.length K.last)=true:=decide_eq_true Q;clear t r Q;go_wp2_with fail;refine(Za _ _ _ _ _ _ d S).mono ?_;rintro e O ⟨rfl,b⟩;have z:=q.trans (b.mono oo);go_wp2;go_ret;exact⟨rfl,z⟩
theorem Xe (o l m:Int)(w:World)(j:vk o l m):
 Calls prog 91 #[.agg #[(o:Int),l,m]] w (rT w (.tuple #[knV (uC o l m) none 0,.bool true])):=by
 have p:decide (vk o l m)=true:=decide_eq_true j;go_enter func91,ntmps91;go_wp2_with fail;refine(xX _ _ _ _).mono ?_;rintro e q ⟨rfl,a⟩;have f:Bk ((w.alloc (.cells #[(o:Int),l,m] 24)).alloc (.cells knZ 94)) w.heap.size 24 #[(o:Int),l,m]:=tBk;have c:Bk ((w.alloc (.cells #[(o:Int),l,m] 24)).alloc (.cells knZ 94)) (w.heap.size+1) 94 knZ:=tBk;have g:Below w.heap.size w ((w.alloc (.cells #[(o:Int),l,m] 24)).alloc (.cells knZ 94)):=zy;generalize(w.alloc (.cells #[(o:Int),l,m] 24)).alloc (.cells knZ 94)=r at*;have s:=c.lt;have k:=f.below a oo;have d:=c.below a oo;have n:=g.trans (a.mono oo);have t:=k.cell;have u:=d.free;have x:=d.cell;clear f c g a;go_wp2;have h:=(vw d (uC o l m) none 0).cell;have i:=yC n (b:=w.heap.size+1) oo (uC o l m) none 0;simp only[uC,List.length_nil] at h i;exact bodyPost_ret (v:=.tuple #[knV (uC o l m) none 0,.bool true]) (by simp [results,results91,go_sem,h,uC]) rfl ⟨rfl,i⟩
abbrev Zu :Value:=.agg #[.int .i64 0,.int .i64 0,.int .i64 0,.slice none 0 0,.int .i64 0,.int .i64 0]
theorem NT (o l m:Int)(w:World)(i:¬vk o l m):
 Calls prog 91 #[.agg #[o,l,m]] w (rT w (.tuple #[Zu,.bool false])):=by
 have k:decide (vk o l m)=false:=decide_eq_false i;go_enter func91,ntmps91;go_wp2_with fail;refine(xX _ _ _ _).mono ?_;rintro e n ⟨rfl,a⟩;have c:Bk ((w.alloc (.cells #[o,l,m] 24)).alloc (.cells knZ 94)) (w.heap.size+1) 94 knZ:=tBk;have f:Below w.heap.size w ((w.alloc (.cells #[o,l,m] 24)).alloc (.cells knZ 94)):=zy;generalize(w.alloc (.cells #[o,l,m] 24)).alloc (.cells knZ 94)=p at*;have q:=c.lt;have d:=c.below a oo;have j:=f.trans (a.mono oo);have r:=d.free;have s:=d.cell;clear c f a;go_wp2;have g:=(vw d ⟨0,0,0,[],0,0⟩ none 0).cell;have h:=yC j (b:=w.heap.size+1) oo ⟨0,0,0,[],0,0⟩ none 0;simp only[List.length_nil] at g h;exact bodyPost_ret (v:=.tuple #[Zu,.bool false]) (by simp [results,results91,go_sem,g]) rfl ⟨rfl,h⟩
theorem Zm (K:Kn)(A:Option Addr)(cap:Nat)(d:Bs)(w:World)(hk:K.ok)(n:Sl w A K.ps.length cap 2 (psV K.ps))(j:fits K.o K.l K.m d):
 Calls prog 92 #[knV K A cap,d] w (l7 (K.learn d) w):=by
 have O:decide (fits K.o K.l K.m d)=true:=decide_eq_true j;have P:d.length≤2000:=j.2.1;have F:Hid (∀wr,Below w.heap.size w wr→Calls prog 130 #[knV K A cap] wr (rT wr (.bool true))):=fun wr h=>vK K A cap wr hk (n.below h);have G:Hid (∀wr,Below w.heap.size w wr→Calls prog 131 #[knV K A cap,d] wr (JK (K.learn d) wr)):=fun wr h=>Q7 K A cap d wr hk (n.below h) oo j.2.2;clear n j;generalize K.learn d=f at*;go_enter func92,ntmps92;go_wp2_with fail;have x:Bk ((w.alloc (.cells (knC K A cap) 94)).alloc (.cells knZ 94)) w.heap.size 94 (knC K A cap):=tBk;have p:Bk ((w.alloc (.cells (knC K A cap) 94)).alloc (.cells knZ 94)) (w.heap.size+1) 94 knZ:=tBk;have q:Below w.heap.size w ((w.alloc (.cells (knC K A cap) 94)).alloc (.cells knZ 94)):=zy;generalize(w.alloc (.cells (knC K A cap) 94)).alloc (.cells knZ 94)=Q at*;refine(F.out _ q).mono ?_;rintro e R ⟨rfl,g⟩;have S:=p.lt;have T:=g.size;have r:=x.below g oo;have y:=p.below g oo;have z:=q.trans (g.mono oo);have s:=r.cell;clear x p q g;go_wp2_with fail;refine(uT _ _ _ _ _ oo).mono ?_;rintro e U ⟨rfl,i⟩;have V:=i.size;have B:=r.below i oo;have C:=y.below i oo;have t:=z.trans (i.mono oo);clear s;have s:=B.cell;clear r y z i;go_wp2_with fail;refine(G.out _ t).mono ?_;rintro e D ⟨a,c,X,rfl,E,k⟩;have Y:=k.size;have u:=(C.below k oo).alloc (.cells (knC f a c) 94);have H:=Bk.new D (knC f a c) 94;have I:=E.alloc (.cells (knC f a c) 94);have J:=(t.trans (k.mono oo)).alloc oo (.cells (knC f a c) 94);clear B C t k s E;go_upto_region 4 with(fail)
 generalize D.alloc (.cells (knC f a c) 94)=W at*;have Z:=H.cell;have hF:=u.free;have hY:=u.cell;go_wp2;have L:=(vw u f a c).cell;have M:=yC J (b:=w.heap.size+1) oo f a c;have N:=zI (B':=w.heap.size) (yI I (b:=w.heap.size+1) oo f a c) oo;exact bodyPost_ret (v:=.tuple #[knV f a c,.bool true]) (by simp [results,results92,go_sem,L]) rfl ⟨a,c,rfl,N,M⟩
theorem Xc (K:Kn)(A:Option Addr)(cap:Nat)(d:Bs)(w:World)(hk:K.ok)(j:Sl w A K.ps.length cap 2 (psV K.ps))(k:¬fits K.o K.l K.m d)(u:d.length≤9223372036854775807):
 Calls prog 92 #[knV K A cap,d] w (rT w (.tuple #[Zu,.bool false])):=by
 have B:decide (fits K.o K.l K.m d)=false:=decide_eq_false k;have x:Hid (∀wr,Below w.heap.size w wr→Calls prog 130 #[knV K A cap] wr (rT wr (.bool true))):=fun wr h=>vK K A cap wr hk (j.below h);clear j k;go_enter func92,ntmps92;go_wp2_with fail;have n:Bk ((w.alloc (.cells (knC K A cap) 94)).alloc (.cells knZ 94)) w.heap.size 94 (knC K A cap):=tBk;have f:Bk ((w.alloc (.cells (knC K A cap) 94)).alloc (.cells knZ 94)) (w.heap.size+1) 94 knZ:=tBk;have g:Below w.heap.size w ((w.alloc (.cells (knC K A cap) 94)).alloc (.cells knZ 94)):=zy;generalize(w.alloc (.cells (knC K A cap) 94)).alloc (.cells knZ 94)=C at*;refine(x.out _ g).mono ?_;rintro e D ⟨rfl,a⟩;have E:=f.lt;have F:=a.size;have p:=n.below a oo;have q:=f.below a oo;have r:=g.trans (a.mono oo);have y:=p.cell;clear n f g a;go_wp2_with fail;refine(uT _ _ _ _ _ u).mono ?_;rintro e G ⟨rfl,c⟩;have H:=c.size;have i:=q.below c oo;have z:=r.trans (c.mono oo);have I:=i.free;have J:=i.cell;clear y p q r c;go_wp2;have s:=(vw i ⟨0,0,0,[],0,0⟩ none 0).cell;have t:=yC z (b:=w.heap.size+1) oo ⟨0,0,0,[],0,0⟩ none 0;simp only[List.length_nil] at s t;exact bodyPost_ret (v:=.tuple #[Zu,.bool false]) (by simp [results,results92,go_sem,s]) rfl ⟨rfl,t⟩
theorem sW (o l m:Int)(d:Bs)(w:World)(f:fits o l m d):
 Calls prog 61 #[.agg #[(o:Int),l,m],d] w (l7 (zA o l m d) w):=by
 have t:Hid (∀w,Calls prog 91 #[.agg #[(o:Int),l,m]] w (rT w (.tuple #[.agg #[(o:Int),l,m,.slice none 0 0,.int .i64 0,.int .i64 (-1)],.bool true]))):=fun w=>Xe o l m w f.1;have u:Hid (∀w,Calls prog 92 #[.agg #[(o:Int),l,m,.slice none 0 0,.int .i64 0,.int .i64 (-1)],d] w (l7 (zA o l m d) w)):=fun w=>Zm (uC o l m) none 0 d w (jM f.1) (Sl.nil _ _) f;clear f;generalize zA o l m d=g at*;go_enter func61,ntmps61;go_wp2_with fail;have x:Bk ((w.alloc (.cells #[(o:Int),l,m] 24)).alloc (.cells knZ 94)) w.heap.size 24 #[(o:Int),l,m]:=tBk;have j:Bk ((w.alloc (.cells #[(o:Int),l,m] 24)).alloc (.cells knZ 94)) (w.heap.size+1) 94 knZ:=tBk;have p:Below w.heap.size w ((w.alloc (.cells #[(o:Int),l,m] 24)).alloc (.cells knZ 94)):=zy;generalize(w.alloc (.cells #[(o:Int),l,m] 24)).alloc (.cells knZ 94)=G at*;refine(t.out _).mono ?_;rintro e y ⟨rfl,h⟩;have H:=j.lt;have I:=h.size;have q:=(j.below h oo).alloc (.cells #[(o:Int),l,m,.slice none 0 0,.int .i64 0,.int .i64 (-1)] 94);have k:=Bk.new y #[(o:Int),l,m,.slice none 0 0,.int .i64 0,.int .i64 (-1)] 94;have r:=(p.trans (h.mono oo)).alloc oo (.cells #[(o:Int),l,m,.slice none 0 0,.int .i64 0,.int .i64 (-1)] 94);have z:=k.cell;have s:=k.free;clear x j p h;go_wp2_with fail;refine(u.out _).mono ?_;rintro e J ⟨a,c,rfl,A,i⟩;have B:=i.size;simp only[World.size_alloc] at B;have n:=q.below i (by simp;omega);have C:=r.trans (i.mono (by simp;omega));clear z s;have s:=n.free;have K:=n.cell;clear k q r i;go_wp2;have D:=(vw n g a c).cell;have E:=yC C (b:=w.heap.size+1) oo g a c;have F:=zI (B':=w.heap.size) (yI A (b:=w.heap.size+1) (by simp;omega) g a c) (by simp;omega);exact bodyPost_ret (v:=.tuple #[knV g a c,.bool true]) (by simp [results,results61,go_sem,D]) rfl ⟨a,c,rfl,F,E⟩
theorem ng (o l m:Int)(d:Bs)(w:World)(p:¬fits o l m d)(x:d.length≤9223372036854775807):
 Calls prog 61 #[.agg #[(o:Int),l,m],d] w (rT w (.tuple #[Zu,.bool false])):=by
 by_cases g:vk o l m
 ·have q:Hid (∀w,Calls prog 91 #[.agg #[(o:Int),l,m]] w (rT w (.tuple #[.agg #[(o:Int),l,m,.slice none 0 0,.int .i64 0,.int .i64 (-1)],.bool true]))):=fun w=>Xe o l m w g
  have y:Hid (∀w,Calls prog 92 #[.agg #[(o:Int),l,m,.slice none 0 0,.int .i64 0,.int .i64 (-1)],d] w (rT w (.tuple #[Zu,.bool false]))):=fun w=>Xc (uC o l m) none 0 d w (jM g) (Sl.nil _ _) p x;clear p g;go_enter func61,ntmps61;go_wp2_with fail;have z:Bk ((w.alloc (.cells #[(o:Int),l,m] 24)).alloc (.cells knZ 94)) w.heap.size 24 #[(o:Int),l,m]:=tBk;have c:Bk ((w.alloc (.cells #[(o:Int),l,m] 24)).alloc (.cells knZ 94)) (w.heap.size+1) 94 knZ:=tBk;have h:Below w.heap.size w ((w.alloc (.cells #[(o:Int),l,m] 24)).alloc (.cells knZ 94)):=zy;generalize(w.alloc (.cells #[(o:Int),l,m] 24)).alloc (.cells knZ 94)=A at*;refine(q.out _).mono ?_;rintro e r ⟨rfl,a⟩;have B:=c.lt;have C:=a.size;have f:=(c.below a oo).alloc (.cells #[(o:Int),l,m,.slice none 0 0,.int .i64 0,.int .i64 (-1)] 94);have s:=Bk.new r #[(o:Int),l,m,.slice none 0 0,.int .i64 0,.int .i64 (-1)] 94;have k:=(h.trans (a.mono oo)).alloc oo (.cells #[(o:Int),l,m,.slice none 0 0,.int .i64 0,.int .i64 (-1)] 94);have D:=s.cell;have t:=s.free;clear z c h a;go_wp2_with fail;refine(y.out _).mono ?_;rintro e H ⟨rfl,n⟩;have E:=n.size;simp only[World.size_alloc] at E;have u:=f.below n (by simp;omega);have F:=k.trans (n.mono (by simp;omega));clear D t;have t:=u.free;have G:=u.cell;clear s f k n;go_wp2;have i:=(vw u ⟨0,0,0,[],0,0⟩ none 0).cell;have j:=yC F (b:=w.heap.size+1) oo ⟨0,0,0,[],0,0⟩ none 0;simp only[List.length_nil] at i j;exact bodyPost_ret (v:=.tuple #[Zu,.bool false]) (by simp [results,results61,go_sem,i]) rfl ⟨rfl,j⟩
 ·have q:Hid (∀w,Calls prog 91 #[.agg #[(o:Int),l,m]] w (rT w (.tuple #[Zu,.bool false]))):=fun w=>NT o l m w g
  clear p g;go_enter func61,ntmps61;go_wp2_with fail;have c:Bk ((w.alloc (.cells #[(o:Int),l,m] 24)).alloc (.cells knZ 94)) (w.heap.size+1) 94 knZ:=tBk;have h:Below w.heap.size w ((w.alloc (.cells #[(o:Int),l,m] 24)).alloc (.cells knZ 94)):=zy;generalize(w.alloc (.cells #[(o:Int),l,m] 24)).alloc (.cells knZ 94)=A at*;refine(q.out _).mono ?_;rintro e r ⟨rfl,a⟩;have B:=c.lt;have C:=a.size;have f:=(c.below a oo).alloc (.cells knZ 94);have k:=(h.trans (a.mono oo)).alloc oo (.cells knZ 94);clear c h a;go_upto_region 3 with(fail)
  generalize r.alloc (.cells knZ 94)=W at*;have t:=f.free;have G:=f.cell;go_wp2;have i:=(vw f ⟨0,0,0,[],0,0⟩ none 0).cell;have j:=yC k (b:=w.heap.size+1) oo ⟨0,0,0,[],0,0⟩ none 0;simp only[List.length_nil] at i j;exact bodyPost_ret (v:=.tuple #[Zu,.bool false]) (by simp [results,results61,go_sem,i]) rfl ⟨rfl,j⟩
theorem bF {w w':World}{B:Nat}{e:TypeId}{s n:Nat}{v:Value}{xs:List Value}{row:Option Nat}(h:w.ownsRow B e s v n xs)(a:w.grownBy w' row)(b:∀k,v.ownBlock=some k→row≠some k):w'.ownsRow B e s v n xs:=by
 have c:=h.lt;obtain⟨h1,h2⟩:=h;refine⟨h1,?_⟩;rcases h2 with h2|⟨g,cap,cur,rfl,d,f,rest⟩
 ·exact .inl h2
 ·exact .inr ⟨g,cap,cur,rfl,d,(a.block g (c g rfl).2 (fun i=>b g rfl i.symm)).trans f,rest⟩
theorem y5.SQ {w w':World}{B b:Nat}{K:Kn}{A An Ap:Option Addr}{cap cn cp:Nat}{row:Option Nat}(h:y5 w B b K A An Ap cap cn cp)(a:w.grownBy w' row)(c:∀g,row=some g→¬ru b A An Ap g):y5 w' B b K A An Ap cap cn cp:=
 ⟨h.bB,h.box.grown a (fun k hk e=>c k hk (.inl e)),bF h.prs a (fun k hk e=>c k e (.inr (.inl (wX hk)))),bF h.nds a (fun k hk e=>c k e (.inr (.inr (.inl (wX hk))))),bF h.nos a (fun k hk e=>c k e (.inr (.inr (.inr (wX hk)))))⟩
theorem y5.blt {w:World}{B b:Nat}{K:Kn}{A An Ap:Option Addr}{cap cn cp:Nat}(h:y5 w B b K A An Ap cap cn cp):∀g,ru b A An Ap g→g<w.heap.size:=by
 intro g a;rcases a with rfl|a|a|a
 ·exact h.box.lt
 ·exact(h.prs.lt g (lu h.prs g a)).2
 ·exact(h.nds.lt g (lu h.nds g a)).2
 ·exact(h.nos.lt g (lu h.nos g a)).2
def Apt (C:Option Addr)(b:Nat)(A An Ap:Option Addr):Prop:=∀g,C.map (·.block)=some g→¬ru b A An Ap g
theorem Apt.next {C:Option Addr}{b:Nat}{A An Ap a c d:Option Addr}{w:World}{B n cap:Nat}{e:TypeId}{xs:List Value}(h:Apt C b A An Ap)(f:w.ownsRow B e 1 (.slice C n cap) n xs)(j:∀g,ru b a c d g→ru b A An Ap g∨w.heap.size≤g):Apt C b a c d:=by
 intro g i k;rcases j g k with h1|h1
 ·exact h g i h1
 ·have:=(f.lt g (lu f g i)).2;omega
theorem Apt.app {C d:Option Addr}{b:Nat}{A An Ap:Option Addr}{n m c f z:Nat}(h:Apt C b A An Ap)(l:∀g,ru b A An Ap g→g<z)(o:Value.ownBlock (.slice d m f)=Value.ownBlock (.slice C n c)∨Value.ownBlock (.slice d m f)=some z):Apt d b A An Ap:=by
 intro g i j;have e:Value.ownBlock (.slice d m f)=some g∨True:=.inr trivial
 cases d with
 |none=>cases i
 |some a=>
  have p:a.block=g:=(by simpa using i);have k:Value.ownBlock (.slice (some a) m f)=some g:=(by rw[←p];rfl);rcases o with h1|h1
  ·rw[k] at h1
   exact h g (wX h1.symm) j
  ·rw[k] at h1
   injection h1 with h1
   have:=l g j;omega
def KO (cs:List Int)(w:World)(e:Ending)(w':World):Prop:=∃A cap,e= .returned (.slice A cs.length cap)∧w'.ownsRow w.heap.size 3 1 (.slice A cs.length cap) cs.length (cs.map iv)∧Below w.heap.size w w'
theorem Ro (K:Kn)(A:Option Addr)(cap:Nat)(d:Bs)(w:World)(hk:K.ok)(hs:Sl w A K.ps.length cap 2 (psV K.ps))(hl:d.length≤100000)(hf:d.all (uq K.l)=true):
 Calls prog 202 #[knV K A cap,sv d] w (KO (K.yw d) w):=by
 obtain⟨i,hi,c7,c8,c9⟩:=info_parts tu;have h8:=K.xy hk;have T:=hk.st;have n5:=hk.bd;have d9:Hid (K.yw d=[pow2 K.l]++(x9 d.length K.cleared (d.drop 0)++[pow2 K.l+1])):=(by show _=_;rw[UO hk.base0];rfl);have cN:=fun w=>aT K A cap w hk;have CN:=hid cN;have CF:Hid (∀B b A2 An Ap i0 cn cp w',y5 w' B b K A2 An Ap i0 cn cp→Calls prog 161 #[.pointer (some ⟨b,0,none⟩),.int .i64 (pow2 K.l)] w' (kS B b K.cleared (ru b A2 An Ap) w')):=fun B b A2 An Ap i0 cn cp w' h=>lD w' h hk;have i1:K.cleared.l=K.l:=rfl;have n6:Hid (0≤pow2 K.l∧pow2 K.l≤65536):=⟨by have:=xu K.l (by have:=T.2.1;omega) (by have:=T.2.2.1;omega);omega,(xu K.l (by have:=T.2.1;omega) (by have:=T.2.2.1;omega)).2⟩;obtain⟨G,hG⟩:∃G,K.yw d=G:=⟨_,rfl⟩;rw[hG];rw[hG] at d9;clear cN hG hk;generalize K.cleared=K0 at*;have k8:=hid i1;clear i1;go_enter func202,ntmps202;have d0:Bk (w.alloc (.cells (knC K A cap) 94)) w.heap.size 94 (knC K A cap):=tBk;have g0:Below w.heap.size w (w.alloc (.cells (knC K A cap) 94)):=zy;go_upto_region 1 with(fail)
 generalize w.alloc (.cells (knC K A cap) 94)=w0 at*;have i3:=d0.cell;have i4:=d0.lt;have k9:=zM i3 i4;go_wp2_with fail;refine wp_region_quiet_below kr kr ?_;repeat(go_big_quiet_step ((first|(go_at_call 159;exact Calls.regrown_of (xq _ _ _ _ T))|(go_at_call 157;exact Calls.regrown_of (wE _ _ _ _ T)))))
 refine wpQuiet_nil ?_;intro w1 i5;have d1:Below _ _ w1:=zh i5;clear i5;have n8:=d1.size;have i6:=d0.below d1 i4;have g1:=g0.trans (d1.mono oo);have i7:=hs.below g1;have k':=i6.cell;clear d1 d0 g0 i3 k9 hs;go_wp2_with fail;refine(CN.out _ i7).mono ?_;rintro e w2 ⟨b,A2,n',o0,o1,o2,o3,rfl,e2,e3⟩;have o8:=e3.size;have g2:=g1.trans (e3.mono oo);have l0:w.heap.size≤w1.heap.size:=oo;generalize w1.heap.size=B at*;clear e3 i6 g1 k' i7 CN;have o9:=e2.bB;go_wp2_with fail;refine(CF.out _ _ _ _ _ _ _ _ _ e2).mono ?_;rintro e U ⟨rfl,⟨A3,i',j0,l1,l2,l3,e4,l4⟩,j1⟩;have e5:=j1.below oo;have o':=e5.size;have j2:=g2.trans (e5.mono oo);clear e5 g2 e2 j1 l4 CF;have j3:=e4.alloc (.cells #[.int .i64 (pow2 K.l)] 3);have o4:(U.alloc (.cells #[.int .i64 (pow2 K.l)] 3)).ownsRow B 3 1 (.slice (some ⟨U.heap.size,0,none⟩) 1 1) 1 [.int .i64 (pow2 K.l)]:=PW U #[.int .i64 (pow2 K.l)] rfl oo (by unfold maxLen;omega);have D4:Apt (some ⟨U.heap.size,0,none⟩) b A3 i' j0:=fun g o ht=>by
  have h1:=e4.blt g ht;simp at o;omega
 have j6:=hid D4;have v:=j2.alloc oo (.cells #[.int .i64 (pow2 K.l)] 3);clear e4 D4 j2;go_upto_region 5 with(fail)
 generalize U.alloc (.cells #[.int .i64 (pow2 K.l)] 3)=p0 at*;go_wp2;go_loopw [1,8] (fun a c wr=>∃(f n:Nat) (k:Kn) (x V W:Option Addr) (d2 e6 e7:Nat) (C:Option Addr) (cc:Nat) (cs:List Int),a=sv (d.drop f)∧c= .slice C cs.length cc∧f≤d.length∧d.length≤f+n∧cs.length≤2*f+1∧k.ok∧Hid (k.l=K.l)∧Hid (G=cs++(x9 n k (d.drop f)++[pow2 K.l+1]))∧
  y5 wr B b k x V W d2 e6 e7∧wr.ownsRow B 3 1 (.slice C cs.length cc) cs.length (cs.map iv)∧Hid (Apt C b x V W)∧Below w.heap.size w wr) (fun a _ _=>Uw a)
 case atStart=>exact⟨0,d.length,K0,A3,i',j0,l1,l2,l3,some ⟨U.heap.size,0,none⟩,1,[pow2 K.l],by simp [sv],rfl,by omega,by omega,by simp,h8,k8.out,d9,j3,o4,j6,v⟩
 case round=>
  obtain⟨f,n,k,x,V,W,d2,e6,e7,C,cc,cs,rfl,rfl,p1,p2,j7,X,y,Y,hT,ho,HD,o⟩:=hrel;clear j3 o4 j6 v d9 h8;have hX:=hT.box.cell;have p3:=hT.box.lt;have p4:=hT.bB;by_cases p5:f<d.length
  ·have r:d.drop f≠[]:=fun h=>by have:=congrArg List.length h;simp at this;omega
   have p6:decide (d.drop f≠[])=true:=(by simpa using r);have p7:decide (d.drop f=[])=false:=(by simpa using r);have d3:(d.drop f).all (uq k.l)=true:=(by rw[y.out];exact qB _ _ _ hf);have Z:(d.drop f).length=d.length - f:=(by simp);obtain⟨m,rfl⟩:∃m,n=m+1:=⟨n - 1,oo⟩;go_wp2_with fail;refine(Rh k x d2 _ X).mono ?_;rintro e w5 ⟨rfl,a5⟩;have a0:=hT.keep a5;have o5:=zf ho a5;have v:=o.trans (a5.mono oo);have l8:=a5.size;clear hX a5 hT ho o;have p8:=a0.box.lt;by_cases a7:k.full=true
   ·have a8:decide (k.top<k.nx∧k.base<(k.ps.length:Int))=true:=a7
    rw[a8];have a9:=hid (WV (n:=m) r a7);have u:=k.xy X;have a':Hid (k.cleared.l=K.l):=y.out;have CF:Calls prog 161 #[.pointer (some ⟨b,0,none⟩),.int .i64 (pow2 K.l)] w5 (kS B b k.cleared (ru b x V W) w5):=by
     have h:=lD w5 a0 X;have e:pow2 k.l=pow2 K.l:=(by rw[y.out]);rw[←e];exact h
    have l9:Hid (k.cl=pow2 K.l):=(by show pow2 k.l=_;rw[y.out]);have z:(d.drop f).all (uq k.cleared.l)=true:=d3;clear a8 a7 d3;generalize k.cleared=j at*;go_wp2_with fail;refine CF.mono ?_;rintro e w6 ⟨rfl,⟨A6,j9,j',m0,m1,m2,d4,k0⟩,k6⟩;have f0:=k6.below oo;have p9:=f0.size;have o6:=k6.own o5 (fun g o=>.inr (HD.out g (wX o)));have D6:=HD.out.next o5 k0;have k1:=v.trans (f0.mono oo);have p':=d4.box.lt;clear f0 a0 o5 v CF k6 k0;have D:cs.length+1≤maxLen:=(by unfold maxLen;omega);have E:(cs.length+1)*8≤140737488355328:=oo;go_wp2_with(at_builtin;go_must(refine zT _ rfl _ _ 33 rfl (B) 3 i _ 1 8 underlying33 hi c7 c8 c9 rfl (by omega) _ _ _ rfl (o6.alloc _) _ 1 1 [Value.int .i64 (pow2 K.l)] rfl (Sl.newAt w6 #[Value.int .i64 (pow2 K.l)] _ 1 1 (by first|rfl|simp) (by simp) (by omega)) (by simp [Value.oneCell']) D E ?_ ?_));try(case refine_1=>first|omega|(simp<;>omega;done))
    intro C7 d6 w7 o7 F k2;have f4:=(d4.alloc (.cells #[.int .i64 (pow2 K.l)] 3)).SQ F (fun g o=>D6 g (wX o));have D7:=D6.app (fun g o=>Nat.lt_succ_of_lt (d4.blt g o)) k2;have g7:=yD (B:=w.heap.size) k1 F oo (fun q H=>by have:=(o6.lt q H).1;omega);have d8:w7.ownsRow B 3 1 (.slice C7 (cs++[pow2 K.l]).length d6) (cs++[pow2 K.l]).length ((cs++[pow2 K.l]).map iv):=by
     rw[List.length_append,List.map_append];exact o7
    have m3:=ve F;have m4:(cs++[pow2 K.l]).length≤2*f+2:=(by simp;omega);have b1:Hid (G=(cs++[pow2 K.l])++(j.find (j.longest (d.drop f))::x9 m (j.after (j.find (j.longest (d.drop f)))) ((d.drop f).drop (j.longest (d.drop f)).length)++[pow2 K.l+1])):=by
     show _=_;rw[Y.out,a9.out,l9.out];simp
    have f5:Hid ((cs++[pow2 K.l]).length=cs.length+1):=(by show _=_;simp);clear o6 d4 F k2 k1 D6 o7 Y a9 y HD X;rw[←f5.out];generalize cs++[pow2 K.l]=p at*;have f6:=hid D7;clear D7 j7;have s:=j.rC u r z;obtain⟨s,_,m5⟩:=s;have f7:=(j.yQ (d.drop f)).2;have m6:=j.xE r;have f8:=j.uy u s;have cL:=jl (d.drop f) _ f4 u r oo z;have cF:Hid (∀w',y5 w' B b j A6 j9 j' m0 m1 m2→Calls prog 161 #[.pointer (some ⟨b,0,none⟩),.int .i64 (j.find (j.longest (d.drop f)))] w' (kS B b (j.after (j.find (j.longest (d.drop f)))) (ru b A6 j9 j') w')):=fun w' h=>kP _ w' h u s;have f9:Hid ((j.after (j.find (j.longest (d.drop f)))).l=K.l):=a'.out;clear s r z a';generalize j.after (j.find (j.longest (d.drop f)))=K2 at*;generalize j.find (j.longest (d.drop f))=c at*;generalize(j.longest (d.drop f)).length=L at*;have f':=hid Z;rw[Z] at f7;clear Z;go_wp2_with fail;refine cL.mono ?_;rintro e w8 ⟨rfl,t⟩;have I:=f4.keep t;have J:=zf d8 t;have g8:=g7.trans (t.mono oo);have m8:=t.size;clear t f4 d8 g7 cL;have m9:=I.box.lt;go_wp2_with fail;refine(cF.out _ I).mono ?_;rintro e w9 ⟨rfl,⟨A9,g3,g4,g5,g6,g',M,b6⟩,N⟩;have O:=N.below oo;have m':=O.size;have P:=N.own J (fun g o=>.inr (f6.out g (wX o)));have Q:=f6.out.next J b6;have g9:=g8.trans (O.mono oo);clear O I J g8 cF N b6 f6;have D:p.length+1≤maxLen:=(by unfold maxLen;omega);have E:(p.length+1)*8≤140737488355328:=oo;have n0:(L:Int)≤((d.drop f).length:Int):=(by rw[f'.out];omega);go_wp2_with(at_builtin;go_must(refine zT _ rfl _ _ 33 rfl (B) 3 i _ 1 8 underlying33 hi c7 c8 c9 rfl (by omega) _ _ _ rfl (P.alloc _) _ 1 1 [Value.int .i64 c] rfl (Sl.newAt w9 #[Value.int .i64 c] _ 1 1 (by first|rfl|simp) (by simp) (by omega)) (by simp [Value.oneCell']) D E ?_ ?_));try(case refine_1=>first|omega|(simp<;>omega;done))
    intro b8 b9 h0 b' R c0;have c1:=(M.alloc (.cells #[(c:Int)] 3)).SQ R (fun g o=>Q g (wX o));have c2:=Q.app (fun g o=>Nat.lt_succ_of_lt (M.blt g o)) c0;have c3:=yD (B:=w.heap.size) g9 R oo (fun q H=>by have:=(P.lt q H).1;omega);have c4:h0.ownsRow B 3 1 (.slice b8 (p++[c]).length b9) (p++[c]).length ((p++[c]).map iv):=by
     rw[List.length_append,List.map_append];exact b'
    have c5:Hid ((p++[c]).length=p.length+1):=(by show _=_;simp);have h2:Hid ((d.drop f).drop L=d.drop (f+L)):=(by show _=_;rw[List.drop_drop]);have h3:Hid (G=(p++[c])++(x9 m K2 (d.drop (f+L))++[pow2 K.l+1])):=by
     show _=_;rw[b1.out,←h2.out];simp
    have h4:=hid c2;have S:=hid (And.intro c4 (And.intro c1 c3));clear P M R c0 g9 Q b' b1 c2 c4 c1 c3;go_wp2;go_roundw
    case rel=>exact⟨f+L,m,K2,A9,g3,g4,g5,g6,g',b8,b9,p++[c],by simp [sv],by rw[c5.out],by omega,by omega,by rw[c5.out];omega,f8,f9,h3,S.out.2.1,S.out.1,h4,S.out.2.2⟩
    case measure=>simp [Uw];omega
   ·have h5:k.full=false:=by simpa using a7
    have a8:decide (k.top<k.nx∧k.base<(k.ps.length:Int))=false:=h5;rw[a8];have a9:=hid (VJ (n:=m) r h5);have b1:Hid (G=cs++(k.find (k.longest (d.drop f))::x9 m (k.after (k.find (k.longest (d.drop f)))) ((d.drop f).drop (k.longest (d.drop f)).length)++[pow2 K.l+1])):=by
     show _=_;rw[Y.out,a9.out]
    have u:=X;have a':=y;have z:=d3;have m4:cs.length≤2*f+2:=oo;have m3:=l8;clear a8 h5 a7 Y a9 j7 X y d3;have h6:=HD;have k4:=o5;clear HD o5;generalize k=j at*;generalize cs=p at*;have s:=j.rC u r z;obtain⟨s,_,m5⟩:=s;have f7:=(j.yQ (d.drop f)).2;have m6:=j.xE r;have f8:=j.uy u s;have cL:=jl (d.drop f) _ a0 u r oo z;have cF:Hid (∀w',y5 w' B b j x V W d2 e6 e7→Calls prog 161 #[.pointer (some ⟨b,0,none⟩),.int .i64 (j.find (j.longest (d.drop f)))] w' (kS B b (j.after (j.find (j.longest (d.drop f)))) (ru b x V W) w')):=fun w' h=>kP _ w' h u s;have f9:Hid ((j.after (j.find (j.longest (d.drop f)))).l=K.l):=a'.out;clear s r z a';generalize j.after (j.find (j.longest (d.drop f)))=K2 at*;generalize j.find (j.longest (d.drop f))=c at*;generalize(j.longest (d.drop f)).length=L at*;have f':=hid Z;rw[Z] at f7;clear Z;go_wp2_with fail;refine cL.mono ?_;rintro e w8 ⟨rfl,t⟩;have I:=a0.keep t;have J:=zf k4 t;have g8:=v.trans (t.mono oo);have m8:=t.size;clear t a0 k4 v cL;have m9:=I.box.lt;go_wp2_with fail;refine(cF.out _ I).mono ?_;rintro e w9 ⟨rfl,⟨A9,g3,g4,g5,g6,g',M,b6⟩,N⟩;have O:=N.below oo;have m':=O.size;have P:=N.own J (fun g o=>.inr (h6.out g (wX o)));have Q:=h6.out.next J b6;have g9:=g8.trans (O.mono oo);clear O I J g8 cF N b6 h6;have D:p.length+1≤maxLen:=(by unfold maxLen;omega);have E:(p.length+1)*8≤140737488355328:=oo;have n0:(L:Int)≤((d.drop f).length:Int):=(by rw[f'.out];omega);go_wp2_with(at_builtin;go_must(refine zT _ rfl _ _ 33 rfl (B) 3 i _ 1 8 underlying33 hi c7 c8 c9 rfl (by omega) _ _ _ rfl (P.alloc _) _ 1 1 [Value.int .i64 c] rfl (Sl.newAt w9 #[Value.int .i64 c] _ 1 1 (by first|rfl|simp) (by simp) (by omega)) (by simp [Value.oneCell']) D E ?_ ?_));try(case refine_1=>first|omega|(simp<;>omega;done))
    intro b8 b9 h0 b' R c0;have c1:=(M.alloc (.cells #[(c:Int)] 3)).SQ R (fun g o=>Q g (wX o));have c2:=Q.app (fun g o=>Nat.lt_succ_of_lt (M.blt g o)) c0;have c3:=yD (B:=w.heap.size) g9 R oo (fun q H=>by have:=(P.lt q H).1;omega);have c4:h0.ownsRow B 3 1 (.slice b8 (p++[c]).length b9) (p++[c]).length ((p++[c]).map iv):=by
     rw[List.length_append,List.map_append];exact b'
    have c5:Hid ((p++[c]).length=p.length+1):=(by show _=_;simp);have h2:Hid ((d.drop f).drop L=d.drop (f+L)):=(by show _=_;rw[List.drop_drop]);have h3:Hid (G=(p++[c])++(x9 m K2 (d.drop (f+L))++[pow2 K.l+1])):=by
     show _=_;rw[b1.out,←h2.out];simp
    have h4:=hid c2;have S:=hid (And.intro c4 (And.intro c1 c3));clear P M R c0 g9 Q b' b1 c2 c4 c1 c3;go_wp2;go_roundw
    case rel=>exact⟨f+L,m,K2,A9,g3,g4,g5,g6,g',b8,b9,p++[c],by simp [sv],by rw[c5.out],by omega,by omega,by rw[c5.out];omega,f8,f9,h3,S.out.2.1,S.out.1,h4,S.out.2.2⟩
    case measure=>simp [Uw];omega
  ·have n1:f=d.length:=oo
   subst n1;have r:d.drop d.length=[]:=List.drop_length;have HE:Hid (G=cs++[pow2 K.l+1]):=by
    show _=_;rw[Y.out,r,Uz];rfl
   rw[r];have D:cs.length+1≤maxLen:=(by unfold maxLen;omega);have E:(cs.length+1)*8≤140737488355328:=oo;have f5:Hid ((cs++[pow2 K.l+1]).length=cs.length+1):=(by show _=_;simp);clear Y r;go_wp2_with(at_builtin;go_must(refine zT _ rfl _ _ 33 rfl (B) 3 i _ 1 8 underlying33 hi c7 c8 c9 rfl (by omega) _ _ _ rfl (ho.alloc _) _ 1 1 [Value.int .i64 (pow2 K.l+1)] rfl (Sl.newAt wr #[Value.int .i64 (pow2 K.l+1)] _ 1 1 (by first|rfl|simp) (by simp) (by omega)) (by simp [Value.oneCell']) D E ?_ ?_));try(case refine_1=>first|omega|(simp<;>omega;done))
   intro C7 d6 w7 o7 F _;have g7:=yD (B:=w.heap.size) o F oo (fun q H=>by have:=(ho.lt q H).1;omega);have d8:w7.ownsRow w.heap.size 3 1 (.slice C7 (cs++[pow2 K.l+1]).length d6) (cs++[pow2 K.l+1]).length ((cs++[pow2 K.l+1]).map iv):=by
    rw[List.length_append,List.map_append];exact zI o7 l0
   have hE:=HE.out;subst hE;clear o7 F ho o;go_wp2;go_ret;exact⟨C7,d6,by rw[f5.out];rfl,d8,g7⟩
theorem MM (g a n cap:Nat)(w:World)(h:n≤cap)(b:cap≤9223372036854775807):
 Calls prog 201 #[.slice (some ⟨g,a,none⟩) n cap] w fun e w'=>e= .returned (.slice (some ⟨g,a,none⟩) n n)∧w=w':=by
 go_enter func201,ntmps201;go_wp2;go_ret;exact⟨rfl,rfl⟩
def PS (cs:List Int)(w:World)(e:Ending)(w':World):Prop:=∃A,e= .returned (.tuple #[.slice A cs.length cs.length,.bool true])∧Sl w' A cs.length cs.length 1 (cs.map iv)∧Below w.heap.size w w'
theorem Sl.clip {w:World}{A:Option Addr}{n cap k:Nat}{xs:List Value}(h:Sl w A n cap k xs):Sl w A n n k xs:=by
 obtain⟨h1,h2,a,b⟩:=h;exact⟨Nat.le_refl _,oo,a,b⟩
theorem Rf (K:Kn)(t:Bs):0<(K.yw t).length:=by unfold Kn.yw;simp
theorem Zr (K:Kn)(A:Option Addr)(cap:Nat)(d:Bs)(w:World)(hk:K.ok)(i:Sl w A K.ps.length cap 2 (psV K.ps))(a:fits K.o K.l K.m d):
 Calls prog 176 #[knV K A cap,sv d] w (PS (K.yw d) w):=by
 have t:decide (fits K.o K.l K.m d)=true:=decide_eq_true a;have E:d.length≤2000:=a.2.1;have u:Hid (∀wr,Below w.heap.size w wr→Calls prog 130 #[knV K A cap] wr (rT wr (.bool true))):=fun wr h=>vK K A cap wr hk (i.below h);have j:Hid (∀wr,Below w.heap.size w wr→Calls prog 202 #[knV K A cap,sv d] wr (KO (K.yw d) wr)):=fun wr h=>Ro K A cap d wr hk (i.below h) oo a.2.2;unfold KO at j;have z:=Rf K d;unfold PS;generalize K.yw d=cs at*;clear i a;go_enter func176,ntmps176;go_wp2_with fail;have k:Bk (w.alloc (.cells (knC K A cap) 94)) w.heap.size 94 (knC K A cap):=tBk;have n:Below w.heap.size w (w.alloc (.cells (knC K A cap) 94)):=zy;generalize w.alloc (.cells (knC K A cap) 94)=F at*;refine(u.out _ n).mono ?_;rintro e G ⟨rfl,b⟩;have H:=k.lt;have I:=b.size;have p:=k.below b oo;have v:=n.trans (b.mono oo);have q:=p.cell;clear k n b u;go_wp2_with fail;refine(uT _ _ _ _ _ oo).mono ?_;rintro e J ⟨rfl,c⟩;rw[t];have L:=c.size;have x:=p.below c oo;have r:=v.trans (c.mono oo);clear q p v c t;have q:=x.cell;go_wp2_with fail;refine(j.out _ r).mono ?_;rintro e M ⟨N,O,rfl,y,s⟩;have P:=s.size;have B:=r.trans (s.mono oo);have f:=Sl.own y;have C:=f.1;have D:=f.2.1;obtain⟨g,Q,rfl,R,_⟩:=f.2.2.2 z;clear j q x r s y;go_wp2_with fail;refine(MM _ _ _ _ _ C D).mono ?_;rintro e S ⟨rfl,rfl⟩;go_wp2;go_ret2;exact⟨_,rfl,f.clip,B⟩
theorem YI (K:Kn)(A:Option Addr)(cap:Nat)(d:Bs)(w:World)(hk:K.ok)(g:Sl w A K.ps.length cap 2 (psV K.ps))(i:¬fits K.o K.l K.m d)(q:d.length≤9223372036854775807):
 Calls prog 176 #[knV K A cap,sv d] w (rT w (.tuple #[.slice none 0 0,.bool false])):=by
 have j:decide (fits K.o K.l K.m d)=false:=decide_eq_false i;have k:Hid (∀wr,Below w.heap.size w wr→Calls prog 130 #[knV K A cap] wr (rT wr (.bool true))):=fun wr h=>vK K A cap wr hk (g.below h);clear g i;go_enter func176,ntmps176;go_wp2_with fail;have b:Bk (w.alloc (.cells (knC K A cap) 94)) w.heap.size 94 (knC K A cap):=tBk;have c:Below w.heap.size w (w.alloc (.cells (knC K A cap) 94)):=zy;generalize w.alloc (.cells (knC K A cap) 94)=t at*;refine(k.out _ c).mono ?_;rintro e u ⟨rfl,a⟩;have v:=b.lt;have x:=a.size;have n:=b.below a oo;have p:=c.trans (a.mono oo);have r:=n.cell;clear b c a k;go_wp2_with fail;refine(uT _ _ _ _ _ q).mono ?_;rintro e y ⟨rfl,f⟩;rw[j];have z:=f.size;have s:=p.trans (f.mono oo);clear r n p f j;go_wp2;go_ret2;exact⟨rfl,s⟩
