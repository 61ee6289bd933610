import Derived.Test.YtoedhpcmgondjaaGreatDoorUGJ1
import Derived.Deep.CutBlock
import Derived.Test.YtoedhpcmgondjaaGreatDoorUGS4
set_option linter.all false
set_option maxHeartbeats 8000000
namespace Go.Proofs.YtoedhpcmgondjaaGreatDoor
open Go.Lib(hid)
open Go.RowKit Go.Proofs.Tryz
set_option maxRecDepth 100000
attribute [local instance] mU hZ cvZ
attribute [local go_sem high] zA zB zD zS zL yf zC zk zl zt zi zu yR zG yu zH
theorem lW {B b:Nat}{K:Kn}{A An Ap:Option Addr}{cap cn cp:Nat}(d:Bs)(w:World)(g:yQ w B b K A An Ap cap cn cp)(hk:K.ok)(X:d≠[])(d2:d.length≤100000)(a4:d.all (vU K.l)=true):
 Calls prog 163 #[.pointer (some ⟨b,0,none⟩),sv d] w fun e w'=>e= .returned (.tuple #[.int .i64 (K.find (K.longest d)),ivn (K.longest d).length])∧Below w.heap.size w w':=by
 obtain⟨x,r,E⟩:∃x r,d=x::r:=by cases d with
  |nil=>exact absurd rfl X
  |cons x r=>exact⟨x,r,rfl⟩
 have b5:=hk.st;have d3:=hk.bd;have F:=hk.fine;have b6:=F.Na;have d4:=F.tr.lits;have b7:(x.toNat:Int)<K.cl:=by
  have h:=List.all_eq_true.1 a4 x (by rw[E];exact List.mem_cons_self);simpa [vU,Kn.cl] using h
 have b8:x.toNat<K.tr.nds.length:=oo;have b9:byteAt d 0=(x.toNat:Int):=(by rw[E];rfl);have a5:d.length=r.length+1:=(by rw[E];rfl);have a6:Hid (∀(k:Nat) (h:k<r.length),byteAt d ((k:Int)+1)=(r[k].toNat:Int)):=fun k h=>by
  rw[show((k:Int)+1)=((k+1:Nat):Int) by omega,E,yc _ _ (by simp;omega),List.getElem_cons_succ]
 have a7:Hid (∀n k,K.tr.desc x.toNat r=(n,k)→
  n<K.tr.nds.length∧k≤r.length∧
  (K.gr=true→k<r.length→n=K.tr.xu K.cl K.last→byteAt d ((k:Int)+1)=((K.tr.nds[n]?.getD ⟨0,0,0,0⟩).first.toNat:Int)→K.find (K.longest d)=K.nx∧(K.longest d).length=k+2)∧
  (¬(K.gr=true∧k<r.length∧n=K.tr.xu K.cl K.last∧byteAt d ((k:Int)+1)=((K.tr.nds[n]?.getD ⟨0,0,0,0⟩).first.toNat:Int))→K.find (K.longest d)=(K.tr.nds[n]?.getD ⟨0,0,0,0⟩).code∧(K.longest d).length=k+1)):=fun n k h=>by
  have:=K.XB hk b7 h;rw[←E] at this;exact this
 have a8:=hid (kY.start K.tr x r);have G:=hid a5;clear E a5 a4 X;have X:0<d.length:=(by have:=G.out;omega);obtain⟨d5,d6⟩:=b6;generalize K.find (K.longest d)=d7 at*;generalize(K.longest d).length=L at*;go_enter func163,ntmps163;go_upto_block 0 with(fail)
 go_cut [6,7] (fun a c wx=>∃n k:Nat,a= .int .i64 (n:Int)∧c= .int .i64 ((k:Int)+1)∧Hid (K.tr.desc x.toNat r=(n,k))∧w=wx)
 case first=>
  go_wp2_with fail;go_loop [6,7] (fun a c=>∃n k:Nat,a= .int .i64 (n:Int)∧c= .int .i64 ((k:Int)+1)∧n<K.tr.nds.length∧k≤r.length∧Hid (kY K.tr x r n k)) (fun _ c=>d.length - (intOf c).toNat)
  case atStart=>exact⟨x.toNat,0,rfl,rfl,b8,oo,a8⟩
  case round=>
   obtain⟨n,k,rfl,rfl,T,c0,Y⟩:=hrel;by_cases Z:k<r.length
   ·have c1:(k:Int)+1<d.length:=by have:=G.out;omega
    have c2:=a6.out k Z;have a9:Hid (∀m,K.tr.kid n r[k]=some m→kY K.tr x r m (k+1)):=fun m hm=>Y.out.next Z hm;have a':Hid (K.tr.kid n r[k]=none→K.tr.desc x.toNat r=(n,k)):=fun hm=>Y.out.stop Z hm;obtain⟨y,hy⟩:∃y,r[k]=y:=⟨_,rfl⟩;rw[hy] at c2 a9 a';have c3:(y.toNat:Int)≤255:=(by have:=y.toNat_lt;omega);have cC:=Y0 n (y.toNat:Int) w g F T oo c3;rw[show UInt8.ofNat ((y.toNat:Int)).toNat=y by simp] at cC;have c4:Hid (K.tr.mP n y<0→K.tr.kid n y=none):=fun h=>Ub h;have c5:Hid (0≤K.tr.mP n y→K.tr.kid n y=some (K.tr.mP n y).toNat∧(K.tr.mP n y).toNat<K.tr.nds.length):=fun h=>Qh h;generalize K.tr.mP n y=b1 at*;clear hy;by_cases hq:b1<0
    ·have s:=hid (a'.out (c4.out hq))
     go_wp2_with(go_at_call 187;refine cC.mono ?_;rintro e w' ⟨rfl,rfl⟩);go_meet;exact⟨n,k,rfl,rfl,s,rfl⟩
    ·obtain⟨b2,b3⟩:=c5.out oo
     have s:=hid (a9.out _ b2);clear b2;obtain⟨m,rfl⟩:=Int.eq_ofNat_of_zero_le (show 0≤b1 by omega);rw[Int.toNat_natCast] at b3 s;go_wp2_with(go_at_call 187;refine cC.mono ?_;rintro e w' ⟨rfl,rfl⟩);go_round
     case rel=>exact⟨m,k+1,rfl,by go_num,b3,oo,s⟩
     case measure=>have:=G.out;simp [intOf];omega
   ·have c1:¬(k:Int)+1<d.length:=by have:=G.out;omega
    have s:=hid (Y.out.fin oo);go_wp2;go_meet;exact⟨n,k,rfl,rfl,s,rfl⟩
 case rest=>
  obtain⟨n,k,rfl,rfl,s,rfl⟩:=hcut;obtain⟨T,c0,U,V⟩:=a7.out n k s.out;clear a7 s a8 a6 b9;have d8:(k:Int)+1≤d.length:=(by have:=G.out;omega);have D:(k:Int)+1<d.length↔k<r.length:=(by have:=G.out;omega);obtain⟨v,d9,hv,d'⟩:=g.nds.form oo;injection hv with e1 e2 e3
  subst e1 e3;clear e2;have H:=g.box.lt;have M:=(g.nds.lt v rfl).2;have I:=g.box.cell;have z:=(g.nds.cellAt (n*6+4) oo).trans (vw _ _ T oo);have q:=(g.nds.cellAt (n*6+5) oo).trans (vw _ _ T oo);simp only[ndV,List.getElem?_cons_zero,List.getElem?_cons_succ] at z q;have e0:(n:Int)<K.tr.nds.length:=oo;obtain⟨N,b4⟩:∃N,K.tr.nds[n]?.getD ⟨0,0,0,0⟩=N:=⟨_,rfl⟩;rw[b4] at z q U V;clear b4;have O:=zJ I H;have Q:=vS z M;have e4:=zN d ((k:Int)+1);have e5:=yx d ((k:Int)+1);obtain⟨P,hP⟩:∃P,K.tr.xu K.cl K.last=P:=⟨_,rfl⟩;have o:Hid (K.gr=true→∀w,yQ w B b K A (some ⟨v,0,none⟩) Ap cap cn cp→Calls prog 186 #[.pointer (some ⟨b,0,none⟩),K.last] w fun e w'=>e= .returned (.int .i64 (P:Int))∧Below w.heap.size w w'):=fun hg w h=>by
   have:=qN K.last w h F (K.sZ hk hg);rw[hP] at this;exact this
  rw[hP] at U V;have J:=hid U;have t:=hid V;clear U V hP;have c':(¬(k:Int)+1<d.length)∨((k:Int)+1<d.length∧K.gr=false)∨((k:Int)+1<d.length∧K.gr=true∧((n:Int)==(P:Int))=false)∨
   ((k:Int)+1<d.length∧K.gr=true∧((n:Int)==(P:Int))=true∧(byteAt d ((k:Int)+1)==(N.first.toNat:Int))=false)∨((k:Int)+1<d.length∧K.gr=true∧((n:Int)==(P:Int))=true∧(byteAt d ((k:Int)+1)==(N.first.toNat:Int))=true):=by
   by_cases h1:(k:Int)+1<d.length
   ·cases h2:K.gr
    ·exact .inr (.inl ⟨h1,rfl⟩)
    ·cases R:((n:Int)==(P:Int))
     ·exact .inr (.inr (.inl ⟨h1,rfl,rfl⟩))
     ·cases W:(byteAt d ((k:Int)+1)==(N.first.toNat:Int))
      ·exact .inr (.inr (.inr (.inl ⟨h1,rfl,rfl,rfl⟩)))
      ·exact .inr (.inr (.inr (.inr ⟨h1,rfl,rfl,rfl⟩)))
   ·exact .inl h1
  rcases c' with h1|⟨h1,h2⟩|⟨h1,h2,R⟩|⟨h1,h2,R,W⟩|⟨h1,h2,R,W⟩
  ·have i:=hid (t.out (fun C=>h1 (D.2 C.2.1)))
   have e6:decide ((k:Int)+1<d.length)=false:=decide_eq_false h1;clear D t J;have o:=hid (fun w h=>qN (B:=B) (b:=b) (K:=K) (A:=A) (An:=some ⟨v,0,none⟩) (Ap:=Ap) (cap:=cap) (cn:=cn) (cp:=cp) 0 w h F (.inl ⟨by omega,oo⟩));go_wp2_with fail;refine wp_region_quiet_below kr kr ?_;repeat(go_big_quiet_step ((first|(go_at_call 162;exact Calls.regrown_of (uu K A cap _ hk))|(go_at_call 186;exact Calls.regrown_of (o.out _ (g.keep (below_regrown _ _ _)))))))
   refine wpQuiet_nil ?_;intro u j;have f:Below _ _ u:=zh j;clear j;have c6:=(f.cell (p:=⟨v,n*6+5,none⟩) M).trans q;have S:=(g.box.below f H).cell;clear O Q I z q;go_wp2;go_ret2;refine⟨?_,f⟩;rw[i.out.1,i.out.2];rfl
  ·have i:=hid (t.out (fun C=>by rw[h2] at C;cases C.1))
   clear D t J;have o:=hid (fun w h=>qN (B:=B) (b:=b) (K:=K) (A:=A) (An:=some ⟨v,0,none⟩) (Ap:=Ap) (cap:=cap) (cn:=cn) (cp:=cp) 0 w h F (.inl ⟨by omega,oo⟩));go_wp2_with fail;refine wp_region_quiet_below kr kr ?_;repeat(go_big_quiet_step ((first|(go_at_call 162;exact Calls.regrown_of (uu K A cap _ hk))|(go_at_call 186;exact Calls.regrown_of (o.out _ (g.keep (below_regrown _ _ _)))))))
   refine wpQuiet_nil ?_;intro u j;have f:Below _ _ u:=zh j;clear j;have c6:=(f.cell (p:=⟨v,n*6+5,none⟩) M).trans q;have S:=(g.box.below f H).cell;clear O Q I z q;go_wp2;go_ret2;refine⟨?_,f⟩;rw[i.out.1,i.out.2];rfl
  ·have i:=hid (t.out (fun C=>by have:=C.2.2.1;simp at R;omega))
   have o:=hid (o.out h2);clear D t J;go_wp2_with fail;refine wp_region_quiet_below kr kr ?_;repeat(go_big_quiet_step ((first|(go_at_call 162;exact Calls.regrown_of (uu K A cap _ hk))|(go_at_call 186;exact Calls.regrown_of (o.out _ (g.keep (below_regrown _ _ _)))))))
   refine wpQuiet_nil ?_;intro u j;have f:Below _ _ u:=zh j;clear j;have c6:=(f.cell (p:=⟨v,n*6+5,none⟩) M).trans q;have S:=(g.box.below f H).cell;clear O Q I z q;go_wp2;go_ret2;refine⟨?_,f⟩;rw[i.out.1,i.out.2];rfl
  ·have i:=hid (t.out (fun C=>by have:=C.2.2.2;simp at W;omega))
   have o:=hid (o.out h2);clear D t J;go_wp2_with fail;refine wp_region_quiet_below kr kr ?_;repeat(go_big_quiet_step ((first|(go_at_call 162;exact Calls.regrown_of (uu K A cap _ hk))|(go_at_call 186;exact Calls.regrown_of (o.out _ (g.keep (below_regrown _ _ _)))))))
   refine wpQuiet_nil ?_;intro u j;have f:Below _ _ u:=zh j;clear j;have c6:=(f.cell (p:=⟨v,n*6+5,none⟩) M).trans q;have S:=(g.box.below f H).cell;clear O Q I z q;go_wp2;go_ret2;refine⟨?_,f⟩;rw[i.out.1,i.out.2];rfl
  ·have i:=hid (J.out h2 (D.1 h1) (by simp at R;omega) (by simpa using W))
   have o:=hid (o.out h2);clear D t J;go_wp2_with fail;refine wp_region_quiet_below kr kr ?_;repeat(go_big_quiet_step ((first|(go_at_call 162;exact Calls.regrown_of (uu K A cap _ hk))|(go_at_call 186;exact Calls.regrown_of (o.out _ (g.keep (below_regrown _ _ _)))))))
   refine wpQuiet_nil ?_;intro u j;have f:Below _ _ u:=zh j;clear j;have S:=(g.box.below f H).cell;clear O Q I z q;go_wp2_with fail;refine(xx K A cap _ b5 oo).mono ?_;rintro e w3 ⟨rfl,d0⟩;clear S;have g3:=f.trans (d0.mono f.size);go_wp2;go_ret2;refine⟨?_,g3⟩;have e:ivn (k+2)= .int .i64 ((k:Int)+1+1):=by
    show Value.int .i64 ((k+2:Nat):Int)=_;rw[show((k+2:Nat):Int)=(k:Int)+1+1 by omega]
   rw[i.out.1,i.out.2,e];rfl
def Kr (j:Nat):List Value:=[.int .i64 (-1),.int .i64 (-1),.int .i64 (-1),.int .u8 (j:Int),.int .u8 (j:Int),.int .i64 (j:Int)]
def ZG (m:Nat):List Value:=(List.range m).flatMap Kr
theorem TQ (m:Nat):ZG (m+1)=ZG m++Kr m:=by unfold ZG;rw[List.range_succ,List.flatMap_append];simp
theorem Rq (cl:Int)(h:cl≤256):ZG cl.toNat=ndC (Tr.lits cl).nds (Tr.lits cl).nds.length:=by
 have c:(Tr.lits cl).nds.length=cl.toNat:=(by simp [Tr.lits]);have b:∀i,i<cl.toNat→(Tr.lits cl).nds[i]?.getD ⟨0,0,0,0⟩=⟨-1,UInt8.ofNat i,UInt8.ofNat i,i⟩:=fun i a=>by
  rw[List.getElem?_eq_getElem (by omega)];simp [Tr.lits]
 have hk:∀(p:Nat) m,m≤cl.toNat→yG (Tr.lits cl).nds (p:Int) m= -1:=fun p m=>by
  induction m with
  |zero=>intro _;rfl
  |succ m d=>
   intro f;rw[yG,b m (by omega),if_neg (by show ¬(-1:Int)=p;omega)];exact d oo
 unfold ZG ndC;rw[c];apply jV;intro i a;rw[List.mem_range] at a;have e:(UInt8.ofNat i).toNat=i:=(by rw[UInt8.toNat_ofNat'];omega);unfold Kr ndV nxt;rw[hk i _ (Nat.le_refl _),b i a];simp only[e];rw[if_pos (by omega)]
def KJ (K:Kn)(w:World)(e:Ending)(w':World):Prop:=∃b A An Ap cap cn cp,e= .returned (.pointer (some ⟨b,0,none⟩))∧yQ w' w.heap.size b K A An Ap cap cn cp∧Below w.heap.size w w'
theorem bn (K:Kn)(A:Option Addr)(cap:Nat)(w:World)(hk:K.ok)(D:Sl w A K.ps.length cap 2 (psV K.ps)):
 Calls prog 160 #[knV K A cap] w (KJ K w):=by
 obtain⟨i,hi,a3,a4,a5⟩:=info_parts YZ;have L:=hk.st;have E:=hk.fine.cl;have d6:=hk.fine.len;have a6:=D.1;obtain⟨cl,F⟩:∃cl:Nat,pow2 K.l=cl:=⟨(pow2 K.l).toNat,by unfold Kn.cl at E;omega⟩;have M:2≤cl∧cl≤256:=(by unfold Kn.cl at E;omega);obtain⟨M,d7⟩:=M;have N:=hid F;have cC:Hid (∀w,Calls prog 159 #[.agg #[K.o,K.l,K.m]] w fun e w'=>e= .returned (.int .i64 (cl:Int))∧Below w.heap.size w w'):=fun w=>by
  have:=yY K.o K.l K.m w L;rw[F] at this;exact this
 clear F E;go_enter func160,ntmps160;go_upto_region 3 with(fail)
 have G:Bk ((w.alloc (.cells (knC K A cap) 94)).alloc (.cells #[K.o,K.l,K.m,.slice none 0 0,K.base,K.last,.slice none 0 0,.slice none 0 0] 180)) w.heap.size 94 (knC K A cap):=tBk;have H:Bk ((w.alloc (.cells (knC K A cap) 94)).alloc (.cells #[K.o,K.l,K.m,.slice none 0 0,K.base,K.last,.slice none 0 0,.slice none 0 0] 180)) (w.heap.size+1) 180 #[K.o,K.l,K.m,.slice none 0 0,K.base,K.last,.slice none 0 0,.slice none 0 0]:=tBk;have O:Below w.heap.size w ((w.alloc (.cells (knC K A cap) 94)).alloc (.cells #[K.o,K.l,K.m,.slice none 0 0,K.base,K.last,.slice none 0 0,.slice none 0 0] 180)):=zx;generalize(w.alloc (.cells (knC K A cap) 94)).alloc (.cells #[K.o,K.l,K.m,.slice none 0 0,K.base,K.last,.slice none 0 0,.slice none 0 0] 180)=w0 at*;have a8:=G.cell;have d9:=H.lt;go_wp2_with fail;refine(cC.out _).mono ?_;rintro e w1 ⟨rfl,d⟩;have e0:=d.size;have P:=G.below d oo;have Q:=H.below d oo;have R:=O.trans (d.mono oo);clear d G H O a8;go_wp2_with fail;go_loopw [17] (fun v wr=>∃(j:Nat) (An:Option Addr) (cn:Nat),v= .int .i64 (j:Int)∧j≤cl∧Bk wr w.heap.size 94 (knC K A cap)∧Bk wr (w.heap.size+1) 180 #[K.o,K.l,K.m,.slice none 0 0,K.base,K.last,.slice An j cn,.slice none 0 0]∧
  wr.ownsRow w.heap.size 195 6 (.slice An j cn) j (ZG j)∧Below w.heap.size w wr) (fun v _=>cl - (intOf v).toNat)
 case atStart=>exact⟨0,none,0,rfl,by omega,P,Q,⟨by simp [ZG],.inl ⟨rfl,rfl⟩⟩,R⟩
 case round=>
  obtain⟨j,An,cn,rfl,hj,s,a,b,I⟩:=hrel;clear P Q R;have S:=a.cell;have e2:=a.lt;by_cases t:j<cl
  ·have a9:(j:Int)<(cl:Int):=oo
   have a':j+1≤maxLen:=(by unfold maxLen;omega);have b0:(j+1)*40≤140737488355328:=oo;go_wp2_with(at_builtin;go_must(refine zQ _ rfl _ _ 178 rfl (w.heap.size) 195 i _ 6 40 underlying178 hi a3 a4 a5 rfl (by omega) _ _ _ rfl (b.alloc _) _ 1 1 [.int .i64 (-1),.int .i64 (-1),.int .i64 (-1),.int .u8 (j:Int),.int .u8 (j:Int),.int .i64 (j:Int)] rfl (Sl.newAt wr #[.int .i64 (-1),.int .i64 (-1),.int .i64 (-1),.int .u8 (j:Int),.int .u8 (j:Int),(j:Int)] _ 1 6 (by first|rfl|simp) (by simp) (by omega)) (by simp [Value.oneCell']) a' b0 ?_ ?_));try(case refine_1=>first|omega|(simp<;>omega;done))
   intro A5 b2 w5 T u b3;have x:=Bk.grown (a.alloc _) u (own_ne b a (by decide));have b4:=Bk.grown (s.alloc _) u (own_ne b s (by decide));have g5:=yz I u oo (fun k hk=>(b.lt k hk).1);have e4:=x.cell;have e5:=x.free;clear S u b3 b a s I;go_wp2;go_roundw
   case rel=>
    refine⟨j+1,A5,b2,by go_num,oo,b4.far (p:=⟨w.heap.size+1,6,none⟩) (by show w.heap.size≠w.heap.size+1;omega) _,x.set 6 _,?_,g5.setCell (by show w.heap.size≤w.heap.size+1;omega) _⟩;rw[TQ];exact zI T (p:=⟨w.heap.size+1,6,none⟩) (own_ne T x (by decide)) _
   case measure=>simp [intOf];omega
  ·have a9:¬(j:Int)<(cl:Int):=oo
   have b6:j=cl:=oo;subst b6;have e6:=s.cell;have U:K.cl.toNat=j:=(by have:=N.out;unfold Kn.cl;omega);have e7:=a6;have HS:Hid (∀wr,Below w.heap.size w wr→Sl wr A K.ps.length cap 2 (psV K.ps)):=fun wr h=>D.below h;clear S D;have V:yQ wr w.heap.size (w.heap.size+1) { K with ps:=K.ps.take 0 } none An none 0 cn 0:=by
    have J:({ K with ps:=K.ps.take 0 } :Kn).tr=Tr.lits K.cl:=rfl;have W:(Tr.lits K.cl).nds.length=j:=(by rw[←U];simp [Tr.lits]);refine⟨by omega,?_,?_,?_,?_⟩
    ·unfold trC
     rw[J,W];exact a
    ·exact⟨by simp [psV],.inl ⟨rfl,rfl⟩⟩
    ·rw[J,←Rq K.cl (by have:=N.out;unfold Kn.cl;omega),U,W]
     exact b
    ·rw[J]
     exact⟨by simp [Tr.lits],.inl ⟨rfl,rfl⟩⟩
   clear a b;go_wp2_with fail;go_loopw [39] (fun v X=>∃(q:Nat) (f n r:Option Addr) (y z B:Nat),v= .int .i64 (q:Int)∧q≤K.ps.length∧yQ X w.heap.size (w.heap.size+1) { K with ps:=K.ps.take q } f n r y z B∧Below w.heap.size w X) (fun v _=>K.ps.length - (intOf v).toNat)
   case atStart=>exact⟨0,none,An,none,0,cn,0,rfl,oo,V,I⟩
   case round=>
    obtain⟨q,f,n,r,y,z,B,rfl,hq,c,C⟩:=hrel;clear V;by_cases t:q<K.ps.length
    ·have b8:(q:Int)<K.ps.length:=oo
     obtain⟨g,e9,hA,hg,Y,Z⟩:=iK (HS.out wr C) q t;obtain⟨b',c0,c1⟩:=hk.pairs q t;have c2:(K.ps.take q).length=q:=(by rw[List.length_take];omega);have a0:Hid (({ ({ K with ps:=K.ps.take q } :Kn) with ps:=({ K with ps:=K.ps.take q } :Kn).ps++[(K.ps[q].1,K.ps[q].2)] } :Kn)= { K with ps:=K.ps.take (q+1) }):=by
      show _=_;have:K.ps.take (q+1)=K.ps.take q++[K.ps[q]]:=List.take_succ_eq_append_getElem t;rw[this]
     have c3:({ K with ps:=K.ps.take q } :Kn).fine:=⟨L,kD hk.pairs _,by show(K.ps.take q).length≤1020;omega⟩;have cL:Hid (∀w',yQ w' w.heap.size (w.heap.size+1) { K with ps:=K.ps.take q } f n r y z B→Calls prog 183 #[.pointer (some ⟨w.heap.size+1,0,none⟩),.agg #[.int .i64 K.ps[q].1,.int .i64 K.ps[q].2]] w' (l7 w.heap.size (w.heap.size+1) { K with ps:=K.ps.take (q+1) } (tJ (w.heap.size+1) f n r) w')):=fun w' h=>by
      have:=YP K.ps[q].1 K.ps[q].2 w' h c3 (by show(K.ps.take q).length<1020;omega) (by show codeOk K.cl (K.ps.take q).length _;rw[c2];exact b') c0 c1;rw[a0.out] at this;exact this
     generalize K.ps[q]=pr at*;obtain⟨p1,p2⟩:=pr;simp only at Y Z cL;subst hA;clear a0;go_wp2_with fail;refine(cL.out _ (c.alloc _)).mono ?_;rintro e w6 ⟨rfl,⟨A6,c8,c9,c',d0,d1,d2,f1⟩,g6⟩;have d4:=(C.alloc (by have:=c.box.lt;omega) (.cells #[p1,p2] 173)).trans (g6.below (by have:=c.box.lt;simp;omega));clear c C Y Z;go_wp2;go_roundw
     case rel=>exact⟨q+1,A6,c8,c9,c',d0,d1,by go_num,oo,d2,d4⟩
     case measure=>simp [intOf];omega
    ·have b8:¬(q:Int)<K.ps.length:=oo
     have d5:q=K.ps.length:=oo;rw[d5,List.take_length] at c;go_wp2;go_ret;exact⟨w.heap.size+1,f,n,r,y,z,B,rfl,c,C⟩
theorem oH (K:Kn)(A:Option Addr)(cap:Nat)(w:World)(Q:K.ps.length≤100000)(r:Sl w A K.ps.length cap 2 (psV K.ps)):
 Calls prog 164 #[knV K A cap] w (qU K w):=by
 obtain⟨i,s,t,u,x⟩:=info_parts ny;have y:0+K.ps.length≤maxLen:=(by unfold maxLen;omega);have z:(0+K.ps.length)*16≤140737488355328:=oo;go_enter func164,ntmps164;have e:Bk ((w.alloc (.cells (knC K A cap) 94)).alloc (.cells knZ 94)) w.heap.size 94 (knC K A cap):=tBk;have h:Bk ((w.alloc (.cells (knC K A cap) 94)).alloc (.cells knZ 94)) (w.heap.size+1) 94 knZ:=tBk;have j:Below w.heap.size w ((w.alloc (.cells (knC K A cap) 94)).alloc (.cells knZ 94)):=zx;go_upto_region 1 with(fail)
 generalize(w.alloc (.cells (knC K A cap) 94)).alloc (.cells knZ 94)=R at*;have B:=e.cell;have C:=e.free;have S:=h.lt;have m:=r.below j;go_wp2_with(at_builtin;go_must(refine zQ _ rfl _ _ 92 rfl (w.heap.size+2) 173 i _ 2 16 underlying92 s t u x rfl (by omega) (.slice none 0 0) 0 [] rfl ⟨by simp,.inl ⟨rfl,rfl⟩⟩ A K.ps.length cap (psV K.ps) rfl m (WQ _) y z ?_ ?_));try(case refine_1=>omega)
 intro c d D n f E;have F:∀k:Nat,(Value.slice none 0 0).ownBlock=some k→k≠w.heap.size:=fun k hk=>(by cases hk);have G:∀k:Nat,(Value.slice none 0 0).ownBlock=some k→k≠w.heap.size+1:=fun k hk=>(by cases hk);have g:=e.grown f F;have o:=h.grown f G;have q:=j.grown f oo (fun k hk=>by cases hk);have H:=g.cell;have I:=g.free;clear B C f E e h j m;have J:=g.set 3 (.slice c K.ps.length d);have l:=o.far (p:=⟨w.heap.size,3,none⟩) (by show w.heap.size+1≠w.heap.size;omega) (.slice c K.ps.length d);have L:=ownsRow_setCell_below n (a:=⟨w.heap.size,3,none⟩) (by show w.heap.size<w.heap.size+2;omega) (.slice c K.ps.length d);have M:=q.setCell (p:=⟨w.heap.size,3,none⟩) (Nat.le_refl _) (.slice c K.ps.length d);go_upto_region 2 with(fail)
 generalize D.setCell ⟨w.heap.size,3,none⟩ (.slice c K.ps.length d)=T at*;clear H I g o q n;have U:=J.cell;have V:=l.free;have W:=l.cell;go_wp2;have N:=(wP l K c d).cell;have O:=yt M (b:=w.heap.size+1) oo K c d;have P:=zF (B':=w.heap.size) (yB L (b:=w.heap.size+1) oo K c d) oo;try simp only[Exit.inBlock,Exit.then]
 refine bodyPost_ret (v:=knV K c d) (by simp [results,results164,go_sem,N]) rfl ?_;exact⟨c,d,rfl,P,O⟩
def Ls (K:Kn)(w:World)(e:Ending)(w':World):Prop:=∃A cap x,e= .returned (.tuple #[knV K A cap,x])∧w'.ownsRow w.heap.size 173 2 (.slice A K.ps.length cap) K.ps.length (psV K.ps)∧Below w.heap.size w w'
theorem Rk (K:Kn)(A:Option Addr)(cap:Nat)(d:Bs)(w:World)(hk:K.ok)(Q:Sl w A K.ps.length cap 2 (psV K.ps))(hl:d.length≤100000)(hf:d.all (vU K.l)=true):
 Calls prog 131 #[knV K A cap,sv d] w (Ls (K.learn d) w):=by
 have a':=K.y8 hk;have b0:Hid (K.learn d=(wG d.length K.cleared (d.drop 0)).rest):=rfl;have d5:=hk.st;have cN:=fun w Q=>bn K A cap w hk Q;have CN:=hid cN;have i2:Hid (K.cl=pow2 K.l):=rfl;have CF:Hid (∀B b Y An Ap c2 cn cp w',yQ w' B b K Y An Ap c2 cn cp→Calls prog 161 #[.pointer (some ⟨b,0,none⟩),.int .i64 (pow2 K.l)] w' (l7 B b K.cleared (tJ b Y An Ap) w')):=fun B b Y An Ap c2 cn cp w' h=>mi w' h hk;have d8:=Q;clear cN d8;have b3:K.cleared.l=K.l:=rfl;generalize b4:K.learn d=G at*;have i3:=hid b4;clear b4 hk;generalize K.cleared=K0 at*;have d':=hid b3;clear b3;go_enter func131,ntmps131;have Z:Bk ((w.alloc (.cells (knC K A cap) 94)).alloc (.cells knZ 94)) w.heap.size 94 (knC K A cap):=tBk;have a0:Bk ((w.alloc (.cells (knC K A cap) 94)).alloc (.cells knZ 94)) (w.heap.size+1) 94 knZ:=tBk;have g0:Below w.heap.size w ((w.alloc (.cells (knC K A cap) 94)).alloc (.cells knZ 94)):=zx;go_upto_region 1 with(fail)
 generalize(w.alloc (.cells (knC K A cap) 94)).alloc (.cells knZ 94)=R at*;have e0:=Z.cell;have i4:=a0.lt;have b5:=Q.below g0;go_wp2_with fail;refine(CN.out _ b5).mono ?_;rintro e w1 ⟨b,A1,i7,i8,i9,i',j0,rfl,b6,t⟩;have j1:=t.size;have a2:=Z.below t oo;have b7:=a0.below t oo;have g1:=g0.trans (t.mono oo);clear t Z a0 g0 e0 b5;have e1:=a2.cell;go_wp2_with fail;refine(yY _ _ _ _ d5).mono ?_;rintro e w2 ⟨rfl,q⟩;have a3:=b6.keep q;have b9:=a2.below q oo;have b':=b7.below q oo;have g2:=g1.trans (q.mono oo);have j3:=q.size;clear q a2 b7 g1 e1 b6;have j4:=a3.bB;go_wp2_with fail;refine(CF.out _ _ _ _ _ _ _ _ _ a3).mono ?_;rintro e w3 ⟨rfl,⟨A3,e3,e4,e5,e6,e7,c1,e8⟩,g3⟩;have u:=g3.below oo;have j6:=u.size;have e9:=b9.below u oo;have c4:=b'.below u oo;have g4:=g2.trans (u.mono oo);clear u b9 b' g2 a3 g3 e8;go_wp2_with fail;go_loopw [7,8] (fun e' v wr=>∃(c n:Nat) (x:Int) (a:Kn) (k y z:Option Addr) (r S T:Nat),e'= .int .i64 x∧v= .int .i64 (c:Int)∧c≤d.length∧d.length≤c+n∧a.ok∧Hid (a.l=K.l)∧Hid (G=(wG n a (d.drop c)).rest)∧
  yQ wr R.heap.size b a k y z r S T∧Bk wr (w.heap.size+1) 94 knZ∧Below w.heap.size w wr) (fun _ v _=>d.length - (intOf v).toNat)
 case atStart=>exact⟨0,d.length,0,K0,A3,e3,e4,e5,e6,e7,rfl,rfl,oo,oo,a',d'.out,b0,c1,c4,g4⟩
 case round=>
  obtain⟨c,n,x,a,k,y,z,r,S,T,rfl,rfl,j7,j8,o,HL,U,s,C,V⟩:=hrel;clear c1 e9 c4 g4 b0 a';have hX:=s.box.cell;have j9:=s.box.lt;have j':=o.st;have c8:=C.lt;by_cases k0:c<d.length
  ·have f0:(c:Int)<d.length:=oo
   have D:d.drop c≠[]:=fun h=>(by have:=congrArg List.length h;simp at this;omega);have a4:(d.drop c).all (vU a.l)=true:=(by rw[HL.out];exact rU _ _ _ hf);have a5:(d.drop c).length=d.length - c:=(by simp);obtain⟨m,rfl⟩:∃m,n=m+1:=⟨n - 1,oo⟩;have E:=a.tC o D a4;obtain⟨E,_,k1⟩:=E;have f1:=(a.yI (d.drop c)).2;have k2:=a.xq D;have f2:=a.vW o E;have HN:Hid (G=(wG m (a.after (a.find (a.longest (d.drop c)))) (d.drop (c+(a.longest (d.drop c)).length))).rest):=by
    show _=_;rw[U.out,ZA m a _ D,List.drop_drop]
   have f4:Hid ((a.after (a.find (a.longest (d.drop c)))).l=K.l):=HL.out;have cG:=hid (fun w=>uu a k r w o);have cL:Hid (∀w',yQ w' R.heap.size b a k y z r S T→Calls prog 163 #[.pointer (some ⟨b,0,none⟩),sv (d.drop c)] w' fun e f6=>e= .returned (.tuple #[.int .i64 (a.find (a.longest (d.drop c))),ivn (a.longest (d.drop c)).length])∧Below w'.heap.size w' f6):=fun w' h=>lW _ w' h o D oo a4;have cF:Hid (∀w',yQ w' R.heap.size b a k y z r S T→Calls prog 161 #[.pointer (some ⟨b,0,none⟩),.int .i64 (a.find (a.longest (d.drop c)))] w' (l7 R.heap.size b (a.after (a.find (a.longest (d.drop c)))) (tJ b k y z) w')):=fun w' h=>lS _ w' h o E;clear U E D a4;generalize a.after (a.find (a.longest (d.drop c)))=K1 at*;generalize a.find (a.longest (d.drop c))=k3 at*;generalize(a.longest (d.drop c)).length=L at*;have k4:=hid a5;rw[a5] at f1;clear a5;go_wp2_with fail;refine(cG.out _).mono ?_;rintro e f ⟨rfl,g⟩;have a6:=s.keep g;have F:=C.below g c8;have H:=V.trans (g.mono oo);have f9:=g.size;clear hX g s C V cG
   cases hgr:a.gr
   all_goals
    go_wp2_with fail;refine(cL.out _ a6).mono ?_;rintro e w6 ⟨rfl,I⟩;have c':=a6.keep I;have J:=F.below I oo;have M:=H.trans (I.mono oo);have k6:=I.size;clear I a6 F H hgr;go_wp2_with fail;refine(cF.out _ c').mono ?_;rintro e w7 ⟨rfl,⟨A7,g5,g6,g7,g8,g9,g',h0⟩,W⟩;have a7:=W.below oo;have N:=J.below a7 oo;have X:=M.trans (a7.mono oo);clear a7 c' J M W h0;go_wp2;go_roundw
    case rel=>exact⟨c+L,m,_,K1,A7,g5,g6,g7,g8,g9,rfl,by go_num,oo,oo,f2,f4,HN,g',N,X⟩
    case measure=>simp [intOf];omega
  ·have f0:¬(c:Int)<d.length:=oo
   have h1:c=d.length:=oo;have HE:Hid (G=a.rest):=by
    show _=_;rw[U.out,h1,List.drop_length,bH]
   clear U;have h2:a.ps.length≤100000:=(by have:=o.fine.len;omega);go_wp2_with fail;refine(oH a k r _ h2 (Sl.own s.prs)).mono ?_;rintro e f ⟨i,j,rfl,o5,g⟩;have f9:=g.size;have F:=(C.below g c8).alloc (.cells (knC a i j) 94);have O:=Bk.new f (knC a i j) 94;have o6:=o5.alloc (.cells (knC a i j) 94);have H:=(V.trans (g.mono oo)).alloc oo (.cells (knC a i j) 94);have k8:f.heap.size≠w.heap.size+1:=oo;clear hX s C V g o5;go_upto_region 12 with(fail)
   generalize f.alloc (.cells (knC a i j) 94)=h3 at*;have h4:=O.cell;have h5:=O.free;have P:=O.set 4 (.int .i64 (a.ps.length:Int));have J:=F.far (p:=⟨f.heap.size,4,none⟩) (by show w.heap.size+1≠f.heap.size;omega) (.int .i64 (a.ps.length:Int));have o7:=zI o6 (p:=⟨f.heap.size,4,none⟩) (own_ne o6 O (by decide)) (.int .i64 (a.ps.length:Int));have M:=H.setCell (p:=⟨f.heap.size,4,none⟩) (by show w.heap.size≤f.heap.size;omega) (.int .i64 (a.ps.length:Int));go_upto_region 13 with(fail)
   generalize h3.setCell ⟨f.heap.size,4,none⟩ (.int .i64 (a.ps.length:Int))=W2 at*;clear h4 h5 O F o6 H;have h7:=P.cell;have h8:=P.free;have h9:=P.set 5 (.int .i64 (-1));have N:=J.far (p:=⟨f.heap.size,5,none⟩) (by show w.heap.size+1≠f.heap.size;omega) (.int .i64 (-1));have o8:=zI o7 (p:=⟨f.heap.size,5,none⟩) (own_ne o7 P (by decide)) (.int .i64 (-1));have W:=M.setCell (p:=⟨f.heap.size,5,none⟩) (by show w.heap.size≤f.heap.size;omega) (.int .i64 (-1));go_upto_region 14 with(fail)
   generalize W2.setCell ⟨f.heap.size,5,none⟩ (.int .i64 (-1))=W3 at*;clear h7 h8 P J o7 M;have k':=h9.cell;have l0:=N.free;have l1:=N.cell;go_wp2;have hQ:=(wP N a.rest i j).cell;have X:=yt W (b:=w.heap.size+1) oo a.rest i j;have o9:=zF (B':=w.heap.size) (yB o8 (b:=w.heap.size+1) oo a.rest i j) oo;simp only[Kn.rest] at hQ X o9;have hG:=HE.out;clear HE;subst hG;try simp only[Exit.inBlock,Exit.then]
   refine bodyPost_ret (v:=.tuple #[knV a.rest i j,x]) (by simp [results,results131,go_sem,hQ,Kn.rest]) rfl ?_;exact⟨i,j,x,rfl,o9,X⟩
theorem bu (o l m c:Int)(n:Nat)(w:World)(g:wM o l m)(A:n≤100000):
 Calls prog 158 #[.agg #[o,l,m],(n:Int),c] w fun e w'=>e= .returned (.bool (decide (codeOk (pow2 l) n c)))∧Below w.heap.size w w':=by
 obtain⟨h0,h1,h2,B⟩:=g.lm;have t:=yZ l h0 h1;obtain⟨C,E⟩:=t;have d:Hid (∀b:Bool,(b=true↔codeOk (pow2 l) n c)→b=decide (codeOk (pow2 l) n c)):=fun b h=>by
  rw[Bool.eq_iff_iff,h,decide_eq_true_eq]
 generalize u:decide (codeOk (pow2 l) n c)=D at*;clear u;by_cases v:0≤c
 ·go_enter func158,ntmps158
  go_wp2_with fail;refine(xW _ _ _ _ g).mono ?_;rintro e f ⟨rfl,a⟩;have p:=a.size;simp only[World.size_alloc] at p;have q:=zO (yw _ _ _) a (by simp);have r:w.heap.size<f.heap.size:=oo;have i:Below w.heap.size w f:=((Below.refl _ _).alloc (Nat.le_refl _) _).trans (a.mono (by simp));clear a;go_wp2_with fail;refine(yY _ _ _ _ g).mono ?_;rintro e s ⟨rfl,j⟩;have F:=j.size;have G:=zO q j r;have H:w.heap.size<s.heap.size:=oo;have k:Below w.heap.size w s:=i.trans (j.mono oo);clear j q r i;by_cases I:c<pow2 l
  ·go_wp2
   go_ret;exact⟨zT (d.out _ (by simp [codeOk];omega)),k⟩
  ·by_cases x:pow2 l+1<c
   ·by_cases y:c≤pow2 l+1+n
    ·go_wp2
     go_ret;exact⟨zT (d.out _ (by simp [codeOk];omega)),k⟩
    ·have J:decide (c≤pow2 l+1+n)=false:=decide_eq_false y
     go_wp2;go_ret;exact⟨zT (d.out _ (by simp [codeOk];omega)),k⟩
   ·have z:decide (pow2 l+1<c)=false:=decide_eq_false x
    go_wp2;go_ret;exact⟨zT (d.out _ (by simp [codeOk];omega)),k⟩
 ·have K:decide (0≤c)=false:=decide_eq_false v
  go_enter func158,ntmps158;go_wp2_with fail;refine(xW _ _ _ _ g).mono ?_;rintro e f ⟨rfl,a⟩;have p:=a.size;simp only[World.size_alloc] at p;have q:=zO (yw _ _ _) a (by simp);have r:w.heap.size<f.heap.size:=oo;have i:Below w.heap.size w f:=((Below.refl _ _).alloc (Nat.le_refl _) _).trans (a.mono (by simp));clear a;have z:decide (pow2 l+1<c)=false:=decide_eq_false oo;go_wp2;go_ret;exact⟨zT (d.out _ (by simp [codeOk];omega)),i⟩
theorem wY (K:Kn)(A:Option Addr)(cap:Nat)(w:World)(hk:K.ok)(s:Sl w A K.ps.length cap 2 (psV K.ps)):
 Calls prog 130 #[knV K A cap] w fun e w'=>e= .returned (.bool true)∧Below w.heap.size w w':=by
 have d:=hk.st;have hb:=hk.bd;have R:=hk.len;have b2:=hk.base0;have b3:=hk.base1;unfold Kn.cl Kn.top at R;have S:K.ps.length≤100000:=oo;have T:=hk.lm;obtain⟨U,V,W,X⟩:=T;have b4:=yZ K.l U V;have b5:=yZ K.m W X;have J:Hid (∀w,Calls prog 59 #[.agg #[K.o,K.l,K.m]] w fun e w'=>e= .returned (.bool true)∧Below w.heap.size w w'):=fun w=>(xK _ _ _ w).mono fun e w' ⟨h1,h2⟩=>⟨by rw[h1,decide_eq_true hk.st],h2⟩;have Y:Hid (∀(i:Nat) (f:i<K.ps.length) w,Calls prog 158 #[.agg #[K.o,K.l,K.m],(i:Int),.int .i64 K.ps[i].1] w fun e w'=>e= .returned (.bool true)∧Below w.heap.size w w'):=fun i f w=>(bu _ _ _ _ i w d (by omega)).mono fun e w' ⟨h1,h2⟩=>⟨by rw[h1,decide_eq_true (show codeOk (pow2 K.l) i K.ps[i].1 from(hk.pairs i f).1)],h2⟩;have Z:Hid (∀(i:Nat) (f:i<K.ps.length),0≤K.ps[i].2∧K.ps[i].2<K.cl):=fun i f=>(hk.pairs i f).2;have t:=hk.last;have b6:=s.1;have b7:=s.2.1;have HS:Hid (∀wr,Below w.heap.size w wr→Sl wr A K.ps.length cap 2 (psV K.ps)):=fun wr h=>s.below h;clear s;go_enter func130,ntmps130;go_wp2_with fail;have u:Bk ((w.alloc (.cells (knC K A cap) 94)).alloc (.cells #[K.o,K.l,K.m] 24)) w.heap.size 94 (knC K A cap):=tBk;have j:Bk ((w.alloc (.cells (knC K A cap) 94)).alloc (.cells #[K.o,K.l,K.m] 24)) (w.heap.size+1) 24 #[K.o,K.l,K.m]:=tBk;have L:Below w.heap.size w ((w.alloc (.cells (knC K A cap) 94)).alloc (.cells #[K.o,K.l,K.m] 24)):=zx;generalize(w.alloc (.cells (knC K A cap) 94)).alloc (.cells #[K.o,K.l,K.m] 24)=w0 at*;have B:=zJ u.cell u.lt;have C:=zJ j.cell j.lt;have b9:=j.lt;have b':decide (pow2 K.m - 1 - (pow2 K.l+1)<(K.ps.length:Int))=false:=(by simp;omega);refine wp_region_quiet_below kr kr ?_;repeat(go_big_quiet_step ((first|(go_at_call 59;exact Calls.regrown_of (J.out _))|(go_at_call 156;exact Calls.regrown_of (tZ _ _ _ _ d))|(go_at_call 157;exact Calls.regrown_of (xW _ _ _ _ d)))))
 refine wpQuiet_nil ?_;intro w2 n;have p:Below _ _ w2:=zh n;clear n;have c0:=p.size;have D:=u.below p oo;have M:=j.below p oo;have N:=L.trans (p.mono oo);clear B C u j L p J;have a2:=D.cell;go_wp2;go_loopw [25] (fun i wr=>∃k:Nat,i= .int .i64 (k:Int)∧k≤K.ps.length∧Bk wr w.heap.size 94 (knC K A cap)∧Bk wr (w.heap.size+1) 24 #[K.o,K.l,K.m]∧Below w.heap.size w wr) (fun i _=>K.ps.length - (intOf i).toNat)
 case atStart=>exact⟨0,rfl,oo,D,M,N⟩
 case round=>
  obtain⟨k,rfl,c1,E,v,q⟩:=hrel;clear D M N a2;have c2:=v.lt;have hX:=E.cell;have hY:=v.cell;by_cases F:k<K.ps.length
  ·have a5:(k:Int)<K.ps.length:=oo
   obtain⟨g,c3,rfl,hg,h1,h2⟩:=iK (HS.out wr q) k F;have G:=Y.out k F;have H:=Z.out k F;unfold Kn.cl at H;generalize K.ps[k]=pr at*;obtain⟨c,a⟩:=pr;simp only at h1 h2 G H;obtain⟨c5,c6⟩:=H;have c7:decide (a<0)=false:=(by simp;omega);have c8:decide (pow2 K.l≤a)=false:=(by simp;omega);have x:=E.alloc (.cells #[c,a] 173);have y:=v.alloc (.cells #[c,a] 173);have I:=Bk.new wr #[c,a] 173;have z:=q.alloc oo (.cells #[c,a] 173);have c9:wr.heap.size<(wr.alloc (.cells #[c,a] 173)).heap.size:=(by simp);go_upto_region 7 with(fail)
   generalize wr.alloc (.cells #[c,a] 173)=c' at*;clear hX hY E v q h1 h2;have B:=zJ x.cell x.lt;have C:=zJ y.cell y.lt;have a7:=zJ I.cell I.lt;refine wp_region_quiet_below kr kr ?_;repeat(go_big_quiet_step ((first|(go_at_call 158;exact Calls.regrown_of (G _))|(go_at_call 159;exact Calls.regrown_of (yY _ _ _ _ d)))))
   refine wpQuiet_nil ?_;intro O n;have b:Below _ _ O:=zh n;clear n;have d0:=b.size;have a8:=x.below b oo;have a9:=y.below b oo;have g5:=z.trans (b.mono oo);clear B C a7 x y z b G I;go_wp2;go_roundw
   case rel=>exact⟨k+1,by go_num,oo,a8,a9,g5⟩
   case measure=>simp [intOf];omega
  ·have a5:¬(k:Int)<K.ps.length:=oo
   have d1:decide (K.base<0)=false:=(by simp;omega);have d2:decide ((K.ps.length:Int)<K.base)=false:=(by simp;omega);by_cases r:K.last= -1
   ·have b0:(K.last==(-1:Int))=true:=by simpa using r
    have P:K.base=K.ps.length:=by
     rcases t with h|h
     ·exact h.2
     ·unfold codeOk at h;omega
    have d3:(K.base==(K.ps.length:Int))=true:=(by simpa using P);clear t r P;go_wp2;go_ret;exact⟨rfl,q⟩
   ·have b0:(K.last==(-1:Int))=false:=by simpa using r
    have Q:codeOk (pow2 K.l) K.ps.length K.last:=t.elim (fun h=>absurd h.1 r) id;have hd:decide (codeOk (pow2 K.l) K.ps.length K.last)=true:=decide_eq_true Q;clear t r Q;go_wp2_with fail;refine(bu _ _ _ _ _ _ d S).mono ?_;rintro e O ⟨rfl,b⟩;have z:=q.trans (b.mono oo);go_wp2;go_ret;exact⟨rfl,z⟩
theorem ZR (o l m:Int)(w:World)(j:wM o l m):
 Calls prog 91 #[.agg #[o,l,m]] w fun e w'=>e= .returned (.tuple #[knV (vZ o l m) none 0,.bool true])∧Below w.heap.size w w':=by
 have p:decide (wM o l m)=true:=decide_eq_true j;go_enter func91,ntmps91;go_wp2_with fail;refine(xK _ _ _ _).mono ?_;rintro e q ⟨rfl,a⟩;have f:Bk ((w.alloc (.cells #[o,l,m] 24)).alloc (.cells knZ 94)) w.heap.size 24 #[o,l,m]:=tBk;have c:Bk ((w.alloc (.cells #[o,l,m] 24)).alloc (.cells knZ 94)) (w.heap.size+1) 94 knZ:=tBk;have g:Below w.heap.size w ((w.alloc (.cells #[o,l,m] 24)).alloc (.cells knZ 94)):=zx;generalize(w.alloc (.cells #[o,l,m] 24)).alloc (.cells knZ 94)=r at*;have s:=c.lt;have k:=f.below a oo;have d:=c.below a oo;have n:=g.trans (a.mono oo);have t:=k.cell;have u:=d.free;have x:=d.cell;clear f c g a;go_wp2;have h:=(wP d (vZ o l m) none 0).cell;have i:=yt n (b:=w.heap.size+1) oo (vZ o l m) none 0;simp only[vZ,List.length_nil] at h i;exact bodyPost_ret (v:=.tuple #[knV (vZ o l m) none 0,.bool true]) (by simp [results,results91,go_sem,h,vZ]) rfl ⟨rfl,i⟩
abbrev bQ :Value:=.agg #[.int .i64 0,.int .i64 0,.int .i64 0,.slice none 0 0,.int .i64 0,.int .i64 0]
theorem PK (o l m:Int)(w:World)(i:¬wM o l m):
 Calls prog 91 #[.agg #[o,l,m]] w fun e w'=>e= .returned (.tuple #[bQ,.bool false])∧Below w.heap.size w w':=by
 have k:decide (wM o l m)=false:=decide_eq_false i;go_enter func91,ntmps91;go_wp2_with fail;refine(xK _ _ _ _).mono ?_;rintro e n ⟨rfl,a⟩;have c:Bk ((w.alloc (.cells #[o,l,m] 24)).alloc (.cells knZ 94)) (w.heap.size+1) 94 knZ:=tBk;have f:Below w.heap.size w ((w.alloc (.cells #[o,l,m] 24)).alloc (.cells knZ 94)):=zx;generalize(w.alloc (.cells #[o,l,m] 24)).alloc (.cells knZ 94)=p at*;have q:=c.lt;have d:=c.below a oo;have j:=f.trans (a.mono oo);have r:=d.free;have s:=d.cell;clear c f a;go_wp2;have g:=(wP d ⟨0,0,0,[],0,0⟩ none 0).cell;have h:=yt j (b:=w.heap.size+1) oo ⟨0,0,0,[],0,0⟩ none 0;simp only[List.length_nil] at g h;exact bodyPost_ret (v:=.tuple #[bQ,.bool false]) (by simp [results,results91,go_sem,g]) rfl ⟨rfl,h⟩
theorem bM (K:Kn)(A:Option Addr)(cap:Nat)(d:Bs)(w:World)(hk:K.ok)(n:Sl w A K.ps.length cap 2 (psV K.ps))(j:fits K.o K.l K.m d):
 Calls prog 92 #[knV K A cap,d] w (lU (K.learn d) w):=by
 have O:decide (fits K.o K.l K.m d)=true:=decide_eq_true j;have P:d.length≤2000:=j.2.1;have F:Hid (∀wr,Below w.heap.size w wr→Calls prog 130 #[knV K A cap] wr fun e w'=>e= .returned (.bool true)∧Below wr.heap.size wr w'):=fun wr h=>wY K A cap wr hk (n.below h);have G:Hid (∀wr,Below w.heap.size w wr→Calls prog 131 #[knV K A cap,d] wr (Ls (K.learn d) wr)):=fun wr h=>Rk K A cap d wr hk (n.below h) oo j.2.2;clear n j;generalize K.learn d=f at*;go_enter func92,ntmps92;go_wp2_with fail;have x:Bk ((w.alloc (.cells (knC K A cap) 94)).alloc (.cells knZ 94)) w.heap.size 94 (knC K A cap):=tBk;have p:Bk ((w.alloc (.cells (knC K A cap) 94)).alloc (.cells knZ 94)) (w.heap.size+1) 94 knZ:=tBk;have q:Below w.heap.size w ((w.alloc (.cells (knC K A cap) 94)).alloc (.cells knZ 94)):=zx;generalize(w.alloc (.cells (knC K A cap) 94)).alloc (.cells knZ 94)=Q at*;refine(F.out _ q).mono ?_;rintro e R ⟨rfl,g⟩;have S:=p.lt;have T:=g.size;have r:=x.below g oo;have y:=p.below g oo;have z:=q.trans (g.mono oo);have s:=r.cell;clear x p q g;go_wp2_with fail;refine(tH _ _ _ _ _ oo).mono ?_;rintro e U ⟨rfl,i⟩;have V:=i.size;have B:=r.below i oo;have C:=y.below i oo;have t:=z.trans (i.mono oo);clear s;have s:=B.cell;clear r y z i;go_wp2_with fail;refine(G.out _ t).mono ?_;rintro e D ⟨a,c,X,rfl,E,k⟩;have Y:=k.size;have u:=(C.below k oo).alloc (.cells (knC f a c) 94);have H:=Bk.new D (knC f a c) 94;have I:=E.alloc (.cells (knC f a c) 94);have J:=(t.trans (k.mono oo)).alloc oo (.cells (knC f a c) 94);clear B C t k s E;go_upto_region 4 with(fail)
 generalize D.alloc (.cells (knC f a c) 94)=W at*;have Z:=H.cell;have hF:=u.free;have hY:=u.cell;go_wp2;have L:=(wP u f a c).cell;have M:=yt J (b:=w.heap.size+1) oo f a c;have N:=zF (B':=w.heap.size) (yB I (b:=w.heap.size+1) oo f a c) oo;exact bodyPost_ret (v:=.tuple #[knV f a c,.bool true]) (by simp [results,results92,go_sem,L]) rfl ⟨a,c,rfl,N,M⟩
theorem ZC (K:Kn)(A:Option Addr)(cap:Nat)(d:Bs)(w:World)(hk:K.ok)(j:Sl w A K.ps.length cap 2 (psV K.ps))(k:¬fits K.o K.l K.m d)(u:d.length≤9223372036854775807):
 Calls prog 92 #[knV K A cap,d] w fun e w'=>e= .returned (.tuple #[bQ,.bool false])∧Below w.heap.size w w':=by
 have B:decide (fits K.o K.l K.m d)=false:=decide_eq_false k;have x:Hid (∀wr,Below w.heap.size w wr→Calls prog 130 #[knV K A cap] wr fun e w'=>e= .returned (.bool true)∧Below wr.heap.size wr w'):=fun wr h=>wY K A cap wr hk (j.below h);clear j k;go_enter func92,ntmps92;go_wp2_with fail;have n:Bk ((w.alloc (.cells (knC K A cap) 94)).alloc (.cells knZ 94)) w.heap.size 94 (knC K A cap):=tBk;have f:Bk ((w.alloc (.cells (knC K A cap) 94)).alloc (.cells knZ 94)) (w.heap.size+1) 94 knZ:=tBk;have g:Below w.heap.size w ((w.alloc (.cells (knC K A cap) 94)).alloc (.cells knZ 94)):=zx;generalize(w.alloc (.cells (knC K A cap) 94)).alloc (.cells knZ 94)=C at*;refine(x.out _ g).mono ?_;rintro e D ⟨rfl,a⟩;have E:=f.lt;have F:=a.size;have p:=n.below a oo;have q:=f.below a oo;have r:=g.trans (a.mono oo);have y:=p.cell;clear n f g a;go_wp2_with fail;refine(tH _ _ _ _ _ u).mono ?_;rintro e G ⟨rfl,c⟩;have H:=c.size;have i:=q.below c oo;have z:=r.trans (c.mono oo);have I:=i.free;have J:=i.cell;clear y p q r c;go_wp2;have s:=(wP i ⟨0,0,0,[],0,0⟩ none 0).cell;have t:=yt z (b:=w.heap.size+1) oo ⟨0,0,0,[],0,0⟩ none 0;simp only[List.length_nil] at s t;exact bodyPost_ret (v:=.tuple #[bQ,.bool false]) (by simp [results,results92,go_sem,s]) rfl ⟨rfl,t⟩
theorem qE (o l m:Int)(d:Bs)(w:World)(f:fits o l m d):
 Calls prog 61 #[.agg #[o,l,m],d] w (lU (zy o l m d) w):=by
 have t:Hid (∀w,Calls prog 91 #[.agg #[o,l,m]] w fun e w'=>e= .returned (.tuple #[.agg #[o,l,m,.slice none 0 0,.int .i64 0,.int .i64 (-1)],.bool true])∧Below w.heap.size w w'):=fun w=>ZR o l m w f.1;have u:Hid (∀w,Calls prog 92 #[.agg #[o,l,m,.slice none 0 0,.int .i64 0,.int .i64 (-1)],d] w (lU (zy o l m d) w)):=fun w=>bM (vZ o l m) none 0 d w (kV f.1) (Sl.nil _ _) f;clear f;generalize zy o l m d=g at*;go_enter func61,ntmps61;go_wp2_with fail;have x:Bk ((w.alloc (.cells #[o,l,m] 24)).alloc (.cells knZ 94)) w.heap.size 24 #[o,l,m]:=tBk;have j:Bk ((w.alloc (.cells #[o,l,m] 24)).alloc (.cells knZ 94)) (w.heap.size+1) 94 knZ:=tBk;have p:Below w.heap.size w ((w.alloc (.cells #[o,l,m] 24)).alloc (.cells knZ 94)):=zx;generalize(w.alloc (.cells #[o,l,m] 24)).alloc (.cells knZ 94)=G at*;refine(t.out _).mono ?_;rintro e y ⟨rfl,h⟩;have H:=j.lt;have I:=h.size;have q:=(j.below h oo).alloc (.cells #[o,l,m,.slice none 0 0,.int .i64 0,.int .i64 (-1)] 94);have k:=Bk.new y #[o,l,m,.slice none 0 0,.int .i64 0,.int .i64 (-1)] 94;have r:=(p.trans (h.mono oo)).alloc oo (.cells #[o,l,m,.slice none 0 0,.int .i64 0,.int .i64 (-1)] 94);have z:=k.cell;have s:=k.free;clear x j p h;go_wp2_with fail;refine(u.out _).mono ?_;rintro e J ⟨a,c,rfl,A,i⟩;have B:=i.size;simp only[World.size_alloc] at B;have n:=q.below i (by simp;omega);have C:=r.trans (i.mono (by simp;omega));clear z s;have s:=n.free;have K:=n.cell;clear k q r i;go_wp2;have D:=(wP n g a c).cell;have E:=yt C (b:=w.heap.size+1) oo g a c;have F:=zF (B':=w.heap.size) (yB A (b:=w.heap.size+1) (by simp;omega) g a c) (by simp;omega);exact bodyPost_ret (v:=.tuple #[knV g a c,.bool true]) (by simp [results,results61,go_sem,D]) rfl ⟨a,c,rfl,F,E⟩
theorem jd (o l m:Int)(d:Bs)(w:World)(p:¬fits o l m d)(x:d.length≤9223372036854775807):
 Calls prog 61 #[.agg #[o,l,m],d] w fun e w'=>e= .returned (.tuple #[bQ,.bool false])∧Below w.heap.size w w':=by
 by_cases g:wM o l m
 ·have q:Hid (∀w,Calls prog 91 #[.agg #[o,l,m]] w fun e w'=>e= .returned (.tuple #[.agg #[o,l,m,.slice none 0 0,.int .i64 0,.int .i64 (-1)],.bool true])∧Below w.heap.size w w'):=fun w=>ZR o l m w g
  have y:Hid (∀w,Calls prog 92 #[.agg #[o,l,m,.slice none 0 0,.int .i64 0,.int .i64 (-1)],d] w fun e w'=>e= .returned (.tuple #[bQ,.bool false])∧Below w.heap.size w w'):=fun w=>ZC (vZ o l m) none 0 d w (kV g) (Sl.nil _ _) p x;clear p g;go_enter func61,ntmps61;go_wp2_with fail;have z:Bk ((w.alloc (.cells #[o,l,m] 24)).alloc (.cells knZ 94)) w.heap.size 24 #[o,l,m]:=tBk;have c:Bk ((w.alloc (.cells #[o,l,m] 24)).alloc (.cells knZ 94)) (w.heap.size+1) 94 knZ:=tBk;have h:Below w.heap.size w ((w.alloc (.cells #[o,l,m] 24)).alloc (.cells knZ 94)):=zx;generalize(w.alloc (.cells #[o,l,m] 24)).alloc (.cells knZ 94)=A at*;refine(q.out _).mono ?_;rintro e r ⟨rfl,a⟩;have B:=c.lt;have C:=a.size;have f:=(c.below a oo).alloc (.cells #[o,l,m,.slice none 0 0,.int .i64 0,.int .i64 (-1)] 94);have s:=Bk.new r #[o,l,m,.slice none 0 0,.int .i64 0,.int .i64 (-1)] 94;have k:=(h.trans (a.mono oo)).alloc oo (.cells #[o,l,m,.slice none 0 0,.int .i64 0,.int .i64 (-1)] 94);have D:=s.cell;have t:=s.free;clear z c h a;go_wp2_with fail;refine(y.out _).mono ?_;rintro e H ⟨rfl,n⟩;have E:=n.size;simp only[World.size_alloc] at E;have u:=f.below n (by simp;omega);have F:=k.trans (n.mono (by simp;omega));clear D t;have t:=u.free;have G:=u.cell;clear s f k n;go_wp2;have i:=(wP u ⟨0,0,0,[],0,0⟩ none 0).cell;have j:=yt F (b:=w.heap.size+1) oo ⟨0,0,0,[],0,0⟩ none 0;simp only[List.length_nil] at i j;exact bodyPost_ret (v:=.tuple #[bQ,.bool false]) (by simp [results,results61,go_sem,i]) rfl ⟨rfl,j⟩
 ·have q:Hid (∀w,Calls prog 91 #[.agg #[o,l,m]] w fun e w'=>e= .returned (.tuple #[bQ,.bool false])∧Below w.heap.size w w'):=fun w=>PK o l m w g
  clear p g;go_enter func61,ntmps61;go_wp2_with fail;have c:Bk ((w.alloc (.cells #[o,l,m] 24)).alloc (.cells knZ 94)) (w.heap.size+1) 94 knZ:=tBk;have h:Below w.heap.size w ((w.alloc (.cells #[o,l,m] 24)).alloc (.cells knZ 94)):=zx;generalize(w.alloc (.cells #[o,l,m] 24)).alloc (.cells knZ 94)=A at*;refine(q.out _).mono ?_;rintro e r ⟨rfl,a⟩;have B:=c.lt;have C:=a.size;have f:=(c.below a oo).alloc (.cells knZ 94);have k:=(h.trans (a.mono oo)).alloc oo (.cells knZ 94);clear c h a;go_upto_region 3 with(fail)
  generalize r.alloc (.cells knZ 94)=W at*;have t:=f.free;have G:=f.cell;go_wp2;have i:=(wP f ⟨0,0,0,[],0,0⟩ none 0).cell;have j:=yt k (b:=w.heap.size+1) oo ⟨0,0,0,[],0,0⟩ none 0;simp only[List.length_nil] at i j;exact bodyPost_ret (v:=.tuple #[bQ,.bool false]) (by simp [results,results61,go_sem,i]) rfl ⟨rfl,j⟩
