import Derived.Test.YtoedhpcmgondjaaGreatDoorUGJ2
set_option linter.all false
set_option maxHeartbeats 8000000
namespace Go.Proofs.YtoedhpcmgondjaaGreatDoor
open Go.Lib(hid)
open Go.RowKit Go.Proofs.Tryz
set_option maxRecDepth 100000
attribute [local go_sem high] zA zB zD zS zL yf zC zk zl zt zi zu yR zG yu zH
theorem eH {w w':World}{B:Nat}{e:TypeId}{s n:Nat}{v:Value}{xs:List Value}{row:Option Nat}(h:w.ownsRow B e s v n xs)(a:w.grownBy w' row)(b:∀k,v.ownBlock=some k→row≠some k):w'.ownsRow B e s v n xs:=by
 have c:=h.lt;obtain⟨h1,h2⟩:=h;refine⟨h1,?_⟩;rcases h2 with h2|⟨g,cap,cur,rfl,d,f,rest⟩
 ·exact .inl h2
 ·exact .inr ⟨g,cap,cur,rfl,d,(a.block g (c g rfl).2 (fun i=>b g rfl i.symm)).trans f,rest⟩
theorem yQ.TE {w w':World}{B b:Nat}{K:Kn}{A An Ap:Option Addr}{cap cn cp:Nat}{row:Option Nat}(h:yQ w B b K A An Ap cap cn cp)(a:w.grownBy w' row)(c:∀g,row=some g→¬tJ b A An Ap g):yQ w' B b K A An Ap cap cn cp:=
 ⟨h.bB,h.box.grown a (fun k hk e=>c k hk (.inl e)),eH h.prs a (fun k hk e=>c k e (.inr (.inl (wK hk)))),eH h.nds a (fun k hk e=>c k e (.inr (.inr (.inl (wK hk))))),eH h.nos a (fun k hk e=>c k e (.inr (.inr (.inr (wK hk)))))⟩
theorem yQ.blt {w:World}{B b:Nat}{K:Kn}{A An Ap:Option Addr}{cap cn cp:Nat}(h:yQ w B b K A An Ap cap cn cp):∀g,tJ b A An Ap g→g<w.heap.size:=by
 intro g a;rcases a with rfl|a|a|a
 ·exact h.box.lt
 ·exact(h.prs.lt g (nI h.prs g a)).2
 ·exact(h.nds.lt g (nI h.nds g a)).2
 ·exact(h.nos.lt g (nI h.nos g a)).2
def Apt (C:Option Addr)(b:Nat)(A An Ap:Option Addr):Prop:=∀g,C.map (·.block)=some g→¬tJ b A An Ap g
theorem Apt.next {C:Option Addr}{b:Nat}{A An Ap a c d:Option Addr}{w:World}{B n cap:Nat}{e:TypeId}{xs:List Value}(h:Apt C b A An Ap)(f:w.ownsRow B e 1 (.slice C n cap) n xs)(j:∀g,tJ b a c d g→tJ b A An Ap g∨w.heap.size≤g):Apt C b a c d:=by
 intro g i k;rcases j g k with h1|h1
 ·exact h g i h1
 ·have:=(f.lt g (nI f g i)).2;omega
theorem Apt.app {C d:Option Addr}{b:Nat}{A An Ap:Option Addr}{n m c f z:Nat}(h:Apt C b A An Ap)(l:∀g,tJ b A An Ap g→g<z)(o:Value.ownBlock (.slice d m f)=Value.ownBlock (.slice C n c)∨Value.ownBlock (.slice d m f)=some z):Apt d b A An Ap:=by
 intro g i j;have e:Value.ownBlock (.slice d m f)=some g∨True:=.inr trivial
 cases d with
 |none=>cases i
 |some a=>
  have p:a.block=g:=(by simpa using i);have k:Value.ownBlock (.slice (some a) m f)=some g:=(by rw[←p];rfl);rcases o with h1|h1
  ·rw[k] at h1
   exact h g (wK h1.symm) j
  ·rw[k] at h1
   injection h1 with h1
   have:=l g j;omega
def Np (cs:List Int)(w:World)(e:Ending)(w':World):Prop:=∃A cap,e= .returned (.slice A cs.length cap)∧w'.ownsRow w.heap.size 3 1 (.slice A cs.length cap) cs.length (cs.map iv)∧Below w.heap.size w w'
theorem UL (K:Kn)(A:Option Addr)(cap:Nat)(d:Bs)(w:World)(hk:K.ok)(hs:Sl w A K.ps.length cap 2 (psV K.ps))(hl:d.length≤100000)(hf:d.all (vU K.l)=true):
 Calls prog 202 #[knV K A cap,sv d] w (Np (K.yh d) w):=by
 obtain⟨i,hi,c6,c7,c8⟩:=info_parts tu;have h8:=K.y8 hk;have S:=hk.st;have n6:=hk.bd;have d9:Hid (K.yh d=[pow2 K.l]++(xN d.length K.cleared (d.drop 0)++[pow2 K.l+1])):=(by show _=_;rw[VN hk.base0];rfl);have cN:=fun w=>bn K A cap w hk;have CN:=hid cN;have CF:Hid (∀B b A2 An Ap i0 cn cp w',yQ w' B b K A2 An Ap i0 cn cp→Calls prog 161 #[.pointer (some ⟨b,0,none⟩),.int .i64 (pow2 K.l)] w' (l7 B b K.cleared (tJ b A2 An Ap) w')):=fun B b A2 An Ap i0 cn cp w' h=>mi w' h hk;have i1:K.cleared.l=K.l:=rfl;have n7:Hid (0≤pow2 K.l∧pow2 K.l≤65536):=⟨by have:=yZ K.l (by have:=S.2.1;omega) (by have:=S.2.2.1;omega);omega,(yZ K.l (by have:=S.2.1;omega) (by have:=S.2.2.1;omega)).2⟩;obtain⟨G,hG⟩:∃G,K.yh d=G:=⟨_,rfl⟩;rw[hG];rw[hG] at d9;clear cN hG hk;generalize K.cleared=K0 at*;have k8:=hid i1;clear i1;go_enter func202,ntmps202;have c':Bk (w.alloc (.cells (knC K A cap) 94)) w.heap.size 94 (knC K A cap):=tBk;have g0:Below w.heap.size w (w.alloc (.cells (knC K A cap) 94)):=zx;go_upto_region 1 with(fail)
 generalize w.alloc (.cells (knC K A cap) 94)=w0 at*;have i3:=c'.cell;have i4:=c'.lt;have k9:=zJ i3 i4;go_wp2_with fail;refine wp_region_quiet_below kr kr ?_;repeat(go_big_quiet_step ((first|(go_at_call 159;exact Calls.regrown_of (yY _ _ _ _ S))|(go_at_call 157;exact Calls.regrown_of (xW _ _ _ _ S)))))
 refine wpQuiet_nil ?_;intro w1 i5;have d0:Below _ _ w1:=zh i5;clear i5;have n9:=d0.size;have i6:=c'.below d0 i4;have g1:=g0.trans (d0.mono oo);have i7:=hs.below g1;have k':=i6.cell;clear d0 c' g0 i3 k9 hs;go_wp2_with fail;refine(CN.out _ i7).mono ?_;rintro e w2 ⟨b,A2,o0,o1,o2,o3,o8,rfl,e2,e3⟩;have o9:=e3.size;have g2:=g1.trans (e3.mono oo);have l0:w.heap.size≤w1.heap.size:=oo;generalize w1.heap.size=B at*;clear e3 i6 g1 k' i7 CN;have o':=e2.bB;go_wp2_with fail;refine(CF.out _ _ _ _ _ _ _ _ _ e2).mono ?_;rintro e T ⟨rfl,⟨A3,i',j0,l1,l2,l3,e4,l4⟩,j1⟩;have e5:=j1.below oo;have p0:=e5.size;have j2:=g2.trans (e5.mono oo);clear e5 g2 e2 j1 l4 CF;have j3:=e4.alloc (.cells #[.int .i64 (pow2 K.l)] 3);have o4:(T.alloc (.cells #[.int .i64 (pow2 K.l)] 3)).ownsRow B 3 1 (.slice (some ⟨T.heap.size,0,none⟩) 1 1) 1 [.int .i64 (pow2 K.l)]:=RI T #[.int .i64 (pow2 K.l)] rfl oo (by unfold maxLen;omega);have D4:Apt (some ⟨T.heap.size,0,none⟩) b A3 i' j0:=fun g o ht=>by
  have h1:=e4.blt g ht;simp at o;omega
 have j6:=hid D4;have v:=j2.alloc oo (.cells #[.int .i64 (pow2 K.l)] 3);clear e4 D4 j2;go_upto_region 5 with(fail)
 generalize T.alloc (.cells #[.int .i64 (pow2 K.l)] 3)=p1 at*;go_wp2;go_loopw [1,8] (fun a c wr=>∃(f n:Nat) (k:Kn) (x U V:Option Addr) (d1 e6 e7:Nat) (d2:Option Addr) (cc:Nat) (cs:List Int),a=sv (d.drop f)∧c= .slice d2 cs.length cc∧f≤d.length∧d.length≤f+n∧cs.length≤2*f+1∧k.ok∧Hid (k.l=K.l)∧Hid (G=cs++(xN n k (d.drop f)++[pow2 K.l+1]))∧
  yQ wr B b k x U V d1 e6 e7∧wr.ownsRow B 3 1 (.slice d2 cs.length cc) cs.length (cs.map iv)∧Hid (Apt d2 b x U V)∧Below w.heap.size w wr) (fun a _ _=>V6 a)
 case atStart=>exact⟨0,d.length,K0,A3,i',j0,l1,l2,l3,some ⟨T.heap.size,0,none⟩,1,[pow2 K.l],by simp [sv],rfl,by omega,by omega,by simp,h8,k8.out,d9,j3,o4,j6,v⟩
 case round=>
  obtain⟨f,n,k,x,U,V,d1,e6,e7,d2,cc,cs,rfl,rfl,p2,p3,j7,W,y,X,hT,ho,HD,o⟩:=hrel;clear j3 o4 j6 v d9 h8;have hX:=hT.box.cell;have p4:=hT.box.lt;have p5:=hT.bB;by_cases p6:f<d.length
  ·have r:d.drop f≠[]:=fun h=>by have:=congrArg List.length h;simp at this;omega
   have p7:decide (d.drop f≠[])=true:=(by simpa using r);have p8:decide (d.drop f=[])=false:=(by simpa using r);have d3:(d.drop f).all (vU k.l)=true:=(by rw[y.out];exact rU _ _ _ hf);have Y:(d.drop f).length=d.length - f:=(by simp);obtain⟨m,rfl⟩:∃m,n=m+1:=⟨n - 1,oo⟩;go_wp2_with fail;refine(SK k x d1 _ W).mono ?_;rintro e w5 ⟨rfl,a4⟩;have Z:=hT.keep a4;have o5:=zf ho a4;have v:=o.trans (a4.mono oo);have l8:=a4.size;clear hX a4 hT ho o;have p9:=Z.box.lt;by_cases a6:k.full=true
   ·have a7:decide (k.top<k.nx∧k.base<(k.ps.length:Int))=true:=a6
    rw[a7];have a8:=hid (XA (n:=m) r a6);have u:=k.y8 W;have a9:Hid (k.cleared.l=K.l):=y.out;have CF:Calls prog 161 #[.pointer (some ⟨b,0,none⟩),.int .i64 (pow2 K.l)] w5 (l7 B b k.cleared (tJ b x U V) w5):=by
     have h:=mi w5 Z W;have e:pow2 k.l=pow2 K.l:=(by rw[y.out]);rw[←e];exact h
    have l':Hid (k.cl=pow2 K.l):=(by show pow2 k.l=_;rw[y.out]);have z:(d.drop f).all (vU k.cleared.l)=true:=d3;clear a7 a6 d3;generalize k.cleared=j at*;go_wp2_with fail;refine CF.mono ?_;rintro e w6 ⟨rfl,⟨A6,j9,j',m1,m2,m3,d4,k0⟩,k6⟩;have f0:=k6.below oo;have p':=f0.size;have o6:=k6.own o5 (fun g o=>.inr (HD.out g (wK o)));have D6:=HD.out.next o5 k0;have k1:=v.trans (f0.mono oo);have q0:=d4.box.lt;clear f0 Z o5 v CF k6 k0;have C:cs.length+1≤maxLen:=(by unfold maxLen;omega);have D:(cs.length+1)*8≤140737488355328:=oo;go_wp2_with(at_builtin;go_must(refine zQ _ rfl _ _ 33 rfl (B) 3 i _ 1 8 underlying33 hi c6 c7 c8 rfl (by omega) _ _ _ rfl (o6.alloc _) _ 1 1 [Value.int .i64 (pow2 K.l)] rfl (Sl.newAt w6 #[Value.int .i64 (pow2 K.l)] _ 1 1 (by first|rfl|simp) (by simp) (by omega)) (by simp [Value.oneCell']) C D ?_ ?_));try(case refine_1=>first|omega|(simp<;>omega;done))
    intro C7 d6 w7 o7 E k2;have f4:=(d4.alloc (.cells #[.int .i64 (pow2 K.l)] 3)).TE E (fun g o=>D6 g (wK o));have D7:=D6.app (fun g o=>Nat.lt_succ_of_lt (d4.blt g o)) k2;have g7:=yz (B:=w.heap.size) k1 E oo (fun q F=>by have:=(o6.lt q F).1;omega);have d8:w7.ownsRow B 3 1 (.slice C7 (cs++[pow2 K.l]).length d6) (cs++[pow2 K.l]).length ((cs++[pow2 K.l]).map iv):=by
     rw[List.length_append,List.map_append];exact o7
    have m4:=ve E;have m5:(cs++[pow2 K.l]).length≤2*f+2:=(by simp;omega);have b0:Hid (G=(cs++[pow2 K.l])++(j.find (j.longest (d.drop f))::xN m (j.after (j.find (j.longest (d.drop f)))) ((d.drop f).drop (j.longest (d.drop f)).length)++[pow2 K.l+1])):=by
     show _=_;rw[X.out,a8.out,l'.out];simp
    have f5:Hid ((cs++[pow2 K.l]).length=cs.length+1):=(by show _=_;simp);clear o6 d4 E k2 k1 D6 o7 X a8 y HD W;rw[←f5.out];generalize cs++[pow2 K.l]=p at*;have f6:=hid D7;clear D7 j7;have s:=j.tC u r z;obtain⟨s,_,m6⟩:=s;have f7:=(j.yI (d.drop f)).2;have m7:=j.xq r;have f8:=j.vW u s;have cL:=lW (d.drop f) _ f4 u r oo z;have cF:Hid (∀w',yQ w' B b j A6 j9 j' m1 m2 m3→Calls prog 161 #[.pointer (some ⟨b,0,none⟩),.int .i64 (j.find (j.longest (d.drop f)))] w' (l7 B b (j.after (j.find (j.longest (d.drop f)))) (tJ b A6 j9 j') w')):=fun w' h=>lS _ w' h u s;have f9:Hid ((j.after (j.find (j.longest (d.drop f)))).l=K.l):=a9.out;clear s r z a9;generalize j.after (j.find (j.longest (d.drop f)))=K2 at*;generalize j.find (j.longest (d.drop f))=c at*;generalize(j.longest (d.drop f)).length=L at*;have f':=hid Y;rw[Y] at f7;clear Y;go_wp2_with fail;refine cL.mono ?_;rintro e w8 ⟨rfl,t⟩;have H:=f4.keep t;have I:=zf d8 t;have g8:=g7.trans (t.mono oo);have m9:=t.size;clear t f4 d8 g7 cL;have m':=H.box.lt;go_wp2_with fail;refine(cF.out _ H).mono ?_;rintro e w9 ⟨rfl,⟨A9,g3,g4,g5,g6,g',J,b5⟩,M⟩;have N:=M.below oo;have n0:=N.size;have O:=M.own I (fun g o=>.inr (f6.out g (wK o)));have P:=f6.out.next I b5;have g9:=g8.trans (N.mono oo);clear N H I g8 cF M b5 f6;have C:p.length+1≤maxLen:=(by unfold maxLen;omega);have D:(p.length+1)*8≤140737488355328:=oo;have n1:(L:Int)≤((d.drop f).length:Int):=(by rw[f'.out];omega);go_wp2_with(at_builtin;go_must(refine zQ _ rfl _ _ 33 rfl (B) 3 i _ 1 8 underlying33 hi c6 c7 c8 rfl (by omega) _ _ _ rfl (O.alloc _) _ 1 1 [Value.int .i64 c] rfl (Sl.newAt w9 #[Value.int .i64 c] _ 1 1 (by first|rfl|simp) (by simp) (by omega)) (by simp [Value.oneCell']) C D ?_ ?_));try(case refine_1=>first|omega|(simp<;>omega;done))
    intro b7 b8 h0 b9 Q b';have c0:=(J.alloc (.cells #[.int .i64 c] 3)).TE Q (fun g o=>P g (wK o));have c1:=P.app (fun g o=>Nat.lt_succ_of_lt (J.blt g o)) b';have c2:=yz (B:=w.heap.size) g9 Q oo (fun q F=>by have:=(O.lt q F).1;omega);have c3:h0.ownsRow B 3 1 (.slice b7 (p++[c]).length b8) (p++[c]).length ((p++[c]).map iv):=by
     rw[List.length_append,List.map_append];exact b9
    have c4:Hid ((p++[c]).length=p.length+1):=(by show _=_;simp);have h2:Hid ((d.drop f).drop L=d.drop (f+L)):=(by show _=_;rw[List.drop_drop]);have h3:Hid (G=(p++[c])++(xN m K2 (d.drop (f+L))++[pow2 K.l+1])):=by
     show _=_;rw[b0.out,←h2.out];simp
    have h4:=hid c1;have R:=hid (And.intro c3 (And.intro c0 c2));clear O J Q b' g9 P b9 b0 c1 c3 c0 c2;go_wp2;go_roundw
    case rel=>exact⟨f+L,m,K2,A9,g3,g4,g5,g6,g',b7,b8,p++[c],by simp [sv],by rw[c4.out],by omega,by omega,by rw[c4.out];omega,f8,f9,h3,R.out.2.1,R.out.1,h4,R.out.2.2⟩
    case measure=>simp [V6];omega
   ·have h5:k.full=false:=by simpa using a6
    have a7:decide (k.top<k.nx∧k.base<(k.ps.length:Int))=false:=h5;rw[a7];have a8:=hid (XQ (n:=m) r h5);have b0:Hid (G=cs++(k.find (k.longest (d.drop f))::xN m (k.after (k.find (k.longest (d.drop f)))) ((d.drop f).drop (k.longest (d.drop f)).length)++[pow2 K.l+1])):=by
     show _=_;rw[X.out,a8.out]
    have u:=W;have a9:=y;have z:=d3;have m5:cs.length≤2*f+2:=oo;have m4:=l8;clear a7 h5 a6 X a8 j7 W y d3;have h6:=HD;have k4:=o5;clear HD o5;generalize k=j at*;generalize cs=p at*;have s:=j.tC u r z;obtain⟨s,_,m6⟩:=s;have f7:=(j.yI (d.drop f)).2;have m7:=j.xq r;have f8:=j.vW u s;have cL:=lW (d.drop f) _ Z u r oo z;have cF:Hid (∀w',yQ w' B b j x U V d1 e6 e7→Calls prog 161 #[.pointer (some ⟨b,0,none⟩),.int .i64 (j.find (j.longest (d.drop f)))] w' (l7 B b (j.after (j.find (j.longest (d.drop f)))) (tJ b x U V) w')):=fun w' h=>lS _ w' h u s;have f9:Hid ((j.after (j.find (j.longest (d.drop f)))).l=K.l):=a9.out;clear s r z a9;generalize j.after (j.find (j.longest (d.drop f)))=K2 at*;generalize j.find (j.longest (d.drop f))=c at*;generalize(j.longest (d.drop f)).length=L at*;have f':=hid Y;rw[Y] at f7;clear Y;go_wp2_with fail;refine cL.mono ?_;rintro e w8 ⟨rfl,t⟩;have H:=Z.keep t;have I:=zf k4 t;have g8:=v.trans (t.mono oo);have m9:=t.size;clear t Z k4 v cL;have m':=H.box.lt;go_wp2_with fail;refine(cF.out _ H).mono ?_;rintro e w9 ⟨rfl,⟨A9,g3,g4,g5,g6,g',J,b5⟩,M⟩;have N:=M.below oo;have n0:=N.size;have O:=M.own I (fun g o=>.inr (h6.out g (wK o)));have P:=h6.out.next I b5;have g9:=g8.trans (N.mono oo);clear N H I g8 cF M b5 h6;have C:p.length+1≤maxLen:=(by unfold maxLen;omega);have D:(p.length+1)*8≤140737488355328:=oo;have n1:(L:Int)≤((d.drop f).length:Int):=(by rw[f'.out];omega);go_wp2_with(at_builtin;go_must(refine zQ _ rfl _ _ 33 rfl (B) 3 i _ 1 8 underlying33 hi c6 c7 c8 rfl (by omega) _ _ _ rfl (O.alloc _) _ 1 1 [Value.int .i64 c] rfl (Sl.newAt w9 #[Value.int .i64 c] _ 1 1 (by first|rfl|simp) (by simp) (by omega)) (by simp [Value.oneCell']) C D ?_ ?_));try(case refine_1=>first|omega|(simp<;>omega;done))
    intro b7 b8 h0 b9 Q b';have c0:=(J.alloc (.cells #[.int .i64 c] 3)).TE Q (fun g o=>P g (wK o));have c1:=P.app (fun g o=>Nat.lt_succ_of_lt (J.blt g o)) b';have c2:=yz (B:=w.heap.size) g9 Q oo (fun q F=>by have:=(O.lt q F).1;omega);have c3:h0.ownsRow B 3 1 (.slice b7 (p++[c]).length b8) (p++[c]).length ((p++[c]).map iv):=by
     rw[List.length_append,List.map_append];exact b9
    have c4:Hid ((p++[c]).length=p.length+1):=(by show _=_;simp);have h2:Hid ((d.drop f).drop L=d.drop (f+L)):=(by show _=_;rw[List.drop_drop]);have h3:Hid (G=(p++[c])++(xN m K2 (d.drop (f+L))++[pow2 K.l+1])):=by
     show _=_;rw[b0.out,←h2.out];simp
    have h4:=hid c1;have R:=hid (And.intro c3 (And.intro c0 c2));clear O J Q b' g9 P b9 b0 c1 c3 c0 c2;go_wp2;go_roundw
    case rel=>exact⟨f+L,m,K2,A9,g3,g4,g5,g6,g',b7,b8,p++[c],by simp [sv],by rw[c4.out],by omega,by omega,by rw[c4.out];omega,f8,f9,h3,R.out.2.1,R.out.1,h4,R.out.2.2⟩
    case measure=>simp [V6];omega
  ·have n2:f=d.length:=oo
   subst n2;have r:d.drop d.length=[]:=List.drop_length;have HE:Hid (G=cs++[pow2 K.l+1]):=by
    show _=_;rw[X.out,r,Ug];rfl
   rw[r];have C:cs.length+1≤maxLen:=(by unfold maxLen;omega);have D:(cs.length+1)*8≤140737488355328:=oo;have f5:Hid ((cs++[pow2 K.l+1]).length=cs.length+1):=(by show _=_;simp);clear X r;go_wp2_with(at_builtin;go_must(refine zQ _ rfl _ _ 33 rfl (B) 3 i _ 1 8 underlying33 hi c6 c7 c8 rfl (by omega) _ _ _ rfl (ho.alloc _) _ 1 1 [Value.int .i64 (pow2 K.l+1)] rfl (Sl.newAt wr #[Value.int .i64 (pow2 K.l+1)] _ 1 1 (by first|rfl|simp) (by simp) (by omega)) (by simp [Value.oneCell']) C D ?_ ?_));try(case refine_1=>first|omega|(simp<;>omega;done))
   intro C7 d6 w7 o7 E _;have g7:=yz (B:=w.heap.size) o E oo (fun q F=>by have:=(ho.lt q F).1;omega);have d8:w7.ownsRow w.heap.size 3 1 (.slice C7 (cs++[pow2 K.l+1]).length d6) (cs++[pow2 K.l+1]).length ((cs++[pow2 K.l+1]).map iv):=by
    rw[List.length_append,List.map_append];exact zF o7 l0
   have hE:=HE.out;subst hE;clear o7 E ho o;go_wp2;go_ret;exact⟨C7,d6,by rw[f5.out];rfl,d8,g7⟩
theorem NF (g a n cap:Nat)(w:World)(h:n≤cap)(b:cap≤9223372036854775807):
 Calls prog 201 #[.slice (some ⟨g,a,none⟩) n cap] w fun e w'=>e= .returned (.slice (some ⟨g,a,none⟩) n n)∧w=w':=by
 go_enter func201,ntmps201;go_wp2;go_ret;exact⟨rfl,rfl⟩
def Qn (cs:List Int)(w:World)(e:Ending)(w':World):Prop:=∃A,e= .returned (.tuple #[.slice A cs.length cs.length,.bool true])∧Sl w' A cs.length cs.length 1 (cs.map iv)∧Below w.heap.size w w'
theorem Sl.clip {w:World}{A:Option Addr}{n cap k:Nat}{xs:List Value}(h:Sl w A n cap k xs):Sl w A n n k xs:=by
 obtain⟨h1,h2,a,b⟩:=h;exact⟨Nat.le_refl _,oo,a,b⟩
theorem SG (K:Kn)(t:Bs):0<(K.yh t).length:=by unfold Kn.yh;simp
theorem bJ (K:Kn)(A:Option Addr)(cap:Nat)(d:Bs)(w:World)(hk:K.ok)(i:Sl w A K.ps.length cap 2 (psV K.ps))(a:fits K.o K.l K.m d):
 Calls prog 176 #[knV K A cap,sv d] w (Qn (K.yh d) w):=by
 have t:decide (fits K.o K.l K.m d)=true:=decide_eq_true a;have E:d.length≤2000:=a.2.1;have u:Hid (∀wr,Below w.heap.size w wr→Calls prog 130 #[knV K A cap] wr fun e w'=>e= .returned (.bool true)∧Below wr.heap.size wr w'):=fun wr h=>wY K A cap wr hk (i.below h);have j:Hid (∀wr,Below w.heap.size w wr→Calls prog 202 #[knV K A cap,sv d] wr (Np (K.yh d) wr)):=fun wr h=>UL K A cap d wr hk (i.below h) oo a.2.2;unfold Np at j;have z:=SG K d;unfold Qn;generalize K.yh d=cs at*;clear i a;go_enter func176,ntmps176;go_wp2_with fail;have k:Bk (w.alloc (.cells (knC K A cap) 94)) w.heap.size 94 (knC K A cap):=tBk;have n:Below w.heap.size w (w.alloc (.cells (knC K A cap) 94)):=zx;generalize w.alloc (.cells (knC K A cap) 94)=F at*;refine(u.out _ n).mono ?_;rintro e G ⟨rfl,b⟩;have H:=k.lt;have I:=b.size;have p:=k.below b oo;have v:=n.trans (b.mono oo);have q:=p.cell;clear k n b u;go_wp2_with fail;refine(tH _ _ _ _ _ oo).mono ?_;rintro e J ⟨rfl,c⟩;rw[t];have L:=c.size;have x:=p.below c oo;have r:=v.trans (c.mono oo);clear q p v c t;have q:=x.cell;go_wp2_with fail;refine(j.out _ r).mono ?_;rintro e M ⟨N,O,rfl,y,s⟩;have P:=s.size;have B:=r.trans (s.mono oo);have f:=Sl.own y;have C:=f.1;have D:=f.2.1;obtain⟨g,Q,rfl,R,_⟩:=f.2.2.2 z;clear j q x r s y;go_wp2_with fail;refine(NF _ _ _ _ _ C D).mono ?_;rintro e S ⟨rfl,rfl⟩;go_wp2;go_ret2;exact⟨_,rfl,f.clip,B⟩
theorem aY (K:Kn)(A:Option Addr)(cap:Nat)(d:Bs)(w:World)(hk:K.ok)(g:Sl w A K.ps.length cap 2 (psV K.ps))(i:¬fits K.o K.l K.m d)(q:d.length≤9223372036854775807):
 Calls prog 176 #[knV K A cap,sv d] w fun e w'=>e= .returned (.tuple #[.slice none 0 0,.bool false])∧Below w.heap.size w w':=by
 have j:decide (fits K.o K.l K.m d)=false:=decide_eq_false i;have k:Hid (∀wr,Below w.heap.size w wr→Calls prog 130 #[knV K A cap] wr fun e w'=>e= .returned (.bool true)∧Below wr.heap.size wr w'):=fun wr h=>wY K A cap wr hk (g.below h);clear g i;go_enter func176,ntmps176;go_wp2_with fail;have b:Bk (w.alloc (.cells (knC K A cap) 94)) w.heap.size 94 (knC K A cap):=tBk;have c:Below w.heap.size w (w.alloc (.cells (knC K A cap) 94)):=zx;generalize w.alloc (.cells (knC K A cap) 94)=t at*;refine(k.out _ c).mono ?_;rintro e u ⟨rfl,a⟩;have v:=b.lt;have x:=a.size;have n:=b.below a oo;have p:=c.trans (a.mono oo);have r:=n.cell;clear b c a k;go_wp2_with fail;refine(tH _ _ _ _ _ q).mono ?_;rintro e y ⟨rfl,f⟩;rw[j];have z:=f.size;have s:=p.trans (f.mono oo);clear r n p f j;go_wp2;go_ret2;exact⟨rfl,s⟩
