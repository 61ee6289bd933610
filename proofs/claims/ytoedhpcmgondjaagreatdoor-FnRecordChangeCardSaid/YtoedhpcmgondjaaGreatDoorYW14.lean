import Derived.Test.YtoedhpcmgondjaaGreatDoorYW4
import Derived.Lib.AtoiErrMem
set_option linter.all false
set_option maxHeartbeats 8000000
namespace Go.Proofs.YtoedhpcmgondjaaGreatDoor
open Go.Lib(hid)
open Go.RowKit Go.Proofs.Tryz
set_option maxRecDepth 100000
attribute [local instance] mU hZ cvZ
attribute [local go_sem high] zG zF zH zV zN yu zD zl zn zt zi zu y9 zK yE zJ
theorem lW (l:Bs)(w:World):
 Calls prog 139 #[l] w fun e w'=>e= .returned (.tuple #[.string ⟨(xH l).toArray⟩,.bool (decide (l≠[]))])∧w=w':=by
 by_cases h:l=[45]
 ·subst h
  go_enter func139,ntmps139;go_wp2;exact bodyPost_ret (v:=.tuple #[.string ⟨#[]⟩,.bool true]) (by simp [results,results139,go_sem]) rfl ⟨rfl,rfl⟩
 ·have a:Hid (xH l=l):=by show _=_;unfold xH;rw[if_neg h]
  have b:decide (l=[45])=false:=(by simpa using h);clear h;go_enter func139,ntmps139;go_wp2;exact bodyPost_ret (v:=.tuple #[l,.bool (decide (l≠[]))]) (by simp [results,results139,go_sem]) rfl ⟨by rw[a.out],rfl⟩
theorem Jc (l:Bs):hexD l=if l=[] then none else unhex (xH l):=by
 unfold hexD xH;by_cases h:l=[45]
 ·subst h;rfl
 ·rw[if_neg h,if_neg h]
def ZA (o:Option Bs):Ending:=.returned (.tuple #[.string ⟨(o.getD []).toArray⟩,.bool o.isSome])
theorem sJ (l:Bs)(w:World)(f:l.length≤4000000):
 Calls prog 102 #[l] w fun e w'=>e=ZA (hexD l)∧Below w.heap.size w w':=by
 have a:=Jc l;have g:(xH l).length≤4000000:=by
  unfold xH;split
  ·simp
  ·exact f
 have c:=fun w=>VQ (xH l) w g;unfold uX at c;by_cases h:l=[]
 ·rw[if_pos h] at a
  have i:=hid a;have b:decide (l≠[])=false:=(by simpa using h);clear a h;go_enter func102,ntmps102;go_wp2_with fail;refine(lW _ _).mono ?_;rintro e j ⟨rfl,rfl⟩;rw[b];go_wp2;exact bodyPost_ret (v:=.tuple #[.string ⟨#[]⟩,.bool false]) (by simp [results,results102,go_sem]) rfl ⟨by rw[i.out];rfl,Below.refl _ _⟩
 ·rw[if_neg h] at a
  have b:decide (l≠[])=true:=(by simpa using h);rw[a];have d:=fun w=>lW l w;simp only[b] at d;generalize xH l=u at*;clear a h;go_enter func102,ntmps102;go_wp2_with fail;refine(d _).mono ?_;rintro e j ⟨rfl,rfl⟩;go_wp2_with fail;refine(c _).mono ?_;rintro e m ⟨rfl,k⟩;go_wp2;exact bodyPost_ret (v:=.tuple #[.string ⟨((unhex u).getD []).toArray⟩,.bool (unhex u).isSome]) (by simp [results,results102,go_sem]) rfl ⟨rfl,k⟩
def vN (w:World):Prop:=(∃a,w.cell? ⟨1,0,none⟩=some a∧(a= .nilIface∨∃b c,a= .iface b c))∧(∃a,w.cell? ⟨2,0,none⟩=some a∧(a= .nilIface∨∃b c,a= .iface b c))
theorem vM (l:Bs)(w:World)(B:Nat)(q:B≤w.heap.size)(g:rU B w)(r:vN w)(L:l.length≤4000000):
 Calls prog 101 #[l] w fun e w'=>e=x8 (numOf l)∧Below w.heap.size w w':=by
 have s:=hid g;have m:(⟨l.toArray⟩:ByteArray).size≤281474976710656:=(by rw[yu];omega);obtain⟨⟨u,x,y⟩,⟨z,A,C⟩⟩:=r;have k:(⟨l.toArray⟩:ByteArray).data.toList=l:=(by simp);have h:∀w':World,(w'=w∨∃t,w'=Lib.bytesWorld w 5 t)→Below w.heap.size w w':=by
  rintro w' (rfl|⟨t,rfl⟩)
  ·exact Below.refl _ _
  ·exact Lib.bytesWorld_below _ _ _
 cases ha:Lib.atoiAll l with
 |ok v=>
  have D:=Lib.atoiAll_bounds ha;have i:numOf l=if Lib.itoa v=l then some v else none:=by unfold numOf;rw[ha]
  have n:=Tryz.strconv_Atoi_ok ⟨l.toArray⟩ (by rw[yu];omega) v (by rw[k];exact ha) w;have d:=hid n;have E:=hid h;clear h n g;obtain⟨o,b⟩:=D;have M:=Lib.itoa_length_le v o b;go_enter func101,ntmps101;go_wp2_with fail;refine d.out.mono ?_;rintro e f ⟨rfl,F⟩;have j:=E.out f F;have G:rU B f:=Lib.TabBelow.on s.out (j.mono q);go_wp2_with fail;refine(LP v f B (by have:=j.size;omega) G o b).mono ?_;rintro e O ⟨rfl,H⟩;have p:=j.trans (H.mono j.size);by_cases c:Lib.itoa v=l
  ·have a:Hid (numOf l=some v):=by show _=_;rw[i,if_pos c]
   have I:decide (Lib.itoa v≠l)=false:=(by simpa using c);clear i c;go_wp2;exact bodyPost_ret (v:=.tuple #[v,.bool true]) (by simp [results,results101,go_sem]) rfl ⟨by rw[a.out];rfl,p⟩
  ·have a:Hid (numOf l=none):=by show _=_;rw[i,if_neg c]
   have I:decide (Lib.itoa v≠l)=true:=(by simpa using c);clear i c;go_wp2;exact bodyPost_ret (v:=.tuple #[.int .i64 0,.bool false]) (by simp [results,results101,go_sem]) rfl ⟨by rw[a.out];rfl,p⟩
 |«syntax»=>
  have a:Hid (numOf l=none):=(by show _=_;unfold numOf;rw[ha]);have d:=hid (Tryz.strconv_Atoi_syntax ⟨l.toArray⟩ m (by rw[k];exact ha) u w x y);clear g h;go_enter func101,ntmps101;go_wp2_with fail;refine d.out.mono ?_;rintro e f ⟨N,rfl,J,K,b⟩;go_wp2;exact bodyPost_ret (v:=.tuple #[.int .i64 0,.bool false]) (by simp [results,results101,go_sem]) rfl ⟨by rw[a.out];rfl,b⟩
 |range=>
  have a:Hid (numOf l=none):=(by show _=_;unfold numOf;rw[ha]);have d:=hid (Tryz.strconv_Atoi_range ⟨l.toArray⟩ m (by rw[k];exact ha) z w A C);clear g h;go_enter func101,ntmps101;go_wp2_with fail;refine d.out.mono ?_;rintro e f ⟨N,rfl,J,K,b⟩;go_wp2;exact bodyPost_ret (v:=.tuple #[.int .i64 0,.bool false]) (by simp [results,results101,go_sem]) rfl ⟨by rw[a.out];rfl,b⟩
def kindOf (a:Bs):Int×Int:=if a=jS then(0,4) else if a=wM then(1,4) else if a=wz then(2,6) else if a=uH then(3,3) else if a=vP then(4,2) else(-1,0)
theorem Qe (a:Bs)(w:World):
 Calls prog 79 #[a] w fun e w'=>e= .returned (.tuple #[.int .i64 (kindOf a).1,.int .i64 (kindOf a).2])∧w=w':=by
 by_cases h1:a=jS
 ·subst h1
  go_enter func79,ntmps79;go_wp2;exact bodyPost_ret (v:=.tuple #[.int .i64 0,.int .i64 4]) (by simp [results,results79,go_sem]) rfl ⟨rfl,rfl⟩
 by_cases h2:a=wM
 ·subst h2
  go_enter func79,ntmps79;go_wp2;exact bodyPost_ret (v:=.tuple #[.int .i64 1,.int .i64 4]) (by simp [results,results79,go_sem]) rfl ⟨rfl,rfl⟩
 by_cases b:a=wz
 ·subst b
  go_enter func79,ntmps79;go_wp2;exact bodyPost_ret (v:=.tuple #[.int .i64 2,.int .i64 6]) (by simp [results,results79,go_sem]) rfl ⟨rfl,rfl⟩
 by_cases c:a=uH
 ·subst c
  go_enter func79,ntmps79;go_wp2;exact bodyPost_ret (v:=.tuple #[.int .i64 3,.int .i64 3]) (by simp [results,results79,go_sem]) rfl ⟨rfl,rfl⟩
 by_cases d:a=vP
 ·subst d
  go_enter func79,ntmps79;go_wp2;exact bodyPost_ret (v:=.tuple #[.int .i64 4,.int .i64 2]) (by simp [results,results79,go_sem]) rfl ⟨rfl,rfl⟩
 have f:Hid (kindOf a=(-1,0)):=(by show _=_;unfold kindOf;rw[if_neg h1,if_neg h2,if_neg b,if_neg c,if_neg d]);have g:decide (a=jS)=false:=(by simpa using h1);have h:decide (a=wM)=false:=(by simpa using h2);have i:decide (a=wz)=false:=(by simpa using b);have j:decide (a=uH)=false:=(by simpa using c);have k:decide (a=vP)=false:=(by simpa using d);clear h1 h2 b c d;go_enter func79,ntmps79;go_wp2;exact bodyPost_ret (v:=.tuple #[.int .i64 (-1),.int .i64 0]) (by simp [results,results79,go_sem]) rfl ⟨by rw[f.out],rfl⟩
abbrev OpR.cells (x:OpR):Array Value:=#[x.k,x.nm,x.f,x.t,x.s,x.d]
abbrev OpR.val (x:OpR):Value:=.agg x.cells
def opZ :OpR:=⟨0,0,0,0,[],[]⟩
def ku (o:Option OpR):Ending:=.returned (.tuple #[(o.getD opZ).val,.bool o.isSome])
theorem QU (a:Bs)(n:Nat):((kindOf a).1<0∨(n:Int)≠(kindOf a).2)∨((a=jS∨a=wM)∧n=4)∨(a=wz∧n=6)∨(a=uH∧n=3)∨(a=vP∧n=2):=by
 unfold kindOf;split
 ·rename_i h;by_cases b:n=4
  ·exact .inr (.inl ⟨.inl h,b⟩)
  ·exact .inl (.inr (by simp;omega))
 split
 ·rename_i h;by_cases b:n=4
  ·exact .inr (.inl ⟨.inr h,b⟩)
  ·exact .inl (.inr (by simp;omega))
 split
 ·rename_i h;by_cases b:n=6
  ·exact .inr (.inr (.inl ⟨h,b⟩))
  ·exact .inl (.inr (by simp;omega))
 split
 ·rename_i h;by_cases b:n=3
  ·exact .inr (.inr (.inr (.inl ⟨h,b⟩)))
  ·exact .inl (.inr (by simp;omega))
 split
 ·rename_i h;by_cases b:n=2
  ·exact .inr (.inr (.inr (.inr ⟨h,b⟩)))
  ·exact .inl (.inr (by simp;omega))
 ·exact .inl (.inl (by decide))
theorem Nb (a:Bs)(r:List Bs)(h:(kindOf a).1<0∨((a::r).length:Int)≠(kindOf a).2):xh (a::r)=none:=by
 cases hs:xh (a::r) with
 |none=>rfl
 |some x=>
  exfalso;unfold xh at hs;split at hs
  ·rename_i f b c e d
   injection d with h1 h2
   subst h1 h2;split at hs
   ·rename_i hk
    rcases hk with rfl|rfl
    ·rw[show kindOf jS=(0,4) from rfl] at h;simp at h
    ·rw[show kindOf wM=(1,4) from rfl] at h;simp at h
   ·cases hs
  ·rename_i f b c e g i d
   injection d with h1 h2
   subst h1 h2;split at hs
   ·rename_i hk;subst hk;rw[show kindOf wz=(2,6) from rfl] at h;simp at h
   ·cases hs
  ·rename_i f b c d
   injection d with h1 h2
   subst h1 h2;split at hs
   ·rename_i hk;subst hk;rw[show kindOf uH=(3,3) from rfl] at h;simp at h
   ·cases hs
  ·rename_i f b d
   injection d with h1 h2
   subst h1 h2;split at hs
   ·rename_i hk;subst hk;rw[show kindOf vP=(4,2) from rfl] at h;simp at h
   ·cases hs
  ·cases hs
theorem SG (t:Bs)(x:OpR)(h:xh (cut 32 t)=some x):ku (yK t)=if x.fmt=t then .returned (.tuple #[x.val,.bool true]) else .returned (.tuple #[opZ.val,.bool false]):=by
 rw[←PG,h];simp only;split<;>rfl
theorem Rw (t:Bs)(h:xh (cut 32 t)=none):ku (yK t)= .returned (.tuple #[opZ.val,.bool false]):=by
 rw[←PG,h];rfl
theorem VM (t:Bs)(w:World)(hs:t.length≤1500000):
 Calls prog 51 #[t] w fun e w'=>e=ku (yK t)∧Below w.heap.size w w':=by
 have O:=hid (SG t);have HO:=hid (Rw t);have y:=hid (oV 32 t);have c4:=Ru 32 t;have cS:=fun w=>Ov 32 t w oo;generalize ku (yK t)=P at*;generalize c5:cut 32 t=ps at*;clear c5;obtain⟨a,r,rfl⟩:∃a r,ps=a::r:=by cases ps with
  |nil=>exact absurd rfl c4
  |cons a r=>exact⟨a,r,rfl⟩
 have d9:=y.out a List.mem_cons_self;go_enter func51,ntmps51;go_wp2_with fail;refine(cS _).mono ?_;rintro e q ⟨⟨v,rfl,a9⟩,a8⟩;obtain⟨g,cap,rfl,c6,d'⟩:=a9.form (by simp);have z:SlS q (some ⟨g,0,none⟩) cap (a::r):=by
  obtain⟨A,e0,hv,a3⟩:=Sl.sG a9;injection hv with e1 e2 e3
  subst e1;subst e3;exact a3
 have c8:=a8.size;simp only[World.size_alloc] at c8 c6;have M:Bk q w.heap.size 42 opZ.cells:=(Bk.new w opZ.cells 42).below a8 (by simp);have m:=M.cell;have Q:=M.free;have g2:Below w.heap.size w q:=((Below.refl _ _).alloc (Nat.le_refl _) _).trans (a8.mono (by simp));clear a8 cS a9;obtain⟨_,_,a',_,c9⟩:=SlS.at z (k:=0) (by simp);injection a' with a'
 injection a' with e1 e2 _
 subst e1;subst e2;rw[Nat.zero_add] at c9;go_wp2_with fail;refine(Qe a _).mono ?_;rintro e R ⟨rfl,rfl⟩;rcases QU a (a::r).length with hk|⟨hk,C⟩|⟨hk,C⟩|⟨hk,C⟩|⟨hk,C⟩
 ·have n:=hid (HO.out (Nb a r hk))
  generalize kindOf a=K at*;obtain⟨K1,K2⟩:=K;simp only at hk⊢;by_cases h1:K1<0
  ·go_wp2
   exact bodyPost_ret (v:=.tuple #[opZ.val,.bool false]) (by simp [results,results51,go_sem,m,opZ]) rfl ⟨n.out.symm,zy⟩
  ·have h2:((r.length:Int)+1 != K2)=true:=by
    rcases hk with a3|a3
    ·exact absurd a3 h1
    ·simpa using a3
   go_wp2;exact bodyPost_ret (v:=.tuple #[opZ.val,.bool false]) (by simp [results,results51,go_sem,m,opZ]) rfl ⟨n.out.symm,zy⟩
 ·obtain⟨b,c,d,rfl⟩:∃b c d,r=[b,c,d]:=by
   match r,C with
   |[b,c,d],_=>exact⟨b,c,d,rfl⟩
  have B:=O.out _ (show xh [a,b,c,d]=some _ from by unfold xh;simp only;rw[if_pos hk]);obtain⟨_,_,s,_,S⟩:=SlS.at z (k:=1) (by simp);injection s with s
  injection s with e1 e2 _
  subst e1;subst e2;obtain⟨_,_,E,_,a4⟩:=SlS.at z (k:=2) (by simp);injection E with E
  injection E with e1 e2 _
  subst e1;subst e2;obtain⟨_,_,T,_,b0⟩:=SlS.at z (k:=3) (by simp);injection T with T
  injection T with e1 e2 _
  subst e1;subst e2;rw[Nat.zero_add] at S a4 b0;have b1:=y.out b (by simp);have c0:=y.out c (by simp);have d1:=y.out d (by simp);obtain⟨o,c1,c2,e5,e6⟩:∃o:Int,kindOf a=(o,4)∧(if a=wM then(1:Int) else 0)=o∧¬o<0∧(o==2)=false:=by
   rcases hk with rfl|rfl
   ·exact⟨0,rfl,rfl,by decide,by decide⟩
   ·exact⟨1,rfl,rfl,by decide,by decide⟩
  rw[c2] at B;rw[c1];clear hk C c1 c2 O HO;have l:=hid B;clear B;go_wp2_with fail;refine(mf c _ oo).mono ?_;rintro e R ⟨rfl,rfl⟩;unfold x8;generalize(mr c).getD 0=f at*;generalize(mr c).isSome=c3 at*;go_wp2_with fail;refine(Xd d _).mono ?_;rintro e R ⟨rfl,rfl⟩;have b2:(xH d).length≤4000000:=by
   unfold xH;split
   ·simp
   ·omega
  have U:=fun w=>iH (xH d) w b2;simp only[Wn] at U;have d2:=ZK (xH d);generalize(unhex (xH d)).getD []=D at*;generalize(unhex (xH d)).isSome=D2 at*;generalize xH d=ud at*;go_wp2_with fail;have V:=Bk.new q #[(o:Int),b,.int .i64 0,.int .i64 0,f,.string ⟨#[]⟩] 42;have W:=M.alloc (.cells #[(o:Int),b,.int .i64 0,.int .i64 0,f,.string ⟨#[]⟩] 42);have g3:Below w.heap.size w (q.alloc (.cells #[(o:Int),b,.int .i64 0,.int .i64 0,f,.string ⟨#[]⟩] 42)):=zy;refine(U _).mono ?_;rintro e w4 ⟨rfl,F⟩;have b3:=F.size;have b4:=W.lt;have b5:=V.lt;have N:=V.below F b5;have a6:=W.below F b4;have g4:=g3.trans (F.mono (by simp;omega));simp only[World.size_alloc] at b3;have X:=N.cell;have Y:=N.free;clear F U V W g3 m Q M;go_wp2_with fail;have u:=N.set 5 (.string ⟨D.toArray⟩);have x:=a6.far (p:=⟨q.heap.size,5,none⟩) (by show _≠_;simp;omega) (.string ⟨D.toArray⟩);have G:=g4.setCell (p:=⟨q.heap.size,5,none⟩) (by show _≤_;simp;omega) (.string ⟨D.toArray⟩);clear X Y N a6 g4;refine(tV o 0 0 f b D _ oo oo).mono ?_;rintro e w5 ⟨rfl,j⟩;have Z:=j.size;have H:=u.below j u.lt;have I:=x.below j x.lt;have g5:=G.trans (j.mono (by simp;omega));simp at Z;have X:=H.cell;have Y:=H.free;have m:=I.cell;have Q:=I.free;clear j u x G;by_cases h:wu o b 0 0 f D=t
  ·have n:Hid (P= .returned (.tuple #[(⟨o,0,0,f,b,D⟩:OpR).val,.bool true])):=by
    show _=_;rw[l.out];exact if_pos h
   have hd:decide (wu o b 0 0 f D≠t)=false:=(by simpa using h);clear h l;generalize wu o b 0 0 f D=FT at*;go_wp2;exact bodyPost_ret (v:=.tuple #[(⟨o,0,0,f,b,D⟩:OpR).val,.bool true]) (by simp [results,results51,go_sem,m]) rfl ⟨n.out.symm,zy⟩
  ·have n:Hid (P= .returned (.tuple #[opZ.val,.bool false])):=by
    show _=_;rw[l.out];exact if_neg h
   have hd:decide (wu o b 0 0 f D≠t)=true:=(by simpa using h);clear h l;generalize wu o b 0 0 f D=FT at*;go_wp2;exact bodyPost_ret (v:=.tuple #[opZ.val,.bool false]) (by simp [results,results51,go_sem,m,opZ]) rfl ⟨n.out.symm,zy⟩
 ·obtain⟨b,c,d,e,i,rfl⟩:∃b c d e i,r=[b,c,d,e,i]:=by
   match r,C with
   |[b,c,d,e,i],_=>exact⟨b,c,d,e,i,rfl⟩
  have B:=O.out _ (show xh [a,b,c,d,e,i]=some _ from by unfold xh;simp only;rw[if_pos hk]);obtain⟨_,_,s,_,S⟩:=SlS.at z (k:=1) (by simp);injection s with s
  injection s with e1 e2 _
  subst e1;subst e2;obtain⟨_,_,E,_,a4⟩:=SlS.at z (k:=2) (by simp);injection E with E
  injection E with e1 e2 _
  subst e1;subst e2;obtain⟨_,_,T,_,b0⟩:=SlS.at z (k:=3) (by simp);injection T with T
  injection T with e1 e2 _
  subst e1;subst e2;obtain⟨_,_,b8,_,d6⟩:=SlS.at z (k:=4) (by simp);injection b8 with b8
  injection b8 with e1 e2 _
  subst e1;subst e2;obtain⟨_,_,b9,_,d7⟩:=SlS.at z (k:=5) (by simp);injection b9 with b9
  injection b9 with e1 e2 _
  subst e1;subst e2;rw[Nat.zero_add] at S a4 b0 d6 d7;have b1:=y.out b (by simp);have c0:=y.out c (by simp);have d1:=y.out d (by simp);have e7:=y.out e (by simp);have e8:=y.out i (by simp);subst hk;rw[show kindOf wz=(2,6) from rfl];clear C O HO;have l:=hid B;clear B;go_wp2_with fail;refine(mf c _ oo).mono ?_;rintro e R ⟨rfl,rfl⟩;unfold x8;generalize(mr c).getD 0=J at*;generalize(mr c).isSome=e9 at*;go_wp2_with fail;refine(mf d _ oo).mono ?_;rintro e R ⟨rfl,rfl⟩;unfold x8;generalize(mr d).getD 0=L at*;generalize(mr d).isSome=e' at*;go_wp2_with fail;refine(mf e _ oo).mono ?_;rintro e R ⟨rfl,rfl⟩;unfold x8;generalize(mr e).getD 0=f at*;generalize(mr e).isSome=c3 at*;go_wp2_with fail;refine(Xd i _).mono ?_;rintro e R ⟨rfl,rfl⟩;have b2:(xH i).length≤4000000:=by
   unfold xH;split
   ·simp
   ·omega
  have U:=fun w=>iH (xH i) w b2;simp only[Wn] at U;have d2:=ZK (xH i);generalize(unhex (xH i)).getD []=D at*;generalize(unhex (xH i)).isSome=D2 at*;generalize xH i=ud at*;go_wp2_with fail;have V:=Bk.new q #[.int .i64 2,b,J,L,f,.string ⟨#[]⟩] 42;have W:=M.alloc (.cells #[.int .i64 2,b,J,L,f,.string ⟨#[]⟩] 42);have g3:Below w.heap.size w (q.alloc (.cells #[.int .i64 2,b,J,L,f,.string ⟨#[]⟩] 42)):=zy;refine(U _).mono ?_;rintro e w4 ⟨rfl,F⟩;have b3:=F.size;have b4:=W.lt;have b5:=V.lt;have N:=V.below F b5;have a6:=W.below F b4;have g4:=g3.trans (F.mono (by simp;omega));simp only[World.size_alloc] at b3;have X:=N.cell;have Y:=N.free;clear F U V W g3 m Q M;go_wp2_with fail;have u:=N.set 5 (.string ⟨D.toArray⟩);have x:=a6.far (p:=⟨q.heap.size,5,none⟩) (by show _≠_;simp;omega) (.string ⟨D.toArray⟩);have G:=g4.setCell (p:=⟨q.heap.size,5,none⟩) (by show _≤_;simp;omega) (.string ⟨D.toArray⟩);clear X Y N a6 g4;refine(tV 2 J L f b D _ oo oo).mono ?_;rintro e w5 ⟨rfl,j⟩;have Z:=j.size;have H:=u.below j u.lt;have I:=x.below j x.lt;have g5:=G.trans (j.mono (by simp;omega));simp at Z;have X:=H.cell;have Y:=H.free;have m:=I.cell;have Q:=I.free;clear j u x G;by_cases h:wu 2 b J L f D=t
  ·have n:Hid (P= .returned (.tuple #[(⟨2,J,L,f,b,D⟩:OpR).val,.bool true])):=by
    show _=_;rw[l.out];exact if_pos h
   have hd:decide (wu 2 b J L f D≠t)=false:=(by simpa using h);clear h l;generalize wu 2 b J L f D=FT at*;go_wp2;exact bodyPost_ret (v:=.tuple #[(⟨2,J,L,f,b,D⟩:OpR).val,.bool true]) (by simp [results,results51,go_sem,m]) rfl ⟨n.out.symm,zy⟩
  ·have n:Hid (P= .returned (.tuple #[opZ.val,.bool false])):=by
    show _=_;rw[l.out];exact if_neg h
   have hd:decide (wu 2 b J L f D≠t)=true:=(by simpa using h);clear h l;generalize wu 2 b J L f D=FT at*;go_wp2;exact bodyPost_ret (v:=.tuple #[opZ.val,.bool false]) (by simp [results,results51,go_sem,m,opZ]) rfl ⟨n.out.symm,zy⟩
 ·obtain⟨b,c,rfl⟩:∃b c,r=[b,c]:=by
   match r,C with
   |[b,c],_=>exact⟨b,c,rfl⟩
  have B:=O.out _ (show xh [a,b,c]=some _ from by unfold xh;simp only;rw[if_pos hk]);obtain⟨_,_,s,_,S⟩:=SlS.at z (k:=1) (by simp);injection s with s
  injection s with e1 e2 _
  subst e1;subst e2;obtain⟨_,_,E,_,a4⟩:=SlS.at z (k:=2) (by simp);injection E with E
  injection E with e1 e2 _
  subst e1;subst e2;rw[Nat.zero_add] at S a4;have b1:=y.out b (by simp);have c0:=y.out c (by simp);subst hk;rw[show kindOf uH=(3,3) from rfl];clear C O HO;have l:=hid B;clear B;go_wp2_with fail;refine(mf c _ oo).mono ?_;rintro e R ⟨rfl,rfl⟩;unfold x8;generalize(mr c).getD 0=f at*;generalize(mr c).isSome=c3 at*;go_wp2_with fail;have u:=Bk.new q #[.int .i64 3,b,.int .i64 0,.int .i64 0,f,.string ⟨#[]⟩] 42;have x:=M.alloc (.cells #[.int .i64 3,b,.int .i64 0,.int .i64 0,f,.string ⟨#[]⟩] 42);have G:Below w.heap.size w (q.alloc (.cells #[.int .i64 3,b,.int .i64 0,.int .i64 0,f,.string ⟨#[]⟩] 42)):=zy;clear m Q M;refine(tV 3 0 0 f b [] _ (by omega) (by simp)).mono ?_;rintro e w5 ⟨rfl,j⟩;have Z:=j.size;have H:=u.below j u.lt;have I:=x.below j x.lt;have g5:=G.trans (j.mono (by simp;omega));simp at Z;have X:=H.cell;have Y:=H.free;have m:=I.cell;have Q:=I.free;clear j u x G;by_cases h:wu 3 b 0 0 f []=t
  ·have n:Hid (P= .returned (.tuple #[(⟨3,0,0,f,b,[]⟩:OpR).val,.bool true])):=by
    show _=_;rw[l.out];exact if_pos h
   have hd:decide (wu 3 b 0 0 f []≠t)=false:=(by simpa using h);clear h l;generalize wu 3 b 0 0 f []=FT at*;go_wp2;exact bodyPost_ret (v:=.tuple #[(⟨3,0,0,f,b,[]⟩:OpR).val,.bool true]) (by simp [results,results51,go_sem,m]) rfl ⟨n.out.symm,zy⟩
  ·have n:Hid (P= .returned (.tuple #[opZ.val,.bool false])):=by
    show _=_;rw[l.out];exact if_neg h
   have hd:decide (wu 3 b 0 0 f []≠t)=true:=(by simpa using h);clear h l;generalize wu 3 b 0 0 f []=FT at*;go_wp2;exact bodyPost_ret (v:=.tuple #[opZ.val,.bool false]) (by simp [results,results51,go_sem,m,opZ]) rfl ⟨n.out.symm,zy⟩
 ·obtain⟨b,rfl⟩:∃b,r=[b]:=by
   match r,C with
   |[b],_=>exact⟨b,rfl⟩
  have B:=O.out _ (show xh [a,b]=some _ from by unfold xh;simp only;rw[if_pos hk]);obtain⟨_,_,s,_,S⟩:=SlS.at z (k:=1) (by simp);injection s with s
  injection s with e1 e2 _
  subst e1;subst e2;rw[Nat.zero_add] at S;have b1:=y.out b (by simp);subst hk;rw[show kindOf vP=(4,2) from rfl];clear C O HO;have l:=hid B;clear B;go_wp2_with fail;have u:=Bk.new q #[.int .i64 4,b,.int .i64 0,.int .i64 0,.int .i64 0,.string ⟨#[]⟩] 42;have x:=M.alloc (.cells #[.int .i64 4,b,.int .i64 0,.int .i64 0,.int .i64 0,.string ⟨#[]⟩] 42);have G:Below w.heap.size w (q.alloc (.cells #[.int .i64 4,b,.int .i64 0,.int .i64 0,.int .i64 0,.string ⟨#[]⟩] 42)):=zy;clear m Q M;refine(tV 4 0 0 0 b [] _ (by omega) (by simp)).mono ?_;rintro e w5 ⟨rfl,j⟩;have Z:=j.size;have H:=u.below j u.lt;have I:=x.below j x.lt;have g5:=G.trans (j.mono (by simp;omega));simp at Z;have X:=H.cell;have Y:=H.free;have m:=I.cell;have Q:=I.free;clear j u x G;by_cases h:wu 4 b 0 0 0 []=t
  ·have n:Hid (P= .returned (.tuple #[(⟨4,0,0,0,b,[]⟩:OpR).val,.bool true])):=by
    show _=_;rw[l.out];exact if_pos h
   have hd:decide (wu 4 b 0 0 0 []≠t)=false:=(by simpa using h);clear h l;generalize wu 4 b 0 0 0 []=FT at*;go_wp2;exact bodyPost_ret (v:=.tuple #[(⟨4,0,0,0,b,[]⟩:OpR).val,.bool true]) (by simp [results,results51,go_sem,m]) rfl ⟨n.out.symm,zy⟩
  ·have n:Hid (P= .returned (.tuple #[opZ.val,.bool false])):=by
    show _=_;rw[l.out];exact if_neg h
   have hd:decide (wu 4 b 0 0 0 []≠t)=true:=(by simpa using h);clear h l;generalize wu 4 b 0 0 0 []=FT at*;go_wp2;exact bodyPost_ret (v:=.tuple #[opZ.val,.bool false]) (by simp [results,results51,go_sem,m,opZ]) rfl ⟨n.out.symm,zy⟩
def uM (ps:List Bs)(w:World)(e:Ending)(w':World):Prop:=
 ∃(x:OpR) (ok:Bool),e= .returned (.tuple #[x.val,.bool ok])∧yH ps=(if ok=true then some x else none)∧Below w.heap.size w w'
theorem mg (a:Bs)(r:List Bs)(c:r.length=3→¬(a=jS∨a=wM))(d:r.length=5→¬a=wz)(e:r.length=2→¬a=uH)(h2:r.length=1→¬a=vP):yH (a::r)=none:=by
 cases hs:yH (a::r) with
 |none=>rfl
 |some x=>
  exfalso;unfold yH at hs;split at hs
  ·rename_i b
   injection b with e1 e2
   subst e1 e2;rw[if_neg (c rfl)] at hs;cases hs
  ·rename_i b
   injection b with e1 e2
   subst e1 e2;rw[if_neg (d rfl)] at hs;cases hs
  ·rename_i b
   injection b with e1 e2
   subst e1 e2;rw[if_neg (e rfl)] at hs;cases hs
  ·rename_i b
   injection b with e1 e2
   subst e1 e2;rw[if_neg (h2 rfl)] at hs;cases hs
  ·cases hs
theorem qN {α:Type}(o:Option α)(z:α):o=if o.isSome=true then some (o.getD z) else none:=by cases o<;>rfl
theorem vN.on {w w':World}(h:vN w)(a:Below w.heap.size w w'):vN w':=by
 obtain⟨⟨d,b,e⟩,⟨f,c,g⟩⟩:=h;exact⟨⟨d,(a.cell (lt_of_cell b)).trans b,e⟩,⟨f,(a.cell (lt_of_cell c)).trans c,g⟩⟩
theorem Qu (b c d:Bs)(g cap:Nat)(w:World)(B:Nat)(M:B≤w.heap.size)(C:rU B w)(N:vN w)(h:SlS w (some ⟨g,0,none⟩) cap [jS,b,c,d])(a:g<w.heap.size)(o:∀p ∈ [jS,b,c,d],p.length≤2000000):
 Calls prog 69 #[.slice (some ⟨g,0,none⟩) 4 cap] w (uM [jS,b,c,d] w):=by
 have O:=hid C;clear C;have T:=o b (by simp);have U:=o c (by simp);have V:=o d (by simp);obtain⟨_,_,q,_,i⟩:=SlS.at h (k:=0) (by simp);injection q with q
 injection q with e1 e2 _
 subst e1;subst e2;obtain⟨_,_,r,_,j⟩:=SlS.at h (k:=1) (by simp);injection r with r
 injection r with e1 e2 _
 subst e1;subst e2;obtain⟨_,_,s,_,l⟩:=SlS.at h (k:=2) (by simp);injection s with s
 injection s with e1 e2 _
 subst e1;subst e2;obtain⟨_,_,t,_,m⟩:=SlS.at h (k:=3) (by simp);injection t with t
 injection t with e1 e2 _
 subst e1;subst e2;rw[Nat.zero_add] at i j l m;have D:=i;have E:=j;have F:=l;have G:=m;go_enter func69,ntmps69;go_wp2_with fail;have u:Below w.heap.size w (w.alloc (.cells opZ.cells 42)):=zy;refine(vM c (w.alloc (.cells opZ.cells 42)) B (by simp;omega) (Lib.TabBelow.on O.out (u.mono M)) (N.on u) (by omega)).mono ?_;rintro e H ⟨rfl,x⟩;have I:Bk H w.heap.size 42 opZ.cells:=(Bk.new w opZ.cells 42).below x (by simp);have P:=x.size;simp only[World.size_alloc] at P;have f:Below w.heap.size w H:=u.trans (x.mono (by simp));unfold x8;have Q:=hid (qN (numOf c) 0);generalize(numOf c).getD 0=J at*;generalize(numOf c).isSome=y at*;have D:=(f.cell (p:=⟨g,0,none⟩) a).trans i;have E:=(f.cell (p:=⟨g,1,none⟩) a).trans j;have F:=(f.cell (p:=⟨g,2,none⟩) a).trans l;have G:=(f.cell (p:=⟨g,3,none⟩) a).trans m;go_wp2_with fail;refine(sJ d _ oo).mono ?_;rintro e W ⟨rfl,z⟩;have K:=I.below z I.lt;have X:=z.size;have n:=f.trans (z.mono oo);unfold ZA;have R:=hid (qN (hexD d) []);generalize(hexD d).getD []=L at*;generalize(hexD d).isSome=A at*;have D:=(n.cell (p:=⟨g,0,none⟩) a).trans i;have E:=(n.cell (p:=⟨g,1,none⟩) a).trans j;have F:=(n.cell (p:=⟨g,2,none⟩) a).trans l;have G:=(n.cell (p:=⟨g,3,none⟩) a).trans m;have S:=K.cell;have Y:=K.free;go_wp2
 all_goals
  first
   |exact bodyPost_ret (v:=.tuple #[(⟨0,0,0,J,b,L⟩:OpR).val,.bool (y&&A)]) (by simp [results,results69,go_sem,S]<;>simp_all) rfl ⟨⟨0,0,0,J,b,L⟩,y&&A,rfl,by unfold yH;simp only[Q.out,R.out];cases y<;>cases A<;>simp,zy⟩
theorem fields_append (b c d:Bs)(g cap:Nat)(w:World)(B:Nat)(M:B≤w.heap.size)(C:rU B w)(N:vN w)(h:SlS w (some ⟨g,0,none⟩) cap [wM,b,c,d])(a:g<w.heap.size)(o:∀p ∈ [wM,b,c,d],p.length≤2000000):
 Calls prog 69 #[.slice (some ⟨g,0,none⟩) 4 cap] w (uM [wM,b,c,d] w):=by
 have O:=hid C;clear C;have T:=o b (by simp);have U:=o c (by simp);have V:=o d (by simp);obtain⟨_,_,q,_,i⟩:=SlS.at h (k:=0) (by simp);injection q with q
 injection q with e1 e2 _
 subst e1;subst e2;obtain⟨_,_,r,_,j⟩:=SlS.at h (k:=1) (by simp);injection r with r
 injection r with e1 e2 _
 subst e1;subst e2;obtain⟨_,_,s,_,l⟩:=SlS.at h (k:=2) (by simp);injection s with s
 injection s with e1 e2 _
 subst e1;subst e2;obtain⟨_,_,t,_,m⟩:=SlS.at h (k:=3) (by simp);injection t with t
 injection t with e1 e2 _
 subst e1;subst e2;rw[Nat.zero_add] at i j l m;have D:=i;have E:=j;have F:=l;have G:=m;go_enter func69,ntmps69;go_wp2_with fail;have u:Below w.heap.size w (w.alloc (.cells opZ.cells 42)):=zy;refine(vM c (w.alloc (.cells opZ.cells 42)) B (by simp;omega) (Lib.TabBelow.on O.out (u.mono M)) (N.on u) (by omega)).mono ?_;rintro e H ⟨rfl,x⟩;have I:Bk H w.heap.size 42 opZ.cells:=(Bk.new w opZ.cells 42).below x (by simp);have P:=x.size;simp only[World.size_alloc] at P;have f:Below w.heap.size w H:=u.trans (x.mono (by simp));unfold x8;have Q:=hid (qN (numOf c) 0);generalize(numOf c).getD 0=J at*;generalize(numOf c).isSome=y at*;have D:=(f.cell (p:=⟨g,0,none⟩) a).trans i;have E:=(f.cell (p:=⟨g,1,none⟩) a).trans j;have F:=(f.cell (p:=⟨g,2,none⟩) a).trans l;have G:=(f.cell (p:=⟨g,3,none⟩) a).trans m;go_wp2_with fail;refine(sJ d _ oo).mono ?_;rintro e W ⟨rfl,z⟩;have K:=I.below z I.lt;have X:=z.size;have n:=f.trans (z.mono oo);unfold ZA;have R:=hid (qN (hexD d) []);generalize(hexD d).getD []=L at*;generalize(hexD d).isSome=A at*;have D:=(n.cell (p:=⟨g,0,none⟩) a).trans i;have E:=(n.cell (p:=⟨g,1,none⟩) a).trans j;have F:=(n.cell (p:=⟨g,2,none⟩) a).trans l;have G:=(n.cell (p:=⟨g,3,none⟩) a).trans m;have S:=K.cell;have Y:=K.free;go_wp2
 all_goals
  first
   |exact bodyPost_ret (v:=.tuple #[(⟨1,0,0,J,b,L⟩:OpR).val,.bool (y&&A)]) (by simp [results,results69,go_sem,S]<;>simp_all) rfl ⟨⟨1,0,0,J,b,L⟩,y&&A,rfl,by unfold yH;simp only[Q.out,R.out];cases y<;>cases A<;>simp,zy⟩
theorem YL (b c d e i:Bs)(g cap:Nat)(w:World)(B:Nat)(E:B≤w.heap.size)(W:rU B w)(F:vN w)(l:SlS w (some ⟨g,0,none⟩) cap [wz,b,c,d,e,i])(a:g<w.heap.size)(u:∀p ∈ [wz,b,c,d,e,i],p.length≤2000000):
 Calls prog 69 #[.slice (some ⟨g,0,none⟩) 6 cap] w (uM [wz,b,c,d,e,i] w):=by
 have G:=hid W;clear W;have b1:=u b (by simp);have b2:=u c (by simp);have b3:=u d (by simp);have b4:=u e (by simp);have b5:=u i (by simp);obtain⟨_,_,H,_,m⟩:=SlS.at l (k:=0) (by simp);injection H with H
 injection H with e1 e2 _
 subst e1;subst e2;obtain⟨_,_,I,_,n⟩:=SlS.at l (k:=1) (by simp);injection I with I
 injection I with e1 e2 _
 subst e1;subst e2;obtain⟨_,_,J,_,o⟩:=SlS.at l (k:=2) (by simp);injection J with J
 injection J with e1 e2 _
 subst e1;subst e2;obtain⟨_,_,K,_,q⟩:=SlS.at l (k:=3) (by simp);injection K with K
 injection K with e1 e2 _
 subst e1;subst e2;obtain⟨_,_,L,_,r⟩:=SlS.at l (k:=4) (by simp);injection L with L
 injection L with e1 e2 _
 subst e1;subst e2;obtain⟨_,_,M,_,s⟩:=SlS.at l (k:=5) (by simp);injection M with M
 injection M with e1 e2 _
 subst e1;subst e2;rw[Nat.zero_add] at m n o q r s;have x:=m;have y:=n;have z:=o;have A:=q;have C:=r;have D:=s;go_enter func69,ntmps69;go_wp2_with fail;have N:Below w.heap.size w (w.alloc (.cells opZ.cells 42)):=zy;refine(vM c (w.alloc (.cells opZ.cells 42)) B (by simp;omega) (Lib.TabBelow.on G.out (N.mono E)) (F.on N) (by omega)).mono ?_;rintro e X ⟨rfl,O⟩;have Y:Bk X w.heap.size 42 opZ.cells:=(Bk.new w opZ.cells 42).below O (by simp);have a6:=O.size;simp only[World.size_alloc] at a6;have f:Below w.heap.size w X:=N.trans (O.mono (by simp));unfold x8;have a7:=hid (qN (numOf c) 0);generalize(numOf c).getD 0=Z at*;generalize(numOf c).isSome=P at*;have x:=(f.cell (p:=⟨g,0,none⟩) a).trans m;have y:=(f.cell (p:=⟨g,1,none⟩) a).trans n;have z:=(f.cell (p:=⟨g,2,none⟩) a).trans o;have A:=(f.cell (p:=⟨g,3,none⟩) a).trans q;have C:=(f.cell (p:=⟨g,4,none⟩) a).trans r;have D:=(f.cell (p:=⟨g,5,none⟩) a).trans s;go_wp2_with fail;refine(vM d _ B oo (Lib.TabBelow.on G.out (f.mono E)) (F.on f) oo).mono ?_;rintro e w2 ⟨rfl,Q⟩;have K2:=Y.below Q Y.lt;have b7:=Q.size;have h:=f.trans (Q.mono oo);unfold x8;have a8:=hid (qN (numOf d) 0);generalize(numOf d).getD 0=Tv at*;generalize(numOf d).isSome=R at*;have x:=(h.cell (p:=⟨g,0,none⟩) a).trans m;have y:=(h.cell (p:=⟨g,1,none⟩) a).trans n;have z:=(h.cell (p:=⟨g,2,none⟩) a).trans o;have A:=(h.cell (p:=⟨g,3,none⟩) a).trans q;have C:=(h.cell (p:=⟨g,4,none⟩) a).trans r;have D:=(h.cell (p:=⟨g,5,none⟩) a).trans s;go_wp2_with fail;refine(vM e _ B oo (Lib.TabBelow.on G.out (h.mono E)) (F.on h) oo).mono ?_;rintro e w3 ⟨rfl,S⟩;have K3:=K2.below S K2.lt;have b9:=S.size;have j:=h.trans (S.mono oo);unfold x8;have a9:=hid (qN (numOf e) 0);generalize(numOf e).getD 0=Sv at*;generalize(numOf e).isSome=T at*;have x:=(j.cell (p:=⟨g,0,none⟩) a).trans m;have y:=(j.cell (p:=⟨g,1,none⟩) a).trans n;have z:=(j.cell (p:=⟨g,2,none⟩) a).trans o;have A:=(j.cell (p:=⟨g,3,none⟩) a).trans q;have C:=(j.cell (p:=⟨g,4,none⟩) a).trans r;have D:=(j.cell (p:=⟨g,5,none⟩) a).trans s;go_wp2_with fail;refine(sJ i _ oo).mono ?_;rintro e w4 ⟨rfl,U⟩;have K4:=K3.below U K3.lt;have c0:=U.size;have t:=j.trans (U.mono oo);unfold ZA;have a':=hid (qN (hexD i) []);generalize(hexD i).getD []=Dv at*;generalize(hexD i).isSome=V at*;have x:=(t.cell (p:=⟨g,0,none⟩) a).trans m;have y:=(t.cell (p:=⟨g,1,none⟩) a).trans n;have z:=(t.cell (p:=⟨g,2,none⟩) a).trans o;have A:=(t.cell (p:=⟨g,3,none⟩) a).trans q;have C:=(t.cell (p:=⟨g,4,none⟩) a).trans r;have D:=(t.cell (p:=⟨g,5,none⟩) a).trans s;have X2:=K4.cell;have F2:=K4.free;go_wp2
 all_goals
  first
   |exact bodyPost_ret (v:=.tuple #[(⟨2,Z,Tv,Sv,b,Dv⟩:OpR).val,.bool (P&&R&&T&&V)]) (by simp [results,results69,go_sem,X2]<;>simp_all) rfl ⟨⟨2,Z,Tv,Sv,b,Dv⟩,P&&R&&T&&V,rfl,by unfold yH;simp only[a7.out,a8.out,a9.out,a'.out];cases P<;>cases R<;>cases T<;>cases V<;>simp,zy⟩
theorem VK (b c:Bs)(g cap:Nat)(w:World)(B:Nat)(z:B≤w.heap.size)(s:rU B w)(A:vN w)(a:SlS w (some ⟨g,0,none⟩) cap [uH,b,c])(d:g<w.heap.size)(t:∀p ∈ [uH,b,c],p.length≤2000000):
 Calls prog 69 #[.slice (some ⟨g,0,none⟩) 3 cap] w (uM [uH,b,c] w):=by
 have C:=hid s;clear s;have J:=t b (by simp);have K:=t c (by simp);obtain⟨_,_,f,_,h⟩:=SlS.at a (k:=0) (by simp);injection f with f
 injection f with e1 e2 _
 subst e1;subst e2;obtain⟨_,_,i,_,j⟩:=SlS.at a (k:=1) (by simp);injection i with i
 injection i with e1 e2 _
 subst e1;subst e2;obtain⟨_,_,l,_,m⟩:=SlS.at a (k:=2) (by simp);injection l with l
 injection l with e1 e2 _
 subst e1;subst e2;rw[Nat.zero_add] at h j m;have D:=h;have E:=j;have F:=m;go_enter func69,ntmps69;go_wp2_with fail;have n:Below w.heap.size w (w.alloc (.cells opZ.cells 42)):=zy;refine(vM c (w.alloc (.cells opZ.cells 42)) B (by simp;omega) (Lib.TabBelow.on C.out (n.mono z)) (A.on n) (by omega)).mono ?_;rintro e u ⟨rfl,o⟩;have x:Bk u w.heap.size 42 opZ.cells:=(Bk.new w opZ.cells 42).below o (by simp);have G:=o.size;simp only[World.size_alloc] at G;have q:Below w.heap.size w u:=n.trans (o.mono (by simp));unfold x8;have H:=hid (qN (numOf c) 0);generalize(numOf c).getD 0=y at*;generalize(numOf c).isSome=r at*;have D:=(q.cell (p:=⟨g,0,none⟩) d).trans h;have E:=(q.cell (p:=⟨g,1,none⟩) d).trans j;have F:=(q.cell (p:=⟨g,2,none⟩) d).trans m;have I:=x.cell;have L:=x.free;go_wp2
 all_goals
  first
   |exact bodyPost_ret (v:=.tuple #[(⟨3,0,0,y,b,[]⟩:OpR).val,.bool (r)]) (by simp [results,results69,go_sem,I]<;>simp_all) rfl ⟨⟨3,0,0,y,b,[]⟩,r,rfl,by unfold yH;simp only[H.out];cases r<;>simp,zy⟩
theorem Xz (b:Bs)(g cap:Nat)(w:World)(B:Nat)(j:B≤w.heap.size)(d:rU B w)(l:vN w)(e:SlS w (some ⟨g,0,none⟩) cap [vP,b])(m:g<w.heap.size)(i:∀p ∈ [vP,b],p.length≤2000000):
 Calls prog 69 #[.slice (some ⟨g,0,none⟩) 2 cap] w (uM [vP,b] w):=by
 have n:=hid d;clear d;have o:=i b (by simp);obtain⟨_,_,a,_,f⟩:=SlS.at e (k:=0) (by simp);injection a with a
 injection a with e1 e2 _
 subst e1;subst e2;obtain⟨_,_,c,_,h⟩:=SlS.at e (k:=1) (by simp);injection c with c
 injection c with e1 e2 _
 subst e1;subst e2;rw[Nat.zero_add] at f h;have q:=f;have r:=h;go_enter func69,ntmps69;go_wp2
 all_goals
  first
   |exact bodyPost_ret (v:=.tuple #[(⟨4,0,0,0,b,[]⟩:OpR).val,.bool (true)]) (by simp [results,results69,go_sem]<;>simp_all) rfl ⟨⟨4,0,0,0,b,[]⟩,true,rfl,rfl,zy⟩
end Go.Proofs.YtoedhpcmgondjaaGreatDoor
namespace Go.Proofs.YtoedhpcmgondjaaGreatDoor
open Go.RowKit
set_option maxRecDepth 100000
abbrev opW (w:World)(b:Nat)(x:OpR):World:=(((((w.setCell ⟨b,0,none⟩ (.int .i64 x.k)).setCell ⟨b,1,none⟩ (.string ⟨x.nm.toArray⟩)).setCell ⟨b,2,none⟩ (.int .i64 x.f)).setCell ⟨b,3,none⟩ (.int .i64 x.t)).setCell ⟨b,4,none⟩ (.int .i64 x.s)).setCell ⟨b,5,none⟩ (.string ⟨x.d.toArray⟩)
theorem J8 {w:World}{b:Nat}{t:TypeId}{a c e g i j:Value}(h:Bk w b t #[a,c,e,g,i,j])(x:OpR):Bk (opW w b x) b t x.cells:=
 (((((h.set 0 (.int .i64 x.k)).set 1 (.string ⟨x.nm.toArray⟩)).set 2 (.int .i64 x.f)).set 3 (.int .i64 x.t)).set 4 (.int .i64 x.s)).set 5 (.string ⟨x.d.toArray⟩)
theorem Qo {w:World}{b c:Nat}{t:TypeId}{cs:Array Value}(h:Bk w c t cs)(a:c≠b)(x:OpR):Bk (opW w b x) c t cs:=
 (((((h.far (p:=⟨b,0,none⟩) a _).far (p:=⟨b,1,none⟩) a _).far (p:=⟨b,2,none⟩) a _).far (p:=⟨b,3,none⟩) a _).far (p:=⟨b,4,none⟩) a _).far (p:=⟨b,5,none⟩) a _
end Go.Proofs.YtoedhpcmgondjaaGreatDoor
namespace Go.Proofs.YtoedhpcmgondjaaGreatDoor
open Go.Lib(hid)
open Go.RowKit Go.Proofs.Tryz
set_option maxRecDepth 100000
attribute [local instance] mU hZ cvZ
attribute [local go_sem high] zG zF zH zV zN yu zD zl zn zt zi zu y9 zK yE zJ
theorem Vu (a b c d:Bs)(g cap:Nat)(w:World)(f:SlS w (some ⟨g,0,none⟩) cap ([a,b,c,d]))(l:g<w.heap.size)(h1:¬a=jS)(h2:¬a=wM):
 Calls prog 69 #[.slice (some ⟨g,0,none⟩) 4 cap] w (uM ([a,b,c,d]) w):=by
 have i:Hid (yH ([a,b,c,d])=none):=mg _ _ (fun _ h=>h.elim h1 h2) (fun h=>by simp at h) (fun h=>by simp at h) (fun h=>by simp at h);obtain⟨_,_,e,_,j⟩:=SlS.at f (k:=0) (by simp);injection e with e
 injection e with e1 e2 _
 subst e1;subst e2;rw[Nat.zero_add] at j;have m:decide (a=jS)=false:=(by simpa using h1);have n:decide (a=wM)=false:=(by simpa using h2);clear h1 h2;go_enter func69,ntmps69;go_wp2;exact bodyPost_ret (v:=.tuple #[opZ.val,.bool false]) (by simp [results,results69,go_sem,opZ]) rfl ⟨opZ,false,rfl,i.out,zy⟩
theorem Vg (a b c d e i:Bs)(g cap:Nat)(w:World)(j:SlS w (some ⟨g,0,none⟩) cap ([a,b,c,d,e,i]))(n:g<w.heap.size)(h1:¬a=wz):
 Calls prog 69 #[.slice (some ⟨g,0,none⟩) 6 cap] w (uM ([a,b,c,d,e,i]) w):=by
 have l:Hid (yH ([a,b,c,d,e,i])=none):=mg _ _ (fun h=>by simp at h) (fun _=>h1) (fun h=>by simp at h) (fun h=>by simp at h);obtain⟨_,_,f,_,m⟩:=SlS.at j (k:=0) (by simp);injection f with f
 injection f with e1 e2 _
 subst e1;subst e2;rw[Nat.zero_add] at m;have o:decide (a=wz)=false:=(by simpa using h1);clear h1;go_enter func69,ntmps69;go_wp2;exact bodyPost_ret (v:=.tuple #[opZ.val,.bool false]) (by simp [results,results69,go_sem,opZ]) rfl ⟨opZ,false,rfl,l.out,zy⟩
theorem VV (a b c:Bs)(g cap:Nat)(w:World)(e:SlS w (some ⟨g,0,none⟩) cap ([a,b,c]))(j:g<w.heap.size)(h1:¬a=uH):
 Calls prog 69 #[.slice (some ⟨g,0,none⟩) 3 cap] w (uM ([a,b,c]) w):=by
 have f:Hid (yH ([a,b,c])=none):=mg _ _ (fun h=>by simp at h) (fun h=>by simp at h) (fun _=>h1) (fun h=>by simp at h);obtain⟨_,_,d,_,i⟩:=SlS.at e (k:=0) (by simp);injection d with d
 injection d with e1 e2 _
 subst e1;subst e2;rw[Nat.zero_add] at i;have l:decide (a=uH)=false:=(by simpa using h1);clear h1;go_enter func69,ntmps69;go_wp2;exact bodyPost_ret (v:=.tuple #[opZ.val,.bool false]) (by simp [results,results69,go_sem,opZ]) rfl ⟨opZ,false,rfl,f.out,zy⟩
theorem Vh (a b:Bs)(g cap:Nat)(w:World)(d:SlS w (some ⟨g,0,none⟩) cap ([a,b]))(i:g<w.heap.size)(h1:¬a=vP):
 Calls prog 69 #[.slice (some ⟨g,0,none⟩) 2 cap] w (uM ([a,b]) w):=by
 have e:Hid (yH ([a,b])=none):=mg _ _ (fun h=>by simp at h) (fun h=>by simp at h) (fun h=>by simp at h) (fun _=>h1);obtain⟨_,_,c,_,f⟩:=SlS.at d (k:=0) (by simp);injection c with c
 injection c with e1 e2 _
 subst e1;subst e2;rw[Nat.zero_add] at f;have j:decide (a=vP)=false:=(by simpa using h1);clear h1;go_enter func69,ntmps69;go_wp2;exact bodyPost_ret (v:=.tuple #[opZ.val,.bool false]) (by simp [results,results69,go_sem,opZ]) rfl ⟨opZ,false,rfl,e.out,zy⟩
theorem mX (a:Bs)(r:List Bs)(g cap:Nat)(w:World)(e:SlS w (some ⟨g,0,none⟩) cap (a::r))(j:g<w.heap.size)(h1:r.length≠3)(h2:r.length≠5)(c:r.length≠2)(d:r.length≠1):
 Calls prog 69 #[.slice (some ⟨g,0,none⟩) (a::r).length cap] w (uM (a::r) w):=by
 have f:Hid (yH (a::r)=none):=mg _ _ (fun h=>absurd h h1) (fun h=>absurd h h2) (fun h=>absurd h c) (fun h=>absurd h d);obtain⟨_,_,b,_,i⟩:=SlS.at e (k:=0) (by simp);injection b with b
 injection b with e1 e2 _
 subst e1;subst e2;rw[Nat.zero_add] at i;have l:((r.length:Int)+1==4)=false:=(by rw[beq_eq_false_iff_ne];omega);have m:((r.length:Int)+1==6)=false:=(by rw[beq_eq_false_iff_ne];omega);have n:((r.length:Int)+1==3)=false:=(by rw[beq_eq_false_iff_ne];omega);have o:((r.length:Int)+1==2)=false:=(by rw[beq_eq_false_iff_ne];omega);clear h1 h2 c d;go_enter func69,ntmps69;go_wp2;exact bodyPost_ret (v:=.tuple #[opZ.val,.bool false]) (by simp [results,results69,go_sem,opZ]) rfl ⟨opZ,false,rfl,f.out,zy⟩
theorem SL (ps:List Bs)(o:ps≠[])(g cap:Nat)(w:World)(B:Nat)(k:B≤w.heap.size)(l:rU B w)(m:vN w)(h:SlS w (some ⟨g,0,none⟩) cap ps)(j:g<w.heap.size)(n:∀p ∈ ps,p.length≤2000000):
 Calls prog 69 #[.slice (some ⟨g,0,none⟩) ps.length cap] w (uM ps w):=by
 match ps,o with
 |[a,b,c,d],_=>
  by_cases h1:a=jS
  ·subst h1;exact Qu b c d g cap w B k l m h j n
  by_cases h2:a=wM
  ·subst h2;exact fields_append b c d g cap w B k l m h j n
  exact Vu a b c d g cap w h j h1 h2
 |[a,b,c,d,e,i],_=>
  by_cases h1:a=wz
  ·subst h1;exact YL b c d e i g cap w B k l m h j n
  exact Vg a b c d e i g cap w h j h1
 |[a,b,c],_=>
  by_cases h1:a=uH
  ·subst h1;exact VK b c g cap w B k l m h j n
  exact VV a b c g cap w h j h1
 |[a,b],_=>
  by_cases h1:a=vP
  ·subst h1;exact Xz b g cap w B k l m h j n
  exact Vh a b g cap w h j h1
 |[a],_=>exact mX a [] g cap w h j (by simp) (by simp) (by simp) (by simp)
 |[a,b,c,d,e],_=>exact mX a [b,c,d,e] g cap w h j (by simp) (by simp) (by simp) (by simp)
 |a::b::c::d::e::f::i::r,_=>exact mX a (b::c::d::e::f::i::r) g cap w h j (by simp) (by simp) (by simp) (by simp)
theorem Tj {ps:List Bs}{x:OpR}(h:yH ps=some x)(N:Nat)(j:∀p ∈ ps,p.length≤N):x.nm.length≤N∧x.d.length≤4000:=by
 have k:∀(e d:Bs),hexD e=some d→d.length≤4000:=by
  intro e d h;unfold hexD at h;split at h
  ·simp at h;subst h;simp
  ·split at h
   ·cases h
   ·exact(WL e d h).1
 unfold yH at h;split at h
 ·rename_i a b c e
  split at h
  ·cases hn:numOf c with
   |none=>rw[hn] at h;simp at h
   |some s=>
    cases hh:hexD e with
    |none=>rw[hn,hh] at h;simp at h
    |some d=>
     rw[hn,hh] at h;simp at h;subst h;exact⟨j b (by simp),k _ _ hh⟩
  ·cases h
 ·rename_i a b c e g i
  split at h
  ·cases hn:numOf c with
   |none=>rw[hn] at h;simp at h
   |some f=>
    cases hn2:numOf e with
    |none=>rw[hn,hn2] at h;simp at h
    |some t=>
     cases hn3:numOf g with
     |none=>rw[hn,hn2,hn3] at h;simp at h
     |some s=>
      cases hh:hexD i with
      |none=>rw[hn,hn2,hn3,hh] at h;simp at h
      |some d=>
       rw[hn,hn2,hn3,hh] at h;simp at h;subst h;exact⟨j b (by simp),k _ _ hh⟩
  ·cases h
 ·rename_i a b c
  split at h
  ·cases hn:numOf c with
   |none=>rw[hn] at h;simp at h
   |some s=>
    rw[hn] at h;simp at h;subst h;exact⟨j b (by simp),by simp⟩
  ·cases h
 ·rename_i a b
  split at h
  ·simp at h
   subst h;exact⟨j b (by simp),by simp⟩
  ·cases h
 ·cases h
theorem Ut (t:Bs)(m:Int)(w:World)(B:Nat)(O:B≤w.heap.size)(C:rU B w)(P:vN w)(D:w.cell? ⟨0,0,none⟩=some (.int .i64 m))(hs:t.length≤1500000):
 Calls prog 41 #[t] w fun e w'=>e=ku (yK t)∧Below w.heap.size w w':=by
 have Q:=hid C;clear C;have E:yK t=match yH (cut 32 t) with
  |some x=>if x.ok then some x else none
  |none=>none:=rfl
 have F:=fun x (h:yH (cut 32 t)=some x)=>Tj h t.length (fun p y=>oV 32 t p y);have R:=Ru 32 t;have a4:=PM 32 t;have G:=oV 32 t;have H:=NH 32 t m (w.alloc (.cells opZ.cells 42)) (by omega) (by rw[World.cell?_alloc_lt _ _ _ (lt_of_cell D)];exact D);have I:=hid E;have S:=hid F;have T:=hid G;clear E F G;generalize cut 32 t=ps at*;have U:Below w.heap.size w (w.alloc (.cells opZ.cells 42)):=zy;go_enter func41,ntmps41;go_wp2_with fail;refine H.mono ?_;rintro e w1 ⟨rfl,rfl⟩;have V:SlS ((w.alloc (.cells opZ.cells 42)).alloc (.cells (ps.map sv).toArray 9)) (some ⟨w.heap.size+1,0,none⟩) ps.length ps:=by
  have:=Sl.new (w.alloc (.cells opZ.cells 42)) (ps.map sv).toArray 9 ps.length 1 (by simp) (by omega);simpa using this
 have J:Bk ((w.alloc (.cells opZ.cells 42)).alloc (.cells (ps.map sv).toArray 9)) w.heap.size 42 opZ.cells:=(Bk.new _ _ _).alloc _;have n:Below w.heap.size w ((w.alloc (.cells opZ.cells 42)).alloc (.cells (ps.map sv).toArray 9)):=zy;have a6:((w.alloc (.cells opZ.cells 42)).alloc (.cells (ps.map sv).toArray 9)).heap.size=w.heap.size+2:=(by simp);generalize(w.alloc (.cells opZ.cells 42)).alloc (.cells (ps.map sv).toArray 9)=W at*;clear H U;simp only[World.size_alloc];go_wp2_with fail;refine(SL ps R (w.heap.size+1) ps.length W B oo (Lib.TabBelow.on Q.out (n.mono O)) (P.on n) V oo (fun p y=>by have:=T.out p y;omega)).mono ?_;rintro e z ⟨x,ok,rfl,o,q⟩;have a7:=q.size;have r:=J.below q oo;have g2:=n.trans (q.mono oo);have X:=r.cell;have Y:=r.free;have a9:w.heap.size+1≤z.heap.size:=oo;clear q J n
 cases ok with
 |false=>
  have i:Hid (ku (yK t)= .returned (.tuple #[opZ.val,.bool false])):=by
   show _=_;rw[I.out,o];rfl
  obtain⟨k,f,a,s,b,d⟩:=x;have c:=r.alloc (.cells (⟨k,f,a,s,b,d⟩:OpR).cells 42);have j:=c.cell;have K:=c.free;simp only[OpR.cells] at j K;go_wp2;exact bodyPost_ret (v:=.tuple #[opZ.val,.bool false]) (by simp [results,results41,go_sem,j,opZ]) rfl ⟨i.out.symm,zy⟩
 |true=>
  simp only[if_true] at o;have Z:=S.out x o;obtain⟨a0,a1⟩:=Z;have u:ku (yK t)=ku (if x.ok then some x else none):=(by rw[I.out,o]);obtain⟨k,f,a,s,b,d⟩:=x;go_wp2_with fail;have A:=Bk.new z (⟨k,f,a,s,b,d⟩:OpR).cells 42;have c:=r.alloc (.cells (⟨k,f,a,s,b,d⟩:OpR).cells 42);have L:Below w.heap.size w (z.alloc (.cells (⟨k,f,a,s,b,d⟩:OpR).cells 42)):=zy;refine(aJ k f a s b d _ (Nat.le_trans a0 oo) (Nat.le_trans a1 oo)).mono ?_;rintro e w3 ⟨rfl,l⟩;have a2:=l.size;simp only[World.size_alloc] at a2;have M:=A.below l A.lt;have N:=c.below l c.lt;have g4:=L.trans (l.mono (by simp;omega));have X7:=M.cell;have F7:=M.free;have j:=N.cell;have K:=N.free;clear l A c L X Y;by_cases g:rM k b f a s d
  ·have i:Hid (ku (yK t)= .returned (.tuple #[(⟨k,f,a,s,b,d⟩:OpR).val,.bool true])):=by
    show _=_;rw[u];have:(⟨k,f,a,s,b,d⟩:OpR).ok:=g;rw[if_pos this];rfl
   rw[decide_eq_true g];clear g u;go_wp2;exact bodyPost_ret (v:=.tuple #[(⟨k,f,a,s,b,d⟩:OpR).val,.bool true]) (by simp [results,results41,go_sem,j]) rfl ⟨i.out.symm,zy⟩
  ·have i:Hid (ku (yK t)= .returned (.tuple #[opZ.val,.bool false])):=by
    show _=_;rw[u];have:¬(⟨k,f,a,s,b,d⟩:OpR).ok:=g;rw[if_neg this];rfl
   rw[decide_eq_false g];clear g u;go_wp2;exact bodyPost_ret (v:=.tuple #[opZ.val,.bool false]) (by simp [results,results41,go_sem,j,opZ]) rfl ⟨i.out.symm,zy⟩
def qC (o:Option (OpR×Int)):Ending:=.returned (.tuple #[((o.map (·.1)).getD opZ).val,.int .i64 ((o.map (·.2)).getD 0),.bool o.isSome])
theorem iR (x:OpR)(e:Int):qC (some (x,e))= .returned (.tuple #[x.val,e,.bool true]):=rfl
theorem Qg (l:Bs)(w:World)(h:2≤l.length):
 Calls prog 50 #[l] w fun e w'=>e= .returned (.int .i64 (numAt l 0))∧Below w.heap.size w w':=by
 have h0:=zQ l 0;have h1:=yG l 0;have h2:=zQ l 1;have a:=yG l 1;have b:(2:Int)≤l.length:=oo;go_enter func50,ntmps50;go_wp2;go_quiet(fail);go_wp2;go_ret;exact⟨yZ (by unfold numAt;simp;omega),zy⟩
theorem dI (l:Bs)(a:Nat)(w:World)(h:a+1<l.length)(b:l.length≤4000000):
 Calls prog 40 #[l,(a:Int)] w fun e w'=>e= .returned (.int .i64 (numAt l a))∧Below w.heap.size w w':=by
 have h0:=zQ l a;have h1:=yG l a;have h2:=zQ l ((a:Int)+1);have c:=yG l ((a:Int)+1);have d:(a:Int)+1<l.length:=oo;go_enter func40,ntmps40;go_wp2;go_quiet(fail);go_wp2;go_ret;exact⟨rfl,zy⟩
theorem Zt (l:Bs)(a:Int)(w:World)(hs:l.length≤1500000)(b0: -9223372036854775808≤a)(b1:a≤9223372036854775807):
 Calls prog 29 #[l,(a:Int)] w fun e w'=>e=qC (zZ l a)∧Below w.heap.size w w':=by
 by_cases G:0≤a∧a+4≤l.length
 ·obtain⟨n,rfl⟩:=Int.eq_ofNat_of_zero_le G.1
  have b2:n+4≤l.length:=oo;have b3:¬(n:Int)<0:=oo;have b4:(n:Int)≤l.length:=oo;have b5:¬(l.length:Int) - n<4:=oo;have M:=xQ l n;have b6:(⟨l.toArray⟩:ByteArray).extract n (n+2)=⟨((l.drop n).take 2).toArray⟩:=by
   rw[ByteArray.extract_mk];simp
  have z:=fun w=>Qg ((l.drop n).take 2) w (by simp;omega);rw[Ti l n (by omega)] at z;have p:zZ l n=if 0≤(n:Int)∧(n:Int)+4≤l.length∧(n:Int)+4+numAt l n≤l.length then
   match yK (qA l n) with
   |some x=>if sumOf (qA l n)=numAt l ((n:Int)+2+numAt l n) then some (x,(n:Int)+4+numAt l n) else none
   |none=>none else none:=rfl
  have g:=Tf l n;have A:=fQ l n;have H:qA l n=(l.drop (n+2)).take (numAt l n).toNat:=rfl;obtain⟨m,Y⟩:=Int.eq_ofNat_of_zero_le M.1;rw[Y] at p g A H z M;simp only[Int.toNat_natCast] at g A H;have b7:m≤65535:=oo;clear G Y M;have b8:(⟨l.toArray⟩:ByteArray).extract (n+2) (n+2+m)=⟨(qA l n).toArray⟩:=by
   rw[ByteArray.extract_mk,H];simp
  have b9:(⟨l.toArray⟩:ByteArray).extract n (n+4+m)=⟨((l.drop n).take (4+m)).toArray⟩:=by
   rw[ByteArray.extract_mk];simp;congr 1;omega
  clear H;by_cases N:n+4+m≤l.length
  ·have a3:¬(l.length:Int) - n - 4<m:=oo
   replace g:=g N;replace A:=A N;rw[if_pos ⟨by omega,by omega,by omega⟩] at p;generalize qA l n=T at*;have I:=hid p;have J:=hid g;clear p g;have O:=fun w=>VM T w oo;unfold ku at O;have Z:=fun w=>dQ T w oo;go_enter func29,ntmps29;go_wp2_with fail;have q:=Bk.new w opZ.cells 42;refine(z _).mono ?_;rintro e P ⟨rfl,c⟩;have r:=q.below c q.lt;have Q:=c.size;simp only[World.size_alloc] at Q;have R:Below w.heap.size w P:=((Below.refl _ _).alloc (Nat.le_refl _) _).trans (c.mono (by simp));clear c q;go_wp2_with fail;refine(O _).mono ?_;rintro e w2 ⟨rfl,K⟩;have B:=r.below K r.lt;have b':=K.size;have g2:=R.trans (K.mono oo);clear K r R O z;have a4:(yK T).isSome=true∨yK T=none:=(by cases yK T<;>simp);rcases a4 with hk|hk
   ·obtain⟨x,S⟩:=Option.isSome_iff_exists.1 hk
    have t:Hid (zZ l n=if sumOf T=numAt l ((n:Int)+2+m) then some (x,(n:Int)+4+m) else none):=by
     show _=_;rw[I.out,S]
    have e1:(yK T).getD opZ=x:=(by rw[S];rfl);rw[e1,hk];clear hk S e1 I;obtain⟨k,f,i,s,j,d⟩:=x;have o:=(B.alloc (.cells (⟨k,f,i,s,j,d⟩:OpR).cells 42)).cell;have C:=(B.alloc (.cells (⟨k,f,i,s,j,d⟩:OpR).cells 42)).free;simp only[OpR.cells] at o C;have g3:Below w.heap.size w (w2.alloc (.cells (⟨k,f,i,s,j,d⟩:OpR).cells 42)):=zy;have L:=Bk.new w2 (⟨k,f,i,s,j,d⟩:OpR).cells 42;have u:=B.alloc (.cells (⟨k,f,i,s,j,d⟩:OpR).cells 42);by_cases y:sumOf T=numAt l ((n:Int)+2+m)
    ·have U:Hid (qC (zZ l n)= .returned (.tuple #[(⟨k,f,i,s,j,d⟩:OpR).val,.int .i64 ((n:Int)+4+m),.bool true])):=by
      show _=_;rw[t.out,if_pos y];rfl
     have hd:decide (uK T≠(l.drop n).take (4+m))=false:=by
      have:=J.out.2 y;simpa using this
     clear y J t;go_wp2_with fail;refine wp_region_quiet_below kr kr ?_;repeat(go_big_quiet_step ((go_at_call 52;exact Calls.regrown_of (Z _))))
     refine wpQuiet_nil ?_;intro V D;have b:Below _ _ V:=zh D;clear D;have K8:=L.below b L.lt;have E:=u.below b u.lt;have W:=b.size;simp only[World.size_alloc] at W;have g4:=g3.trans (b.mono (by simp;omega));have X:=E.cell;have F3:=E.free;have X8:=K8.cell;clear b o C L u;go_wp2;exact bodyPost_ret (v:=.tuple #[(⟨k,f,i,s,j,d⟩:OpR).val,.int .i64 ((n:Int)+4+m),.bool true]) (by simp [results,results29,go_sem,X]) rfl ⟨U.out.symm,zy⟩
    ·have U:Hid (qC (zZ l n)= .returned (.tuple #[opZ.val,.int .i64 0,.bool false])):=by
      show _=_;rw[t.out,if_neg y];rfl
     have hd:decide (uK T≠(l.drop n).take (4+m))=true:=by
      have:=fun h=>y (J.out.1 h);simpa using this
     clear y J t;go_wp2_with fail;refine wp_region_quiet_below kr kr ?_;repeat(go_big_quiet_step ((go_at_call 52;exact Calls.regrown_of (Z _))))
     refine wpQuiet_nil ?_;intro V D;have b:Below _ _ V:=zh D;clear D;have E:=u.below b u.lt;have W:=b.size;simp only[World.size_alloc] at W;have g4:=g3.trans (b.mono (by simp;omega));have X:=E.cell;have F3:=E.free;clear b o C L u;go_wp2;exact bodyPost_ret (v:=.tuple #[opZ.val,.int .i64 0,.bool false]) (by simp [results,results29,go_sem,opZ,X]) rfl ⟨U.out.symm,zy⟩
   ·have t:Hid (qC (zZ l n)= .returned (.tuple #[opZ.val,.int .i64 0,.bool false])):=by
     show _=_;rw[I.out,hk];rfl
    rw[hk];clear hk I;have o:=(B.alloc (.cells opZ.cells 42)).cell;have C:=(B.alloc (.cells opZ.cells 42)).free;simp only[OpR.cells] at o C;go_wp2_with fail;go_quiet(fail);go_wp2;simp only[opZ] at o;exact bodyPost_ret (v:=.tuple #[opZ.val,.int .i64 0,.bool false]) (by simp [results,results29,go_sem,opZ,o]) rfl ⟨t.out.symm,zy⟩
  ·have a3:(l.length:Int) - n - 4<m:=oo
   have F:Hid (qC (zZ l n)= .returned (.tuple #[opZ.val,.int .i64 0,.bool false])):=by
    show _=_;rw[p,if_neg (fun h=>N (by have:=h.2.2;omega))];rfl
   clear p g A;go_enter func29,ntmps29;go_wp2_with fail;have q:=Bk.new w opZ.cells 42;refine(z _).mono ?_;rintro e P ⟨rfl,c⟩;have r:=q.below c q.lt;have Q:=c.size;simp only[World.size_alloc] at Q;have R:Below w.heap.size w P:=((Below.refl _ _).alloc (Nat.le_refl _) _).trans (c.mono (by simp));have X1:=r.cell;have F1:=r.free;go_wp2;exact bodyPost_ret (v:=.tuple #[opZ.val,.int .i64 0,.bool false]) (by simp [results,results29,go_sem,opZ,X1]) rfl ⟨F.out.symm,zy⟩
 ·have F:Hid (qC (zZ l a)= .returned (.tuple #[opZ.val,.int .i64 0,.bool false])):=by
   show _=_;unfold zZ;rw[if_neg (fun h=>G ⟨h.1,h.2.1⟩)];rfl
  by_cases h1:a<0
  ·go_enter func29,ntmps29
   go_wp2;exact bodyPost_ret (v:=.tuple #[opZ.val,.int .i64 0,.bool false]) (by simp [results,results29,go_sem,opZ]) rfl ⟨F.out.symm,zy⟩
  ·have h2:¬a+4≤l.length:=fun h=>G ⟨by omega,h⟩
   by_cases h3:(l.length:Int)<a
   ·go_enter func29,ntmps29
    go_wp2;exact bodyPost_ret (v:=.tuple #[opZ.val,.int .i64 0,.bool false]) (by simp [results,results29,go_sem,opZ]) rfl ⟨F.out.symm,zy⟩
   ·have h4:(l.length:Int) - a<4:=oo
    go_enter func29,ntmps29;go_wp2;exact bodyPost_ret (v:=.tuple #[opZ.val,.int .i64 0,.bool false]) (by simp [results,results29,go_sem,opZ]) rfl ⟨F.out.symm,zy⟩
theorem Xg (l:Bs)(a:Int)(mx:Int)(w:World)(B:Nat)(P:B≤w.heap.size)(F:rU B w)(Q:vN w)(a2:w.cell? ⟨0,0,none⟩=some (.int .i64 mx))(hs:l.length≤1500000)(b7: -9223372036854775808≤a)(b8:a≤9223372036854775807):
 Calls prog 26 #[l,a] w fun e w'=>e=qC (zZ l a)∧Below w.heap.size w w':=by
 have HT:=hid F;have a8:=lt_of_cell a2;clear F;by_cases G:0≤a∧a+4≤l.length
 ·obtain⟨n,rfl⟩:=Int.eq_ofNat_of_zero_le G.1
  have b9:n+4≤l.length:=oo;have b':¬(n:Int)<0:=oo;have c0:(n:Int)≤(l.length:Int) - 4:=oo;have R:=xQ l n;have H:=fun w=>dI l n w oo oo;have o:zZ l n=if 0≤(n:Int)∧(n:Int)+4≤l.length∧(n:Int)+4+numAt l n≤l.length then
   match yK (qA l n) with
   |some x=>if sumOf (qA l n)=numAt l ((n:Int)+2+numAt l n) then some (x,(n:Int)+4+numAt l n) else none
   |none=>none else none:=rfl
  have A:=fQ l n;have I:qA l n=(l.drop (n+2)).take (numAt l n).toNat:=rfl;obtain⟨m,J⟩:=Int.eq_ofNat_of_zero_le R.1;rw[J] at o A I H R;simp only[Int.toNat_natCast] at A I;have c1:m≤65535:=oo;clear G J R;have c2:(⟨l.toArray⟩:ByteArray).extract (n+2) (n+2+m)=⟨(qA l n).toArray⟩:=by
   rw[ByteArray.extract_mk,I];simp
  clear I;by_cases a3:n+4+m≤l.length
  ·have a9:¬(l.length:Int) - 2<(n:Int)+2+m:=oo
   replace A:=A a3;rw[if_pos ⟨by omega,by omega,by omega⟩] at o;generalize qA l n=T at*;have K:=hid o;clear o;have S:=fun w P F Q J=>Ut T mx w B P F Q J oo;unfold ku at S;have U:=fun w=>dI l (n+2+m) w oo oo;have ec:((n+2+m:Nat):Int)=(n:Int)+2+m:=oo;rw[ec] at U;have c3:=tq T;go_enter func26,ntmps26;go_wp2_with fail;have q:=Bk.new w opZ.cells 42;refine(H _).mono ?_;rintro e L ⟨rfl,c⟩;have r:=q.below c q.lt;have V:=c.size;simp only[World.size_alloc] at V;have t:Below w.heap.size w L:=((Below.refl _ _).alloc (Nat.le_refl _) _).trans (c.mono (by simp));clear c q;go_wp2_with fail;refine(S L oo (Lib.TabBelow.on HT.out (t.mono P)) (Q.on t) ((t.cell (p:=⟨0,0,none⟩) a8).trans a2)).mono ?_;rintro e w2 ⟨rfl,M⟩;have C:=r.below M r.lt;have c4:=M.size;have g2:=t.trans (M.mono oo);clear M r t S H;have b0:(yK T).isSome=true∨yK T=none:=(by cases yK T<;>simp);rcases b0 with hk|hk
   ·obtain⟨x,W⟩:=Option.isSome_iff_exists.1 hk
    have u:Hid (zZ l n=if sumOf T=numAt l ((n:Int)+2+m) then some (x,(n:Int)+4+m) else none):=by
     show _=_;rw[K.out,W]
    have e1:(yK T).getD opZ=x:=(by rw[W];rfl);rw[e1,hk];clear hk W e1 K;obtain⟨k,f,g,s,i,d⟩:=x;have j:=(C.alloc (.cells (⟨k,f,g,s,i,d⟩:OpR).cells 42)).cell;have D:=(C.alloc (.cells (⟨k,f,g,s,i,d⟩:OpR).cells 42)).free;simp only[OpR.cells] at j D;have g3:Below w.heap.size w (w2.alloc (.cells (⟨k,f,g,s,i,d⟩:OpR).cells 42)):=zy;have N:=Bk.new w2 (⟨k,f,g,s,i,d⟩:OpR).cells 42;have y:=C.alloc (.cells (⟨k,f,g,s,i,d⟩:OpR).cells 42);by_cases z:sumOf T=numAt l ((n:Int)+2+m)
    ·have X:Hid (qC (zZ l n)= .returned (.tuple #[(⟨k,f,g,s,i,d⟩:OpR).val,.int .i64 ((n:Int)+4+m),.bool true])):=by
      show _=_;rw[u.out,if_pos z];rfl
     have hd:(sumOf T != numAt l ((n:Int)+2+m))=false:=(by simpa using z);clear z u;go_wp2_with fail;refine(nX T _ oo).mono ?_;rintro e Y ⟨rfl,rfl⟩;go_wp2_with fail;refine(U _).mono ?_;rintro e Y ⟨rfl,b⟩;have K8:=N.below b N.lt;have E:=y.below b y.lt;have Z:=b.size;simp only[World.size_alloc] at Z;have g4:=g3.trans (b.mono (by simp;omega));have X3:=E.cell;have F3:=E.free;have X8:=K8.cell;clear b j D N y;go_wp2;exact bodyPost_ret (v:=.tuple #[(⟨k,f,g,s,i,d⟩:OpR).val,.int .i64 ((n:Int)+4+m),.bool true]) (by simp [results,results26,go_sem,X3]<;>omega) rfl ⟨X.out.symm,zy⟩
    ·have X:Hid (qC (zZ l n)= .returned (.tuple #[opZ.val,.int .i64 0,.bool false])):=by
      show _=_;rw[u.out,if_neg z];rfl
     have hd:(sumOf T != numAt l ((n:Int)+2+m))=true:=(by simpa using z);clear z u;go_wp2_with fail;refine(nX T _ oo).mono ?_;rintro e Y ⟨rfl,rfl⟩;go_wp2_with fail;refine(U _).mono ?_;rintro e Y ⟨rfl,b⟩;have E:=y.below b y.lt;have Z:=b.size;simp only[World.size_alloc] at Z;have g4:=g3.trans (b.mono (by simp;omega));have X3:=E.cell;have F3:=E.free;clear b j D N y;go_wp2;exact bodyPost_ret (v:=.tuple #[opZ.val,.int .i64 0,.bool false]) (by simp [results,results26,go_sem,opZ,X3]) rfl ⟨X.out.symm,zy⟩
   ·have u:Hid (qC (zZ l n)= .returned (.tuple #[opZ.val,.int .i64 0,.bool false])):=by
     show _=_;rw[K.out,hk];rfl
    rw[hk];clear hk K;have j:=(C.alloc (.cells opZ.cells 42)).cell;have D:=(C.alloc (.cells opZ.cells 42)).free;simp only[OpR.cells] at j D;go_wp2;simp only[opZ] at j;exact bodyPost_ret (v:=.tuple #[opZ.val,.int .i64 0,.bool false]) (by simp [results,results26,go_sem,opZ,j]) rfl ⟨u.out.symm,zy⟩
  ·have a9:(l.length:Int) - 2<(n:Int)+2+m:=oo
   have O:Hid (qC (zZ l n)= .returned (.tuple #[opZ.val,.int .i64 0,.bool false])):=by
    show _=_;rw[o,if_neg (fun h=>a3 (by have:=h.2.2;omega))];rfl
   clear o A;go_enter func26,ntmps26;go_wp2_with fail;have q:=Bk.new w opZ.cells 42;refine(H _).mono ?_;rintro e L ⟨rfl,c⟩;have r:=q.below c q.lt;have V:=c.size;simp only[World.size_alloc] at V;have t:Below w.heap.size w L:=((Below.refl _ _).alloc (Nat.le_refl _) _).trans (c.mono (by simp));have X1:=r.cell;have F1:=r.free;go_wp2;exact bodyPost_ret (v:=.tuple #[opZ.val,.int .i64 0,.bool false]) (by simp [results,results26,go_sem,opZ,X1]) rfl ⟨O.out.symm,zy⟩
 ·have O:Hid (qC (zZ l a)= .returned (.tuple #[opZ.val,.int .i64 0,.bool false])):=by
   show _=_;unfold zZ;rw[if_neg (fun h=>G ⟨h.1,h.2.1⟩)];rfl
  by_cases h1:a<0
  ·go_enter func26,ntmps26
   go_wp2;exact bodyPost_ret (v:=.tuple #[opZ.val,.int .i64 0,.bool false]) (by simp [results,results26,go_sem,opZ]) rfl ⟨O.out.symm,zy⟩
  ·have h2:(l.length:Int) - 4<a:=by
    have:=fun h=>G ⟨by omega,h⟩;omega
   go_enter func26,ntmps26;go_wp2;exact bodyPost_ret (v:=.tuple #[opZ.val,.int .i64 0,.bool false]) (by simp [results,results26,go_sem,opZ]) rfl ⟨O.out.symm,zy⟩
