import Derived.Test.YtfppmajoidkooaaGreatDoorUW4
import Derived.Test.YtfppmajoidkooaaGreatDoorUW9
import Derived.Lib.AtoiErrMem
set_option linter.unusedVariables false
set_option linter.unusedSimpArgs false
set_option maxHeartbeats 8000000
namespace Go.Proofs.YtfppmajoidkooaaGreatDoor
open Go.RowKit
set_option maxRecDepth 100000
attribute [local go_sem high] zy zA zB zO zK zY zx zk zl zq zi zo yP zD yt zF
theorem mX (l:Bs)(w:World):
 Calls Tryz.prog 154 #[.string ⟨l.toArray⟩] w fun e w'=>e= .returned (.tuple #[.string ⟨(xm l).toArray⟩,.bool (decide (l≠[]))])∧w=w':=by
 by_cases h:l=[45]
 ·subst h
  go_enter Tryz.func154,Tryz.ntmps154;go_wp2;exact bodyPost_ret (v:=.tuple #[.string ⟨#[]⟩,.bool true]) (by simp [results,Tryz.results154,go_sem]) rfl ⟨rfl,rfl⟩
 ·have HE:Hid (xm l=l):=by show _=_;unfold xm;rw[if_neg h]
  have hd:decide (l=[45])=false:=(by simpa using h);clear h;go_enter Tryz.func154,Tryz.ntmps154;go_wp2;exact bodyPost_ret (v:=.tuple #[.string ⟨l.toArray⟩,.bool (decide (l≠[]))]) (by simp [results,Tryz.results154,go_sem]) rfl ⟨by rw[HE.out],rfl⟩
theorem Lm (l:Bs):hexD l=if l=[] then none else unhex (xm l):=by
 unfold hexD xm;by_cases h:l=[45]
 ·subst h;rfl
 ·rw[if_neg h,if_neg h]
def aN (o:Option Bs):Ending:=.returned (.tuple #[.string ⟨(o.getD []).toArray⟩,.bool o.isSome])
theorem uX (l:Bs)(w:World)(hl:l.length≤4000000):
 Calls Tryz.prog 126 #[.string ⟨l.toArray⟩] w fun e w'=>e=aN (hexD l)∧Below w.heap.size w w':=by
 have hE:=Lm l;have hu:(xm l).length≤4000000:=by
  unfold xm;split
  ·simp
  ·exact hl
 have c:=fun w=>Ve (xm l) w hu;unfold uC at c;by_cases h:l=[]
 ·rw[if_pos h] at hE
  have HE:=Go.Lib.hid hE;have hd:decide (l≠[])=false:=(by simpa using h);clear hE h;go_enter Tryz.func126,Tryz.ntmps126;go_wp2_with fail;refine(mX _ _).mono ?_;rintro e w1 ⟨rfl,rfl⟩;rw[hd];go_wp2;exact bodyPost_ret (v:=.tuple #[.string ⟨#[]⟩,.bool false]) (by simp [results,Tryz.results126,go_sem]) rfl ⟨by rw[HE.out];rfl,Below.refl _ _⟩
 ·rw[if_neg h] at hE
  have hd:decide (l≠[])=true:=(by simpa using h);rw[hE];have cd:=fun w=>mX l w;simp only[hd] at cd;generalize xm l=u at*;clear hE h;go_enter Tryz.func126,Tryz.ntmps126;go_wp2_with fail;refine(cd _).mono ?_;rintro e w1 ⟨rfl,rfl⟩;go_wp2_with fail;refine(c _).mono ?_;rintro e w2 ⟨rfl,hb2⟩;go_wp2;exact bodyPost_ret (v:=.tuple #[.string ⟨((unhex u).getD []).toArray⟩,.bool (unhex u).isSome]) (by simp [results,Tryz.results126,go_sem]) rfl ⟨rfl,hb2⟩
def wV (w:World):Prop:=(∃ev,w.cell? ⟨2,0,none⟩=some ev∧(ev= .nilIface∨∃te pe,ev= .iface te pe))∧(∃ev,w.cell? ⟨3,0,none⟩=some ev∧(ev= .nilIface∨∃te pe,ev= .iface te pe))
theorem wS (l:Bs)(w:World)(B:Nat)(hB:B≤w.heap.size)(hT:uD B w)(hE:wV w)(hl:l.length≤4000000):
 Calls Tryz.prog 125 #[.string ⟨l.toArray⟩] w fun e w'=>e=xG (numOf l)∧Below w.heap.size w w':=by
 have hT':=Go.Lib.hid hT;have hsz:(⟨l.toArray⟩:ByteArray).size≤281474976710656:=(by rw[zY];omega);obtain⟨⟨ev,hv,hev⟩,⟨ev2,hv2,hev2⟩⟩:=hE;have key:(⟨l.toArray⟩:ByteArray).data.toList=l:=(by simp);have hbytes:∀w':World,(w'=w∨∃t,w'=Lib.bytesWorld w 5 t)→Below w.heap.size w w':=by
  rintro w' (rfl|⟨t,rfl⟩)
  ·exact Below.refl _ _
  ·exact Lib.bytesWorld_below _ _ _
 cases ha:Lib.atoiAll l with
 |ok v=>
  have hbd:=Lib.atoiAll_bounds ha;have hN:numOf l=if Lib.itoa v=l then some v else none:=by unfold numOf;rw[ha]
  have cA:=Tryz.strconv_Atoi_ok ⟨l.toArray⟩ (by rw[zY];omega) v (by rw[key];exact ha) w;have CA:=Go.Lib.hid cA;have HB:=Go.Lib.hid hbytes;clear hbytes cA hT;obtain⟨hb0,hb1⟩:=hbd;have hlen:=Lib.itoa_length_le v hb0 hb1;go_enter Tryz.func125,Tryz.ntmps125;go_wp2_with fail;refine CA.out.mono ?_;rintro e w1 ⟨rfl,hw1⟩;have hb1':=HB.out w1 hw1;have hT1:uD B w1:=Lib.TabBelow.on hT'.out (hb1'.mono hB);go_wp2_with fail;refine(Zm v w1 B (by have:=hb1'.size;omega) hT1 hb0 hb1).mono ?_;rintro e w2 ⟨rfl,hb2⟩;have g2:=hb1'.trans (hb2.mono hb1'.size);by_cases he:Lib.itoa v=l
  ·have HN:Hid (numOf l=some v):=by show _=_;rw[hN,if_pos he]
   have hd:decide (Lib.itoa v≠l)=false:=(by simpa using he);clear hN he;go_wp2;exact bodyPost_ret (v:=.tuple #[.int .i64 v,.bool true]) (by simp [results,Tryz.results125,go_sem]) rfl ⟨by rw[HN.out];rfl,g2⟩
  ·have HN:Hid (numOf l=none):=by show _=_;rw[hN,if_neg he]
   have hd:decide (Lib.itoa v≠l)=true:=(by simpa using he);clear hN he;go_wp2;exact bodyPost_ret (v:=.tuple #[.int .i64 0,.bool false]) (by simp [results,Tryz.results125,go_sem]) rfl ⟨by rw[HN.out];rfl,g2⟩
 |«syntax»=>
  have HN:Hid (numOf l=none):=(by show _=_;unfold numOf;rw[ha]);have CA:=Go.Lib.hid (Tryz.strconv_Atoi_syntax ⟨l.toArray⟩ hsz (by rw[key];exact ha) ev w hv hev);clear hT hbytes;go_enter Tryz.func125,Tryz.ntmps125;go_wp2_with fail;refine CA.out.mono ?_;rintro e w1 ⟨N,rfl,hN1,hN2,hb1⟩;go_wp2;exact bodyPost_ret (v:=.tuple #[.int .i64 0,.bool false]) (by simp [results,Tryz.results125,go_sem]) rfl ⟨by rw[HN.out];rfl,hb1⟩
 |range=>
  have HN:Hid (numOf l=none):=(by show _=_;unfold numOf;rw[ha]);have CA:=Go.Lib.hid (Tryz.strconv_Atoi_range ⟨l.toArray⟩ hsz (by rw[key];exact ha) ev2 w hv2 hev2);clear hT hbytes;go_enter Tryz.func125,Tryz.ntmps125;go_wp2_with fail;refine CA.out.mono ?_;rintro e w1 ⟨N,rfl,hN1,hN2,hb1⟩;go_wp2;exact bodyPost_ret (v:=.tuple #[.int .i64 0,.bool false]) (by simp [results,Tryz.results125,go_sem]) rfl ⟨by rw[HN.out];rfl,hb1⟩
def kindOf (a:Bs):Int×Int:=if a=jg then(0,4) else if a=wz then(1,4) else if a=xR then(2,6) else if a=uh then(3,3) else if a=wX then(4,2) else(-1,0)
theorem SQ (a:Bs)(w:World):
 Calls Tryz.prog 84 #[.string ⟨a.toArray⟩] w fun e w'=>e= .returned (.tuple #[.int .i64 (kindOf a).1,.int .i64 (kindOf a).2])∧w=w':=by
 by_cases h1:a=jg
 ·subst h1
  go_enter Tryz.func84,Tryz.ntmps84;go_wp2;exact bodyPost_ret (v:=.tuple #[.int .i64 0,.int .i64 4]) (by simp [results,Tryz.results84,go_sem]) rfl ⟨rfl,rfl⟩
 by_cases h2:a=wz
 ·subst h2
  go_enter Tryz.func84,Tryz.ntmps84;go_wp2;exact bodyPost_ret (v:=.tuple #[.int .i64 1,.int .i64 4]) (by simp [results,Tryz.results84,go_sem]) rfl ⟨rfl,rfl⟩
 by_cases h3:a=xR
 ·subst h3
  go_enter Tryz.func84,Tryz.ntmps84;go_wp2;exact bodyPost_ret (v:=.tuple #[.int .i64 2,.int .i64 6]) (by simp [results,Tryz.results84,go_sem]) rfl ⟨rfl,rfl⟩
 by_cases h4:a=uh
 ·subst h4
  go_enter Tryz.func84,Tryz.ntmps84;go_wp2;exact bodyPost_ret (v:=.tuple #[.int .i64 3,.int .i64 3]) (by simp [results,Tryz.results84,go_sem]) rfl ⟨rfl,rfl⟩
 by_cases h5:a=wX
 ·subst h5
  go_enter Tryz.func84,Tryz.ntmps84;go_wp2;exact bodyPost_ret (v:=.tuple #[.int .i64 4,.int .i64 2]) (by simp [results,Tryz.results84,go_sem]) rfl ⟨rfl,rfl⟩
 have HK:Hid (kindOf a=(-1,0)):=(by show _=_;unfold kindOf;rw[if_neg h1,if_neg h2,if_neg h3,if_neg h4,if_neg h5]);have d1:decide (a=jg)=false:=(by simpa using h1);have d2:decide (a=wz)=false:=(by simpa using h2);have d3:decide (a=xR)=false:=(by simpa using h3);have d4:decide (a=uh)=false:=(by simpa using h4);have d5:decide (a=wX)=false:=(by simpa using h5);clear h1 h2 h3 h4 h5;go_enter Tryz.func84,Tryz.ntmps84;go_wp2;exact bodyPost_ret (v:=.tuple #[.int .i64 (-1),.int .i64 0]) (by simp [results,Tryz.results84,go_sem]) rfl ⟨by rw[HK.out],rfl⟩
abbrev OpR.cells (x:OpR):Array Value:=#[.int .i64 x.k,.string ⟨x.nm.toArray⟩,.int .i64 x.f,.int .i64 x.t,.int .i64 x.s,.string ⟨x.d.toArray⟩]
abbrev OpR.val (x:OpR):Value:=.agg x.cells
def opZ :OpR:=⟨0,0,0,0,[],[]⟩
def mV (o:Option OpR):Ending:=.returned (.tuple #[(o.getD opZ).val,.bool o.isSome])
theorem SK (a:Bs)(n:Nat):((kindOf a).1<0∨(n:Int)≠(kindOf a).2)∨((a=jg∨a=wz)∧n=4)∨(a=xR∧n=6)∨(a=uh∧n=3)∨(a=wX∧n=2):=by
 unfold kindOf;split
 ·rename_i h;by_cases hn:n=4
  ·exact .inr (.inl ⟨.inl h,hn⟩)
  ·exact .inl (.inr (by simp;omega))
 split
 ·rename_i h;by_cases hn:n=4
  ·exact .inr (.inl ⟨.inr h,hn⟩)
  ·exact .inl (.inr (by simp;omega))
 split
 ·rename_i h;by_cases hn:n=6
  ·exact .inr (.inr (.inl ⟨h,hn⟩))
  ·exact .inl (.inr (by simp;omega))
 split
 ·rename_i h;by_cases hn:n=3
  ·exact .inr (.inr (.inr (.inl ⟨h,hn⟩)))
  ·exact .inl (.inr (by simp;omega))
 split
 ·rename_i h;by_cases hn:n=2
  ·exact .inr (.inr (.inr (.inr ⟨h,hn⟩)))
  ·exact .inl (.inr (by simp;omega))
 ·exact .inl (.inl (by decide))
theorem Ot (a:Bs)(r:List Bs)(h:(kindOf a).1<0∨((a::r).length:Int)≠(kindOf a).2):yV (a::r)=none:=by
 cases hs:yV (a::r) with
 |none=>rfl
 |some x=>
  exfalso;unfold yV at hs;split at hs
  ·rename_i a' b c e heq
   injection heq with h1 h2
   subst h1 h2;split at hs
   ·rename_i hk
    rcases hk with rfl|rfl
    ·rw[show kindOf jg=(0,4) from rfl] at h;simp at h
    ·rw[show kindOf wz=(1,4) from rfl] at h;simp at h
   ·cases hs
  ·rename_i a' b c e g i heq
   injection heq with h1 h2
   subst h1 h2;split at hs
   ·rename_i hk;subst hk;rw[show kindOf xR=(2,6) from rfl] at h;simp at h
   ·cases hs
  ·rename_i a' b c heq
   injection heq with h1 h2
   subst h1 h2;split at hs
   ·rename_i hk;subst hk;rw[show kindOf uh=(3,3) from rfl] at h;simp at h
   ·cases hs
  ·rename_i a' b heq
   injection heq with h1 h2
   subst h1 h2;split at hs
   ·rename_i hk;subst hk;rw[show kindOf wX=(4,2) from rfl] at h;simp at h
   ·cases hs
  ·cases hs
theorem TR (t:Bs)(x:OpR)(h:yV (cut 32 t)=some x):mV (yB t)=if x.fmt=t then .returned (.tuple #[x.val,.bool true]) else .returned (.tuple #[opZ.val,.bool false]):=by
 rw[←QB,h];simp only;split<;>rfl
theorem Rz (t:Bs)(h:yV (cut 32 t)=none):mV (yB t)= .returned (.tuple #[opZ.val,.bool false]):=by
 rw[←QB,h];rfl
theorem XX (t:Bs)(w:World)(hs:t.length≤1500000):
 Calls Tryz.prog 49 #[.string ⟨t.toArray⟩] w fun e w'=>e=mV (yB t)∧Below w.heap.size w w':=by
 have HS:=Go.Lib.hid (TR t);have HO:=Go.Lib.hid (Rz t);have HM:=Go.Lib.hid (pK 32 t);have hne:=TW 32 t;have cS:=fun w=>QP 32 t w oo;generalize mV (yB t)=RES at*;generalize hps:cut 32 t=ps at*;clear hps;obtain⟨a,r,rfl⟩:∃a r,ps=a::r:=by cases ps with
  |nil=>exact absurd rfl hne
  |cons a r=>exact⟨a,r,rfl⟩
 have hla:=HM.out a List.mem_cons_self;go_enter Tryz.func49,Tryz.ntmps49;go_wp2_with fail;refine(cS _).mono ?_;rintro e w2 ⟨⟨v,rfl,hown⟩,hb2⟩;obtain⟨g,cap,rfl,hg1,hg2⟩:=hown.form (by simp);have hsp:SlS w2 (some ⟨g,0,none⟩) cap (a::r):=by
  obtain⟨A,cap',hv,h⟩:=Sl.sN hown;injection hv with e1 e2 e3
  subst e1;subst e3;exact h
 have hz2:=hb2.size;simp only[World.size_alloc] at hz2 hg1;have hK2:Bk w2 w.heap.size 26 opZ.cells:=(Bk.new w opZ.cells 26).below hb2 (by simp);have X2:=hK2.cell;have F2:=hK2.free;have g2:Below w.heap.size w w2:=((Below.refl _ _).alloc (Nat.le_refl _) _).trans (hb2.mono (by simp));clear hb2 cS hown;obtain⟨_,_,hA0,_,hc0⟩:=SlS.at hsp (k:=0) (by simp);injection hA0 with hA0
 injection hA0 with e1 e2 _
 subst e1;subst e2;rw[Nat.zero_add] at hc0;go_wp2_with fail;refine(SQ a _).mono ?_;rintro e w3 ⟨rfl,rfl⟩;rcases SK a (a::r).length with hk|⟨hk,hn⟩|⟨hk,hn⟩|⟨hk,hn⟩|⟨hk,hn⟩
 ·have HR:=Go.Lib.hid (HO.out (Ot a r hk))
  generalize kindOf a=K at*;obtain⟨K1,K2⟩:=K;simp only at hk⊢;by_cases h1:K1<0
  ·go_wp2
   exact bodyPost_ret (v:=.tuple #[opZ.val,.bool false]) (by simp [results,Tryz.results49,go_sem,X2,opZ]) rfl ⟨HR.out.symm,zu⟩
  ·have h2:((r.length:Int)+1 != K2)=true:=by
    rcases hk with h|h
    ·exact absurd h h1
    ·simpa using h
   go_wp2;exact bodyPost_ret (v:=.tuple #[opZ.val,.bool false]) (by simp [results,Tryz.results49,go_sem,X2,opZ]) rfl ⟨HR.out.symm,zu⟩
 ·obtain⟨b,c,d,rfl⟩:∃b c d,r=[b,c,d]:=by
   match r,hn with
   |[b,c,d],_=>exact⟨b,c,d,rfl⟩
  have hX:=HS.out _ (show yV [a,b,c,d]=some _ from by unfold yV;simp only;rw[if_pos hk]);obtain⟨_,_,hA1,_,hc1⟩:=SlS.at hsp (k:=1) (by simp);injection hA1 with hA1
  injection hA1 with e1 e2 _
  subst e1;subst e2;obtain⟨_,_,hA2,_,hc2⟩:=SlS.at hsp (k:=2) (by simp);injection hA2 with hA2
  injection hA2 with e1 e2 _
  subst e1;subst e2;obtain⟨_,_,hA3,_,hc3⟩:=SlS.at hsp (k:=3) (by simp);injection hA3 with hA3
  injection hA3 with e1 e2 _
  subst e1;subst e2;rw[Nat.zero_add] at hc1 hc2 hc3;have hlb:=HM.out b (by simp);have hlc:=HM.out c (by simp);have hld:=HM.out d (by simp);obtain⟨kk,hkk,hkk0,hkk1,hkk2⟩:∃kk:Int,kindOf a=(kk,4)∧(if a=wz then(1:Int) else 0)=kk∧¬kk<0∧(kk==2)=false:=by
   rcases hk with rfl|rfl
   ·exact⟨0,rfl,rfl,by decide,by decide⟩
   ·exact⟨1,rfl,rfl,by decide,by decide⟩
  rw[hkk0] at hX;rw[hkk];clear hk hn hkk hkk0 HS HO;have HX:=Go.Lib.hid hX;clear hX;go_wp2_with fail;refine(oU c _ oo).mono ?_;rintro e w3 ⟨rfl,rfl⟩;unfold xG;generalize(nD c).getD 0=Sv at*;generalize(nD c).isSome=Sv2 at*;go_wp2_with fail;refine(ZV d _).mono ?_;rintro e w3 ⟨rfl,rfl⟩;have hul:(xm d).length≤4000000:=by
   unfold xm;split
   ·simp
   ·omega
  have cH:=fun w=>jE (xm d) w hul;simp only[Y7] at cH;have hxl:=ZK (xm d);generalize(unhex (xm d)).getD []=D at*;generalize(unhex (xm d)).isSome=D2 at*;generalize xm d=ud at*;go_wp2_with fail;have K7:=Bk.new w2 #[.int .i64 kk,.string ⟨b.toArray⟩,.int .i64 0,.int .i64 0,.int .i64 Sv,.string ⟨#[]⟩] 26;have K2':=hK2.alloc (.cells #[.int .i64 kk,.string ⟨b.toArray⟩,.int .i64 0,.int .i64 0,.int .i64 Sv,.string ⟨#[]⟩] 26);have g3:Below w.heap.size w (w2.alloc (.cells #[.int .i64 kk,.string ⟨b.toArray⟩,.int .i64 0,.int .i64 0,.int .i64 Sv,.string ⟨#[]⟩] 26)):=zu;refine(cH _).mono ?_;rintro e w4 ⟨rfl,hb4⟩;have hz4:=hb4.size;have hW2:=K2'.lt;have hW7:=K7.lt;have K7':=K7.below hb4 hW7;have K2'':=K2'.below hb4 hW2;have g4:=g3.trans (hb4.mono (by simp;omega));simp only[World.size_alloc] at hz4;have X7:=K7'.cell;have F7:=K7'.free;clear hb4 cH K7 K2' g3 X2 F2 hK2;go_wp2_with fail;have K7f:=K7'.set 5 (.string ⟨D.toArray⟩);have K2f:=K2''.far (p:=⟨w2.heap.size,5,none⟩) (by show _≠_;simp;omega) (.string ⟨D.toArray⟩);have gf:=g4.setCell (p:=⟨w2.heap.size,5,none⟩) (by show _≤_;simp;omega) (.string ⟨D.toArray⟩);clear X7 F7 K7' K2'' g4;refine(uO kk 0 0 Sv b D _ oo oo).mono ?_;rintro e w5 ⟨rfl,hb5⟩;have hz5:=hb5.size;have K7g:=K7f.below hb5 K7f.lt;have K2g:=K2f.below hb5 K2f.lt;have g5:=gf.trans (hb5.mono (by simp;omega));simp at hz5;have X7:=K7g.cell;have F7:=K7g.free;have X2:=K2g.cell;have F2:=K2g.free;clear hb5 K7f K2f gf;by_cases he:yU kk b 0 0 Sv D=t
  ·have HR:Hid (RES= .returned (.tuple #[(⟨kk,0,0,Sv,b,D⟩:OpR).val,.bool true])):=by
    show _=_;rw[HX.out];exact if_pos he
   have hd:decide (yU kk b 0 0 Sv D≠t)=false:=(by simpa using he);clear he HX;generalize yU kk b 0 0 Sv D=FT at*;go_wp2;exact bodyPost_ret (v:=.tuple #[(⟨kk,0,0,Sv,b,D⟩:OpR).val,.bool true]) (by simp [results,Tryz.results49,go_sem,X2]) rfl ⟨HR.out.symm,zu⟩
  ·have HR:Hid (RES= .returned (.tuple #[opZ.val,.bool false])):=by
    show _=_;rw[HX.out];exact if_neg he
   have hd:decide (yU kk b 0 0 Sv D≠t)=true:=(by simpa using he);clear he HX;generalize yU kk b 0 0 Sv D=FT at*;go_wp2;exact bodyPost_ret (v:=.tuple #[opZ.val,.bool false]) (by simp [results,Tryz.results49,go_sem,X2,opZ]) rfl ⟨HR.out.symm,zu⟩
 ·obtain⟨b,c,d,e,i,rfl⟩:∃b c d e i,r=[b,c,d,e,i]:=by
   match r,hn with
   |[b,c,d,e,i],_=>exact⟨b,c,d,e,i,rfl⟩
  have hX:=HS.out _ (show yV [a,b,c,d,e,i]=some _ from by unfold yV;simp only;rw[if_pos hk]);obtain⟨_,_,hA1,_,hc1⟩:=SlS.at hsp (k:=1) (by simp);injection hA1 with hA1
  injection hA1 with e1 e2 _
  subst e1;subst e2;obtain⟨_,_,hA2,_,hc2⟩:=SlS.at hsp (k:=2) (by simp);injection hA2 with hA2
  injection hA2 with e1 e2 _
  subst e1;subst e2;obtain⟨_,_,hA3,_,hc3⟩:=SlS.at hsp (k:=3) (by simp);injection hA3 with hA3
  injection hA3 with e1 e2 _
  subst e1;subst e2;obtain⟨_,_,hA4,_,hc4⟩:=SlS.at hsp (k:=4) (by simp);injection hA4 with hA4
  injection hA4 with e1 e2 _
  subst e1;subst e2;obtain⟨_,_,hA5,_,hc5⟩:=SlS.at hsp (k:=5) (by simp);injection hA5 with hA5
  injection hA5 with e1 e2 _
  subst e1;subst e2;rw[Nat.zero_add] at hc1 hc2 hc3 hc4 hc5;have hlb:=HM.out b (by simp);have hlc:=HM.out c (by simp);have hld:=HM.out d (by simp);have hle:=HM.out e (by simp);have hli:=HM.out i (by simp);subst hk;rw[show kindOf xR=(2,6) from rfl];clear hn HS HO;have HX:=Go.Lib.hid hX;clear hX;go_wp2_with fail;refine(oU c _ oo).mono ?_;rintro e w3 ⟨rfl,rfl⟩;unfold xG;generalize(nD c).getD 0=Fv at*;generalize(nD c).isSome=Fv2 at*;go_wp2_with fail;refine(oU d _ oo).mono ?_;rintro e w3 ⟨rfl,rfl⟩;unfold xG;generalize(nD d).getD 0=Tv at*;generalize(nD d).isSome=Tv2 at*;go_wp2_with fail;refine(oU e _ oo).mono ?_;rintro e w3 ⟨rfl,rfl⟩;unfold xG;generalize(nD e).getD 0=Sv at*;generalize(nD e).isSome=Sv2 at*;go_wp2_with fail;refine(ZV i _).mono ?_;rintro e w3 ⟨rfl,rfl⟩;have hul:(xm i).length≤4000000:=by
   unfold xm;split
   ·simp
   ·omega
  have cH:=fun w=>jE (xm i) w hul;simp only[Y7] at cH;have hxl:=ZK (xm i);generalize(unhex (xm i)).getD []=D at*;generalize(unhex (xm i)).isSome=D2 at*;generalize xm i=ud at*;go_wp2_with fail;have K7:=Bk.new w2 #[.int .i64 2,.string ⟨b.toArray⟩,.int .i64 Fv,.int .i64 Tv,.int .i64 Sv,.string ⟨#[]⟩] 26;have K2':=hK2.alloc (.cells #[.int .i64 2,.string ⟨b.toArray⟩,.int .i64 Fv,.int .i64 Tv,.int .i64 Sv,.string ⟨#[]⟩] 26);have g3:Below w.heap.size w (w2.alloc (.cells #[.int .i64 2,.string ⟨b.toArray⟩,.int .i64 Fv,.int .i64 Tv,.int .i64 Sv,.string ⟨#[]⟩] 26)):=zu;refine(cH _).mono ?_;rintro e w4 ⟨rfl,hb4⟩;have hz4:=hb4.size;have hW2:=K2'.lt;have hW7:=K7.lt;have K7':=K7.below hb4 hW7;have K2'':=K2'.below hb4 hW2;have g4:=g3.trans (hb4.mono (by simp;omega));simp only[World.size_alloc] at hz4;have X7:=K7'.cell;have F7:=K7'.free;clear hb4 cH K7 K2' g3 X2 F2 hK2;go_wp2_with fail;have K7f:=K7'.set 5 (.string ⟨D.toArray⟩);have K2f:=K2''.far (p:=⟨w2.heap.size,5,none⟩) (by show _≠_;simp;omega) (.string ⟨D.toArray⟩);have gf:=g4.setCell (p:=⟨w2.heap.size,5,none⟩) (by show _≤_;simp;omega) (.string ⟨D.toArray⟩);clear X7 F7 K7' K2'' g4;refine(uO 2 Fv Tv Sv b D _ oo oo).mono ?_;rintro e w5 ⟨rfl,hb5⟩;have hz5:=hb5.size;have K7g:=K7f.below hb5 K7f.lt;have K2g:=K2f.below hb5 K2f.lt;have g5:=gf.trans (hb5.mono (by simp;omega));simp at hz5;have X7:=K7g.cell;have F7:=K7g.free;have X2:=K2g.cell;have F2:=K2g.free;clear hb5 K7f K2f gf;by_cases he:yU 2 b Fv Tv Sv D=t
  ·have HR:Hid (RES= .returned (.tuple #[(⟨2,Fv,Tv,Sv,b,D⟩:OpR).val,.bool true])):=by
    show _=_;rw[HX.out];exact if_pos he
   have hd:decide (yU 2 b Fv Tv Sv D≠t)=false:=(by simpa using he);clear he HX;generalize yU 2 b Fv Tv Sv D=FT at*;go_wp2;exact bodyPost_ret (v:=.tuple #[(⟨2,Fv,Tv,Sv,b,D⟩:OpR).val,.bool true]) (by simp [results,Tryz.results49,go_sem,X2]) rfl ⟨HR.out.symm,zu⟩
  ·have HR:Hid (RES= .returned (.tuple #[opZ.val,.bool false])):=by
    show _=_;rw[HX.out];exact if_neg he
   have hd:decide (yU 2 b Fv Tv Sv D≠t)=true:=(by simpa using he);clear he HX;generalize yU 2 b Fv Tv Sv D=FT at*;go_wp2;exact bodyPost_ret (v:=.tuple #[opZ.val,.bool false]) (by simp [results,Tryz.results49,go_sem,X2,opZ]) rfl ⟨HR.out.symm,zu⟩
 ·obtain⟨b,c,rfl⟩:∃b c,r=[b,c]:=by
   match r,hn with
   |[b,c],_=>exact⟨b,c,rfl⟩
  have hX:=HS.out _ (show yV [a,b,c]=some _ from by unfold yV;simp only;rw[if_pos hk]);obtain⟨_,_,hA1,_,hc1⟩:=SlS.at hsp (k:=1) (by simp);injection hA1 with hA1
  injection hA1 with e1 e2 _
  subst e1;subst e2;obtain⟨_,_,hA2,_,hc2⟩:=SlS.at hsp (k:=2) (by simp);injection hA2 with hA2
  injection hA2 with e1 e2 _
  subst e1;subst e2;rw[Nat.zero_add] at hc1 hc2;have hlb:=HM.out b (by simp);have hlc:=HM.out c (by simp);subst hk;rw[show kindOf uh=(3,3) from rfl];clear hn HS HO;have HX:=Go.Lib.hid hX;clear hX;go_wp2_with fail;refine(oU c _ oo).mono ?_;rintro e w3 ⟨rfl,rfl⟩;unfold xG;generalize(nD c).getD 0=Sv at*;generalize(nD c).isSome=Sv2 at*;go_wp2_with fail;have K7f:=Bk.new w2 #[.int .i64 3,.string ⟨b.toArray⟩,.int .i64 0,.int .i64 0,.int .i64 Sv,.string ⟨#[]⟩] 26;have K2f:=hK2.alloc (.cells #[.int .i64 3,.string ⟨b.toArray⟩,.int .i64 0,.int .i64 0,.int .i64 Sv,.string ⟨#[]⟩] 26);have gf:Below w.heap.size w (w2.alloc (.cells #[.int .i64 3,.string ⟨b.toArray⟩,.int .i64 0,.int .i64 0,.int .i64 Sv,.string ⟨#[]⟩] 26)):=zu;clear X2 F2 hK2;refine(uO 3 0 0 Sv b [] _ (by omega) (by simp)).mono ?_;rintro e w5 ⟨rfl,hb5⟩;have hz5:=hb5.size;have K7g:=K7f.below hb5 K7f.lt;have K2g:=K2f.below hb5 K2f.lt;have g5:=gf.trans (hb5.mono (by simp;omega));simp at hz5;have X7:=K7g.cell;have F7:=K7g.free;have X2:=K2g.cell;have F2:=K2g.free;clear hb5 K7f K2f gf;by_cases he:yU 3 b 0 0 Sv []=t
  ·have HR:Hid (RES= .returned (.tuple #[(⟨3,0,0,Sv,b,[]⟩:OpR).val,.bool true])):=by
    show _=_;rw[HX.out];exact if_pos he
   have hd:decide (yU 3 b 0 0 Sv []≠t)=false:=(by simpa using he);clear he HX;generalize yU 3 b 0 0 Sv []=FT at*;go_wp2;exact bodyPost_ret (v:=.tuple #[(⟨3,0,0,Sv,b,[]⟩:OpR).val,.bool true]) (by simp [results,Tryz.results49,go_sem,X2]) rfl ⟨HR.out.symm,zu⟩
  ·have HR:Hid (RES= .returned (.tuple #[opZ.val,.bool false])):=by
    show _=_;rw[HX.out];exact if_neg he
   have hd:decide (yU 3 b 0 0 Sv []≠t)=true:=(by simpa using he);clear he HX;generalize yU 3 b 0 0 Sv []=FT at*;go_wp2;exact bodyPost_ret (v:=.tuple #[opZ.val,.bool false]) (by simp [results,Tryz.results49,go_sem,X2,opZ]) rfl ⟨HR.out.symm,zu⟩
 ·obtain⟨b,rfl⟩:∃b,r=[b]:=by
   match r,hn with
   |[b],_=>exact⟨b,rfl⟩
  have hX:=HS.out _ (show yV [a,b]=some _ from by unfold yV;simp only;rw[if_pos hk]);obtain⟨_,_,hA1,_,hc1⟩:=SlS.at hsp (k:=1) (by simp);injection hA1 with hA1
  injection hA1 with e1 e2 _
  subst e1;subst e2;rw[Nat.zero_add] at hc1;have hlb:=HM.out b (by simp);subst hk;rw[show kindOf wX=(4,2) from rfl];clear hn HS HO;have HX:=Go.Lib.hid hX;clear hX;go_wp2_with fail;have K7f:=Bk.new w2 #[.int .i64 4,.string ⟨b.toArray⟩,.int .i64 0,.int .i64 0,.int .i64 0,.string ⟨#[]⟩] 26;have K2f:=hK2.alloc (.cells #[.int .i64 4,.string ⟨b.toArray⟩,.int .i64 0,.int .i64 0,.int .i64 0,.string ⟨#[]⟩] 26);have gf:Below w.heap.size w (w2.alloc (.cells #[.int .i64 4,.string ⟨b.toArray⟩,.int .i64 0,.int .i64 0,.int .i64 0,.string ⟨#[]⟩] 26)):=zu;clear X2 F2 hK2;refine(uO 4 0 0 0 b [] _ (by omega) (by simp)).mono ?_;rintro e w5 ⟨rfl,hb5⟩;have hz5:=hb5.size;have K7g:=K7f.below hb5 K7f.lt;have K2g:=K2f.below hb5 K2f.lt;have g5:=gf.trans (hb5.mono (by simp;omega));simp at hz5;have X7:=K7g.cell;have F7:=K7g.free;have X2:=K2g.cell;have F2:=K2g.free;clear hb5 K7f K2f gf;by_cases he:yU 4 b 0 0 0 []=t
  ·have HR:Hid (RES= .returned (.tuple #[(⟨4,0,0,0,b,[]⟩:OpR).val,.bool true])):=by
    show _=_;rw[HX.out];exact if_pos he
   have hd:decide (yU 4 b 0 0 0 []≠t)=false:=(by simpa using he);clear he HX;generalize yU 4 b 0 0 0 []=FT at*;go_wp2;exact bodyPost_ret (v:=.tuple #[(⟨4,0,0,0,b,[]⟩:OpR).val,.bool true]) (by simp [results,Tryz.results49,go_sem,X2]) rfl ⟨HR.out.symm,zu⟩
  ·have HR:Hid (RES= .returned (.tuple #[opZ.val,.bool false])):=by
    show _=_;rw[HX.out];exact if_neg he
   have hd:decide (yU 4 b 0 0 0 []≠t)=true:=(by simpa using he);clear he HX;generalize yU 4 b 0 0 0 []=FT at*;go_wp2;exact bodyPost_ret (v:=.tuple #[opZ.val,.bool false]) (by simp [results,Tryz.results49,go_sem,X2,opZ]) rfl ⟨HR.out.symm,zu⟩
end Go.Proofs.YtfppmajoidkooaaGreatDoor
