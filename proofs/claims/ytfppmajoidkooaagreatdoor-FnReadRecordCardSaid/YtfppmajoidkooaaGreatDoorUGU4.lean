import Derived.Test.YtfppmajoidkooaaGreatDoorUGU1
import Derived.Test.YtfppmajoidkooaaGreatDoorUGJ4
import Derived.Test.YtfppmajoidkooaaGreatDoorUGP4
import Derived.Test.YtfppmajoidkooaaGreatDoorUGP1
import Derived.Test.YtfppmajoidkooaaGreatDoorUR1
import Derived.Test.YtfppmajoidkooaaGreatDoorUGW
import Derived.Deep.Cut
import Derived.Test.YtfppmajoidkooaaGreatDoorUQ8
set_option linter.unusedVariables false
set_option linter.unusedSimpArgs false
set_option maxHeartbeats 8000000
namespace Go.Proofs.YtfppmajoidkooaaGreatDoor
open Go.RowKit
set_option maxRecDepth 100000
attribute [local go_sem high] zy zA zB zO zK zY zx zk zl zq zi zo yP zD yt zF
attribute [local go_sem high] rO rM
theorem Sl.fl {w:World}{A:Option Addr}{fs:List Fl}{cap:Nat}(h:Sl w A fs.length cap 2 (yf fs)){k:Nat}(hk:k<fs.length):∃g off,A=some ⟨g,off,none⟩∧g<w.heap.size∧
 w.cell? ⟨g,off+k*2,none⟩=some (.string ⟨fs[k].1.toArray⟩)∧w.cell? ⟨g,off+k*2+1,none⟩=some (.string ⟨fs[k].2.toArray⟩):=by
 obtain⟨g,off,e,hg,hc⟩:=Sl.jw h hk;have hcs:=aF fs k hk;exact⟨g,off,e,hg,hc 0 _ hcs.1,hc 1 _ hcs.2⟩
theorem Sl.prev {w:World}{A:Option Addr}{fs:List Fl}{cap:Nat}(h:Sl w A fs.length cap 2 (yf fs)){j:Nat}(hk:j+1<fs.length){g off:Nat}(hA:A=some ⟨g,off,none⟩):
 w.cell? ⟨g,off+j*2,none⟩=some (.string ⟨(bP fs (j+1)).toArray⟩):=by
 obtain⟨g',off',e,_,c,_⟩:=Sl.fl h (show j<fs.length by omega);rw[hA] at e;injection e with e
 injection e with e1 e2
 subst e1 e2;unfold bP;rw[Nat.add_sub_cancel,List.getElem?_eq_getElem (by omega)];exact c
theorem ai (S:Sto)(A:Option Addr)(cap:Nat)(w:World)(hs:Sl w A S.fs.length cap 2 (yf S.fs))(hd:S.dict.length≤1500000)(hl:S.fs.length≤1500000)(hb:∀f ∈ S.fs,f.1.length≤1500000∧f.2.length≤1500000):
 Calls Tryz.prog 55 #[S.V A cap] w fun e w'=>e= .returned (.bool S.okB)∧Below w.heap.size w w':=by
 have hcap:=hs.1;have hcap2:=hs.2.1;have HSL:Hid (∀wr,Below w.heap.size w wr→Sl wr A S.fs.length cap 2 (yf S.fs)):=fun wr h=>hs.below h;have HB:=Go.Lib.hid hb;clear hs hb;have cF:=fun w=>rW S.o S.l S.m S.dict w oo;have HNF:Hid (¬fits S.o S.l S.m S.dict→S.okB=false):=Sto.OL;have HNL:Hid (¬S.fs.length≤6→S.okB=false):=Sto.LU;have HNB:Hid (∀(k:Nat) (hk:k<S.fs.length),¬(um S.fs[k].1=true∧(cdB S.o S.l S.m S.dict S.fs[k].2).isSome=true∧(k=0∨Op.bytesLess (bP S.fs k) S.fs[k].1=true))→S.okB=false):=fun k hk h=>Sto.MN (hk:=hk) fun h2=>h ((Sto.VC hk).1 h2);have HYF:Hid (∀(k:Nat) (hk:k<S.fs.length),(um S.fs[k].1=true∧(cdB S.o S.l S.m S.dict S.fs[k].2).isSome=true∧(k=0∨Op.bytesLess (bP S.fs k) S.fs[k].1=true))→S.fine k hk):=fun k hk h=>(Sto.VC hk).2 h;have HST:Hid (∀(k:Nat) (hk:k<S.fs.length),(∀(i:Nat) (h:i<S.fs.length),i<k→S.fine i h)→S.fine k hk→∀(i:Nat) (h:i<S.fs.length),i<k+1→S.fine i h):=fun k hk hA h=>Sto.Xc hA hk h;have HY:Hid (fits S.o S.l S.m S.dict→S.fs.length≤6→(∀(i:Nat) (hi:i<S.fs.length),i<S.fs.length→S.fine i hi)→S.okB=true):=fun h h2 h3=>Sto.MV h h2 h3;generalize S.okB=R at*;generalize Sto.fine S=P at*;obtain⟨o,l,m,dict,fs⟩:=S;simp only at*;go_enter Tryz.func55,Tryz.ntmps55;have hK0:Bk (w.alloc (.cells #[.int .i64 o,.int .i64 l,.int .i64 m,.string ⟨dict.toArray⟩,.slice A fs.length cap] 42)) w.heap.size 42 #[.int .i64 o,.int .i64 l,.int .i64 m,.string ⟨dict.toArray⟩,.slice A fs.length cap]:=tBk;have g0:Below w.heap.size w (w.alloc (.cells #[.int .i64 o,.int .i64 l,.int .i64 m,.string ⟨dict.toArray⟩,.slice A fs.length cap] 42)):=zu;go_upto_region 1 with(fail)
 generalize w.alloc (.cells #[.int .i64 o,.int .i64 l,.int .i64 m,.string ⟨dict.toArray⟩,.slice A fs.length cap] 42)=w0 at*;have hX0:=hK0.cell;have hz0:=hK0.lt;by_cases hf:fits o l m dict
 case neg=>
  rw[show decide (fits o l m dict)=false by simpa using hf] at cF;have h:=HNF.out hf;subst h;clear HNB HYF HST HY HNL;go_wp2_with fail;refine(cF _).mono ?_;rintro e w1 ⟨rfl,hb1⟩;have g1:=g0.trans (hb1.mono oo);clear hb1;go_wp2;go_ret;exact⟨rfl,g1⟩
 rw[show decide (fits o l m dict)=true by simpa using hf] at cF;go_wp2_with fail;refine(cF _).mono ?_;rintro e w1 ⟨rfl,hb1⟩;have hz1:=hb1.size;have hK1:=hK0.below hb1 hz0;have g1:=g0.trans (hb1.mono oo);have hX1:=hK1.cell;clear hb1 hK0 g0 hX0 cF;by_cases h6:fs.length≤6
 case neg=>
  have h:=HNL.out h6;subst h;have h6i:(6:Int)<fs.length:=oo;clear HNB HYF HST HY HNF;go_wp2;go_ret;exact⟨rfl,g1⟩
 have h6i:¬(6:Int)<fs.length:=oo;have HY2:=Go.Lib.hid (HY.out hf h6);have cC:Hid (∀t w,t.length≤1500000→Calls Tryz.prog 96 #[.agg #[.int .i64 o,.int .i64 l,.int .i64 m],sv dict,sv t] w fun e w'=>e=xY (cdB o l m dict t)∧Below w.heap.size w w'):=fun t w h=>qX o l m dict t w oo h;clear HY HNF HNL hf;go_wp2;go_loopw [3] (fun i wr=>∃k:Nat,i= .int .i64 (k:Int)∧k≤fs.length∧Hid (∀(i:Nat) (h:i<fs.length),i<k→P i h)∧Bk wr w.heap.size 42 #[.int .i64 o,.int .i64 l,.int .i64 m,.string ⟨dict.toArray⟩,.slice A fs.length cap]∧Below w.heap.size w wr) (fun i _=>fs.length - (intOf i).toNat)
 case atStart=>exact⟨0,rfl,oo,fun i h hi=>by omega,hK1,g1⟩
 case round=>
  obtain⟨k,rfl,hk,HA,hK,hb⟩:=hrel;clear hK1 g1 hX1;have hz:=hb.size;have hlt0:=hK.lt;have hXl:=hK.cell;by_cases hlt:k<fs.length
  ·have hki:(k:Int)<fs.length:=oo
   obtain⟨g,off,hA,hg,c0,c1⟩:=(HSL.out wr hb).fl hlt;have HBB:=HB.out fs[k] (List.getElem_mem hlt);have HNB2:=Go.Lib.hid (HNB.out k hlt);have HYF2:Hid (_→∀(i:Nat) (h:i<fs.length),i<k+1→P i h):=fun h=>HST.out k hlt HA.out (HYF.out k hlt h);have hP:k=0∨∃j,k=j+1:=by
    cases k with
    |zero=>exact .inl rfl
    |succ j=>exact .inr ⟨j,rfl⟩
   have HPV:Hid (∀j W,k=j+1→Below w.heap.size w W→W.cell? ⟨g,off+j*2,none⟩=some (.string ⟨(bP fs k).toArray⟩)):=fun j W e h=>(by subst e;exact(HSL.out W h).prev hlt hA);have HEL:Hid (∀W,Below w.heap.size w W→W.cell? ⟨g,off+k*2,none⟩=some (.string ⟨fs[k].1.toArray⟩)):=fun W h=>by
    obtain⟨g',off',e,_,c,_⟩:=(HSL.out W h).fl hlt;rw[hA] at e;injection e with e;injection e with e1 e2;subst e1 e2;exact c
   generalize fs[k].1=nm at*;generalize fs[k].2=tx at*;generalize bP fs k=pv at*;subst hA;obtain⟨hb1,hb2⟩:=HBB;have hX:=hK.cell;have hG:=zI hX hlt0;have C1:=fun d os=>cell_regrown c1 d os;have cD:=fun w=>cC.out tx w oo;go_wp2_with fail;refine wp_region_quiet_below kr kr ?_;repeat(go_big_quiet_step ((go_at_call 96;exact Calls.regrown_of (cD _))))
   refine wpQuiet_nil ?_;intro w3 hw2;have hb3:Below _ _ w3:=zh hw2;clear hw2;have z3:=hb3.size;have hK3:=hK.below hb3 hlt0;have g3:=hb.trans (hb3.mono hz);have c3:=HEL.out w3 g3;have hX3:=hK3.cell;have hG3:=zI hX3 hK3.lt;have C3:=fun d os=>cell_regrown c3 d os;clear hb3 hK hb hX hG c0 c1 C1 cD;have cN:∀w,Calls Tryz.prog 97 #[.string ⟨nm.toArray⟩] w fun e w'=>e= .returned (.bool (um nm))∧Below w.heap.size w w':=fun w=>(Z8 nm w oo).mono fun e w' h=>⟨h.1,h.2▸Below.refl _ _⟩
   cases hcd:cdB o l m dict tx with
   |none=>
    have h:=HNB2.out (fun h=>by have:=h.2.1;rw[hcd] at this;cases this);subst h;clear HNB2 HYF2 hcd;go_wp2_with fail;refine wp_region_quiet_below kr kr ?_;repeat(go_big_quiet_step ((fail)))
    refine wpQuiet_nil ?_;intro w4 hw2;have hb4:Below _ _ w4:=zh hw2;clear hw2;have g4:=g3.trans (hb4.mono (by have:=g3.size;omega));go_wp2;go_ret;exact⟨rfl,g4⟩
   |some d=>
    have hcd2:(cdB o l m dict tx).isSome=true:=(by rw[hcd];rfl);clear hcd;by_cases h1:um nm=true
    case neg=>
     have h:=HNB2.out (fun h=>h1 h.1);subst h;rw[show um nm=false by simpa using h1] at cN;clear HNB2 HYF2;go_wp2_with fail;refine wp_region_quiet_below kr kr ?_;repeat(go_big_quiet_step ((go_at_call 97;exact Calls.regrown_of (cN _))))
     refine wpQuiet_nil ?_;intro w4 hw2;have hb4:Below _ _ w4:=zh hw2;clear hw2;have g4:=g3.trans (hb4.mono (by have:=g3.size;omega));go_wp2;go_ret;exact⟨rfl,g4⟩
    rw[h1] at cN;by_cases h2:k=0∨Op.bytesLess pv nm=true
    case neg=>
     have h:=HNB2.out (fun h=>h2 h.2.2);subst h;obtain⟨hk0,hlp⟩:=not_or.1 h2;have hlp2:Op.bytesLess pv nm=false:=(by simpa using hlp);obtain⟨j,rfl⟩:=hP.resolve_left hk0;have cp:=HPV.out j w3 rfl g3;have CP:=fun d os=>cell_regrown cp d os;have hkp:(0:Int)<((j+1:Nat):Int):=oo;have hkp2:(0:Int)<(j:Int)+1:=oo;have hji:(j:Int)<fs.length:=oo;clear HNB2 HYF2 h2 hlp;go_wp2_with fail;refine wp_region_quiet_below kr kr ?_;repeat(go_big_quiet_step ((go_at_call 97;exact Calls.regrown_of (cN _))))
     refine wpQuiet_nil ?_;intro w4 hw2;have hb4:Below _ _ w4:=zh hw2;clear hw2;have g4:=g3.trans (hb4.mono (by have:=g3.size;omega));go_wp2;go_ret;exact⟨rfl,g4⟩
    have HA2:=Go.Lib.hid (HYF2.out ⟨h1,hcd2,h2⟩);clear HNB2 HYF2;rcases hP with rfl|⟨j,rfl⟩
    ·clear HPV
     simp only[Nat.zero_mul,Nat.add_zero] at c3 C3;go_wp2_with fail;refine wp_region_quiet_below kr kr ?_;repeat(go_big_quiet_step ((go_at_call 97;exact Calls.regrown_of (cN _))))
     refine wpQuiet_nil ?_;intro w4 hw2;have hb4:Below _ _ w4:=zh hw2;clear hw2;have hK4:=hK3.below hb4 hK3.lt;have g4:=g3.trans (hb4.mono (by have:=g3.size;omega));go_wp2;go_roundw
     case rel=>exact⟨_,(by go_num),oo,HA2,hK4,g4⟩
     case measure=>simp [intOf];omega
    ·have hlp2:Op.bytesLess pv nm=true:=h2.resolve_left oo
     have cp:=HPV.out j w3 rfl g3;have CP:=fun d os=>cell_regrown cp d os;have hkp:(0:Int)<((j+1:Nat):Int):=oo;have hkp2:(0:Int)<(j:Int)+1:=oo;have hji:(j:Int)<fs.length:=oo;go_wp2_with fail;refine wp_region_quiet_below kr kr ?_;repeat(go_big_quiet_step ((go_at_call 97;exact Calls.regrown_of (cN _))))
     refine wpQuiet_nil ?_;intro w4 hw2;have hb4:Below _ _ w4:=zh hw2;clear hw2;clear cp CP HPV;have hK4:=hK3.below hb4 hK3.lt;have g4:=g3.trans (hb4.mono (by have:=g3.size;omega));go_wp2;go_roundw
     case rel=>exact⟨_,(by go_num),oo,HA2,hK4,g4⟩
     case measure=>simp [intOf];omega
  ·have hki:¬(k:Int)<fs.length:=oo
   have h:=HY2.out (fun i h _=>HA.out i h oo);subst h;go_wp2;go_ret;exact⟨rfl,hb⟩
end Go.Proofs.YtfppmajoidkooaaGreatDoor
namespace Go.Proofs.YtfppmajoidkooaaGreatDoor
open Go.RowKit
set_option maxRecDepth 100000
attribute [local go_sem high] zy zA zB zO zK zY zx zk zl zq zi zo yP zD yt zF
def Sto.small (S:Sto)(n:Nat):Prop:=S.dict.length≤n∧S.fs.length≤n∧∀f ∈ S.fs,f.1.length≤n∧f.2.length≤n
theorem VG (a b:Bs)(w:World):
 Calls Tryz.prog 107 #[.agg #[.string ⟨a.toArray⟩,.string ⟨b.toArray⟩],.agg #[.string ⟨a.toArray⟩,.string ⟨b.toArray⟩]] w fun e w'=>e= .returned (.bool true)∧Below w.heap.size w w':=by
 go_enter Tryz.func107,Tryz.ntmps107;go_wp2;go_ret;exact⟨rfl,zu⟩
theorem ny :(Tryz.prog.info? 87).map (fun i=>(i.zero,i.size,i.bytes))=some (some (.agg #[.string ⟨#[]⟩,.string ⟨#[]⟩]),2,32):=by kernel_rfl
theorem Wu (fs:List Fl)(A B:Option Addr)(ca cb:Nat)(w:World)(ha:Sl w A fs.length ca 2 (yf fs))(hb:Sl w B fs.length cb 2 (yf fs))(hn:fs.length≤9000000):
 Calls Tryz.prog 64 #[.slice A fs.length ca,.slice B fs.length cb] w fun e w'=>e= .returned (.bool true)∧Below w.heap.size w w':=by
 have h1:=ha.1;have h2:=hb.1;have HA:Hid (∀wr,Below w.heap.size w wr→Sl wr A fs.length ca 2 (yf fs)):=fun wr h=>ha.below h;have HB:Hid (∀wr,Below w.heap.size w wr→Sl wr B fs.length cb 2 (yf fs)):=fun wr h=>hb.below h;clear ha hb;go_enter Tryz.func64,Tryz.ntmps64;go_wp2;go_loopw [5] (fun a wr=>∃k:Nat,k≤fs.length∧a= .int .i64 (k:Int)∧Below w.heap.size w wr) (fun a _=>fs.length - (intOf a).toNat)
 case atStart=>exact⟨0,oo,rfl,Below.refl _ _⟩
 case round=>
  obtain⟨k,hk,rfl,hbw⟩:=hrel;have hz:=hbw.size;by_cases hlt:k<fs.length
  ·have h1:(k:Int)<fs.length:=oo
   obtain⟨g,off,rfl,hg,c0,c1⟩:=(HA.out wr hbw).fl hlt;obtain⟨g2,off2,rfl,hg2,d0,d1⟩:=(HB.out wr hbw).fl hlt;generalize fs[k].1=a at*;generalize fs[k].2=b at*;have C0:=fun d os=>cell_regrown c0 d os;have C1:=fun d os=>cell_regrown c1 d os;have D0:=fun d os=>cell_regrown d0 d os;have D1:=fun d os=>cell_regrown d1 d os;go_wp2_with fail;refine wp_region_quiet_below kr kr ?_;repeat(go_big_quiet_step ((go_at_call 107;exact Calls.regrown_of (VG a b _))))
   refine wpQuiet_nil ?_;intro w3 hw2;have hb3:Below _ _ w3:=zh hw2;clear hw2;have g3:=hbw.trans (hb3.mono hz);go_wp2;go_roundw
   case rel=>exact⟨k+1,oo,by go_num,g3⟩
   case measure=>simp [intOf];omega
  ·have h1:¬(k:Int)<fs.length:=oo
   go_wp2;go_ret;exact⟨rfl,hbw⟩
theorem Wv (S:Sto)(A B:Option Addr)(ca cb:Nat)(w:World)(ha:Sl w A S.fs.length ca 2 (yf S.fs))(hb:Sl w B S.fs.length cb 2 (yf S.fs))(hn:S.fs.length≤9000000):
 Calls Tryz.prog 20 #[S.V A ca,S.V B cb] w fun e w'=>e= .returned (.bool true)∧Below w.heap.size w w':=by
 obtain⟨o,l,m,dict,fs⟩:=S;simp only at*;go_enter Tryz.func20,Tryz.ntmps20;go_wp2_with fail;refine(YB _ _ _ _).mono ?_;rintro e w1 ⟨rfl,hb1⟩;obtain⟨hc1,hf1⟩:=KZ hb1;have hz1:=hb1.size;simp only[World.size_alloc] at hz1;have g1:Below w.heap.size w w1:=(((Below.refl _ _).alloc (Nat.le_refl _) _).alloc (by simp) _).trans (hb1.mono (by simp;omega));have s1:=ha.below g1;have s2:=hb.below g1;go_wp2_with fail;refine(Wu fs A B ca cb _ s1 s2 hn).mono ?_;rintro e w2 ⟨rfl,hb2⟩;have g2:=g1.trans (hb2.mono oo);go_wp2;go_ret;exact⟨rfl,g2⟩
theorem Px (bs:List Blk)(k:Nat)(h:k<bs.length):vC 0 (bs.take (k+1))=vC 0 (bs.take k)++[{ bs[k] with num:=(k:Int) }]:=by
 rw[List.take_succ_eq_append_getElem h,Xg,List.length_take,Nat.min_eq_left (by omega),Nat.zero_add]
theorem Nc {b:Blk}(h:b.ok=true):Ub b= .returned (.tuple #[sv b.text,.bool true]):=by unfold Ub;rw[if_pos h,h]
theorem pY (bs:List Blk)(A:Option Addr)(cap:Nat)(w:World)(hs:Sl w A bs.length cap 4 (zS bs))(hok:∀b ∈ bs,b.ok=true)(hl:bs.length≤100000):
 Calls Tryz.prog 177 #[.slice A bs.length cap] w fun e w'=>e=zZ (mcO bs)∧Below w.heap.size w w':=by
 have hcap:=hs.1;have hcap2:=hs.2.1;have cS:=fun(_:True)=>ik bs A cap w hs hok oo;have hsb:=vJ bs hok;obtain⟨R,hR⟩:∃R,mcO bs=R:=⟨_,rfl⟩;rw[hR];by_cases h40:bs.length≤40
 case neg=>
  have hE:R=none:=(by rw[←hR];unfold mcO;rw[if_neg (fun h=>h40 h.1)]);subst hE;have h4i:(40:Int)<bs.length:=oo;unfold zZ;clear hR;go_enter Tryz.func177,Tryz.ntmps177;go_wp2;go_ret2;exact⟨rfl,Below.refl _ _⟩
 have h4i:¬(40:Int)<bs.length:=oo;by_cases h2k:zn bs≤2000
 case neg=>
  have hE:R=none:=(by rw[←hR];unfold mcO;rw[if_neg (fun h=>h2k h.2)]);subst hE;have hsi:(2000:Int)<zn bs:=oo;unfold zZ;clear hR;generalize zn bs=z at*;go_enter Tryz.func177,Tryz.ntmps177;go_wp2_with fail;refine(cS trivial).mono ?_;rintro e w1 ⟨rfl,b1⟩;go_wp2;go_ret2;exact⟨rfl,b1⟩
 have hE:R=some (wQ (vC 0 bs)):=(by rw[←hR];unfold mcO;rw[if_pos ⟨h40,h2k⟩]);subst hE;have hsi:¬(2000:Int)<zn bs:=oo;have HOK:=Go.Lib.hid hok;have HSL:Hid (∀wr,Below w.heap.size w wr→Sl wr A bs.length cap 4 (zS bs)):=fun wr h=>hs.below h;have HE:Hid (zZ (some (wQ (vC 0 bs)))= .returned (.tuple #[sv (wQ (vC 0 bs)),.bool true])):=rfl;rw[HE.out];obtain⟨T,hT⟩:∃T,wQ (vC 0 bs)=T:=⟨_,rfl⟩;rw[hT];have HT:=Go.Lib.hid hT;clear hR hs hok hT HE;generalize zn bs=z at*;go_enter Tryz.func177,Tryz.ntmps177;go_wp2_with fail;refine(cS trivial).mono ?_;rintro e w0 ⟨rfl,hb0⟩;have hz0:=hb0.size;clear cS;have B0:=NZ (w:=w0) (B:=w0.heap.size) (Nat.le_refl _);have b0:Below w0.heap.size w0 (w0.alloc (.cells #[.pointer none,.slice none 0 0] 91)):=zu;have HKB:Hid (∀wr,Below w0.heap.size w0 wr→Below w.heap.size w wr):=fun wr h=>hb0.trans (h.mono oo);have hsz:w0.heap.size≤(w0.alloc (.cells #[.pointer none,.slice none 0 0] 91)).heap.size:=(by simp);obtain⟨bb,hbb⟩:∃bb,w0.heap.size=bb:=⟨_,rfl⟩;rw[hbb] at B0 b0 HKB hz0 hsz;clear hb0;go_wp2;go_loopw [19] (fun i wr=>∃(k:Nat) (X:Bs),i= .int .i64 (k:Int)∧k≤bs.length∧X.length≤74*k∧Hid (wQ (vC 0 (bs.take k))=X)∧Go.Lib.IsBuilderF 91 5 bb bb (X.map u8v) wr∧Below bb w0 wr) (fun i _=>bs.length - (intOf i).toNat)
 case atStart=>exact⟨0,[],rfl,by omega,by simp,rfl,B0,b0⟩
 case round=>
  obtain⟨k,X,rfl,hk,hX,HX,hB,hb⟩:=hrel;clear B0 b0 hsz;have hz:=hb.size;rw[hbb] at hz;have hbw:=HKB.out wr hb;by_cases hlt:k<bs.length
  ·have hki:(k:Int)<bs.length:=oo
   have hsA:=HSL.out wr hbw;obtain⟨g,off,rfl,hg,hc⟩:=Sl.jw hsA hlt;have hcs:=ql bs k hlt;have c0:=hc 0 _ hcs.1;have c1:=hc 1 _ hcs.2.1;have c2:=hc 2 _ hcs.2.2.1;have c3:=hc 3 _ hcs.2.2.2;have hbo:=Ti (HOK.out bs[k] (List.getElem_mem hlt)) (n:=(k:Int)) oo oo;have HS:=Go.Lib.hid (Px bs k hlt);generalize bs[k]=b at*;obtain⟨n2,r,n4,D⟩:=b;simp only at hbo HS;have hbt:=Vs hbo;have hbs:=Blk.vk hbo;have hbl:=pW hbo;have cF:=fun w=>af ⟨(k:Int),r,n4,D⟩ w (by unfold Blk.sm;simp only at hbs hbl⊢;omega);rw[Nc hbo] at cF;have HS2:Hid (wQ (vC 0 (bs.take (k+1)))=X++(⟨(k:Int),r,n4,D⟩:Blk).text):=(by show _=_;rw[HS.out,dK,HX.out]);generalize(⟨(k:Int),r,n4,D⟩:Blk).text=d at*;simp only[Nat.add_zero] at c0 c1 c2 c3;have bW:Below wr.heap.size wr (wr.alloc (.cells (bkC ⟨(k:Int),r,n4,D⟩) 160)):=zu;have hB1:=Xt hB bW;have hN1:=Bk.new wr (bkC ⟨(k:Int),r,n4,D⟩) 160;have g1:=hb.trans (bW.mono hz);clear hc hcs HX HS hbo hsA hB bW hbs hbl;go_upto_region 8 with(fail)
   generalize wr.alloc (.cells _ 160)=W at*;have hY1:=hN1.cell;have hlN:=hN1.lt;clear c0 c1 c2 c3;go_wp2_with fail;refine(cF _).mono ?_;rintro e w2 ⟨rfl,hb2⟩;have z2:=hb2.size;have hB2:=Xt hB1 hb2;have g2:=g1.trans (hb2.mono oo);clear cF hb2 hB1 hN1 g1 hY1;have cW:=PS bb bb (X.map u8v) d _ hB2 (by simp;omega) (by omega);have hxl:(X++d).length≤74*(k+1):=(by simp;omega);have HXL:=Go.Lib.hid hxl;clear hxl;go_wp2_with fail;refine cW.mono ?_;rintro e w3 ⟨rfl,hB3,b3,k3⟩;have g3:=g2.trans b3;have hB4:Go.Lib.IsBuilderF 91 5 bb bb ((X++d).map u8v) w3:=(by rw[List.map_append];exact .inr hB3);have HB4:=Go.Lib.hid hB4;clear cW hB3 b3 k3 hB2 hB4;go_wp2;go_roundw
   case rel=>exact⟨k+1,X++d,by go_num,oo,HXL.out,HS2,HB4.out,g3⟩
   case measure=>simp [intOf];omega
  ·have hki:¬(k:Int)<bs.length:=oo
   have h:T=X:=(by rw[←HT.out,←HX.out,List.take_of_length_le (by omega)]);subst h;have cS:=Tryz.Builder_String_any_k bb bb T wr (by unfold Go.Lib.byteCells;exact hB) hz;go_wp2_with fail;refine cS.mono ?_;rintro e w3 ⟨rfl,_,b3,_⟩;have gw:=HKB.out _ (hb.trans b3);clear cS b3 hb hB;go_wp2;exact bodyPost_ret (v:=.tuple #[sv T,.bool true]) (by simp [results,Tryz.results177,go_sem]) rfl ⟨rfl,gw⟩
theorem jP (o l m:Int)(dict d:Bs)(size:Int)(w:World)(hl:dict.length≤9223372036854775807)(hd:d.length≤9223372036854775807)(hs0: -1000000≤size)(hs1:size≤1000000):
 Calls Tryz.prog 147 #[.agg #[.int .i64 o,.int .i64 l,.int .i64 m],sv dict,sv d,.int .i64 size] w fun e w'=>e=zZ (mkC o l m dict d size)∧Below w.heap.size w w':=by
 have hNO:Hid (¬(fits o l m dict∧1≤size∧size≤64∧(d.length:Int)≤size*40∧d.length≤2000)→zZ (mkC o l m dict d size)= .returned (.tuple #[sv [],.bool false])):=fun h=>(by unfold mkC;rw[if_neg h];rfl);by_cases h1:fits o l m dict
 case neg=>
  have hN:=Go.Lib.hid (hNO.out (fun h=>h1 h.1));have cS:=fun w=>jC o l m dict w h1 hl;rw[hN.out];clear h1 hNO hN;go_enter Tryz.func147,Tryz.ntmps147;have hK0:Bk (w.alloc (.cells #[.int .i64 o,.int .i64 l,.int .i64 m] 39)) w.heap.size 39 #[.int .i64 o,.int .i64 l,.int .i64 m]:=tBk;have g0:Below w.heap.size w (w.alloc (.cells #[.int .i64 o,.int .i64 l,.int .i64 m] 39)):=zu;go_upto_region 1 with(fail)
  generalize w.alloc (.cells #[.int .i64 o,.int .i64 l,.int .i64 m] 39)=w0 at*;have hX0:=hK0.cell;have hz0:=hK0.lt;go_wp2_with fail;refine(cS _).mono ?_;rintro e w1 ⟨rfl,hb1⟩;have g1:=g0.trans (hb1.mono oo);have hz1:=g1.size;go_wp2;exact bodyPost_ret (v:=.tuple #[sv [],.bool false]) (by simp [results,Tryz.results147,go_sem]) rfl ⟨rfl,zu⟩
 have cS:=fun w=>qO o l m dict w h1;have hk:=xC h1;have hYES:Hid (∀n:Nat,size=n→1≤n→n≤64→d.length≤n*40→d.length≤2000→zZ (mkC o l m dict d size)=zZ (mcO (mks (zt o l m dict) n d.length d))):=fun n h0 ha hb hc he=>by
  rw[Lu o l m dict d n ha (by omega) he];unfold mkC;rw[if_pos ⟨h1,by omega,by omega,by omega,he⟩,h0,Int.toNat_natCast]
 unfold lg at cS;clear h1;generalize zZ (mkC o l m dict d size)=G at*;generalize zt o l m dict=K at*;by_cases h2:1≤size∧size≤64
 case neg=>
  have hN:=hNO.out (fun h=>h2 ⟨h.2.1,h.2.2.1⟩);have hdi:decide (1≤size∧size≤64)=false:=decide_eq_false h2;subst hN;clear hNO hYES h2;go_enter Tryz.func147,Tryz.ntmps147;have hK0:Bk (w.alloc (.cells #[.int .i64 o,.int .i64 l,.int .i64 m] 39)) w.heap.size 39 #[.int .i64 o,.int .i64 l,.int .i64 m]:=tBk;have g0:Below w.heap.size w (w.alloc (.cells #[.int .i64 o,.int .i64 l,.int .i64 m] 39)):=zu;go_upto_region 1 with(fail)
  generalize w.alloc (.cells #[.int .i64 o,.int .i64 l,.int .i64 m] 39)=w0 at*;have hX0:=hK0.cell;have hz0:=hK0.lt;go_wp2_with fail;refine(cS _).mono ?_;rintro e w1 ⟨A1,c1,rfl,o1,hb1⟩;have hz1:=hb1.size;have g1:=g0.trans (hb1.mono oo);have hB2:=Bk.new w1 (knC K A1 c1) 130;have o2:=o1.alloc (.cells (knC K A1 c1) 130);have g2:=g1.alloc oo (.cells (knC K A1 c1) 130);clear hb1 hX0 hK0 g0 o1 g1 cS;go_upto_region 2 with(fail)
  unfold knC at hB2 o2 g2;generalize w1.alloc (.cells #[.int .i64 K.o,.int .i64 K.l,.int .i64 K.m,.slice A1 K.ps.length c1,.int .i64 K.base,.int .i64 K.last] 130)=W at*;have hl2:=hB2.lt;have zg2:=g2.size;go_wp2_with fail;refine(y9 _ _).mono ?_;rintro e w' ⟨rfl,rfl⟩;rw[hdi];go_wp2;exact bodyPost_ret (v:=.tuple #[sv [],.bool false]) (by simp [results,Tryz.results147,go_sem]) rfl ⟨rfl,g2⟩
 have hdi:decide (1≤size∧size≤64)=true:=decide_eq_true h2;obtain⟨h2a,h2b⟩:=h2;obtain⟨n,rfl⟩:=Int.eq_ofNat_of_zero_le (by omega:0≤size);have hnn:∀x:Int,(x≤40*(n:Int))↔x≤(n:Int)*40:=fun x=>(by omega);by_cases h3:d.length≤2000
 case neg=>
  have hN:=hNO.out (fun h=>h3 h.2.2.2.2);have h3i:(2000:Int)<d.length:=oo;subst hN;clear hNO hYES hnn;go_enter Tryz.func147,Tryz.ntmps147;have hK0:Bk (w.alloc (.cells #[.int .i64 o,.int .i64 l,.int .i64 m] 39)) w.heap.size 39 #[.int .i64 o,.int .i64 l,.int .i64 m]:=tBk;have g0:Below w.heap.size w (w.alloc (.cells #[.int .i64 o,.int .i64 l,.int .i64 m] 39)):=zu;go_upto_region 1 with(fail)
  generalize w.alloc (.cells #[.int .i64 o,.int .i64 l,.int .i64 m] 39)=w0 at*;have hX0:=hK0.cell;have hz0:=hK0.lt;go_wp2_with fail;refine(cS _).mono ?_;rintro e w1 ⟨A1,c1,rfl,o1,hb1⟩;have hz1:=hb1.size;have g1:=g0.trans (hb1.mono oo);have hB2:=Bk.new w1 (knC K A1 c1) 130;have o2:=o1.alloc (.cells (knC K A1 c1) 130);have g2:=g1.alloc oo (.cells (knC K A1 c1) 130);clear hb1 hX0 hK0 g0 o1 g1 cS;go_upto_region 2 with(fail)
  unfold knC at hB2 o2 g2;generalize w1.alloc (.cells #[.int .i64 K.o,.int .i64 K.l,.int .i64 K.m,.slice A1 K.ps.length c1,.int .i64 K.base,.int .i64 K.last] 130)=W at*;have hl2:=hB2.lt;have zg2:=g2.size;go_wp2_with fail;refine(y9 _ _).mono ?_;rintro e w' ⟨rfl,rfl⟩;rw[hdi];go_wp2;exact bodyPost_ret (v:=.tuple #[sv [],.bool false]) (by simp [results,Tryz.results147,go_sem]) rfl ⟨rfl,g2⟩
 have h3i:¬(2000:Int)<d.length:=oo;by_cases h4:d.length≤n*40
 case neg=>
  have hN:=hNO.out (fun h=>h4 (by have:=h.2.2.2.1;omega));have h4i:(40:Int)*(n:Int)<d.length:=oo;subst hN;clear hNO hYES hnn;go_enter Tryz.func147,Tryz.ntmps147;have hK0:Bk (w.alloc (.cells #[.int .i64 o,.int .i64 l,.int .i64 m] 39)) w.heap.size 39 #[.int .i64 o,.int .i64 l,.int .i64 m]:=tBk;have g0:Below w.heap.size w (w.alloc (.cells #[.int .i64 o,.int .i64 l,.int .i64 m] 39)):=zu;go_upto_region 1 with(fail)
  generalize w.alloc (.cells #[.int .i64 o,.int .i64 l,.int .i64 m] 39)=w0 at*;have hX0:=hK0.cell;have hz0:=hK0.lt;go_wp2_with fail;refine(cS _).mono ?_;rintro e w1 ⟨A1,c1,rfl,o1,hb1⟩;have hz1:=hb1.size;have g1:=g0.trans (hb1.mono oo);have hB2:=Bk.new w1 (knC K A1 c1) 130;have o2:=o1.alloc (.cells (knC K A1 c1) 130);have g2:=g1.alloc oo (.cells (knC K A1 c1) 130);clear hb1 hX0 hK0 g0 o1 g1 cS;go_upto_region 2 with(fail)
  unfold knC at hB2 o2 g2;generalize w1.alloc (.cells #[.int .i64 K.o,.int .i64 K.l,.int .i64 K.m,.slice A1 K.ps.length c1,.int .i64 K.base,.int .i64 K.last] 130)=W at*;have hl2:=hB2.lt;have zg2:=g2.size;go_wp2_with fail;refine(y9 _ _).mono ?_;rintro e w' ⟨rfl,rfl⟩;rw[hdi];go_wp2;exact bodyPost_ret (v:=.tuple #[sv [],.bool false]) (by simp [results,Tryz.results147,go_sem]) rfl ⟨rfl,g2⟩
 ·have h4i:¬(40:Int)*(n:Int)<d.length:=oo
  have hN:=hYES.out n rfl oo oo h4 h3;have cM:Hid (∀A cap wr,Sl wr A K.ps.length cap 2 (psV K.ps)→Calls Tryz.prog 178 #[knV K A cap,sv d,.int .i64 (n:Int)] wr (BkR (mks K n d.length d) wr)):=fun A cap wr hs=>lQ K A cap d n wr hk hs oo oo h3;have cC:Hid (∀A cap wr,Sl wr A (mks K n d.length d).length cap 4 (zS (mks K n d.length d))→Calls Tryz.prog 177 #[.slice A (mks K n d.length d).length cap] wr fun e w'=>e=zZ (mcO (mks K n d.length d))∧Below wr.heap.size wr w'):=fun A cap wr hs=>pY _ A cap wr hs (Zu hk n _ (by omega) (by omega) d) (by have:=uS n (by omega) 40 d.length d (by omega);unfold mks;rw[List.length_map];omega);unfold BkR at cM;subst hN;clear hNO hYES hnn hk;generalize mks K n d.length d=bs at*;generalize mcO bs=O at*;go_enter Tryz.func147,Tryz.ntmps147;have hK0:Bk (w.alloc (.cells #[.int .i64 o,.int .i64 l,.int .i64 m] 39)) w.heap.size 39 #[.int .i64 o,.int .i64 l,.int .i64 m]:=tBk;have g0:Below w.heap.size w (w.alloc (.cells #[.int .i64 o,.int .i64 l,.int .i64 m] 39)):=zu;go_upto_region 1 with(fail)
  generalize w.alloc (.cells #[.int .i64 o,.int .i64 l,.int .i64 m] 39)=w0 at*;have hX0:=hK0.cell;have hz0:=hK0.lt;go_wp2_with fail;refine(cS _).mono ?_;rintro e w1 ⟨A1,c1,rfl,o1,hb1⟩;have hz1:=hb1.size;have g1:=g0.trans (hb1.mono oo);have hB2:=Bk.new w1 (knC K A1 c1) 130;have o2:=o1.alloc (.cells (knC K A1 c1) 130);have g2:=g1.alloc oo (.cells (knC K A1 c1) 130);clear hb1 hX0 hK0 g0 o1 g1 cS;go_upto_region 2 with(fail)
  unfold knC at hB2 o2 g2;generalize w1.alloc (.cells #[.int .i64 K.o,.int .i64 K.l,.int .i64 K.m,.slice A1 K.ps.length c1,.int .i64 K.base,.int .i64 K.last] 130)=W at*;have hl2:=hB2.lt;have zg2:=g2.size;go_wp2_with fail;refine(y9 _ _).mono ?_;rintro e w' ⟨rfl,rfl⟩;rw[hdi];have s2:=Sl.own o2;have hX2:=hB2.cell;go_wp2_with fail;refine(cM.out _ _ _ s2).mono ?_;rintro e w3 ⟨A3,c3,rfl,o3,b3⟩;have g3:=g2.trans (b3.mono oo);have s3:=Sl.own o3;have z3:=b3.size;clear cM s2 b3 o3 g2 hB2 hX2 o2;go_wp2_with fail;refine(cC.out _ _ _ s3).mono ?_;rintro e w4 ⟨rfl,b4⟩;have g4:=g3.trans (b4.mono oo);unfold zZ;go_wp2;exact bodyPost_ret (v:=.tuple #[sv (O.getD []),.bool O.isSome]) (by simp [results,Tryz.results147,go_sem]) rfl ⟨rfl,g4⟩
end Go.Proofs.YtfppmajoidkooaaGreatDoor
