import Derived.Test.YtfppmajoidkooaaGreatDoorUGU1
import Derived.Test.YtfppmajoidkooaaGreatDoorUxGU1
import Derived.Test.YtfppmajoidkooaaGreatDoorUGJ4
import Derived.Test.YtfppmajoidkooaaGreatDoorUGP4
import Derived.Test.YtfppmajoidkooaaGreatDoorUGP1
set_option maxHeartbeats 8000000
namespace Go.Proofs.YtfppmajoidkooaaGreatDoor
open Go.RowKit
set_option linter.unusedVariables false
set_option linter.unusedSimpArgs false
set_option maxRecDepth 100000
attribute [local go_sem high] zy zA zB zO zK zY zx zk zl zq zi zo yP zD yt zF
theorem blocksData_any (K:Kn)(Ak:Option Addr)(ck:Nat)(bs:List Blk)(A:Option Addr)(cap:Nat)(w:World)(hk:K.ok)(hks:Sl w Ak K.ps.length ck 2 (psV K.ps))(hs:Sl w A bs.length cap 4 (zS bs))(hok:∀b ∈ bs,b.ok=true)(hl:bs.length≤100000):
 Calls Tryz.prog 105 #[knV K Ak ck,.slice A bs.length cap] w fun e w'=>e=xY (yK K bs)∧Below w.heap.size w w':=by
 have cL:Go.RowKit.Hid (∀b w,b.ok=true→Sl w Ak K.ps.length ck 2 (psV K.ps)→Calls Tryz.prog 139 #[knV K Ak ck,bkV b] w fun e w'=>e=xY (b.dat K)∧Below w.heap.size w w'):=fun b w h hs=>jk K Ak ck b w hk hs (by have:=pW h;omega);clear hk;have hcap:=hs.1;have hcap2:=hs.2.1;have HOK:=Go.Lib.hid hok;clear hok;have HSL:Go.RowKit.Hid (∀wr,Below w.heap.size w wr→Sl wr A bs.length cap 4 (zS bs)∧Sl wr Ak K.ps.length ck 2 (psV K.ps)):=fun wr h=>⟨hs.below h,hks.below h⟩;clear hs hks;obtain⟨R,hR⟩:∃R,yK K bs=R:=⟨_,rfl⟩;rw[hR];have HR:=Go.Lib.hid hR;clear hR;go_enter Tryz.func105,Tryz.ntmps105;have hK0:Bk (w.alloc (.cells (knC K Ak ck) 130)) w.heap.size 130 (knC K Ak ck):=tBk;have g0:Below w.heap.size w (w.alloc (.cells (knC K Ak ck) 130)):=zu;go_upto_region 1 with(fail)
 generalize w.alloc (.cells (knC K Ak ck) 130)=w0 at*;have hz0:=hK0.lt;have B0:=NZ (w:=w0) (B:=w0.heap.size) (Nat.le_refl _);have b0:Below w0.heap.size w0 (w0.alloc (.cells #[.pointer none,.slice none 0 0] 91)):=zu;have HKB:Go.RowKit.Hid (∀wr,Below w0.heap.size w0 wr→Bk wr w.heap.size 130 (knC K Ak ck)∧Below w.heap.size w wr):=fun wr h=>⟨hK0.below h hz0,g0.trans (h.mono (by omega))⟩;clear hK0 g0;have hsz:w0.heap.size≤(w0.alloc (.cells #[.pointer none,.slice none 0 0] 91)).heap.size:=(by simp);obtain⟨bb,hbb⟩:∃bb,w0.heap.size=bb:=⟨_,rfl⟩;rw[hbb] at B0 b0 HKB hz0 hsz;go_wp2;go_loopw [13] (fun i wr=>∃(k:Nat) (X:Bs),i= .int .i64 (k:Int)∧k≤bs.length∧X.length≤64*k∧Go.RowKit.Hid (yK K (bs.take k)=some X)∧Go.Lib.IsBuilderF 91 5 bb bb (X.map u8v) wr∧Below bb w0 wr) (fun i _=>bs.length - (intOf i).toNat)
 case atStart=>exact⟨0,[],rfl,by omega,by simp,rfl,B0,b0⟩
 case round=>
  obtain⟨k,X,rfl,hk,hX,HX,hB,hb⟩:=hrel;clear B0 b0 hsz;have hz:=hb.size;rw[hbb] at hz;obtain⟨hBk,hbw⟩:=HKB.out wr hb;by_cases hlt:k<bs.length
  ·have hki:(k:Int)<bs.length:=by omega
   obtain⟨hsA,hsK⟩:=HSL.out wr hbw;obtain⟨g,off,rfl,hg,hc⟩:=Sl.jw hsA hlt;have hcs:=ql bs k hlt;have c0:=hc 0 _ hcs.1;have c1:=hc 1 _ hcs.2.1;have c2:=hc 2 _ hcs.2.2.1;have c3:=hc 3 _ hcs.2.2.2;have hbo:=HOK.out bs[k] (List.getElem_mem hlt);have cD:=fun w=>cL.out bs[k] w hbo;have HN:Go.RowKit.Hid (bs[k].dat K=none→R=none):=fun h=>(by rw[←HR.out];exact Yd hlt h);have HS:Go.RowKit.Hid (∀d,bs[k].dat K=some d→yK K (bs.take (k+1))=some (X++d)):=fun d h=>Zc hlt HX.out h;have HL:Go.RowKit.Hid (∀d,bs[k].dat K=some d→d.length≤64):=fun d h=>(by have:=sD hbo h;have:=Blk.vk hbo;omega);generalize bs[k].dat K=D at*;generalize bs[k]=b at*;obtain⟨n2,r,n4,T⟩:=b;simp only[Nat.add_zero] at c0 c1 c2 c3;have hB1:=Xt hB ((Below.refl _ wr).alloc (Nat.le_refl _) (.cells (bkC ⟨n2,r,n4,T⟩) 160));have hK1:=hBk.alloc (.cells (bkC ⟨n2,r,n4,T⟩) 160);have hN1:=Bk.new wr (bkC ⟨n2,r,n4,T⟩) 160;have hs1:=hsK.alloc (.cells (bkC ⟨n2,r,n4,T⟩) 160);have g1:=hb.alloc hz (.cells (bkC ⟨n2,r,n4,T⟩) 160);clear hc hcs HX hbo hsA hsK hB hBk;go_upto_region 5 with(fail)
   generalize wr.alloc (.cells _ 160)=W at*;have hX1:=hK1.cell;have hY1:=hN1.cell;have hlN:=hN1.lt;clear c0 c1 c2 c3;go_wp2_with fail;refine(cD _ hs1).mono ?_;rintro e w2 ⟨rfl,hb2⟩;have z2:=hb2.size;have hB2:=Xt hB1 hb2;have g2:=g1.trans (hb2.mono (by omega));clear cD hb2 hB1 hK1 hN1 hs1 g1 hX1 hY1
   cases D with
   |none=>
    have h:=HN.out rfl;subst h;have gw:=(HKB.out _ g2).2;unfold xY;go_wp2;exact bodyPost_ret (v:=.tuple #[sv [],.bool false]) (by simp [results,Tryz.results105,go_sem]) rfl ⟨rfl,gw⟩
   |some d=>
    have HX2:=Go.Lib.hid (HS.out d rfl);have hdl:=HL.out d rfl;have cW:=PS bb bb (X.map u8v) d _ hB2 (by simp;omega) (by omega);have hxl:(X++d).length≤64*(k+1):=(by simp;omega);have HXL:=Go.Lib.hid hxl;clear hxl HS HN HL;unfold xY;go_wp2_with fail;refine cW.mono ?_;rintro e w3 ⟨rfl,hB3,b3,k3⟩;have g3:=g2.trans b3;have hB4:Go.Lib.IsBuilderF 91 5 bb bb ((X++d).map u8v) w3:=(by rw[List.map_append];exact .inr hB3);have HB4:=Go.Lib.hid hB4;clear cW hB3 b3 k3 hB2 hB4;go_wp2;go_roundw
    case rel=>exact⟨k+1,X++d,by go_num,by omega,HXL.out,HX2,HB4.out,g3⟩
    case measure=>simp [intOf];omega
  ·have hki:¬(k:Int)<bs.length:=by omega
   have h:R=some X:=(by rw[←HR.out,←HX.out,List.take_of_length_le (by omega)]);subst h;have cS:=Tryz.Builder_String_any_k bb bb X wr (by unfold Go.Lib.byteCells;exact hB) hz;go_wp2_with fail;refine cS.mono ?_;rintro e w3 ⟨rfl,_,b3,_⟩;have gw:=(HKB.out _ (hb.trans b3)).2;clear cS b3 hb hB;go_wp2;exact bodyPost_ret (v:=.tuple #[sv X,.bool true]) (by simp [results,Tryz.results105,go_sem]) rfl ⟨rfl,gw⟩
theorem containerData_any (o l m:Int)(dict t:Bs)(w:World)(hdl:dict.length≤9223372036854775807)(htl:t.length≤1500000):
 Calls Tryz.prog 59 #[.agg #[.int .i64 o,.int .i64 l,.int .i64 m],sv dict,sv t] w fun e w'=>e=xY (cdB o l m dict t)∧Below w.heap.size w w':=by
 by_cases hf:fits o l m dict
 ·have cS:=fun w=>qO o l m dict w hf
  have cB:=fun w=>qc t w htl;have hk:=xC hf;have HNB:Go.RowKit.Hid (zT t=none→cdB o l m dict t=none):=fun h=>NF h;have HY:Go.RowKit.Hid (∀bs,zT t=some bs→cdB o l m dict t=yK (zt o l m dict) bs):=fun bs h2=>rX hf h2;have HOK:Go.RowKit.Hid (∀bs,zT t=some bs→(∀b ∈ bs,b.ok=true)∧bs.length≤40):=fun bs h=>⟨xU h,(xN h).2⟩;clear hf;unfold lg at cS;generalize cdB o l m dict t=R at*;generalize zT t=BB at*;generalize zt o l m dict=K at*;go_enter Tryz.func59,Tryz.ntmps59;have hK0:Bk (w.alloc (.cells #[.int .i64 o,.int .i64 l,.int .i64 m] 39)) w.heap.size 39 #[.int .i64 o,.int .i64 l,.int .i64 m]:=tBk;have g0:Below w.heap.size w (w.alloc (.cells #[.int .i64 o,.int .i64 l,.int .i64 m] 39)):=zu;go_upto_region 1 with(fail)
  generalize w.alloc (.cells #[.int .i64 o,.int .i64 l,.int .i64 m] 39)=w0 at*;have hX0:=hK0.cell;have hz0:=hK0.lt;go_wp2_with fail;refine(cS _).mono ?_;rintro e w1 ⟨A1,c1,rfl,o1,hb1⟩;have hz1:=hb1.size;have g1:=g0.trans (hb1.mono (by omega));have hB2:=Bk.new w1 (knC K A1 c1) 130;have o2:=o1.alloc (.cells (knC K A1 c1) 130);have g2:=g1.alloc (by omega) (.cells (knC K A1 c1) 130);clear hb1 hX0 hK0 g0 o1 g1;go_upto_region 2 with(fail)
  unfold knC at hB2 o2 g2;generalize w1.alloc (.cells #[.int .i64 K.o,.int .i64 K.l,.int .i64 K.m,.slice A1 K.ps.length c1,.int .i64 K.base,.int .i64 K.last] 130)=W at*;have hl2:=hB2.lt;go_wp2_with fail;refine(cB _).mono ?_;rintro e w3 ⟨A3,c3,rfl,o3,hb3⟩;have hz3:=hb3.size;have hB3:=hB2.below hb3 hl2;have g3:=g2.trans (hb3.mono (by have:=g2.size;omega));have k3:=Sl.own (zf o2 hb3);have s3:=OE o3;have hX3:=hB3.cell;clear hb3 o3 o2 g2 hB2 cB
  cases BB with
  |none=>
   have h:=HNB.out rfl;subst h;go_wp2;exact bodyPost_ret (v:=.tuple #[sv [],.bool false]) (by simp [results,Tryz.results59,go_sem]) rfl ⟨rfl,g3⟩
  |some bs=>
   simp only[Option.getD_some,Option.isSome_some] at s3⊢;have hE:=HY.out bs rfl;obtain⟨h1,h2⟩:=HOK.out bs rfl;have cA:=blocksData_any K A1 c1 bs A3 c3 w3 hk k3 s3 h1 (by omega);rw[←hE] at cA;clear HNB HY HOK h1 hk hE;go_wp2_with fail;refine cA.mono ?_;rintro e w4 ⟨rfl,hb4⟩;have g4:=g3.trans (hb4.mono (by have:=g3.size;omega));unfold xY;go_wp2;exact bodyPost_ret (v:=.tuple #[sv (R.getD []),.bool R.isSome]) (by simp [results,Tryz.results59,go_sem]) rfl ⟨rfl,g4⟩
 ·have cS:=fun w=>jC o l m dict w hf hdl
  rw[KD hf];clear hf;go_enter Tryz.func59,Tryz.ntmps59;have hK0:Bk (w.alloc (.cells #[.int .i64 o,.int .i64 l,.int .i64 m] 39)) w.heap.size 39 #[.int .i64 o,.int .i64 l,.int .i64 m]:=tBk;have g0:Below w.heap.size w (w.alloc (.cells #[.int .i64 o,.int .i64 l,.int .i64 m] 39)):=zu;go_upto_region 1 with(fail)
  generalize w.alloc (.cells #[.int .i64 o,.int .i64 l,.int .i64 m] 39)=w0 at*;have hX0:=hK0.cell;have hz0:=hK0.lt;go_wp2_with fail;refine(cS _).mono ?_;rintro e w1 ⟨rfl,hb1⟩;have g1:=g0.trans (hb1.mono (by omega));have hz1:=g1.size;go_wp2;exact bodyPost_ret (v:=.tuple #[sv [],.bool false]) (by simp [results,Tryz.results59,go_sem]) rfl ⟨rfl,zu⟩
end Go.Proofs.YtfppmajoidkooaaGreatDoor
