import Derived.Test.YtfppmajoidkooaaGreatDoorUGU1
import Derived.Test.YtfppmajoidkooaaGreatDoorUGS5
import Derived.Deep.Cut
set_option linter.unusedVariables false
set_option linter.unusedSimpArgs false
set_option maxHeartbeats 8000000
namespace Go.Proofs.YtfppmajoidkooaaGreatDoor
open Go.RowKit
set_option maxRecDepth 100000
attribute [local go_sem high] zy zA zB zO zK zY zx zk zl zq zi zo yP zD yt zF
theorem QY (o l m:Int)(dict:Bs)(bs:List Blk)(A:Option Addr)(cap:Nat)(w:World)(hf:fits o l m dict)(hs:Sl w A bs.length cap 4 (zS bs))(hok:∀b ∈ bs,b.ok=true)(hl:bs.length≤100000):
 Calls Tryz.prog 132 #[.agg #[.int .i64 o,.int .i64 l,.int .i64 m],sv dict,.slice A bs.length cap] w fun e w'=>e=xY (yK (zt o l m dict) bs)∧Below w.heap.size w w':=by
 have cL:Hid (∀b w,b.ok=true→Calls Tryz.prog 163 #[.agg #[.int .i64 o,.int .i64 l,.int .i64 m],sv dict,bkV b] w fun e w'=>e=xY (b.dat (zt o l m dict))∧Below w.heap.size w w'):=fun b w h=>mP o l m dict b w hf (by have:=pW h;omega);clear hf;generalize zt o l m dict=K at*;have hcap:=hs.1;have hcap2:=hs.2.1;have HOK:=Go.Lib.hid hok;clear hok;have HSL:Hid (∀wr,Below w.heap.size w wr→Sl wr A bs.length cap 4 (zS bs)):=fun wr h=>hs.below h;clear hs;obtain⟨R,hR⟩:∃R,yK K bs=R:=⟨_,rfl⟩;rw[hR];have HR:=Go.Lib.hid hR;clear hR;go_enter Tryz.func132,Tryz.ntmps132;have hK0:Bk (w.alloc (.cells #[.int .i64 o,.int .i64 l,.int .i64 m] 39)) w.heap.size 39 #[.int .i64 o,.int .i64 l,.int .i64 m]:=tBk;have g0:Below w.heap.size w (w.alloc (.cells #[.int .i64 o,.int .i64 l,.int .i64 m] 39)):=zu;go_upto_region 1 with(fail)
 generalize w.alloc (.cells #[.int .i64 o,.int .i64 l,.int .i64 m] 39)=w0 at*;go_wp2;go_loopw [8,9] (fun a i wr=>∃(k:Nat) (X:Bs),a=sv X∧i= .int .i64 (k:Int)∧k≤bs.length∧X.length≤64*k∧Hid (yK K (bs.take k)=some X)∧Bk wr w.heap.size 39 #[.int .i64 o,.int .i64 l,.int .i64 m]∧Below w.heap.size w wr) (fun _ i _=>bs.length - (intOf i).toNat)
 case atStart=>exact⟨0,[],rfl,rfl,by omega,by simp,rfl,hK0,g0⟩
 case round=>
  obtain⟨k,X,rfl,rfl,hk,hX,HX,hB,hb⟩:=hrel;clear hK0 g0;have hz:=hb.size;have hlt0:=hB.lt;have hXc:=hB.cell;by_cases hlt:k<bs.length
  ·have hki:(k:Int)<bs.length:=oo
   obtain⟨g,off,rfl,hg,hc⟩:=Sl.jw (HSL.out wr hb) hlt;have hcs:=ql bs k hlt;have c0:=hc 0 _ hcs.1;have c1:=hc 1 _ hcs.2.1;have c2:=hc 2 _ hcs.2.2.1;have c3:=hc 3 _ hcs.2.2.2;have hbo:=HOK.out bs[k] (List.getElem_mem hlt);have cD:=fun w=>cL.out bs[k] w hbo;have HN:Hid (bs[k].dat K=none→R=none):=fun h=>(by rw[←HR.out];exact Yd hlt h);have HS:Hid (∀d,bs[k].dat K=some d→yK K (bs.take (k+1))=some (X++d)):=fun d h=>Zc hlt HX.out h;have HL:Hid (∀d,bs[k].dat K=some d→d.length≤64):=fun d h=>(by have:=sD hbo h;have:=Blk.vk hbo;omega);generalize bs[k].dat K=D at*;generalize bs[k]=b at*;obtain⟨n2,r,n4,T⟩:=b;simp only[Nat.add_zero] at c0 c1 c2 c3;clear hc hcs HX hbo;have hG:=zI hXc hlt0;have C0:=fun d os=>cell_regrown c0 d os;have C1:=fun d os=>cell_regrown c1 d os;have C2:=fun d os=>cell_regrown c2 d os;have C3:=fun d os=>cell_regrown c3 d os;go_wp2_with fail;refine wp_region_quiet_below kr kr ?_;repeat(go_big_quiet_step ((go_at_call 163;exact Calls.regrown_of (cD _))))
   refine wpQuiet_nil ?_;intro w2 hw2;have hb2:Below _ _ w2:=zh hw2;clear hw2;have z2:=hb2.size;have hB2:=hB.below hb2 hlt0;have g2:=hb.trans (hb2.mono hz);clear cD hb2 hB hb c0 c1 c2 c3 hXc hG C0 C1 C2 C3
   cases D with
   |none=>
    have h:=HN.out rfl;subst h;go_wp2;exact bodyPost_ret (v:=.tuple #[sv [],.bool false]) (by simp [results,Tryz.results132,go_sem]) rfl ⟨rfl,g2⟩
   |some d=>
    have HX2:=Go.Lib.hid (HS.out d rfl);have hdl:=HL.out d rfl;have hq:¬9223372036854775807<X.length+d.length:=oo;have hxl:(X++d).length≤64*(k+1):=(by simp;omega);have HXL:=Go.Lib.hid hxl;clear hxl HS HN HL;go_wp2;go_roundw
    case rel=>exact⟨k+1,X++d,by simp [sv],by go_num,by omega,HXL.out,HX2,hB2,g2⟩
    case measure=>simp [intOf];omega
  ·have hki:¬(k:Int)<bs.length:=oo
   have h:R=some X:=(by rw[←HR.out,←HX.out,List.take_of_length_le (by omega)]);subst h;go_wp2;exact bodyPost_ret (v:=.tuple #[sv X,.bool true]) (by simp [results,Tryz.results132,go_sem]) rfl ⟨rfl,hb⟩
theorem qX (o l m:Int)(dict t:Bs)(w:World)(hdl:dict.length≤9223372036854775807)(htl:t.length≤1500000):
 Calls Tryz.prog 96 #[.agg #[.int .i64 o,.int .i64 l,.int .i64 m],sv dict,sv t] w fun e w'=>e=xY (cdB o l m dict t)∧Below w.heap.size w w':=by
 have cB:=fun w=>qh t w htl;have cR:=fun w=>rW o l m dict w hdl;have HNO:Hid (¬fits o l m dict→cdB o l m dict t=none):=fun h=>KD h;have HNB:Hid (zT t=none→cdB o l m dict t=none):=fun h=>NF h;have HY:Hid (∀bs,fits o l m dict→zT t=some bs→cdB o l m dict t=yK (zt o l m dict) bs):=fun bs h h2=>rX h h2;have HOK:Hid (∀bs,zT t=some bs→(∀b ∈ bs,b.ok=true)∧bs.length≤40):=fun bs h=>⟨xU h,(xN h).2⟩;generalize cdB o l m dict t=R at*;generalize zT t=BB at*;go_enter Tryz.func96,Tryz.ntmps96;have hK0:Bk (w.alloc (.cells #[.int .i64 o,.int .i64 l,.int .i64 m] 39)) w.heap.size 39 #[.int .i64 o,.int .i64 l,.int .i64 m]:=tBk;have g0:Below w.heap.size w (w.alloc (.cells #[.int .i64 o,.int .i64 l,.int .i64 m] 39)):=zu;go_upto_region 1 with(fail)
 generalize w.alloc (.cells #[.int .i64 o,.int .i64 l,.int .i64 m] 39)=w0 at*;have hz0:=hK0.lt;go_wp2_with fail;refine(cB _).mono ?_;rintro e w1 ⟨A1,c1,rfl,o1,hb1⟩;have hz1:=hb1.size;have hK1:=hK0.below hb1 hz0;have g1:=g0.trans (hb1.mono oo);have s1:=OE o1;have hX1:=hK1.cell;clear hb1 hK0 g0 o1 cB
 cases BB with
 |none=>
  have h:=HNB.out rfl;subst h;go_wp2;exact bodyPost_ret (v:=.tuple #[sv [],.bool false]) (by simp [results,Tryz.results96,go_sem]) rfl ⟨rfl,g1⟩
 |some bs=>
  simp only[Option.getD_some,Option.isSome_some] at s1⊢;by_cases hf:fits o l m dict
  ·have hd:decide (fits o l m dict)=true:=by simpa using hf
   simp only[hd] at cR;have hE:=HY.out bs hf rfl;obtain⟨h1,h2⟩:=HOK.out bs rfl;have cA:=fun w h=>QY o l m dict bs A1 c1 w hf h h1 oo;rw[←hE] at cA;clear HNO HNB HY HOK h1 hf hd hE;go_wp2_with fail;refine(cR _).mono ?_;rintro e w2 ⟨rfl,hb2⟩;have hz2:=hb2.size;have hK2:=hK1.below hb2 oo;have s2:=s1.below hb2;have g2:=g1.trans (hb2.mono oo);have hX2:=hK2.cell;clear hb2 hK1 hX1 s1 g1 cR;go_wp2_with fail;refine(cA _ s2).mono ?_;rintro e w3 ⟨rfl,hb3⟩;have g3:=g2.trans (hb3.mono oo);unfold xY;go_wp2;exact bodyPost_ret (v:=.tuple #[sv (R.getD []),.bool R.isSome]) (by simp [results,Tryz.results96,go_sem]) rfl ⟨rfl,g3⟩
  ·have hd:decide (fits o l m dict)=false:=by simpa using hf
   simp only[hd] at cR;have hE:=HNO.out hf;subst hE;clear HNO HNB HY HOK hf hd;go_wp2_with fail;refine(cR _).mono ?_;rintro e w2 ⟨rfl,hb2⟩;have g2:=g1.trans (hb2.mono oo);clear hb2 hK1 hX1 s1 g1 cR;go_wp2;exact bodyPost_ret (v:=.tuple #[sv [],.bool false]) (by simp [results,Tryz.results96,go_sem]) rfl ⟨rfl,g2⟩
end Go.Proofs.YtfppmajoidkooaaGreatDoor
