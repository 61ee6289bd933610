import Derived.Test.YtfppmajoidkooaaGreatDoorUW14
import Derived.Test.YtfppmajoidkooaaGreatDoorUW9
import Derived.Test.YtfppmajoidkooaaGreatDoorUW4
set_option linter.unusedVariables false
set_option linter.unusedSimpArgs false
set_option maxHeartbeats 8000000
namespace Go.Proofs.YtfppmajoidkooaaGreatDoor
open Go.RowKit
set_option maxRecDepth 100000
attribute [local go_sem high] zy zA zB zO zK zY zx zk zl zq zi zo yP zD yt zF
def uj (ps:List Bs)(w:World)(e:Ending)(w':World):Prop:=
 ∃(x:OpR) (ok:Bool),e= .returned (.tuple #[x.val,.bool ok])∧yx ps=(if ok=true then some x else none)∧Below w.heap.size w w'
theorem ni (a:Bs)(r:List Bs)(h4:r.length=3→¬(a=jg∨a=wz))(h6:r.length=5→¬a=xR)(h3:r.length=2→¬a=uh)(h2:r.length=1→¬a=wX):yx (a::r)=none:=by
 cases hs:yx (a::r) with
 |none=>rfl
 |some x=>
  exfalso;unfold yx at hs;split at hs
  ·rename_i heq
   injection heq with e1 e2
   subst e1 e2;rw[if_neg (h4 rfl)] at hs;cases hs
  ·rename_i heq
   injection heq with e1 e2
   subst e1 e2;rw[if_neg (h6 rfl)] at hs;cases hs
  ·rename_i heq
   injection heq with e1 e2
   subst e1 e2;rw[if_neg (h3 rfl)] at hs;cases hs
  ·rename_i heq
   injection heq with e1 e2
   subst e1 e2;rw[if_neg (h2 rfl)] at hs;cases hs
  ·cases hs
theorem qm {α:Type}(o:Option α)(z:α):o=if o.isSome=true then some (o.getD z) else none:=by cases o<;>rfl
theorem wV.on {w w':World}(h:wV w)(hb:Below w.heap.size w w'):wV w':=by
 obtain⟨⟨ev,hv,hev⟩,⟨ev2,hv2,hev2⟩⟩:=h;exact⟨⟨ev,(hb.cell (lt_of_cell hv)).trans hv,hev⟩,⟨ev2,(hb.cell (lt_of_cell hv2)).trans hv2,hev2⟩⟩
theorem Tj (b c d:Bs)(g cap:Nat)(w:World)(B:Nat)(hB:B≤w.heap.size)(hT:uD B w)(hE:wV w)(hsp:SlS w (some ⟨g,0,none⟩) cap [jg,b,c,d])(hg:g<w.heap.size)(hl:∀p ∈ [jg,b,c,d],p.length≤2000000):
 Calls Tryz.prog 81 #[.slice (some ⟨g,0,none⟩) 4 cap] w (uj [jg,b,c,d] w):=by
 have HT:=Go.Lib.hid hT;clear hT;have hlb:=hl b (by simp);have hlc:=hl c (by simp);have hld:=hl d (by simp);obtain⟨_,_,hA0,_,hc0o⟩:=SlS.at hsp (k:=0) (by simp);injection hA0 with hA0
 injection hA0 with e1 e2 _
 subst e1;subst e2;obtain⟨_,_,hA1,_,hc1o⟩:=SlS.at hsp (k:=1) (by simp);injection hA1 with hA1
 injection hA1 with e1 e2 _
 subst e1;subst e2;obtain⟨_,_,hA2,_,hc2o⟩:=SlS.at hsp (k:=2) (by simp);injection hA2 with hA2
 injection hA2 with e1 e2 _
 subst e1;subst e2;obtain⟨_,_,hA3,_,hc3o⟩:=SlS.at hsp (k:=3) (by simp);injection hA3 with hA3
 injection hA3 with e1 e2 _
 subst e1;subst e2;rw[Nat.zero_add] at hc0o hc1o hc2o hc3o;have hc0:=hc0o;have hc1:=hc1o;have hc2:=hc2o;have hc3:=hc3o;go_enter Tryz.func81,Tryz.ntmps81;go_wp2_with fail;have b0:Below w.heap.size w (w.alloc (.cells opZ.cells 26)):=zu;refine(wS c (w.alloc (.cells opZ.cells 26)) B (by simp;omega) (Lib.TabBelow.on HT.out (b0.mono hB)) (hE.on b0) (by omega)).mono ?_;rintro e w1 ⟨rfl,hb1⟩;have K1:Bk w1 w.heap.size 26 opZ.cells:=(Bk.new w opZ.cells 26).below hb1 (by simp);have hz1:=hb1.size;simp only[World.size_alloc] at hz1;have g1:Below w.heap.size w w1:=b0.trans (hb1.mono (by simp));unfold xG;have HV1:=Go.Lib.hid (qm (numOf c) 0);generalize(numOf c).getD 0=Sv at*;generalize(numOf c).isSome=Svb at*;have hc0:=(g1.cell (p:=⟨g,0,none⟩) hg).trans hc0o;have hc1:=(g1.cell (p:=⟨g,1,none⟩) hg).trans hc1o;have hc2:=(g1.cell (p:=⟨g,2,none⟩) hg).trans hc2o;have hc3:=(g1.cell (p:=⟨g,3,none⟩) hg).trans hc3o;go_wp2_with fail;refine(uX d _ oo).mono ?_;rintro e w2 ⟨rfl,hb2⟩;have K2:=K1.below hb2 K1.lt;have hz2:=hb2.size;have g2:=g1.trans (hb2.mono oo);unfold aN;have HV2:=Go.Lib.hid (qm (hexD d) []);generalize(hexD d).getD []=Dv at*;generalize(hexD d).isSome=Dvb at*;have hc0:=(g2.cell (p:=⟨g,0,none⟩) hg).trans hc0o;have hc1:=(g2.cell (p:=⟨g,1,none⟩) hg).trans hc1o;have hc2:=(g2.cell (p:=⟨g,2,none⟩) hg).trans hc2o;have hc3:=(g2.cell (p:=⟨g,3,none⟩) hg).trans hc3o;have X2:=K2.cell;have F2:=K2.free;go_wp2
 all_goals
  first
   |exact bodyPost_ret (v:=.tuple #[(⟨0,0,0,Sv,b,Dv⟩:OpR).val,.bool (Svb&&Dvb)]) (by simp [results,Tryz.results81,go_sem,X2]<;>simp_all) rfl ⟨⟨0,0,0,Sv,b,Dv⟩,Svb&&Dvb,rfl,by unfold yx;simp only[HV1.out,HV2.out];cases Svb<;>cases Dvb<;>simp,zu⟩
theorem fields_append (b c d:Bs)(g cap:Nat)(w:World)(B:Nat)(hB:B≤w.heap.size)(hT:uD B w)(hE:wV w)(hsp:SlS w (some ⟨g,0,none⟩) cap [wz,b,c,d])(hg:g<w.heap.size)(hl:∀p ∈ [wz,b,c,d],p.length≤2000000):
 Calls Tryz.prog 81 #[.slice (some ⟨g,0,none⟩) 4 cap] w (uj [wz,b,c,d] w):=by
 have HT:=Go.Lib.hid hT;clear hT;have hlb:=hl b (by simp);have hlc:=hl c (by simp);have hld:=hl d (by simp);obtain⟨_,_,hA0,_,hc0o⟩:=SlS.at hsp (k:=0) (by simp);injection hA0 with hA0
 injection hA0 with e1 e2 _
 subst e1;subst e2;obtain⟨_,_,hA1,_,hc1o⟩:=SlS.at hsp (k:=1) (by simp);injection hA1 with hA1
 injection hA1 with e1 e2 _
 subst e1;subst e2;obtain⟨_,_,hA2,_,hc2o⟩:=SlS.at hsp (k:=2) (by simp);injection hA2 with hA2
 injection hA2 with e1 e2 _
 subst e1;subst e2;obtain⟨_,_,hA3,_,hc3o⟩:=SlS.at hsp (k:=3) (by simp);injection hA3 with hA3
 injection hA3 with e1 e2 _
 subst e1;subst e2;rw[Nat.zero_add] at hc0o hc1o hc2o hc3o;have hc0:=hc0o;have hc1:=hc1o;have hc2:=hc2o;have hc3:=hc3o;go_enter Tryz.func81,Tryz.ntmps81;go_wp2_with fail;have b0:Below w.heap.size w (w.alloc (.cells opZ.cells 26)):=zu;refine(wS c (w.alloc (.cells opZ.cells 26)) B (by simp;omega) (Lib.TabBelow.on HT.out (b0.mono hB)) (hE.on b0) (by omega)).mono ?_;rintro e w1 ⟨rfl,hb1⟩;have K1:Bk w1 w.heap.size 26 opZ.cells:=(Bk.new w opZ.cells 26).below hb1 (by simp);have hz1:=hb1.size;simp only[World.size_alloc] at hz1;have g1:Below w.heap.size w w1:=b0.trans (hb1.mono (by simp));unfold xG;have HV1:=Go.Lib.hid (qm (numOf c) 0);generalize(numOf c).getD 0=Sv at*;generalize(numOf c).isSome=Svb at*;have hc0:=(g1.cell (p:=⟨g,0,none⟩) hg).trans hc0o;have hc1:=(g1.cell (p:=⟨g,1,none⟩) hg).trans hc1o;have hc2:=(g1.cell (p:=⟨g,2,none⟩) hg).trans hc2o;have hc3:=(g1.cell (p:=⟨g,3,none⟩) hg).trans hc3o;go_wp2_with fail;refine(uX d _ oo).mono ?_;rintro e w2 ⟨rfl,hb2⟩;have K2:=K1.below hb2 K1.lt;have hz2:=hb2.size;have g2:=g1.trans (hb2.mono oo);unfold aN;have HV2:=Go.Lib.hid (qm (hexD d) []);generalize(hexD d).getD []=Dv at*;generalize(hexD d).isSome=Dvb at*;have hc0:=(g2.cell (p:=⟨g,0,none⟩) hg).trans hc0o;have hc1:=(g2.cell (p:=⟨g,1,none⟩) hg).trans hc1o;have hc2:=(g2.cell (p:=⟨g,2,none⟩) hg).trans hc2o;have hc3:=(g2.cell (p:=⟨g,3,none⟩) hg).trans hc3o;have X2:=K2.cell;have F2:=K2.free;go_wp2
 all_goals
  first
   |exact bodyPost_ret (v:=.tuple #[(⟨1,0,0,Sv,b,Dv⟩:OpR).val,.bool (Svb&&Dvb)]) (by simp [results,Tryz.results81,go_sem,X2]<;>simp_all) rfl ⟨⟨1,0,0,Sv,b,Dv⟩,Svb&&Dvb,rfl,by unfold yx;simp only[HV1.out,HV2.out];cases Svb<;>cases Dvb<;>simp,zu⟩
theorem Yz (b c d e i:Bs)(g cap:Nat)(w:World)(B:Nat)(hB:B≤w.heap.size)(hT:uD B w)(hE:wV w)(hsp:SlS w (some ⟨g,0,none⟩) cap [xR,b,c,d,e,i])(hg:g<w.heap.size)(hl:∀p ∈ [xR,b,c,d,e,i],p.length≤2000000):
 Calls Tryz.prog 81 #[.slice (some ⟨g,0,none⟩) 6 cap] w (uj [xR,b,c,d,e,i] w):=by
 have HT:=Go.Lib.hid hT;clear hT;have hlb:=hl b (by simp);have hlc:=hl c (by simp);have hld:=hl d (by simp);have hle:=hl e (by simp);have hli:=hl i (by simp);obtain⟨_,_,hA0,_,hc0o⟩:=SlS.at hsp (k:=0) (by simp);injection hA0 with hA0
 injection hA0 with e1 e2 _
 subst e1;subst e2;obtain⟨_,_,hA1,_,hc1o⟩:=SlS.at hsp (k:=1) (by simp);injection hA1 with hA1
 injection hA1 with e1 e2 _
 subst e1;subst e2;obtain⟨_,_,hA2,_,hc2o⟩:=SlS.at hsp (k:=2) (by simp);injection hA2 with hA2
 injection hA2 with e1 e2 _
 subst e1;subst e2;obtain⟨_,_,hA3,_,hc3o⟩:=SlS.at hsp (k:=3) (by simp);injection hA3 with hA3
 injection hA3 with e1 e2 _
 subst e1;subst e2;obtain⟨_,_,hA4,_,hc4o⟩:=SlS.at hsp (k:=4) (by simp);injection hA4 with hA4
 injection hA4 with e1 e2 _
 subst e1;subst e2;obtain⟨_,_,hA5,_,hc5o⟩:=SlS.at hsp (k:=5) (by simp);injection hA5 with hA5
 injection hA5 with e1 e2 _
 subst e1;subst e2;rw[Nat.zero_add] at hc0o hc1o hc2o hc3o hc4o hc5o;have hc0:=hc0o;have hc1:=hc1o;have hc2:=hc2o;have hc3:=hc3o;have hc4:=hc4o;have hc5:=hc5o;go_enter Tryz.func81,Tryz.ntmps81;go_wp2_with fail;have b0:Below w.heap.size w (w.alloc (.cells opZ.cells 26)):=zu;refine(wS c (w.alloc (.cells opZ.cells 26)) B (by simp;omega) (Lib.TabBelow.on HT.out (b0.mono hB)) (hE.on b0) (by omega)).mono ?_;rintro e w1 ⟨rfl,hb1⟩;have K1:Bk w1 w.heap.size 26 opZ.cells:=(Bk.new w opZ.cells 26).below hb1 (by simp);have hz1:=hb1.size;simp only[World.size_alloc] at hz1;have g1:Below w.heap.size w w1:=b0.trans (hb1.mono (by simp));unfold xG;have HV1:=Go.Lib.hid (qm (numOf c) 0);generalize(numOf c).getD 0=Fv at*;generalize(numOf c).isSome=Fvb at*;have hc0:=(g1.cell (p:=⟨g,0,none⟩) hg).trans hc0o;have hc1:=(g1.cell (p:=⟨g,1,none⟩) hg).trans hc1o;have hc2:=(g1.cell (p:=⟨g,2,none⟩) hg).trans hc2o;have hc3:=(g1.cell (p:=⟨g,3,none⟩) hg).trans hc3o;have hc4:=(g1.cell (p:=⟨g,4,none⟩) hg).trans hc4o;have hc5:=(g1.cell (p:=⟨g,5,none⟩) hg).trans hc5o;go_wp2_with fail;refine(wS d _ B oo (Lib.TabBelow.on HT.out (g1.mono hB)) (hE.on g1) oo).mono ?_;rintro e w2 ⟨rfl,hb2⟩;have K2:=K1.below hb2 K1.lt;have hz2:=hb2.size;have g2:=g1.trans (hb2.mono oo);unfold xG;have HV2:=Go.Lib.hid (qm (numOf d) 0);generalize(numOf d).getD 0=Tv at*;generalize(numOf d).isSome=Tvb at*;have hc0:=(g2.cell (p:=⟨g,0,none⟩) hg).trans hc0o;have hc1:=(g2.cell (p:=⟨g,1,none⟩) hg).trans hc1o;have hc2:=(g2.cell (p:=⟨g,2,none⟩) hg).trans hc2o;have hc3:=(g2.cell (p:=⟨g,3,none⟩) hg).trans hc3o;have hc4:=(g2.cell (p:=⟨g,4,none⟩) hg).trans hc4o;have hc5:=(g2.cell (p:=⟨g,5,none⟩) hg).trans hc5o;go_wp2_with fail;refine(wS e _ B oo (Lib.TabBelow.on HT.out (g2.mono hB)) (hE.on g2) oo).mono ?_;rintro e w3 ⟨rfl,hb3⟩;have K3:=K2.below hb3 K2.lt;have hz3:=hb3.size;have g3:=g2.trans (hb3.mono oo);unfold xG;have HV3:=Go.Lib.hid (qm (numOf e) 0);generalize(numOf e).getD 0=Sv at*;generalize(numOf e).isSome=Svb at*;have hc0:=(g3.cell (p:=⟨g,0,none⟩) hg).trans hc0o;have hc1:=(g3.cell (p:=⟨g,1,none⟩) hg).trans hc1o;have hc2:=(g3.cell (p:=⟨g,2,none⟩) hg).trans hc2o;have hc3:=(g3.cell (p:=⟨g,3,none⟩) hg).trans hc3o;have hc4:=(g3.cell (p:=⟨g,4,none⟩) hg).trans hc4o;have hc5:=(g3.cell (p:=⟨g,5,none⟩) hg).trans hc5o;go_wp2_with fail;refine(uX i _ oo).mono ?_;rintro e w4 ⟨rfl,hb4⟩;have K4:=K3.below hb4 K3.lt;have hz4:=hb4.size;have g4:=g3.trans (hb4.mono oo);unfold aN;have HV4:=Go.Lib.hid (qm (hexD i) []);generalize(hexD i).getD []=Dv at*;generalize(hexD i).isSome=Dvb at*;have hc0:=(g4.cell (p:=⟨g,0,none⟩) hg).trans hc0o;have hc1:=(g4.cell (p:=⟨g,1,none⟩) hg).trans hc1o;have hc2:=(g4.cell (p:=⟨g,2,none⟩) hg).trans hc2o;have hc3:=(g4.cell (p:=⟨g,3,none⟩) hg).trans hc3o;have hc4:=(g4.cell (p:=⟨g,4,none⟩) hg).trans hc4o;have hc5:=(g4.cell (p:=⟨g,5,none⟩) hg).trans hc5o;have X2:=K4.cell;have F2:=K4.free;go_wp2
 all_goals
  first
   |exact bodyPost_ret (v:=.tuple #[(⟨2,Fv,Tv,Sv,b,Dv⟩:OpR).val,.bool (Fvb&&Tvb&&Svb&&Dvb)]) (by simp [results,Tryz.results81,go_sem,X2]<;>simp_all) rfl ⟨⟨2,Fv,Tv,Sv,b,Dv⟩,Fvb&&Tvb&&Svb&&Dvb,rfl,by unfold yx;simp only[HV1.out,HV2.out,HV3.out,HV4.out];cases Fvb<;>cases Tvb<;>cases Svb<;>cases Dvb<;>simp,zu⟩
theorem Wh (b c:Bs)(g cap:Nat)(w:World)(B:Nat)(hB:B≤w.heap.size)(hT:uD B w)(hE:wV w)(hsp:SlS w (some ⟨g,0,none⟩) cap [uh,b,c])(hg:g<w.heap.size)(hl:∀p ∈ [uh,b,c],p.length≤2000000):
 Calls Tryz.prog 81 #[.slice (some ⟨g,0,none⟩) 3 cap] w (uj [uh,b,c] w):=by
 have HT:=Go.Lib.hid hT;clear hT;have hlb:=hl b (by simp);have hlc:=hl c (by simp);obtain⟨_,_,hA0,_,hc0o⟩:=SlS.at hsp (k:=0) (by simp);injection hA0 with hA0
 injection hA0 with e1 e2 _
 subst e1;subst e2;obtain⟨_,_,hA1,_,hc1o⟩:=SlS.at hsp (k:=1) (by simp);injection hA1 with hA1
 injection hA1 with e1 e2 _
 subst e1;subst e2;obtain⟨_,_,hA2,_,hc2o⟩:=SlS.at hsp (k:=2) (by simp);injection hA2 with hA2
 injection hA2 with e1 e2 _
 subst e1;subst e2;rw[Nat.zero_add] at hc0o hc1o hc2o;have hc0:=hc0o;have hc1:=hc1o;have hc2:=hc2o;go_enter Tryz.func81,Tryz.ntmps81;go_wp2_with fail;have b0:Below w.heap.size w (w.alloc (.cells opZ.cells 26)):=zu;refine(wS c (w.alloc (.cells opZ.cells 26)) B (by simp;omega) (Lib.TabBelow.on HT.out (b0.mono hB)) (hE.on b0) (by omega)).mono ?_;rintro e w1 ⟨rfl,hb1⟩;have K1:Bk w1 w.heap.size 26 opZ.cells:=(Bk.new w opZ.cells 26).below hb1 (by simp);have hz1:=hb1.size;simp only[World.size_alloc] at hz1;have g1:Below w.heap.size w w1:=b0.trans (hb1.mono (by simp));unfold xG;have HV1:=Go.Lib.hid (qm (numOf c) 0);generalize(numOf c).getD 0=Sv at*;generalize(numOf c).isSome=Svb at*;have hc0:=(g1.cell (p:=⟨g,0,none⟩) hg).trans hc0o;have hc1:=(g1.cell (p:=⟨g,1,none⟩) hg).trans hc1o;have hc2:=(g1.cell (p:=⟨g,2,none⟩) hg).trans hc2o;have X2:=K1.cell;have F2:=K1.free;go_wp2
 all_goals
  first
   |exact bodyPost_ret (v:=.tuple #[(⟨3,0,0,Sv,b,[]⟩:OpR).val,.bool (Svb)]) (by simp [results,Tryz.results81,go_sem,X2]<;>simp_all) rfl ⟨⟨3,0,0,Sv,b,[]⟩,Svb,rfl,by unfold yx;simp only[HV1.out];cases Svb<;>simp,zu⟩
theorem YX (b:Bs)(g cap:Nat)(w:World)(B:Nat)(hB:B≤w.heap.size)(hT:uD B w)(hE:wV w)(hsp:SlS w (some ⟨g,0,none⟩) cap [wX,b])(hg:g<w.heap.size)(hl:∀p ∈ [wX,b],p.length≤2000000):
 Calls Tryz.prog 81 #[.slice (some ⟨g,0,none⟩) 2 cap] w (uj [wX,b] w):=by
 have HT:=Go.Lib.hid hT;clear hT;have hlb:=hl b (by simp);obtain⟨_,_,hA0,_,hc0o⟩:=SlS.at hsp (k:=0) (by simp);injection hA0 with hA0
 injection hA0 with e1 e2 _
 subst e1;subst e2;obtain⟨_,_,hA1,_,hc1o⟩:=SlS.at hsp (k:=1) (by simp);injection hA1 with hA1
 injection hA1 with e1 e2 _
 subst e1;subst e2;rw[Nat.zero_add] at hc0o hc1o;have hc0:=hc0o;have hc1:=hc1o;go_enter Tryz.func81,Tryz.ntmps81;go_wp2
 all_goals
  first
   |exact bodyPost_ret (v:=.tuple #[(⟨4,0,0,0,b,[]⟩:OpR).val,.bool (true)]) (by simp [results,Tryz.results81,go_sem]<;>simp_all) rfl ⟨⟨4,0,0,0,b,[]⟩,true,rfl,rfl,zu⟩
theorem Wn (a b c d:Bs)(g cap:Nat)(w:World)(hsp:SlS w (some ⟨g,0,none⟩) cap ([a,b,c,d]))(hg:g<w.heap.size)(h1:¬a=jg)(h2:¬a=wz):
 Calls Tryz.prog 81 #[.slice (some ⟨g,0,none⟩) 4 cap] w (uj ([a,b,c,d]) w):=by
 have HI:Hid (yx ([a,b,c,d])=none):=ni _ _ (fun _ h=>h.elim h1 h2) (fun h=>by simp at h) (fun h=>by simp at h) (fun h=>by simp at h);obtain⟨_,_,hA0,_,hc0⟩:=SlS.at hsp (k:=0) (by simp);injection hA0 with hA0
 injection hA0 with e1 e2 _
 subst e1;subst e2;rw[Nat.zero_add] at hc0;have d1:decide (a=jg)=false:=(by simpa using h1);have d2:decide (a=wz)=false:=(by simpa using h2);clear h1 h2;go_enter Tryz.func81,Tryz.ntmps81;go_wp2;exact bodyPost_ret (v:=.tuple #[opZ.val,.bool false]) (by simp [results,Tryz.results81,go_sem,opZ]) rfl ⟨opZ,false,rfl,HI.out,zu⟩
theorem Vq (a b c d e i:Bs)(g cap:Nat)(w:World)(hsp:SlS w (some ⟨g,0,none⟩) cap ([a,b,c,d,e,i]))(hg:g<w.heap.size)(h1:¬a=xR):
 Calls Tryz.prog 81 #[.slice (some ⟨g,0,none⟩) 6 cap] w (uj ([a,b,c,d,e,i]) w):=by
 have HI:Hid (yx ([a,b,c,d,e,i])=none):=ni _ _ (fun h=>by simp at h) (fun _=>h1) (fun h=>by simp at h) (fun h=>by simp at h);obtain⟨_,_,hA0,_,hc0⟩:=SlS.at hsp (k:=0) (by simp);injection hA0 with hA0
 injection hA0 with e1 e2 _
 subst e1;subst e2;rw[Nat.zero_add] at hc0;have d1:decide (a=xR)=false:=(by simpa using h1);clear h1;go_enter Tryz.func81,Tryz.ntmps81;go_wp2;exact bodyPost_ret (v:=.tuple #[opZ.val,.bool false]) (by simp [results,Tryz.results81,go_sem,opZ]) rfl ⟨opZ,false,rfl,HI.out,zu⟩
theorem Wl (a b c:Bs)(g cap:Nat)(w:World)(hsp:SlS w (some ⟨g,0,none⟩) cap ([a,b,c]))(hg:g<w.heap.size)(h1:¬a=uh):
 Calls Tryz.prog 81 #[.slice (some ⟨g,0,none⟩) 3 cap] w (uj ([a,b,c]) w):=by
 have HI:Hid (yx ([a,b,c])=none):=ni _ _ (fun h=>by simp at h) (fun h=>by simp at h) (fun _=>h1) (fun h=>by simp at h);obtain⟨_,_,hA0,_,hc0⟩:=SlS.at hsp (k:=0) (by simp);injection hA0 with hA0
 injection hA0 with e1 e2 _
 subst e1;subst e2;rw[Nat.zero_add] at hc0;have d1:decide (a=uh)=false:=(by simpa using h1);clear h1;go_enter Tryz.func81,Tryz.ntmps81;go_wp2;exact bodyPost_ret (v:=.tuple #[opZ.val,.bool false]) (by simp [results,Tryz.results81,go_sem,opZ]) rfl ⟨opZ,false,rfl,HI.out,zu⟩
theorem Vz (a b:Bs)(g cap:Nat)(w:World)(hsp:SlS w (some ⟨g,0,none⟩) cap ([a,b]))(hg:g<w.heap.size)(h1:¬a=wX):
 Calls Tryz.prog 81 #[.slice (some ⟨g,0,none⟩) 2 cap] w (uj ([a,b]) w):=by
 have HI:Hid (yx ([a,b])=none):=ni _ _ (fun h=>by simp at h) (fun h=>by simp at h) (fun h=>by simp at h) (fun _=>h1);obtain⟨_,_,hA0,_,hc0⟩:=SlS.at hsp (k:=0) (by simp);injection hA0 with hA0
 injection hA0 with e1 e2 _
 subst e1;subst e2;rw[Nat.zero_add] at hc0;have d1:decide (a=wX)=false:=(by simpa using h1);clear h1;go_enter Tryz.func81,Tryz.ntmps81;go_wp2;exact bodyPost_ret (v:=.tuple #[opZ.val,.bool false]) (by simp [results,Tryz.results81,go_sem,opZ]) rfl ⟨opZ,false,rfl,HI.out,zu⟩
theorem mD (a:Bs)(r:List Bs)(g cap:Nat)(w:World)(hsp:SlS w (some ⟨g,0,none⟩) cap (a::r))(hg:g<w.heap.size)(h1:r.length≠3)(h2:r.length≠5)(h3:r.length≠2)(h4:r.length≠1):
 Calls Tryz.prog 81 #[.slice (some ⟨g,0,none⟩) (a::r).length cap] w (uj (a::r) w):=by
 have HI:Hid (yx (a::r)=none):=ni _ _ (fun h=>absurd h h1) (fun h=>absurd h h2) (fun h=>absurd h h3) (fun h=>absurd h h4);obtain⟨_,_,hA0,_,hc0⟩:=SlS.at hsp (k:=0) (by simp);injection hA0 with hA0
 injection hA0 with e1 e2 _
 subst e1;subst e2;rw[Nat.zero_add] at hc0;have d1:((r.length:Int)+1==4)=false:=(by rw[beq_eq_false_iff_ne];omega);have d2:((r.length:Int)+1==6)=false:=(by rw[beq_eq_false_iff_ne];omega);have d3:((r.length:Int)+1==3)=false:=(by rw[beq_eq_false_iff_ne];omega);have d4:((r.length:Int)+1==2)=false:=(by rw[beq_eq_false_iff_ne];omega);clear h1 h2 h3 h4;go_enter Tryz.func81,Tryz.ntmps81;go_wp2;exact bodyPost_ret (v:=.tuple #[opZ.val,.bool false]) (by simp [results,Tryz.results81,go_sem,opZ]) rfl ⟨opZ,false,rfl,HI.out,zu⟩
theorem Rh (ps:List Bs)(hne:ps≠[])(g cap:Nat)(w:World)(B:Nat)(hB:B≤w.heap.size)(hT:uD B w)(hE:wV w)(hsp:SlS w (some ⟨g,0,none⟩) cap ps)(hg:g<w.heap.size)(hl:∀p ∈ ps,p.length≤2000000):
 Calls Tryz.prog 81 #[.slice (some ⟨g,0,none⟩) ps.length cap] w (uj ps w):=by
 match ps,hne with
 |[a,b,c,d],_=>
  by_cases h1:a=jg
  ·subst h1;exact Tj b c d g cap w B hB hT hE hsp hg hl
  by_cases h2:a=wz
  ·subst h2;exact fields_append b c d g cap w B hB hT hE hsp hg hl
  exact Wn a b c d g cap w hsp hg h1 h2
 |[a,b,c,d,e,i],_=>
  by_cases h1:a=xR
  ·subst h1;exact Yz b c d e i g cap w B hB hT hE hsp hg hl
  exact Vq a b c d e i g cap w hsp hg h1
 |[a,b,c],_=>
  by_cases h1:a=uh
  ·subst h1;exact Wh b c g cap w B hB hT hE hsp hg hl
  exact Wl a b c g cap w hsp hg h1
 |[a,b],_=>
  by_cases h1:a=wX
  ·subst h1;exact YX b g cap w B hB hT hE hsp hg hl
  exact Vz a b g cap w hsp hg h1
 |[a],_=>exact mD a [] g cap w hsp hg (by simp) (by simp) (by simp) (by simp)
 |[a,b,c,d,e],_=>exact mD a [b,c,d,e] g cap w hsp hg (by simp) (by simp) (by simp) (by simp)
 |a::b::c::d::e::f::i::r,_=>exact mD a (b::c::d::e::f::i::r) g cap w hsp hg (by simp) (by simp) (by simp) (by simp)
theorem UN {ps:List Bs}{x:OpR}(h:yx ps=some x)(N:Nat)(hN:∀p ∈ ps,p.length≤N):x.nm.length≤N∧x.d.length≤4000:=by
 have hd:∀(e d:Bs),hexD e=some d→d.length≤4000:=by
  intro e d h;unfold hexD at h;split at h
  ·simp at h;subst h;simp
  ·split at h
   ·cases h
   ·exact(Xr e d h).1
 unfold yx at h;split at h
 ·rename_i a b c e
  split at h
  ·cases hn:numOf c with
   |none=>rw[hn] at h;simp at h
   |some s=>
    cases hh:hexD e with
    |none=>rw[hn,hh] at h;simp at h
    |some d=>
     rw[hn,hh] at h;simp at h;subst h;exact⟨hN b (by simp),hd _ _ hh⟩
  ·cases h
 ·rename_i a b c e g i
  split at h
  ·cases hn:numOf c with
   |none=>rw[hn] at h;simp at h
   |some f=>
    cases hn2:numOf e with
    |none=>rw[hn,hn2] at h;simp at h
    |some t=>
     cases hn3:numOf g with
     |none=>rw[hn,hn2,hn3] at h;simp at h
     |some s=>
      cases hh:hexD i with
      |none=>rw[hn,hn2,hn3,hh] at h;simp at h
      |some d=>
       rw[hn,hn2,hn3,hh] at h;simp at h;subst h;exact⟨hN b (by simp),hd _ _ hh⟩
  ·cases h
 ·rename_i a b c
  split at h
  ·cases hn:numOf c with
   |none=>rw[hn] at h;simp at h
   |some s=>
    rw[hn] at h;simp at h;subst h;exact⟨hN b (by simp),by simp⟩
  ·cases h
 ·rename_i a b
  split at h
  ·simp at h
   subst h;exact⟨hN b (by simp),by simp⟩
  ·cases h
 ·cases h
theorem VT (t:Bs)(m:Int)(w:World)(B:Nat)(hB:B≤w.heap.size)(hT:uD B w)(hE:wV w)(hm:w.cell? ⟨0,0,none⟩=some (.int .i64 m))(hs:t.length≤1500000):
 Calls Tryz.prog 46 #[.string ⟨t.toArray⟩] w fun e w'=>e=mV (yB t)∧Below w.heap.size w w':=by
 have HT:=Go.Lib.hid hT;clear hT;have hP:yB t=match yx (cut 32 t) with
  |some x=>if x.ok then some x else none
  |none=>none:=rfl
 have hNm:=fun x (h:yx (cut 32 t)=some x)=>UN h t.length (fun p hp=>pK 32 t p hp);have hne:=TW 32 t;have hcl:=QG 32 t;have hml:=pK 32 t;have cS:=Pz 32 t m (w.alloc (.cells opZ.cells 26)) (by omega) (by rw[World.cell?_alloc_lt _ _ _ (lt_of_cell hm)];exact hm);have HP:=Go.Lib.hid hP;have HN:=Go.Lib.hid hNm;have HM:=Go.Lib.hid hml;clear hP hNm hml;generalize cut 32 t=ps at*;have b0:Below w.heap.size w (w.alloc (.cells opZ.cells 26)):=zu;go_enter Tryz.func46,Tryz.ntmps46;go_wp2_with fail;refine cS.mono ?_;rintro e w1 ⟨rfl,rfl⟩;have hs1:SlS ((w.alloc (.cells opZ.cells 26)).alloc (.cells (ps.map sv).toArray 9)) (some ⟨w.heap.size+1,0,none⟩) ps.length ps:=by
  have:=Sl.new (w.alloc (.cells opZ.cells 26)) (ps.map sv).toArray 9 ps.length 1 (by simp) (by omega);simpa using this
 have K0:Bk ((w.alloc (.cells opZ.cells 26)).alloc (.cells (ps.map sv).toArray 9)) w.heap.size 26 opZ.cells:=(Bk.new _ _ _).alloc _;have g1:Below w.heap.size w ((w.alloc (.cells opZ.cells 26)).alloc (.cells (ps.map sv).toArray 9)):=zu;have hzW:((w.alloc (.cells opZ.cells 26)).alloc (.cells (ps.map sv).toArray 9)).heap.size=w.heap.size+2:=(by simp);generalize(w.alloc (.cells opZ.cells 26)).alloc (.cells (ps.map sv).toArray 9)=W at*;clear cS b0;simp only[World.size_alloc];go_wp2_with fail;refine(Rh ps hne (w.heap.size+1) ps.length W B oo (Lib.TabBelow.on HT.out (g1.mono hB)) (hE.on g1) hs1 oo (fun p hp=>by have:=HM.out p hp;omega)).mono ?_;rintro e w2 ⟨x,ok,rfl,hx,hb2⟩;have hz2:=hb2.size;have K1:=K0.below hb2 oo;have g2:=g1.trans (hb2.mono oo);have X2:=K1.cell;have F2:=K1.free;have hlt2:w.heap.size+1≤w2.heap.size:=oo;clear hb2 K0 g1
 cases ok with
 |false=>
  have HR:Hid (mV (yB t)= .returned (.tuple #[opZ.val,.bool false])):=by
   show _=_;rw[HP.out,hx];rfl
  obtain⟨k,f,tt,s,nm,d⟩:=x;have K2:=K1.alloc (.cells (⟨k,f,tt,s,nm,d⟩:OpR).cells 26);have X3:=K2.cell;have F3:=K2.free;simp only[OpR.cells] at X3 F3;go_wp2;exact bodyPost_ret (v:=.tuple #[opZ.val,.bool false]) (by simp [results,Tryz.results46,go_sem,X3,opZ]) rfl ⟨HR.out.symm,zu⟩
 |true=>
  simp only[if_true] at hx;have hbd:=HN.out x hx;obtain⟨hbd1,hbd2⟩:=hbd;have hR:mV (yB t)=mV (if x.ok then some x else none):=(by rw[HP.out,hx]);obtain⟨k,f,tt,s,nm,d⟩:=x;go_wp2_with fail;have K7:=Bk.new w2 (⟨k,f,tt,s,nm,d⟩:OpR).cells 26;have K2:=K1.alloc (.cells (⟨k,f,tt,s,nm,d⟩:OpR).cells 26);have g3:Below w.heap.size w (w2.alloc (.cells (⟨k,f,tt,s,nm,d⟩:OpR).cells 26)):=zu;refine(lY k f tt s nm d _ (Nat.le_trans hbd1 oo) (Nat.le_trans hbd2 oo)).mono ?_;rintro e w3 ⟨rfl,hb3⟩;have hz3:=hb3.size;simp only[World.size_alloc] at hz3;have K7':=K7.below hb3 K7.lt;have K2':=K2.below hb3 K2.lt;have g4:=g3.trans (hb3.mono (by simp;omega));have X7:=K7'.cell;have F7:=K7'.free;have X3:=K2'.cell;have F3:=K2'.free;clear hb3 K7 K2 g3 X2 F2;by_cases hok:uM k nm f tt s d
  ·have HR:Hid (mV (yB t)= .returned (.tuple #[(⟨k,f,tt,s,nm,d⟩:OpR).val,.bool true])):=by
    show _=_;rw[hR];have:(⟨k,f,tt,s,nm,d⟩:OpR).ok:=hok;rw[if_pos this];rfl
   rw[decide_eq_true hok];clear hok hR;go_wp2;exact bodyPost_ret (v:=.tuple #[(⟨k,f,tt,s,nm,d⟩:OpR).val,.bool true]) (by simp [results,Tryz.results46,go_sem,X3]) rfl ⟨HR.out.symm,zu⟩
  ·have HR:Hid (mV (yB t)= .returned (.tuple #[opZ.val,.bool false])):=by
    show _=_;rw[hR];have:¬(⟨k,f,tt,s,nm,d⟩:OpR).ok:=hok;rw[if_neg this];rfl
   rw[decide_eq_false hok];clear hok hR;go_wp2;exact bodyPost_ret (v:=.tuple #[opZ.val,.bool false]) (by simp [results,Tryz.results46,go_sem,X3,opZ]) rfl ⟨HR.out.symm,zu⟩
def qf (o:Option (OpR×Int)):Ending:=.returned (.tuple #[((o.map (·.1)).getD opZ).val,.int .i64 ((o.map (·.2)).getD 0),.bool o.isSome])
theorem Zo (x:OpR)(e:Int):qf (some (x,e))= .returned (.tuple #[x.val,.int .i64 e,.bool true]):=rfl
theorem RN (l:Bs)(w:World)(h:2≤l.length):
 Calls Tryz.prog 48 #[.string ⟨l.toArray⟩] w fun e w'=>e= .returned (.int .i64 (numAt l 0))∧Below w.heap.size w w':=by
 have h0:=zL l 0;have h1:=yu l 0;have h2:=zL l 1;have h3:=yu l 1;have hl:(2:Int)≤l.length:=oo;go_enter Tryz.func48,Tryz.ntmps48;go_wp2;go_quiet(fail);go_wp2;go_ret;exact⟨yN (by unfold numAt;simp;omega),zu⟩
theorem fB (l:Bs)(a:Nat)(w:World)(h:a+1<l.length)(hl:l.length≤4000000):
 Calls Tryz.prog 45 #[.string ⟨l.toArray⟩,.int .i64 (a:Int)] w fun e w'=>e= .returned (.int .i64 (numAt l a))∧Below w.heap.size w w':=by
 have h0:=zL l a;have h1:=yu l a;have h2:=zL l ((a:Int)+1);have h3:=yu l ((a:Int)+1);have hi:(a:Int)+1<l.length:=oo;go_enter Tryz.func45,Tryz.ntmps45;go_wp2;go_quiet(fail);go_wp2;go_ret;exact⟨rfl,zu⟩
theorem ay (l:Bs)(a:Int)(w:World)(hs:l.length≤1500000)(ha0: -9223372036854775808≤a)(ha1:a≤9223372036854775807):
 Calls Tryz.prog 14 #[.string ⟨l.toArray⟩,.int .i64 a] w fun e w'=>e=qf (yh l a)∧Below w.heap.size w w':=by
 by_cases hg:0≤a∧a+4≤l.length
 ·obtain⟨n,rfl⟩:=Int.eq_ofNat_of_zero_le hg.1
  have hn4:n+4≤l.length:=oo;have hi1:¬(n:Int)<0:=oo;have hi2:(n:Int)≤l.length:=oo;have hi3:¬(l.length:Int) - n<4:=oo;have hnb:=xA l n;have hx1:(⟨l.toArray⟩:ByteArray).extract n (n+2)=⟨((l.drop n).take 2).toArray⟩:=by
   rw[ByteArray.extract_mk];simp
  have cP:=fun w=>RN ((l.drop n).take 2) w (by simp;omega);rw[Uz l n (by omega)] at cP;have hR:yh l n=if 0≤(n:Int)∧(n:Int)+4≤l.length∧(n:Int)+4+numAt l n≤l.length then
   match yB (qR l n) with
   |some x=>if sumOf (qR l n)=numAt l ((n:Int)+2+numAt l n) then some (x,(n:Int)+4+numAt l n) else none
   |none=>none else none:=rfl
  have htest:=UA l n;have hlen:=gG l n;have hrec:qR l n=(l.drop (n+2)).take (numAt l n).toNat:=rfl;obtain⟨m,hm⟩:=Int.eq_ofNat_of_zero_le hnb.1;rw[hm] at hR htest hlen hrec cP hnb;simp only[Int.toNat_natCast] at htest hlen hrec;have hm2:m≤65535:=oo;clear hg hm hnb;have hx2:(⟨l.toArray⟩:ByteArray).extract (n+2) (n+2+m)=⟨(qR l n).toArray⟩:=by
   rw[ByteArray.extract_mk,hrec];simp
  have hx3:(⟨l.toArray⟩:ByteArray).extract n (n+4+m)=⟨((l.drop n).take (4+m)).toArray⟩:=by
   rw[ByteArray.extract_mk];simp;congr 1;omega
  clear hrec;by_cases hfit:n+4+m≤l.length
  ·have hfi:¬(l.length:Int) - n - 4<m:=oo
   replace htest:=htest hfit;replace hlen:=hlen hfit;rw[if_pos ⟨by omega,by omega,by omega⟩] at hR;generalize qR l n=T at*;have HRT:=Go.Lib.hid hR;have HTT:=Go.Lib.hid htest;clear hR htest;have cO:=fun w=>XX T w oo;unfold mV at cO;have cR:=fun w=>iM T w oo;go_enter Tryz.func14,Tryz.ntmps14;go_wp2_with fail;have K0:=Bk.new w opZ.cells 26;refine(cP _).mono ?_;rintro e w1 ⟨rfl,hb1⟩;have K1:=K0.below hb1 K0.lt;have hz1:=hb1.size;simp only[World.size_alloc] at hz1;have g1:Below w.heap.size w w1:=((Below.refl _ _).alloc (Nat.le_refl _) _).trans (hb1.mono (by simp));clear hb1 K0;go_wp2_with fail;refine(cO _).mono ?_;rintro e w2 ⟨rfl,hb2⟩;have K2:=K1.below hb2 K1.lt;have hz2:=hb2.size;have g2:=g1.trans (hb2.mono oo);clear hb2 K1 g1 cO cP;have hkk:(yB T).isSome=true∨yB T=none:=(by cases yB T<;>simp);rcases hkk with hk|hk
   ·obtain⟨x,hx⟩:=Option.isSome_iff_exists.1 hk
    have HR2:Hid (yh l n=if sumOf T=numAt l ((n:Int)+2+m) then some (x,(n:Int)+4+m) else none):=by
     show _=_;rw[HRT.out,hx]
    have e1:(yB T).getD opZ=x:=(by rw[hx];rfl);rw[e1,hk];clear hk hx e1 HRT;obtain⟨k,f,tt,s,nm,d⟩:=x;have X2:=(K2.alloc (.cells (⟨k,f,tt,s,nm,d⟩:OpR).cells 26)).cell;have F2:=(K2.alloc (.cells (⟨k,f,tt,s,nm,d⟩:OpR).cells 26)).free;simp only[OpR.cells] at X2 F2;have g3:Below w.heap.size w (w2.alloc (.cells (⟨k,f,tt,s,nm,d⟩:OpR).cells 26)):=zu;have K7:=Bk.new w2 (⟨k,f,tt,s,nm,d⟩:OpR).cells 26;have K2':=K2.alloc (.cells (⟨k,f,tt,s,nm,d⟩:OpR).cells 26);by_cases hsum:sumOf T=numAt l ((n:Int)+2+m)
    ·have HR3:Hid (qf (yh l n)= .returned (.tuple #[(⟨k,f,tt,s,nm,d⟩:OpR).val,.int .i64 ((n:Int)+4+m),.bool true])):=by
      show _=_;rw[HR2.out,if_pos hsum];rfl
     have hd:decide (uu T≠(l.drop n).take (4+m))=false:=by
      have:=HTT.out.2 hsum;simpa using this
     clear hsum HTT HR2;go_wp2_with fail;refine wp_region_quiet_below kr kr ?_;repeat(go_big_quiet_step ((go_at_call 50;exact Calls.regrown_of (cR _))))
     refine wpQuiet_nil ?_;intro w3 hw2;have hb3:Below _ _ w3:=zh hw2;clear hw2;have K8:=K7.below hb3 K7.lt;have K3:=K2'.below hb3 K2'.lt;have hz3:=hb3.size;simp only[World.size_alloc] at hz3;have g4:=g3.trans (hb3.mono (by simp;omega));have X3:=K3.cell;have F3:=K3.free;have X8:=K8.cell;clear hb3 X2 F2 K7 K2';go_wp2;exact bodyPost_ret (v:=.tuple #[(⟨k,f,tt,s,nm,d⟩:OpR).val,.int .i64 ((n:Int)+4+m),.bool true]) (by simp [results,Tryz.results14,go_sem,X3]) rfl ⟨HR3.out.symm,zu⟩
    ·have HR3:Hid (qf (yh l n)= .returned (.tuple #[opZ.val,.int .i64 0,.bool false])):=by
      show _=_;rw[HR2.out,if_neg hsum];rfl
     have hd:decide (uu T≠(l.drop n).take (4+m))=true:=by
      have:=fun h=>hsum (HTT.out.1 h);simpa using this
     clear hsum HTT HR2;go_wp2_with fail;refine wp_region_quiet_below kr kr ?_;repeat(go_big_quiet_step ((go_at_call 50;exact Calls.regrown_of (cR _))))
     refine wpQuiet_nil ?_;intro w3 hw2;have hb3:Below _ _ w3:=zh hw2;clear hw2;have K3:=K2'.below hb3 K2'.lt;have hz3:=hb3.size;simp only[World.size_alloc] at hz3;have g4:=g3.trans (hb3.mono (by simp;omega));have X3:=K3.cell;have F3:=K3.free;clear hb3 X2 F2 K7 K2';go_wp2;exact bodyPost_ret (v:=.tuple #[opZ.val,.int .i64 0,.bool false]) (by simp [results,Tryz.results14,go_sem,opZ,X3]) rfl ⟨HR3.out.symm,zu⟩
   ·have HR2:Hid (qf (yh l n)= .returned (.tuple #[opZ.val,.int .i64 0,.bool false])):=by
     show _=_;rw[HRT.out,hk];rfl
    rw[hk];clear hk HRT;have X2:=(K2.alloc (.cells opZ.cells 26)).cell;have F2:=(K2.alloc (.cells opZ.cells 26)).free;simp only[OpR.cells] at X2 F2;go_wp2_with fail;go_quiet(fail);go_wp2;simp only[opZ] at X2;exact bodyPost_ret (v:=.tuple #[opZ.val,.int .i64 0,.bool false]) (by simp [results,Tryz.results14,go_sem,opZ,X2]) rfl ⟨HR2.out.symm,zu⟩
  ·have hfi:(l.length:Int) - n - 4<m:=oo
   have HR:Hid (qf (yh l n)= .returned (.tuple #[opZ.val,.int .i64 0,.bool false])):=by
    show _=_;rw[hR,if_neg (fun h=>hfit (by have:=h.2.2;omega))];rfl
   clear hR htest hlen;go_enter Tryz.func14,Tryz.ntmps14;go_wp2_with fail;have K0:=Bk.new w opZ.cells 26;refine(cP _).mono ?_;rintro e w1 ⟨rfl,hb1⟩;have K1:=K0.below hb1 K0.lt;have hz1:=hb1.size;simp only[World.size_alloc] at hz1;have g1:Below w.heap.size w w1:=((Below.refl _ _).alloc (Nat.le_refl _) _).trans (hb1.mono (by simp));have X1:=K1.cell;have F1:=K1.free;go_wp2;exact bodyPost_ret (v:=.tuple #[opZ.val,.int .i64 0,.bool false]) (by simp [results,Tryz.results14,go_sem,opZ,X1]) rfl ⟨HR.out.symm,zu⟩
 ·have HR:Hid (qf (yh l a)= .returned (.tuple #[opZ.val,.int .i64 0,.bool false])):=by
   show _=_;unfold yh;rw[if_neg (fun h=>hg ⟨h.1,h.2.1⟩)];rfl
  by_cases h1:a<0
  ·go_enter Tryz.func14,Tryz.ntmps14
   go_wp2;exact bodyPost_ret (v:=.tuple #[opZ.val,.int .i64 0,.bool false]) (by simp [results,Tryz.results14,go_sem,opZ]) rfl ⟨HR.out.symm,zu⟩
  ·have h2:¬a+4≤l.length:=fun h=>hg ⟨by omega,h⟩
   by_cases h3:(l.length:Int)<a
   ·go_enter Tryz.func14,Tryz.ntmps14
    go_wp2;exact bodyPost_ret (v:=.tuple #[opZ.val,.int .i64 0,.bool false]) (by simp [results,Tryz.results14,go_sem,opZ]) rfl ⟨HR.out.symm,zu⟩
   ·have h4:(l.length:Int) - a<4:=oo
    go_enter Tryz.func14,Tryz.ntmps14;go_wp2;exact bodyPost_ret (v:=.tuple #[opZ.val,.int .i64 0,.bool false]) (by simp [results,Tryz.results14,go_sem,opZ]) rfl ⟨HR.out.symm,zu⟩
theorem Z4 (l:Bs)(a:Int)(mx:Int)(w:World)(B:Nat)(hB:B≤w.heap.size)(hT:uD B w)(hE:wV w)(hmx:w.cell? ⟨0,0,none⟩=some (.int .i64 mx))(hs:l.length≤1500000)(ha0: -9223372036854775808≤a)(ha1:a≤9223372036854775807):
 Calls Tryz.prog 13 #[.string ⟨l.toArray⟩,.int .i64 a] w fun e w'=>e=qf (yh l a)∧Below w.heap.size w w':=by
 have HT:=Go.Lib.hid hT;have h00:=lt_of_cell hmx;clear hT;by_cases hg:0≤a∧a+4≤l.length
 ·obtain⟨n,rfl⟩:=Int.eq_ofNat_of_zero_le hg.1
  have hn4:n+4≤l.length:=oo;have hi1:¬(n:Int)<0:=oo;have hi2:(n:Int)≤(l.length:Int) - 4:=oo;have hnb:=xA l n;have cP:=fun w=>fB l n w oo oo;have hR:yh l n=if 0≤(n:Int)∧(n:Int)+4≤l.length∧(n:Int)+4+numAt l n≤l.length then
   match yB (qR l n) with
   |some x=>if sumOf (qR l n)=numAt l ((n:Int)+2+numAt l n) then some (x,(n:Int)+4+numAt l n) else none
   |none=>none else none:=rfl
  have hlen:=gG l n;have hrec:qR l n=(l.drop (n+2)).take (numAt l n).toNat:=rfl;obtain⟨m,hm⟩:=Int.eq_ofNat_of_zero_le hnb.1;rw[hm] at hR hlen hrec cP hnb;simp only[Int.toNat_natCast] at hlen hrec;have hm2:m≤65535:=oo;clear hg hm hnb;have hx2:(⟨l.toArray⟩:ByteArray).extract (n+2) (n+2+m)=⟨(qR l n).toArray⟩:=by
   rw[ByteArray.extract_mk,hrec];simp
  clear hrec;by_cases hfit:n+4+m≤l.length
  ·have hfi:¬(l.length:Int) - 2<(n:Int)+2+m:=oo
   replace hlen:=hlen hfit;rw[if_pos ⟨by omega,by omega,by omega⟩] at hR;generalize qR l n=T at*;have HRT:=Go.Lib.hid hR;clear hR;have cO:=fun w hB hT hE hm=>VT T mx w B hB hT hE hm oo;unfold mV at cO;have cQ:=fun w=>fB l (n+2+m) w oo oo;have ec:((n+2+m:Nat):Int)=(n:Int)+2+m:=oo;rw[ec] at cQ;have hsb:=uH T;go_enter Tryz.func13,Tryz.ntmps13;go_wp2_with fail;have K0:=Bk.new w opZ.cells 26;refine(cP _).mono ?_;rintro e w1 ⟨rfl,hb1⟩;have K1:=K0.below hb1 K0.lt;have hz1:=hb1.size;simp only[World.size_alloc] at hz1;have g1:Below w.heap.size w w1:=((Below.refl _ _).alloc (Nat.le_refl _) _).trans (hb1.mono (by simp));clear hb1 K0;go_wp2_with fail;refine(cO w1 oo (Lib.TabBelow.on HT.out (g1.mono hB)) (hE.on g1) ((g1.cell (p:=⟨0,0,none⟩) h00).trans hmx)).mono ?_;rintro e w2 ⟨rfl,hb2⟩;have K2:=K1.below hb2 K1.lt;have hz2:=hb2.size;have g2:=g1.trans (hb2.mono oo);clear hb2 K1 g1 cO cP;have hkk:(yB T).isSome=true∨yB T=none:=(by cases yB T<;>simp);rcases hkk with hk|hk
   ·obtain⟨x,hx⟩:=Option.isSome_iff_exists.1 hk
    have HR2:Hid (yh l n=if sumOf T=numAt l ((n:Int)+2+m) then some (x,(n:Int)+4+m) else none):=by
     show _=_;rw[HRT.out,hx]
    have e1:(yB T).getD opZ=x:=(by rw[hx];rfl);rw[e1,hk];clear hk hx e1 HRT;obtain⟨k,f,tt,s,nm,d⟩:=x;have X2:=(K2.alloc (.cells (⟨k,f,tt,s,nm,d⟩:OpR).cells 26)).cell;have F2:=(K2.alloc (.cells (⟨k,f,tt,s,nm,d⟩:OpR).cells 26)).free;simp only[OpR.cells] at X2 F2;have g3:Below w.heap.size w (w2.alloc (.cells (⟨k,f,tt,s,nm,d⟩:OpR).cells 26)):=zu;have K7:=Bk.new w2 (⟨k,f,tt,s,nm,d⟩:OpR).cells 26;have K2':=K2.alloc (.cells (⟨k,f,tt,s,nm,d⟩:OpR).cells 26);by_cases hsum:sumOf T=numAt l ((n:Int)+2+m)
    ·have HR3:Hid (qf (yh l n)= .returned (.tuple #[(⟨k,f,tt,s,nm,d⟩:OpR).val,.int .i64 ((n:Int)+4+m),.bool true])):=by
      show _=_;rw[HR2.out,if_pos hsum];rfl
     have hd:(sumOf T != numAt l ((n:Int)+2+m))=false:=(by simpa using hsum);clear hsum HR2;go_wp2_with fail;refine(qE T _ oo).mono ?_;rintro e w3 ⟨rfl,rfl⟩;go_wp2_with fail;refine(cQ _).mono ?_;rintro e w3 ⟨rfl,hb3⟩;have K8:=K7.below hb3 K7.lt;have K3:=K2'.below hb3 K2'.lt;have hz3:=hb3.size;simp only[World.size_alloc] at hz3;have g4:=g3.trans (hb3.mono (by simp;omega));have X3:=K3.cell;have F3:=K3.free;have X8:=K8.cell;clear hb3 X2 F2 K7 K2';go_wp2;exact bodyPost_ret (v:=.tuple #[(⟨k,f,tt,s,nm,d⟩:OpR).val,.int .i64 ((n:Int)+4+m),.bool true]) (by simp [results,Tryz.results13,go_sem,X3]<;>omega) rfl ⟨HR3.out.symm,zu⟩
    ·have HR3:Hid (qf (yh l n)= .returned (.tuple #[opZ.val,.int .i64 0,.bool false])):=by
      show _=_;rw[HR2.out,if_neg hsum];rfl
     have hd:(sumOf T != numAt l ((n:Int)+2+m))=true:=(by simpa using hsum);clear hsum HR2;go_wp2_with fail;refine(qE T _ oo).mono ?_;rintro e w3 ⟨rfl,rfl⟩;go_wp2_with fail;refine(cQ _).mono ?_;rintro e w3 ⟨rfl,hb3⟩;have K3:=K2'.below hb3 K2'.lt;have hz3:=hb3.size;simp only[World.size_alloc] at hz3;have g4:=g3.trans (hb3.mono (by simp;omega));have X3:=K3.cell;have F3:=K3.free;clear hb3 X2 F2 K7 K2';go_wp2;exact bodyPost_ret (v:=.tuple #[opZ.val,.int .i64 0,.bool false]) (by simp [results,Tryz.results13,go_sem,opZ,X3]) rfl ⟨HR3.out.symm,zu⟩
   ·have HR2:Hid (qf (yh l n)= .returned (.tuple #[opZ.val,.int .i64 0,.bool false])):=by
     show _=_;rw[HRT.out,hk];rfl
    rw[hk];clear hk HRT;have X2:=(K2.alloc (.cells opZ.cells 26)).cell;have F2:=(K2.alloc (.cells opZ.cells 26)).free;simp only[OpR.cells] at X2 F2;go_wp2;simp only[opZ] at X2;exact bodyPost_ret (v:=.tuple #[opZ.val,.int .i64 0,.bool false]) (by simp [results,Tryz.results13,go_sem,opZ,X2]) rfl ⟨HR2.out.symm,zu⟩
  ·have hfi:(l.length:Int) - 2<(n:Int)+2+m:=oo
   have HR:Hid (qf (yh l n)= .returned (.tuple #[opZ.val,.int .i64 0,.bool false])):=by
    show _=_;rw[hR,if_neg (fun h=>hfit (by have:=h.2.2;omega))];rfl
   clear hR hlen;go_enter Tryz.func13,Tryz.ntmps13;go_wp2_with fail;have K0:=Bk.new w opZ.cells 26;refine(cP _).mono ?_;rintro e w1 ⟨rfl,hb1⟩;have K1:=K0.below hb1 K0.lt;have hz1:=hb1.size;simp only[World.size_alloc] at hz1;have g1:Below w.heap.size w w1:=((Below.refl _ _).alloc (Nat.le_refl _) _).trans (hb1.mono (by simp));have X1:=K1.cell;have F1:=K1.free;go_wp2;exact bodyPost_ret (v:=.tuple #[opZ.val,.int .i64 0,.bool false]) (by simp [results,Tryz.results13,go_sem,opZ,X1]) rfl ⟨HR.out.symm,zu⟩
 ·have HR:Hid (qf (yh l a)= .returned (.tuple #[opZ.val,.int .i64 0,.bool false])):=by
   show _=_;unfold yh;rw[if_neg (fun h=>hg ⟨h.1,h.2.1⟩)];rfl
  by_cases h1:a<0
  ·go_enter Tryz.func13,Tryz.ntmps13
   go_wp2;exact bodyPost_ret (v:=.tuple #[opZ.val,.int .i64 0,.bool false]) (by simp [results,Tryz.results13,go_sem,opZ]) rfl ⟨HR.out.symm,zu⟩
  ·have h2:(l.length:Int) - 4<a:=by
    have:=fun h=>hg ⟨by omega,h⟩;omega
   go_enter Tryz.func13,Tryz.ntmps13;go_wp2;exact bodyPost_ret (v:=.tuple #[opZ.val,.int .i64 0,.bool false]) (by simp [results,Tryz.results13,go_sem,opZ]) rfl ⟨HR.out.symm,zu⟩
end Go.Proofs.YtfppmajoidkooaaGreatDoor
