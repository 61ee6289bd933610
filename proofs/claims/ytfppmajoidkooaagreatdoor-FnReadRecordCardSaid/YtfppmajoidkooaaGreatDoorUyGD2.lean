import Derived.Test.YtfppmajoidkooaaGreatDoorUyGD1
import Derived.Test.YtfppmajoidkooaaGreatDoorUGS4
import Derived.Test.YtfppmajoidkooaaGreatDoorUGP1
import Derived.Test.YtfppmajoidkooaaGreatDoorUGW
set_option maxHeartbeats 8000000
namespace Go.Proofs.YtfppmajoidkooaaGreatDoor
open Go.RowKit
set_option linter.unusedSimpArgs false
set_option linter.unusedVariables false
set_option maxRecDepth 100000
attribute [local go_sem high] zy zA zB zO zK zY zx zk zl zq zi zo yP zD yt zF
theorem sv_ext_from (p:Bs)(n:Nat):(ByteArray.mk p.toArray).extract n p.length=⟨(p.drop n).toArray⟩:=by
 apply ByteArray.ext;simp [ByteArray.data_extract];rw[List.take_of_length_le (by simp)]
theorem l4Dict_any (r M:Nat)(so sl sm:Int)(d:Bs)(w:World)(hR:Rd w r M)(hM:M≤40000000)(hd:d.length≤1000)(hst:vW so sl sm):
 Calls Tryz.prog 123 #[.pointer (some ⟨r,0,none⟩),.agg #[.int .i64 so,.int .i64 sl,.int .i64 sm],sv d] w fun e w'=>(∃x:Bs,e= .returned (sv x)∧x.length≤d.length+20)∧Rd w' r (M+66)∧BelowR w.heap.size r w w':=by
 have hr:=hR.lt;have K0_0:=Bk.new w #[.int .i64 so,.int .i64 sl,.int .i64 sm] 39;have R0:=hR.alloc (.cells #[.int .i64 so,.int .i64 sl,.int .i64 sm] 39);have g0:BelowR w.heap.size r w (w.alloc (.cells #[.int .i64 so,.int .i64 sl,.int .i64 sm] 39)):=below_toR zu r;go_enter Tryz.func123,Tryz.ntmps123;go_wp2_with fail;refine(pick_any r M 4 _ R0 (by omega) (by omega) (by omega)).mono ?_;rintro e w1 ⟨⟨v,rfl,hv0,hv1⟩,R1,b1⟩;have z1:=b1.size;try simp only[World.size_alloc,World.size_setCell,World.size_drew] at z1
 have K0_1:=K0_0.belowR b1 (by first|omega|(simp;done)|(simp;omega)) (by omega);have g1:=g0.trans (b1.mono (by first|omega|(simp;done)|(simp;omega)));clear b1 g0 K0_0;have X0:=K0_1.cell;by_cases hv:v=0
 ·subst hv
  go_wp2;go_ret;exact⟨⟨[],rfl,by simp⟩,R1.mono (by omega),g1⟩
 have hvb:(v==0)=false:=(by rw[beq_eq_false_iff_ne];exact hv);by_cases hv2:v=1∧0<d.length
 ·obtain⟨hv2,hpos⟩:=hv2
  subst hv2;have hpos':(0:Int)<d.length:=(by omega);go_wp2_with fail;refine(pick_any r _ (d.length:Int) _ R1 (by omega) (by omega) (by omega)).mono ?_;rintro e w2 ⟨⟨k,rfl,hk0,hk1⟩,R2,b2⟩;have z2:=b2.size;try simp only[World.size_alloc,World.size_setCell,World.size_drew] at z2
  have K0_2:=K0_1.belowR b2 (by first|omega|(simp;done)|(simp;omega)) (by omega);have g2:=g1.trans (b2.mono (by first|omega|(simp;done)|(simp;omega)));clear b2 g1 K0_1;obtain⟨k,rfl⟩:=Int.eq_ofNat_of_zero_le hk0;have hkl:k≤d.length:=(by omega);go_wp2;go_ret;exact⟨⟨d.drop k,by first|rfl|(simp only[sv_ext_from];rfl),by simp;omega⟩,R2.mono (by omega),g2⟩
 ·by_cases hv1:v=1
  ·subst hv1
   have hpos':¬(0:Int)<d.length:=by
    intro h;exact hv2 ⟨rfl,by omega⟩
   clear hv2;go_wp2_with fail;refine(l1Data_any r _ 20 so sl sm _ R1 (by omega) (by omega) hst).mono ?_;rintro e w2 ⟨⟨x,rfl,hx⟩,R2,b2⟩;have z2:=b2.size;try simp only[World.size_alloc,World.size_setCell,World.size_drew] at z2
   have K0_2:=K0_1.belowR b2 (by first|omega|(simp;done)|(simp;omega)) (by omega);have g2:=g1.trans (b2.mono (by first|omega|(simp;done)|(simp;omega)));clear b2 g1 K0_1;go_wp2;go_ret;exact⟨⟨x,rfl,by omega⟩,R2.mono (by omega),g2⟩
  ·have hvb1:(v==1)=false:=by rw[beq_eq_false_iff_ne];exact hv1
   clear hv2;go_wp2_with fail;refine(l1Data_any r _ 20 so sl sm _ R1 (by omega) (by omega) hst).mono ?_;rintro e w2 ⟨⟨x,rfl,hx⟩,R2,b2⟩;have z2:=b2.size;try simp only[World.size_alloc,World.size_setCell,World.size_drew] at z2
   have K0_2:=K0_1.belowR b2 (by first|omega|(simp;done)|(simp;omega)) (by omega);have g2:=g1.trans (b2.mono (by first|omega|(simp;done)|(simp;omega)));clear b2 g1 K0_1;go_wp2;go_ret;exact⟨⟨x,rfl,by omega⟩,R2.mono (by omega),g2⟩
theorem l5Setup_any (r M:Nat)(w:World)(hR:Rd w r M)(hM:M≤30000000):
 Calls Tryz.prog 79 #[.pointer (some ⟨r,0,none⟩)] w fun e w'=>(∃(o l m:Int) (x:Bs),e= .returned (.tuple #[.agg #[.int .i64 o,.int .i64 l,.int .i64 m],sv x])∧vW o l m∧x.length≤40)∧Rd w' r (M+111)∧BelowR w.heap.size r w w':=by
 have hr:=hR.lt;have K0_0:=Bk.new w #[.int .i64 0,.int .i64 0,.int .i64 0] 39;have R0:=hR.alloc (.cells #[.int .i64 0,.int .i64 0,.int .i64 0] 39);have g0:BelowR w.heap.size r w (w.alloc (.cells #[.int .i64 0,.int .i64 0,.int .i64 0] 39)):=below_toR zu r;go_enter Tryz.func79,Tryz.ntmps79;go_wp2_with fail;refine(l1Some_any r M _ R0 (by omega)).mono ?_;rintro e w1 ⟨⟨o,l,m,rfl,hst⟩,R1,b1⟩;have z1:=b1.size;try simp only[World.size_alloc,World.size_setCell,World.size_drew] at z1
 have K0_1:=K0_0.belowR b1 (by first|omega|(simp;done)|(simp;omega)) (by omega);have g1:=g0.trans (b1.mono (by first|omega|(simp;done)|(simp;omega)));clear b1 g0 K0_0;have K1:=Bk.new w1 #[.int .i64 o,.int .i64 l,.int .i64 m] 39;have K0:=K0_1.alloc (.cells #[.int .i64 o,.int .i64 l,.int .i64 m] 39);have R2:=R1.alloc (.cells #[.int .i64 o,.int .i64 l,.int .i64 m] 39);have g2:=g1.alloc (by omega) (.cells #[.int .i64 o,.int .i64 l,.int .i64 m] 39);have hX:=K1.cell;have hXF:=K1.free;go_wp2_with fail;have hz0:w.heap.size<w1.heap.size:=K0_1.lt;obtain⟨bb,hbb⟩:∃bb,w1.heap.size=bb:=⟨_,rfl⟩;rw[hbb] at K1 hX hXF hz0;have hl1:=K1.lt;generalize w1.alloc (.cells #[.int .i64 o,.int .i64 l,.int .i64 m] 39)=wa at*;clear R1 g1 K0_1 hXF;refine wp_region_held_drew (S:=(fun w'=>w'.cell? ⟨bb,0,none⟩=some (.int .i64 o)∧w'.cell? ⟨bb,1,none⟩=some (.int .i64 l)∧w'.cell? ⟨bb,2,none⟩=some (.int .i64 m))) (by kernel_rfl) ?_ (fun hSS=> ?_);focus((refine⟨?_,?_,?_⟩;all_goals first|(simp [hX9];done)|(simp [hX8];done)|(simp [hX7];done)|(simp [hX];done)))
 refine tk 0 ?_;try simp only[Act.put,u2,u3,u4]
 refine tk 1 ?_;try simp only[Act.put,u2,u3,u4]
 refine tk 2 ?_;try simp only[Act.put,u2,u3,u4]
 refine tk 3 ?_;try simp only[Act.put,u2,u3,u4]
 refine tk 4 ?_;try simp only[Act.put,u2,u3,u4]
 refine rd1 5 fun KK hKK=> ?_;go_simp
 (go_at_call 124;refine(l1Data_any r _ 12 o l m _ R2.drew (by omega) (by omega) hst).mono ?_;rintro e w7 ⟨⟨d1,rfl,hd1⟩,R7,b7⟩;have z7:wa.heap.size≤w7.heap.size:=b7.size;have K1_7:=K1.drew.belowR b7 hl1 (by omega);have K0_7:=K0.drew.belowR b7 (by show _<wa.heap.size;omega) (by omega);have g7:=g2.drew.trans (b7.mono (by show _≤wa.heap.size;omega));have hX7:=K1_7.cell)
 refine hKK.out _ _ (by(refine⟨?_,?_,?_⟩;all_goals first|(simp [hX9];done)|(simp [hX8];done)|(simp [hX7];done)|(simp [hX];done))) fun hSS=> ?_;try simp only[Act.put,u2,u3,u4]
 refine rd1 6 fun KK hKK=> ?_;go_simp
 (go_at_call 123;refine(l4Dict_any r _ o l m d1 _ R7 (by omega) (by omega) hst).mono ?_;rintro e w8 ⟨⟨x,rfl,hx⟩,R8,b8⟩;have z8:=b8.size;have K1_8:=K1_7.belowR b8 (by omega) (by omega);have K0_8:=K0_7.belowR b8 (by omega) (by omega);have g8:=g7.trans (b8.mono (by omega));have hX8:=K1_8.cell;have hF8:=K0_8.free;have hY8:=K0_8.cell;have hX9:=(((K1_8.far (p:=⟨w.heap.size,0,none⟩) (by simp;omega) (.int .i64 o)).far (p:=⟨w.heap.size,1,none⟩) (by simp;omega) (.int .i64 l)).far (p:=⟨w.heap.size,2,none⟩) (by simp;omega) (.int .i64 m)).cell)
 refine hKK.out _ _ (by(refine⟨?_,?_,?_⟩;all_goals first|(simp [hX9];done)|(simp [hX8];done)|(simp [hX7];done)|(simp [hX];done))) fun hSS=> ?_;try simp only[Act.put,u2,u3,u4]
 refine rd1 7 fun KK hKK=> ?_;go_simp;refine hKK.out _ _ (by(refine⟨?_,?_,?_⟩;all_goals first|(simp [hX9];done)|(simp [hX8];done)|(simp [hX7];done)|(simp [hX];done))) fun hSS=> ?_;try simp only[Act.put,u2,u3,u4]
 refine tk 8 ?_;try simp only[Act.put,u2,u3,u4]
 refine wpAnyH_done (by kernel_rfl) ?_ _;simp only[List.getElem_toArray,List.getElem_cons_succ,List.getElem_cons_zero,Act.put,List.setIfInBounds_toArray,List.set_cons_zero,List.set_cons_succ];have Q:=(((K0_8.set 0 (.int .i64 o)).set 1 (.int .i64 l)).set 2 (.int .i64 m)).cell;replace R8:=R8.mono (show _≤M+111 by omega);clear hKK hX9 hX8 hX7 hX hY8 hF8;go_wp2;have R9:Rd (((w8.setCell ⟨w.heap.size,0,none⟩ (.int .i64 o)).setCell ⟨w.heap.size,1,none⟩ (.int .i64 l)).setCell ⟨w.heap.size,2,none⟩ (.int .i64 m)) r (M+111):=Rd.far (Rd.far (Rd.far R8 hr _) hr _) hr _;have g9:BelowR w.heap.size r w (((w8.setCell ⟨w.heap.size,0,none⟩ (.int .i64 o)).setCell ⟨w.heap.size,1,none⟩ (.int .i64 l)).setCell ⟨w.heap.size,2,none⟩ (.int .i64 m)):=BelowR.setCell (BelowR.setCell (BelowR.setCell g8 (.inr (Nat.le_refl _)) _) (.inr (Nat.le_refl _)) _) (.inr (Nat.le_refl _)) _;exact bodyPost_ret (v:=.tuple #[.agg #[.int .i64 o,.int .i64 l,.int .i64 m],sv x]) (by simp [results,Tryz.results79,go_sem,Q]) rfl ⟨⟨o,l,m,x,rfl,hst,by omega⟩,R9,g9⟩
end Go.Proofs.YtfppmajoidkooaaGreatDoor
namespace Go.Proofs.YtfppmajoidkooaaGreatDoor
open Go.RowKit
set_option linter.unusedSimpArgs false
set_option linter.unusedVariables false
set_option maxRecDepth 100000
attribute [local go_sem high] zy zA zB zO zK zY zx zk zl zq zi zo yP zD yt zF
end Go.Proofs.YtfppmajoidkooaaGreatDoor
namespace Go.Proofs.YtfppmajoidkooaaGreatDoor
open Go.RowKit
set_option linter.unusedSimpArgs false
set_option linter.unusedVariables false
set_option maxRecDepth 100000
attribute [local go_sem high] zy zA zB zO zK zY zx zk zl zq zi zo yP zD yt zF
end Go.Proofs.YtfppmajoidkooaaGreatDoor
