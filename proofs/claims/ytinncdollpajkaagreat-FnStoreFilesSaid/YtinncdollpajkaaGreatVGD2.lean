import Derived.Test.YtinncdollpajkaaGreatVGD1
import Derived.Test.YtinncdollpajkaaGreatVGS4
import Derived.Test.YtinncdollpajkaaGreatVGP1
import Derived.Test.YtinncdollpajkaaGreatVGW
import Derived.Test.YtinncdollpajkaaGreatVGT
import Derived.Test.YtinncdollpajkaaGreatVGP2
import Derived.Test.YtinncdollpajkaaGreatVGA
import Derived.Test.YtinncdollpajkaaGreatVGB
set_option linter.unusedVariables false
set_option linter.unusedSimpArgs false
set_option maxHeartbeats 8000000
namespace Go.Proofs.YtinncdollpajkaaGreat
open Go.RowKit
set_option maxRecDepth 100000
attribute [local go_sem high] zA zu zy zO zK zX zx zk zn zq zi zo yQ zC yf zD
theorem XV (p : Bs) (n : Nat) : (ByteArray.mk p.toArray).extract n p.length = ⟨(p.drop n).toArray⟩ := by
 apply ByteArray.ext
 simp [ByteArray.data_extract]
 rw [List.take_of_length_le (by simp)]
theorem Ve (r M : Nat) (so sl sm : Int) (d : Bs) (w : World) (hR : Rd w r M) (hM : M ≤ 40000000) (hd : d.length ≤ 1000) (hst : xH so sl sm) :
  Calls Tryz.prog 159 #[.pointer (some ⟨r, 0, none⟩), .agg #[.int .i64 so, .int .i64 sl, .int .i64 sm], sv d] w fun e w' => (∃ x : Bs, e = .returned (sv x) ∧ x.length ≤ d.length + 20) ∧ Rd w' r (M + 66) ∧ zl w.heap.size r w w' := by
 have hr := hR.lt
 have K0_0 := Bk.new w #[.int .i64 so, .int .i64 sl, .int .i64 sm] 24
 have R0 := hR.alloc (.cells #[.int .i64 so, .int .i64 sl, .int .i64 sm] 24)
 have g0 : zl w.heap.size r w (w.alloc (.cells #[.int .i64 so, .int .i64 sl, .int .i64 sm] 24)) := yK zH r
 go_enter Tryz.func159, Tryz.ntmps159
 go_wp2_with fail
 refine (pick_any r M 4 _ R0 (by omega) (by omega) (by omega)).mono ?_
 rintro e w1 ⟨⟨v, rfl, hv0, hv1⟩, R1, b1⟩
 have z1 := b1.size
 try simp only [World.size_alloc, World.size_setCell, World.size_drew] at z1
 have K0_1 := K0_0.zN b1 (by first | omega | (simp; done) | (simp; omega)) (by omega)
 have g1 := g0.trans (b1.mono (by first | omega | (simp; done) | (simp; omega)))
 clear b1 g0 K0_0
 have X0 := K0_1.cell
 by_cases hv : v = 0
 ·subst hv
  go_wp2
  go_ret
  exact ⟨⟨[], rfl, by simp⟩, R1.mono (by omega), g1⟩
 have hvb : (v == 0) = false := by rw [beq_eq_false_iff_ne]; exact hv
 by_cases hv2 : v = 1 ∧ 0 < d.length
 ·obtain ⟨hv2, hpos⟩ := hv2
  subst hv2
  have hpos' : (0 : Int) < d.length := by omega
  go_wp2_with fail
  refine (pick_any r _ (d.length : Int) _ R1 (by omega) (by omega) (by omega)).mono ?_
  rintro e w2 ⟨⟨k, rfl, hk0, hk1⟩, R2, b2⟩
  have z2 := b2.size
  try simp only [World.size_alloc, World.size_setCell, World.size_drew] at z2
  have K0_2 := K0_1.zN b2 (by first | omega | (simp; done) | (simp; omega)) (by omega)
  have g2 := g1.trans (b2.mono (by first | omega | (simp; done) | (simp; omega)))
  clear b2 g1 K0_1
  obtain ⟨k, rfl⟩ := Int.eq_ofNat_of_zero_le hk0
  have hkl : k ≤ d.length := by omega
  go_wp2
  go_ret
  exact ⟨⟨d.drop k, by first | rfl | (simp only [XV]; rfl), by simp; omega⟩, R2.mono (by omega), g2⟩
 ·by_cases hv1 : v = 1
  ·subst hv1
   have hpos' : ¬ (0 : Int) < d.length := by
    intro h; exact hv2 ⟨rfl, by omega⟩
   clear hv2
   go_wp2_with fail
   refine (lY r _ 20 so sl sm _ R1 (by omega) (by omega) hst).mono ?_
   rintro e w2 ⟨⟨x, rfl, hx⟩, R2, b2⟩
   have z2 := b2.size
   try simp only [World.size_alloc, World.size_setCell, World.size_drew] at z2
   have K0_2 := K0_1.zN b2 (by first | omega | (simp; done) | (simp; omega)) (by omega)
   have g2 := g1.trans (b2.mono (by first | omega | (simp; done) | (simp; omega)))
   clear b2 g1 K0_1
   go_wp2
   go_ret
   exact ⟨⟨x, rfl, by omega⟩, R2.mono (by omega), g2⟩
  ·have hvb1 : (v == 1) = false := by rw [beq_eq_false_iff_ne]; exact hv1
   clear hv2
   go_wp2_with fail
   refine (lY r _ 20 so sl sm _ R1 (by omega) (by omega) hst).mono ?_
   rintro e w2 ⟨⟨x, rfl, hx⟩, R2, b2⟩
   have z2 := b2.size
   try simp only [World.size_alloc, World.size_setCell, World.size_drew] at z2
   have K0_2 := K0_1.zN b2 (by first | omega | (simp; done) | (simp; omega)) (by omega)
   have g2 := g1.trans (b2.mono (by first | omega | (simp; done) | (simp; omega)))
   clear b2 g1 K0_1
   go_wp2
   go_ret
   exact ⟨⟨x, rfl, by omega⟩, R2.mono (by omega), g2⟩
theorem Wn (r M : Nat) (w : World) (hR : Rd w r M) (hM : M ≤ 30000000) :
  Calls Tryz.prog 124 #[.pointer (some ⟨r, 0, none⟩)] w fun e w' => (∃ (o l m : Int) (x : Bs), e = .returned (.tuple #[.agg #[.int .i64 o, .int .i64 l, .int .i64 m], sv x]) ∧ xH o l m ∧ x.length ≤ 40) ∧ Rd w' r (M + 111) ∧ zl w.heap.size r w w' := by
 have hr := hR.lt
 have K0_0 := Bk.new w #[.int .i64 0, .int .i64 0, .int .i64 0] 24
 have R0 := hR.alloc (.cells #[.int .i64 0, .int .i64 0, .int .i64 0] 24)
 have g0 : zl w.heap.size r w (w.alloc (.cells #[.int .i64 0, .int .i64 0, .int .i64 0] 24)) := yK zH r
 go_enter Tryz.func124, Tryz.ntmps124
 go_wp2_with fail
 refine (WO r M _ R0 (by omega)).mono ?_
 rintro e w1 ⟨⟨o, l, m, rfl, hst⟩, R1, b1⟩
 have z1 := b1.size
 try simp only [World.size_alloc, World.size_setCell, World.size_drew] at z1
 have K0_1 := K0_0.zN b1 (by first | omega | (simp; done) | (simp; omega)) (by omega)
 have g1 := g0.trans (b1.mono (by first | omega | (simp; done) | (simp; omega)))
 clear b1 g0 K0_0
 have K1 := Bk.new w1 #[.int .i64 o, .int .i64 l, .int .i64 m] 24
 have K0 := K0_1.alloc (.cells #[.int .i64 o, .int .i64 l, .int .i64 m] 24)
 have R2 := R1.alloc (.cells #[.int .i64 o, .int .i64 l, .int .i64 m] 24)
 have g2 := g1.alloc (by omega) (.cells #[.int .i64 o, .int .i64 l, .int .i64 m] 24)
 have hX := K1.cell
 have hXF := K1.free
 go_wp2_with fail
 have hz0 : w.heap.size < w1.heap.size := K0_1.lt
 obtain ⟨bb, hbb⟩ : ∃ bb, w1.heap.size = bb := ⟨_, rfl⟩
 rw [hbb] at K1 hX hXF hz0
 have hl1 := K1.lt
 generalize w1.alloc (.cells #[.int .i64 o, .int .i64 l, .int .i64 m] 24) = wa at *
 clear R1 g1 K0_1 hXF
 refine wp_region_held_drew (S := (fun w' => w'.cell? ⟨bb, 0, none⟩ = some (.int .i64 o) ∧ w'.cell? ⟨bb, 1, none⟩ = some (.int .i64 l) ∧ w'.cell? ⟨bb, 2, none⟩ = some (.int .i64 m))) (by kernel_rfl) ?_ (fun hSS => ?_)
 focus ((refine ⟨?_, ?_, ?_⟩; all_goals first | (simp [hX9]; done) | (simp [hX8]; done) | (simp [hX7]; done) | (simp [hX]; done)))
 refine tk 0 ?_
 try simp only [Act.put, u2, u3, u4]
 refine tk 1 ?_
 try simp only [Act.put, u2, u3, u4]
 refine tk 2 ?_
 try simp only [Act.put, u2, u3, u4]
 refine tk 3 ?_
 try simp only [Act.put, u2, u3, u4]
 refine tk 4 ?_
 try simp only [Act.put, u2, u3, u4]
 refine rd1 5 fun KK hKK => ?_
 go_simp
 (go_at_call 128; refine (lY r _ 12 o l m _ R2.drew (by omega) (by omega) hst).mono ?_; rintro e w7 ⟨⟨d1, rfl, hd1⟩, R7, b7⟩; have z7 : wa.heap.size ≤ w7.heap.size := b7.size; have K1_7 := K1.drew.zN b7 hl1 (by omega); have K0_7 := K0.drew.zN b7 (by show _ < wa.heap.size; omega) (by omega); have g7 := g2.drew.trans (b7.mono (by show _ ≤ wa.heap.size; omega)); have hX7 := K1_7.cell)
 refine hKK.out _ _ (by (refine ⟨?_, ?_, ?_⟩; all_goals first | (simp [hX9]; done) | (simp [hX8]; done) | (simp [hX7]; done) | (simp [hX]; done))) fun hSS => ?_
 try simp only [Act.put, u2, u3, u4]
 refine rd1 6 fun KK hKK => ?_
 go_simp
 (go_at_call 159; refine (Ve r _ o l m d1 _ R7 (by omega) (by omega) hst).mono ?_; rintro e w8 ⟨⟨x, rfl, hx⟩, R8, b8⟩; have z8 := b8.size; have K1_8 := K1_7.zN b8 (by omega) (by omega); have K0_8 := K0_7.zN b8 (by omega) (by omega); have g8 := g7.trans (b8.mono (by omega)); have hX8 := K1_8.cell; have hF8 := K0_8.free; have hY8 := K0_8.cell; have hX9 := (((K1_8.far (p := ⟨w.heap.size, 0, none⟩) (by simp; omega) (.int .i64 o)).far (p := ⟨w.heap.size, 1, none⟩) (by simp; omega) (.int .i64 l)).far (p := ⟨w.heap.size, 2, none⟩) (by simp; omega) (.int .i64 m)).cell)
 refine hKK.out _ _ (by (refine ⟨?_, ?_, ?_⟩; all_goals first | (simp [hX9]; done) | (simp [hX8]; done) | (simp [hX7]; done) | (simp [hX]; done))) fun hSS => ?_
 try simp only [Act.put, u2, u3, u4]
 refine rd1 7 fun KK hKK => ?_
 go_simp
 refine hKK.out _ _ (by (refine ⟨?_, ?_, ?_⟩; all_goals first | (simp [hX9]; done) | (simp [hX8]; done) | (simp [hX7]; done) | (simp [hX]; done))) fun hSS => ?_
 try simp only [Act.put, u2, u3, u4]
 refine tk 8 ?_
 try simp only [Act.put, u2, u3, u4]
 refine wpAnyH_done (by kernel_rfl) ?_ _
 simp only [List.getElem_toArray, List.getElem_cons_succ, List.getElem_cons_zero, Act.put, List.setIfInBounds_toArray, List.set_cons_zero, List.set_cons_succ]
 have Q := (((K0_8.set 0 (.int .i64 o)).set 1 (.int .i64 l)).set 2 (.int .i64 m)).cell
 replace R8 := R8.mono (show _ ≤ M + 111 by omega)
 clear hKK hX9 hX8 hX7 hX hY8 hF8
 go_wp2
 have R9 : Rd (((w8.setCell ⟨w.heap.size, 0, none⟩ (.int .i64 o)).setCell ⟨w.heap.size, 1, none⟩ (.int .i64 l)).setCell ⟨w.heap.size, 2, none⟩ (.int .i64 m)) r (M + 111) := Rd.far (Rd.far (Rd.far R8 hr _) hr _) hr _
 have g9 : zl w.heap.size r w (((w8.setCell ⟨w.heap.size, 0, none⟩ (.int .i64 o)).setCell ⟨w.heap.size, 1, none⟩ (.int .i64 l)).setCell ⟨w.heap.size, 2, none⟩ (.int .i64 m)) := zl.setCell (zl.setCell (zl.setCell g8 (.inr (Nat.le_refl _)) _) (.inr (Nat.le_refl _)) _) (.inr (Nat.le_refl _)) _
 exact bodyPost_ret (v := .tuple #[.agg #[.int .i64 o, .int .i64 l, .int .i64 m], sv x]) (by simp [results, Tryz.results124, go_sem, Q]) rfl ⟨⟨o, l, m, x, rfl, hst, by omega⟩, R9, g9⟩
end Go.Proofs.YtinncdollpajkaaGreat
namespace Go.Proofs.YtinncdollpajkaaGreat
open Go.RowKit
set_option maxRecDepth 100000
def Blk.dat (K : Kn) (b : Blk) : Option Bs :=
 if b.raw = true then some b.body else
 if (uj K b.body).2.1 ≠ 0 ∨ (uj K b.body).2.2 ≠ b.body.length ∨ ((uj K b.body).1.length : Int) ≠ b.size then none else some (uj K b.body).1
def yZ (o : Option Bs) : Ending := .returned (.tuple #[sv (o.getD []), .bool o.isSome])
end Go.Proofs.YtinncdollpajkaaGreat
namespace Go.Proofs.YtinncdollpajkaaGreat
open Go.RowKit
set_option maxRecDepth 100000
attribute [local go_sem high] zA zu zy zO zK zX zx zk zn zq zi zo yQ zC yf zD
section
variable {B : Nat}
end
def Apart (v v' : Value) : Prop := ∀ k, v.ownBlock = some k → v'.ownBlock = some k → False
theorem Apart.symm {v v' : Value} (h : Apart v v') : Apart v' v := fun k h1 h2 => h k h2 h1
theorem jl (p : Bs) (n : Nat) : (ByteArray.mk p.toArray).extract n p.length = ⟨(p.drop n).toArray⟩ := by
 rw [ByteArray.extract_mk]
 simp
 rw [List.take_of_length_le (by simp)]
theorem SY (r M : Nat) (l : Bs) (w : World) (hR : Rd w r M) (hM : M ≤ 30000000) (hl : l.length ≤ 100000) :
  Calls Tryz.prog 101 #[.pointer (some ⟨r, 0, none⟩), sv l] w fun e w' => (∃ x : Bs, e = .returned (sv x) ∧ x.length ≤ 2 * l.length + 10) ∧ Rd w' r (M + 10) ∧ zl w.heap.size r w w' := by
 have hr := hR.lt
 have R0 := hR
 have g0 := zl.refl w.heap.size r w
 go_enter Tryz.func101, Tryz.ntmps101
 go_wp2_with fail
 refine (pick_any r M (l.length + 1) _ R0 (by omega) (by omega) (by omega)).mono ?_
 rintro e w1 ⟨⟨v, rfl, hv0, hv1⟩, R1, b1⟩
 have z1 := b1.size
 try simp only [World.size_alloc, World.size_setCell, World.size_drew] at z1
 have g1 := g0.trans (b1.mono (by first | omega | (simp; done) | (simp; omega)))
 clear b1 g0
 obtain ⟨n, rfl⟩ := Int.eq_ofNat_of_zero_le hv0
 have hn : n ≤ l.length := by omega
 have hni : (n : Int) ≤ l.length := by omega
 clear hv0 hv1
 go_wp2_with fail
 refine (pick_any r _ 24 _ R1 (by omega) (by omega) (by omega)).mono ?_
 rintro e w2 ⟨⟨k, rfl, hk0, hk1⟩, R2, b2⟩
 have z2 := b2.size
 try simp only [World.size_alloc, World.size_setCell, World.size_drew] at z2
 have g2 := g1.trans (b2.mono (by first | omega | (simp; done) | (simp; omega)))
 clear b2 g1
 by_cases h0 : k = 0
 ·subst h0
  go_wp2
  go_ret
  exact ⟨⟨l.take n, (by simp [sv]), by simp; omega⟩, R2.mono (by omega), g2⟩
 have hkb : (k == 0) = false := by rw [beq_eq_false_iff_ne]; exact h0
 by_cases h1 : k = 1
 ·subst h1
  have hext := jl l n
  have ht1 : (l.take n).length ≤ 100000 := by simp; omega
  have ht2 : (l.drop n).length ≤ 100000 := by simp; omega
  go_wp2_with fail
  go_region_with (go_at_call 129; refine (gZ r _ 2 _ (Rd.drew R2) (by omega) (by omega)).mono ?_; rintro e w3 ⟨⟨d, rfl, hd⟩, R3, b3⟩; have z3 := b3.size; simp only [World.size_drew] at z3; have g3 := (zl.drew g2).trans (b3.mono (by simp; omega)); have hq : ¬ 9223372036854775807 < (l.take n).length + d.length := (by omega); have hq2 : ¬ 9223372036854775807 < (l.take n).length + d.length + (l.drop n).length := (by omega))
  all_goals
   go_wp2
   go_ret
   exact ⟨⟨l.take n ++ (d ++ l.drop n), rfl, by simp; omega⟩, R3.mono (by omega), g3⟩
 have hkb1 : (k == 1) = false := by rw [beq_eq_false_iff_ne]; exact h1
 by_cases h2 : k = 2
 ·subst h2
  by_cases hlt : n < l.length
  ·have hlti : (n : Int) < l.length := by omega
   have ht1 : (l.take n).length ≤ 100000 := by simp; omega
   have ht2 : (l.drop (n + 1)).length ≤ 100000 := by simp; omega
   have hw2 : ((n : Int) + 1).toNat = n + 1 := by omega
   have hext := jl l (n + 1)
   have hs1 : ¬ 9223372036854775807 < n + 1 := by omega
   have hs2 : ¬ 9223372036854775807 < n + 1 + (l.length - (n + 1)) := by omega
   have hw1 : IntKind.i64.wrap ((n : Int) + 1) = (n : Int) + 1 := IntWalk.i64_in _ (by omega)
   go_wp2_with fail
   go_region_with (go_at_call 65; refine (pick_any r _ 8 _ (Rd.drew R2) (by omega) (by omega) (by omega)).mono ?_; rintro e w3 ⟨⟨v, rfl, hv0, hv1⟩, R3, b3⟩; have z3 := b3.size; simp only [World.size_drew] at z3; have g3 := (zl.drew g2).trans (b3.mono (by simp; omega)))
   all_goals
    go_wp2
    go_ret
    refine ⟨⟨_, rfl, ?_⟩, (R3.alloc _).mono (by omega), g3.alloc (by omega) _⟩
    simp; omega
  ·have hlti : ¬ (n : Int) < l.length := by omega
   go_wp2
   go_ret
   exact ⟨⟨l, rfl, by omega⟩, R2.mono (by omega), g2⟩
 have hkb2 : (k == 2) = false := by rw [beq_eq_false_iff_ne]; exact h2
 by_cases h3 : k = 3
 ·subst h3
  have hq : ¬ 9223372036854775807 < l.length + l.length := by omega
  go_wp2
  go_ret
  exact ⟨⟨l ++ l, (by simp [sv]), by simp; omega⟩, R2.mono (by omega), g2⟩
 have hkb3 : (k == 3) = false := by rw [beq_eq_false_iff_ne]; exact h3
 go_wp2
 go_ret
 exact ⟨⟨l, rfl, by omega⟩, R2.mono (by omega), g2⟩
end Go.Proofs.YtinncdollpajkaaGreat
namespace Go.Proofs.YtinncdollpajkaaGreat
open Go.RowKit
def wX (K : Kn) (n : Int) (d : Bs) : Blk := match uH K d with
 | some s => if s.length < d.length then ⟨n, false, d.length, s⟩ else ⟨n, true, d.length, d⟩
 | none => ⟨n, true, d.length, d⟩
theorem OJ (o l m : Int) (dict : Bs) (n : Int) (d : Bs) : oW o l m dict n d = wX (zI o l m dict) n d := rfl
theorem ZO {K : Kn} {n : Int} {d s : Bs} (h : uH K d = some s) : wX K n d = if s.length < d.length then ⟨n, false, d.length, s⟩ else ⟨n, true, d.length, d⟩ := by unfold wX; rw [h]
theorem ZP {K : Kn} {n : Int} {d : Bs} (h : uH K d = none) : wX K n d = ⟨n, true, d.length, d⟩ := by unfold wX; rw [h]
theorem iD (K : Kn) (n : Int) (d : Bs) : (wX K n d).size = d.length := by
 unfold wX
 split
 ·split <;> rfl
 ·rfl
theorem Xp (K : Kn) (n : Int) (d : Bs) (k : Int) : ({ wX K n d with num := k } : Blk) = wX K k d := by
 unfold wX
 split
 ·split <;> rfl
 ·rfl
theorem RG (K : Kn) (c : Int) (r : List Int) (hw : 1 ≤ K.width) : 1 ≤ (K.bits (c :: r)).length := by
 unfold Kn.bits
 rw [nX, List.zip_cons_cons, List.flatMap_cons, List.length_append, xg]
 simp only
 omega
theorem RX {K : Kn} (hk : K.ok) (d : Bs) : 1 ≤ (K.comp d).length := by
 unfold Kn.comp
 rw [ja]
 have h : 1 ≤ (K.bits (K.yT d)).length := by unfold Kn.yT; exact RG K _ _ (jf hk).1
 omega
theorem Ym {K : Kn} (hk : K.ok) {n : Int} (h0 : 0 ≤ n) (h1 : n < 40) {d : Bs} (hd0 : 1 ≤ d.length) (hd1 : d.length ≤ 64) : (wX K n d).ok = true := by
  have hr : (⟨n, true, (d.length : Int), d⟩ : Blk).ok = true := by rw [Blk.ng]; simp; omega
  cases hc : uH K d with
  | none => rw [ZP hc]; exact hr
  | some s =>
    rw [ZO hc]
    split
    · rename_i hs
      have hp : 1 ≤ s.length := by
        unfold uH at hc
        split at hc
        · injection hc with hc; rw [← hc]; exact RX hk d
        · cases hc
      rw [Blk.ng]; simp; omega
    · exact hr
def chunks (size : Nat) : Nat → Bs → List Bs
 | 0, _ => []
 | n + 1, d => if d = [] then [] else d.take size :: chunks size n (d.drop size)
theorem rC (size n : Nat) : chunks size n [] = [] := by
 cases n with
 | zero => rfl
 | succ n => unfold chunks; rw [if_pos rfl]
theorem mD (size n : Nat) {d : Bs} (h : d ≠ []) : chunks size (n + 1) d = d.take size :: chunks size n (d.drop size) := by rw [chunks, if_neg h]
theorem qP (size : Nat) (hs : 1 ≤ size) : ∀ (n : Nat) (d : Bs), ∀ x ∈ chunks size n d, 1 ≤ x.length ∧ x.length ≤ size
  | 0, d, x, h => by cases h
  | n + 1, d, x, h => by
    by_cases hd : d = []
    · rw [hd, rC] at h; cases h
    · have hp := List.length_pos_iff.2 hd
      rw [mD _ _ hd] at h
      rcases List.mem_cons.1 h with rfl | h
      · rw [List.length_take]; omega
      · exact qP size hs n _ x h
theorem rY (size : Nat) (hs : 1 ≤ size) : ∀ (k n : Nat) (d : Bs), d.length ≤ k * size → (chunks size n d).length ≤ k
  | 0, n, d, h => by
    have : d = [] := List.eq_nil_of_length_eq_zero (by omega)
    rw [this, rC]; simp
  | k + 1, 0, d, h => by simp [chunks]
  | k + 1, n + 1, d, h => by
    by_cases hd : d = []
    · rw [hd, rC]; simp
    · rw [mD _ _ hd, List.length_cons]
      have := rY size hs k n (d.drop size) (by rw [List.length_drop]; rw [Nat.add_mul] at h; omega)
      omega
theorem pX (size : Nat) (hs : 1 ≤ size) : ∀ (n : Nat) (d : Bs), d.length ≤ n → ((chunks size n d).flatten = d)
  | 0, d, h => by
    have : d = [] := List.eq_nil_of_length_eq_zero (by omega)
    rw [this]; rfl
  | n + 1, d, h => by
    by_cases hd : d = []
    · rw [hd, rC]; rfl
    · have hp := List.length_pos_iff.2 hd
      rw [mD _ _ hd, List.flatten_cons, pX size hs n _ (by rw [List.length_drop]; omega), List.take_append_drop]
def mks (K : Kn) (size n : Nat) (d : Bs) : List Blk := (chunks size n d).map (wX K 0)
theorem Ui (K : Kn) (size n : Nat) : mks K size n [] = [] := by unfold mks; rw [rC]; rfl
theorem QK (K : Kn) (size n : Nat) {d : Bs} (h : d ≠ []) : mks K size (n + 1) d = wX K 0 (d.take size) :: mks K size n (d.drop size) := by unfold mks; rw [mD _ _ h]; rfl
theorem Yb {K : Kn} (hk : K.ok) (size n : Nat) (hs : 1 ≤ size) (hs2 : size ≤ 64) (d : Bs) : ∀ b ∈ mks K size n d, b.ok = true := by
 intro b hb
 unfold mks at hb
 obtain ⟨x, hx, rfl⟩ := List.mem_map.1 hb
 have h := qP size hs n d x hx
 exact Ym hk (by omega) (by omega) h.1 (by omega)
theorem Rh (K : Kn) (ls : List Bs) : zt (ls.map (wX K 0)) = (ls.flatten.length : Int) := by
 induction ls with
 | nil => rfl
 | cons x ls ih => rw [List.map_cons, tN, ih, iD, List.flatten_cons, List.length_append]; omega
theorem Tc (K : Kn) (size n : Nat) (hs : 1 ≤ size) (d : Bs) (h : d.length ≤ n) : zt (mks K size n d) = (d.length : Int) := by
 unfold mks; rw [Rh, pX size hs n d h]
def vV : Nat → List Blk → List Blk
 | _, [] => []
 | f, b :: bs => { b with num := (f : Int) } :: vV (f + 1) bs
theorem gJ (f : Nat) (bs : List Blk) : (vV f bs).length = bs.length := by
 induction bs generalizing f with
 | nil => rfl
 | cons b bs ih => simp [vV, ih]
theorem SN (f : Nat) (bs : List Blk) (b : Blk) : vV f (bs ++ [b]) = vV f bs ++ [{ b with num := ((f + bs.length : Nat) : Int) }] := by
 induction bs generalizing f with
 | nil => simp [vV]
 | cons c bs ih => rw [List.cons_append, vV, ih, vV, List.cons_append, List.length_cons]; congr 4; omega
theorem ah (f : Nat) (bs : List Blk) : zt (vV f bs) = zt bs := by
 induction bs generalizing f with
 | nil => rfl
 | cons b bs ih => rw [vV, tN, tN, ih]
theorem Rw {b : Blk} (h : b.ok = true) {n : Int} (h0 : 0 ≤ n) (h1 : n < 40) : ({ b with num := n } : Blk).ok = true := by
 rw [Blk.ng] at *
 obtain ⟨x, r, s, t⟩ := b
 simp only at *
 exact ⟨h0, h1, h.2.2⟩
theorem XH (o l m : Int) (dict : Bs) (size : Nat) : ∀ (n f : Nat) (d : Bs), Za o l m dict size n f d = wV (vV f (mks (zI o l m dict) size n d))
  | 0, f, d => rfl
  | n + 1, f, d => by
    by_cases hd : d = []
    · rw [hd, jM, Ui]; rfl
    · rw [Us _ _ _ _ _ _ _ _ hd, QK _ _ _ hd, vV, qX, Xp, XH o l m dict size n (f + 1), OJ]
def mcO (bs : List Blk) : Option Bs := if bs.length ≤ 40 ∧ zt bs ≤ 2000 then some (wV (vV 0 bs)) else none
end Go.Proofs.YtinncdollpajkaaGreat
