import Derived.Test.YtinncdollpajkaaGreatVGA
import Derived.Test.YtinncdollpajkaaGreatVGZ
set_option linter.unusedVariables false
set_option linter.unusedSimpArgs false
set_option maxHeartbeats 8000000
namespace Go.Proofs.YtinncdollpajkaaGreat
open Go.RowKit
attribute [local go_sem high] zA zu zy zO zK zX zx zk zn zq zi zo yQ zC yf zD
theorem Zh (l : Bs) (w : World) (hs : l.length ≤ 9223372036854775807) :
  Calls Tryz.prog 51 #[.string ⟨l.toArray⟩] w fun e w' => e = .returned (.bool (xZ l)) ∧ w = w' := by
 go_enter Tryz.func51, Tryz.ntmps51
 go_wp2
 ·go_ret
  refine ⟨zS ?_, rfl⟩
  rw [eq_comm, xZ, Bool.and_eq_false_iff]; left; simp; omega
 ·go_loop [14] (fun k => ∃ n : Nat, n ≤ l.length ∧ k = .int .i64 n ∧ (l.take n).all nameB = true) (fun k => l.length - (intOf k).toNat)
  case atStart => exact ⟨0, Nat.zero_le _, rfl, rfl⟩
  case round =>
   obtain ⟨k, hk, rfl, hx⟩ := hrel
   have HX := Go.Lib.hid hx
   clear hx
   by_cases hlt : k < l.length
   ·have HN := Go.Lib.hid (ZG l k hlt)
    have HS := Go.Lib.hid (tq nameB l k hlt)
    have hc1 := zM l k
    have hc2 := yg l k
    by_cases hb : 97 ≤ byteAt l k ∧ byteAt l k ≤ 122
    ·obtain ⟨hb1, hb2⟩ := hb
     go_wp2
     go_round
     case rel => exact ⟨k + 1, by omega, by go_num, by rw [HS.out, HX.out, HN.out]; simp; omega⟩
     case measure => simp [intOf]; omega
    ·by_cases hb1 : byteAt l k < 97
     all_goals
      go_wp2
      go_ret
      refine ⟨zS ?_, rfl⟩
      rw [eq_comm, xZ, Bool.and_eq_false_iff]; right
      exact sJ nameB l k hlt (by rw [HN.out]; simp; omega)
   ·go_wp2
    go_ret
    refine ⟨zS ?_, rfl⟩
    have e : l.take k = l := List.take_of_length_le (by omega)
    have HX2 := HX.out
    rw [e] at HX2
    rw [eq_comm, xZ, HX2]; simp; omega
 ·go_ret
  refine ⟨zS ?_, rfl⟩
  rw [eq_comm, xZ, Bool.and_eq_false_iff]; left; simp; omega
theorem vF (a b c : Int) (w : World) :
  Calls Tryz.prog 73 #[.int .i64 a, .int .i64 b, .int .i64 c] w fun e w' => e = .returned (.bool (decide (b ≤ a ∧ a ≤ c))) ∧ w = w' := by
 go_enter Tryz.func73, Tryz.ntmps73
 by_cases h : b ≤ a
 all_goals
  go_wp2
  all_goals
   go_ret
   exact ⟨zS (by rw [Bool.eq_iff_iff]; simp; omega), rfl⟩
theorem bI (l : Bs) (w : World) (hs : l.length ≤ 9223372036854775807) :
  Calls Tryz.prog 81 #[.string ⟨l.toArray⟩] w fun e w' => e = .returned (.bool (xZ l)) ∧ w = w' := by
 go_enter Tryz.func81, Tryz.ntmps81
 go_wp2
 go_loop [3] (fun k => ∃ n : Nat, n ≤ l.length ∧ k = .int .i64 n ∧ (l.take n).all nameB = true) (fun k => l.length - (intOf k).toNat)
 case atStart => exact ⟨0, Nat.zero_le _, rfl, rfl⟩
 case round =>
  obtain ⟨k, hk, rfl, hx⟩ := hrel
  have HX := Go.Lib.hid hx
  clear hx
  by_cases hlt : k < l.length
  ·have HN := Go.Lib.hid (ZG l k hlt)
   have HS := Go.Lib.hid (tq nameB l k hlt)
   have hc1 := zM l k
   have hc2 := yg l k
   by_cases hb : 97 ≤ byteAt l k ∧ byteAt l k ≤ 122
   ·obtain ⟨hb1, hb2⟩ := hb
    go_wp2
    go_round
    case rel => exact ⟨k + 1, by omega, by go_num, by rw [HS.out, HX.out, HN.out]; simp; omega⟩
    case measure => simp [intOf]; omega
   ·by_cases hb1 : byteAt l k < 97
    all_goals
     go_wp2
     go_ret
     refine ⟨zS ?_, rfl⟩
     rw [eq_comm, xZ, Bool.and_eq_false_iff]; right
     exact sJ nameB l k hlt (by rw [HN.out]; simp; omega)
  ·go_wp2_with (go_at_call 73; refine (vF _ _ _ _).mono ?_; rintro e w' ⟨rfl, rfl⟩)
   go_ret
   refine ⟨zS ?_, rfl⟩
   have e : l.take k = l := List.take_of_length_le (by omega)
   have HX2 := HX.out
   rw [e] at HX2
   rw [eq_comm, xZ, HX2, Bool.eq_iff_iff]; simp; omega
theorem iY (a b c : Int) (w : World) :
  Calls Tryz.prog 85 #[.int .i64 a, .int .i64 b, .int .i64 c] w fun e w' => e = .returned (.bool (decide (0 ≤ a ∧ a ≤ b ∧ b ≤ c))) ∧ w = w' := by
 go_enter Tryz.func85, Tryz.ntmps85
 by_cases h : 0 ≤ b ∧ b ≤ c
 all_goals
  go_wp2_with (go_at_call 73; refine (vF _ _ _ _).mono ?_; rintro e w' ⟨rfl, rfl⟩)
  all_goals
   go_ret
   exact ⟨zS (by rw [Bool.eq_iff_iff]; simp; omega), rfl⟩
theorem iL (n : Int) (w : World) (h0 : 0 ≤ n) (h1 : n ≤ 16) :
  Calls Tryz.prog 194 #[.int .i64 n] w fun e w' => e = .returned (.int .i64 (pow2 n)) ∧ w = w' := by
 go_enter Tryz.func194, Tryz.ntmps194
 go_wp2
 go_ret
 exact ⟨yG (sD n h0 h1), rfl⟩
theorem yu (o l m : Int) (w : World) (h0 : 0 ≤ l) (h1 : l ≤ 16) :
  Calls Tryz.prog 163 #[.agg #[.int .i64 o, .int .i64 l, .int .i64 m]] w fun e w' => e = .returned (.int .i64 (pow2 l)) ∧ Below w.heap.size w w' := by
 go_enter Tryz.func163, Tryz.ntmps163
 go_wp2_with (go_at_call 194; refine (iL _ _ h0 h1).mono ?_; rintro e w' ⟨rfl, rfl⟩)
 go_ret
 exact ⟨rfl, zH⟩
theorem xh (o l m : Int) (w : World) :
  Calls Tryz.prog 83 #[.agg #[.int .i64 o, .int .i64 l, .int .i64 m]] w fun e w' => e = .returned (.bool (decide (xH o l m))) ∧ Below w.heap.size w w' := by
 go_enter Tryz.func83, Tryz.ntmps83
 go_wp2_with (go_in)
 all_goals go_ret
 all_goals refine ⟨zS ?_, (Below.refl _ _).alloc (Nat.le_refl _) _⟩
 all_goals (rw [Bool.eq_iff_iff]; simp only [decide_eq_true_eq]; grind [xH])
theorem uz (o l m : Int) (w : World) :
  Calls Tryz.prog 141 #[.agg #[.int .i64 o, .int .i64 l, .int .i64 m]] w fun e w' => e = .returned (.bool (decide (xH o l m))) ∧ Below w.heap.size w w' := by
 go_enter Tryz.func141, Tryz.ntmps141
 go_wp2_with (first | (go_at_call 73; refine (vF _ _ _ _).mono ?_; rintro e w' ⟨rfl, rfl⟩) | go_in)
 all_goals go_ret
 all_goals refine ⟨zS ?_, (Below.refl _ _).alloc (Nat.le_refl _) _⟩
 all_goals (rw [Bool.eq_iff_iff]; simp only [decide_eq_true_eq]; grind [xH])
theorem pO (o l m : Int) (d : Bs) (w : World) (hs : d.length ≤ 9223372036854775807) :
  Calls Tryz.prog 50 #[.agg #[.int .i64 o, .int .i64 l, .int .i64 m], .string ⟨d.toArray⟩] w fun e w' => e = .returned (.bool (decide (fits o l m d))) ∧ Below w.heap.size w w' := by
 go_enter Tryz.func50, Tryz.ntmps50
 go_wp2_with fail
 refine (xh _ _ _ _).mono ?_
 rintro e w1 ⟨rfl, hb1⟩
 have hB1 := zQ (yw _ _ _) hb1 (by simp)
 have g1 : Below w.heap.size w w1 := ((Below.refl _ _).alloc (Nat.le_refl _) _).trans (hb1.mono (by simp))
 clear hb1
 by_cases hv : xH o l m
 ·by_cases hl : d.length ≤ 2000
  ·have HV := Go.Lib.hid hv
   have hl1 : 1 ≤ l := hv.2.1
   have hl2 : l ≤ 8 := hv.2.2.1
   have hd : decide (xH o l m) = true := by simpa using hv
   clear hv
   go_wp2
   go_loopw [16] (fun k wr => ∃ n : Nat, n ≤ d.length ∧ k = .int .i64 n ∧ (d.take n).all (vU l) = true ∧ ∃ q, wr = w1.drewN q) (fun k _ => d.length - (intOf k).toNat)
   case atStart => exact ⟨0, Nat.zero_le _, rfl, rfl, 0, rfl⟩
   case round =>
    obtain ⟨k, hk, rfl, hx, q, rfl⟩ := hrel
    have HX := Go.Lib.hid hx
    clear hx
    by_cases hlt : k < d.length
    ·have HN := Go.Lib.hid (Y9 l d k hlt)
     have HS := Go.Lib.hid (tq (vU l) d k hlt)
     have hc1 := zM d k
     have hc2 := yg d k
     have hw := sD l (by omega) (by omega)
     have ha : (k : Int) < d.length := by omega
     have hl0 : 0 ≤ l := by omega
     have hl64 : l < 64 := by omega
     by_cases hb : byteAt d k < pow2 l
     ·go_wp2
      go_quiet (fail)
      go_wp2
      go_roundw
      case rel => exact ⟨k + 1, by omega, by go_num, by rw [HS.out, HX.out, HN.out]; simpa using hb, _, rfl⟩
      case measure => simp [intOf]; omega
     ·go_wp2
      go_quiet (fail)
      go_wp2
      go_ret
      refine ⟨zS ?_, jZ (jZ g1 _) _⟩
      rw [eq_comm, decide_eq_false_iff_not]
      rintro ⟨_, _, h⟩
      rw [sJ (vU l) d k hlt (by rw [HN.out]; simpa using hb)] at h
      cases h
    ·go_wp2
     go_ret
     refine ⟨zS ?_, jZ g1 _⟩
     have e : d.take k = d := List.take_of_length_le (by omega)
     have HX2 := HX.out
     rw [e] at HX2
     rw [eq_comm, decide_eq_true_eq]
     exact ⟨HV.out, hl, HX2⟩
  ·have hd : decide (xH o l m) = true := by simpa using hv
   have hl' : 2000 < d.length := by omega
   clear hv
   go_wp2
   go_ret
   refine ⟨zS ?_, g1⟩
   rw [eq_comm, decide_eq_false_iff_not]
   rintro ⟨_, h, _⟩
   omega
 ·have hd : decide (xH o l m) = false := by simpa using hv
  have HV := Go.Lib.hid hv
  clear hv
  go_wp2
  go_ret
  refine ⟨zS ?_, g1⟩
  rw [eq_comm, decide_eq_false_iff_not]
  rintro ⟨h, _, _⟩
  exact HV.out h
theorem VE (o l m : Int) (d : Bs) (w : World) (hl1 : 0 ≤ l) (hl2 : l ≤ 16) (hs : d.length ≤ 9223372036854775807) :
  Calls Tryz.prog 142 #[.agg #[.int .i64 o, .int .i64 l, .int .i64 m], .string ⟨d.toArray⟩] w fun e w' => e = .returned (.bool (d.all (vU l))) ∧ Below w.heap.size w w' := by
 go_enter Tryz.func142, Tryz.ntmps142
 go_wp2
 go_loopw [5] (fun k wr => ∃ n : Nat, n ≤ d.length ∧ k = .int .i64 n ∧ (d.take n).all (vU l) = true ∧ Below w.heap.size w wr ∧ w.heap.size < wr.heap.size ∧ ∀ i, wr.cell? ⟨w.heap.size, i, none⟩ = (#[.int .i64 o, .int .i64 l, .int .i64 m] : Array Value)[i]?) (fun k _ => d.length - (intOf k).toNat)
 case atStart => exact ⟨0, Nat.zero_le _, rfl, rfl, zH, by simp, yw _ _ _⟩
 case round =>
  obtain ⟨k, hk, rfl, hx, hbl, hsz, hB⟩ := hrel
  have HX := Go.Lib.hid hx
  clear hx
  by_cases hlt : k < d.length
  ·have HN := Go.Lib.hid (Y9 l d k hlt)
   have HS := Go.Lib.hid (tq (vU l) d k hlt)
   have hc1 := zM d k
   have hc2 := yg d k
   have ha : (k : Int) < d.length := by omega
   have hG := zG hB hsz
   go_wp2_with fail
   by_cases hb : byteAt d k < pow2 l
   ·
    refine wp_region_quiet_below (by kernel_rfl) (by kernel_rfl) ?_
    repeat (go_big_quiet_step ((go_at_call 163; exact Calls.regrown_of (yu _ _ _ _ hl1 hl2))))
    refine wpQuiet_nil ?_
    intro w2 hw2
    have hb2 : Below _ _ w2 := zh hw2
    clear hw2
    have hz2 := hb2.size
    go_wp2
    go_roundw
    case rel => exact ⟨k + 1, by omega, by go_num, by rw [HS.out, HX.out, HN.out]; simpa using hb, hbl.trans (hb2.mono (by omega)), by omega, zQ hB hb2 hsz⟩
    case measure => simp [intOf]; omega
   ·
    refine wp_region_quiet_below (by kernel_rfl) (by kernel_rfl) ?_
    repeat (go_big_quiet_step ((go_at_call 163; exact Calls.regrown_of (yu _ _ _ _ hl1 hl2))))
    refine wpQuiet_nil ?_
    intro w2 hw2
    have hb2 : Below _ _ w2 := zh hw2
    clear hw2
    have hz2 := hb2.size
    go_wp2
    go_ret
    exact ⟨zS (sJ (vU l) d k hlt (by rw [HN.out]; simpa using hb)).symm, hbl.trans (hb2.mono (by omega))⟩
  ·go_wp2
   go_ret
   refine ⟨zS ?_, hbl⟩
   have e : d.take k = d := List.take_of_length_le (by omega)
   have HX2 := HX.out
   rw [e] at HX2
   exact HX2.symm
theorem tu (o l m : Int) (d : Bs) (w : World) (hs : d.length ≤ 9223372036854775807) :
  Calls Tryz.prog 111 #[.agg #[.int .i64 o, .int .i64 l, .int .i64 m], .string ⟨d.toArray⟩] w fun e w' => e = .returned (.bool (decide (fits o l m d))) ∧ Below w.heap.size w w' := by
 go_enter Tryz.func111, Tryz.ntmps111
 go_wp2_with fail
 refine (uz _ _ _ _).mono ?_
 rintro e w1 ⟨rfl, hb1⟩
 have hB1 := zQ (yw _ _ _) hb1 (by simp)
 have hz1 := hb1.size
 simp only [World.size_alloc] at hz1
 have g1 : Below w.heap.size w w1 := ((Below.refl _ _).alloc (Nat.le_refl _) _).trans (hb1.mono (by simp))
 clear hb1
 by_cases hv : xH o l m
 ·have hd : decide (xH o l m) = true := by simpa using hv
  have hl1 : 0 ≤ l := by have := hv.2.1; omega
  have hl2 : l ≤ 16 := by have := hv.2.2.1; omega
  have HV := Go.Lib.hid hv
  clear hv
  by_cases hl : d.length ≤ 2000
  ·go_wp2_with (go_at_call 142; refine (VE _ _ _ _ _ hl1 hl2 hs).mono ?_; rintro e w2 ⟨rfl, hb2⟩)
   go_ret
   refine ⟨zS ?_, g1.trans (hb2.mono (by omega))⟩
   rw [Bool.eq_iff_iff, decide_eq_true_eq]
   exact ⟨fun h => ⟨HV.out, hl, by simpa using h⟩, fun h => by simpa using h.2.2⟩
  ·go_wp2
   go_ret
   refine ⟨zS ?_, g1⟩
   rw [eq_comm, decide_eq_false_iff_not]
   rintro ⟨_, h, _⟩
   omega
 ·have hd : decide (xH o l m) = false := by simpa using hv
  have HV := Go.Lib.hid hv
  clear hv
  go_wp2
  go_ret
  refine ⟨zS ?_, g1⟩
  rw [eq_comm, decide_eq_false_iff_not]
  rintro ⟨h, _, _⟩
  exact HV.out h
theorem tY (o l m : Int) (d : Bs) (w : World) (hs : d.length ≤ 9223372036854775807) :
  Calls Tryz.prog 80 #[.agg #[.int .i64 o, .int .i64 l, .int .i64 m], .string ⟨d.toArray⟩] w fun e w' => e = .returned (.bool (decide (fits o l m d))) ∧ Below w.heap.size w w' := by
 go_enter Tryz.func80, Tryz.ntmps80
 go_wp2_with (go_at_call 111; refine (tu _ _ _ _ _ hs).mono ?_; rintro e w2 ⟨rfl, hb2⟩)
 go_ret
 exact ⟨rfl, ((Below.refl _ _).alloc (Nat.le_refl _) _).trans (hb2.mono (by simp))⟩
theorem Z5 (l : Bs) (w : World) (hs : l.length ≤ 9223372036854775807) :
  Calls Tryz.prog 137 #[.string ⟨l.toArray⟩] w fun e w' => e = .returned (.int .i64 (sumOf l)) ∧ w = w' := by
 go_enter Tryz.func137, Tryz.ntmps137
 go_wp2
 go_loop [3, 4, 8] (fun a b k => ∃ n : Nat, n ≤ l.length ∧ k = .int .i64 n ∧ a = .int .i64 (sumP (l.take n)).1 ∧ b = .int .i64 (sumP (l.take n)).2) (fun _ _ k => l.length - (intOf k).toNat)
 case atStart => exact ⟨0, Nat.zero_le _, rfl, rfl, rfl⟩
 case round =>
  obtain ⟨k, hk, rfl, rfl, rfl⟩ := hrel
  have hb := YB (l.take k)
  obtain ⟨hb1, hb2, hb3, hb4⟩ := hb
  by_cases hlt : k < l.length
  ·have HS := Go.Lib.hid (sumP_snoc l k hlt)
   have HB := Go.Lib.hid (zV l k hlt)
   have hc1 := zM l k
   have hc2 := yg l k
   go_wp2
   go_round
   case rel =>
    refine ⟨k + 1, by omega, by go_num, ?_, ?_⟩
    ·rw [HS.out]; simp [uJ, ← HB.out]
    ·rw [HS.out]; simp [uJ, ← HB.out]
   case measure => simp [intOf]; omega
  ·go_wp2
   go_ret
   have : k = l.length := by omega
   subst this
   exact ⟨by simp [sumOf], rfl⟩
theorem bT (l : Bs) (w : World) (hs : l.length ≤ 9223372036854775807) :
  Calls Tryz.prog 167 #[.string ⟨l.toArray⟩] w fun e w' => e = .returned (.int .i64 (sumOf l)) ∧ w = w' := by
 go_enter Tryz.func167, Tryz.ntmps167
 go_wp2
 go_loop [3, 4, 5] (fun a b k => ∃ n : Nat, n ≤ l.length ∧ k = .int .i64 n ∧ a = .int .i64 (sumP (l.take n)).1 ∧ b = .int .i64 (sumP (l.take n)).2) (fun _ _ k => l.length - (intOf k).toNat)
 case atStart => exact ⟨0, Nat.zero_le _, rfl, rfl, rfl⟩
 case round =>
  obtain ⟨k, hk, rfl, rfl, rfl⟩ := hrel
  have hb := YB (l.take k)
  obtain ⟨hb1, hb2, hb3, hb4⟩ := hb
  by_cases hlt : k < l.length
  ·have HS := Go.Lib.hid (sumP_snoc l k hlt)
   have HB := Go.Lib.hid (zV l k hlt)
   have hc1 := zM l k
   have hc2 := yg l k
   go_wp2
   go_round
   case rel =>
    refine ⟨k + 1, by omega, by go_num, ?_, ?_⟩
    ·rw [HS.out]; simp [uJ, ← HB.out]
    ·rw [HS.out]; simp [uJ, ← HB.out]
   case measure => simp [intOf]; omega
  ·go_wp2
   go_ret
   have : k = l.length := by omega
   subst this
   exact ⟨by simp [sumOf], rfl⟩
set_option maxRecDepth 100000 in
theorem mJ (n : Int) (w : World) (h0 : 0 ≤ n) (h1 : n ≤ 9000000) :
  Calls Tryz.prog 166 #[.int .i64 n] w fun e w' => e = .returned (.string ⟨(two n).toArray⟩) ∧ Below w.heap.size w w' := by
 go_enter Tryz.func166, Tryz.ntmps166
 go_wp2
 go_ret
 exact ⟨rfl, (Below.refl _ _).alloc (Nat.le_refl _) _⟩
end Go.Proofs.YtinncdollpajkaaGreat
namespace Go.Proofs.YtinncdollpajkaaGreat
open Go.RowKit
theorem oz : ∀ (n : Nat) (K : Kn) (t : Bs), 0 ≤ K.base → t.length ≤ n → 2 * (yc n K t).length ≤ 3 * t.length + 1 ∧ (K.last < 0 → (K.ps.length : Int) ≤ K.base → 2 * (yc n K t).length ≤ 3 * t.length)
  | 0, K, t, _, _ => by simp [yc]
  | n + 1, K, t, hb0, ht => by
    unfold yc
    split
    · simp
    · rename_i hne
      have hlq := K.wB hne
      have hlp := (K.yX t).2
      have hd : (t.drop (K.longest t).length).length = t.length - (K.longest t).length := by simp
      have hp : 0 < t.length := List.length_pos_iff.2 hne
      simp only
      have h1 := oz n (K.after (K.find (K.longest t))) (t.drop (K.longest t).length) hb0 (by omega)
      have h2 := oz n (K.after (K.find (K.longest t))).cleared (t.drop (K.longest t).length) hb0 (by omega)
      constructor
      · split
        · have h3 := h2.2 (by show (-1 : Int) < 0; omega) (by
            show (((K.after (K.find (K.longest t))).ps.take K.base.toNat).length : Int) ≤ K.base
            have := List.length_take_le K.base.toNat (K.after (K.find (K.longest t))).ps
            omega)
          simp only [List.length_cons]
          omega
        · simp only [List.length_cons]
          omega
      · intro h3 h4
        have hg : K.gr = false := by unfold Kn.gr; simp; omega
        have e : (K.after (K.find (K.longest t))).ps = K.ps := by unfold Kn.after; simp [hg]
        have e2 : (K.after (K.find (K.longest t))).base = K.base := rfl
        rw [if_neg (by rw [e, e2]; omega)]
        simp only [List.length_cons]
        omega
theorem WZ (K : Kn) (t : Bs) (hb : 0 ≤ K.base) (ht : t.length ≤ 2000) : (K.yT t).length ≤ 3002 := by
 have h := (oz t.length K.cleared t hb (Nat.le_refl _)).2 (by show (-1 : Int) < 0; omega) (by
  show ((K.ps.take K.base.toNat).length : Int) ≤ K.base
  have := List.length_take_le K.base.toNat K.ps
  omega)
 unfold Kn.yT
 simp only [List.length_cons, List.length_append, List.length_nil]
 omega
end Go.Proofs.YtinncdollpajkaaGreat
namespace Go.Proofs.YtinncdollpajkaaGreat
open Go.RowKit
attribute [local go_sem high] zA zu zy zO zK zX zx zk zn zq zi zo yQ zC yf zD
theorem pJ (k f t s : Int) (nm d : Bs) (w : World) (hn : nm.length ≤ 9223372036854775807) (hd : d.length ≤ 9223372036854775807) :
  Calls Tryz.prog 53 #[.agg #[.int .i64 k, .string ⟨nm.toArray⟩, .int .i64 f, .int .i64 t, .int .i64 s, .string ⟨d.toArray⟩]] w fun e w' => e = .returned (.bool (decide (qM k nm f t s d))) ∧ Below w.heap.size w w' := by
 go_enter Tryz.func53, Tryz.ntmps53
 go_wp2_with (first | (go_at_call 81; refine (bI _ _ hn).mono ?_; rintro e w' ⟨rfl, rfl⟩) | (go_at_call 73; refine (vF _ _ _ _).mono ?_; rintro e w' ⟨rfl, rfl⟩) | (go_at_call 85; refine (iY _ _ _ _).mono ?_; rintro e w' ⟨rfl, rfl⟩))
 all_goals go_ret
 all_goals refine ⟨zS ?_, (Below.refl _ _).alloc (Nat.le_refl _) _⟩
 all_goals (rw [Bool.eq_iff_iff]; simp only [decide_eq_true_eq]; grind [qM])
abbrev stV (o l m : Int) (d : Bs) (f : Value) : Value := .agg #[.int .i64 o, .int .i64 l, .int .i64 m, .string ⟨d.toArray⟩, f]
abbrev stZ : Value := .agg #[.int .i64 0, .int .i64 0, .int .i64 0, .string ⟨#[]⟩, .slice none 0 0]
def jh (o l m : Int) (d : Bs) : Value := if fits o l m d then .tuple #[stV o l m d (.slice none 0 0), .bool true] else .tuple #[stZ, .bool false]
theorem fQ (o l m : Int) (d : Bs) (w : World) (hs : d.length ≤ 9223372036854775807) :
  Calls Tryz.prog 126 #[.agg #[.int .i64 o, .int .i64 l, .int .i64 m], .string ⟨d.toArray⟩] w fun e w' => e = .returned (jh o l m d) ∧ Below w.heap.size w w' := by
 go_enter Tryz.func126, Tryz.ntmps126
 go_wp2_with fail
 refine (tY _ _ _ _ _ hs).mono ?_
 rintro e w1 ⟨rfl, hb1⟩
 have hz1 := hb1.size
 simp only [World.size_alloc] at hz1
 have hB1 : ∀ i, w1.cell? ⟨w.heap.size, i, none⟩ = (#[.int .i64 o, .int .i64 l, .int .i64 m] : Array Value)[i]? := zQ (by simp) hb1 (by simp; omega)
 have hR1 : ∀ i, w1.cell? ⟨w.heap.size + 1, i, none⟩ = (#[.int .i64 0, .int .i64 0, .int .i64 0, .string ⟨#[]⟩, .slice none 0 0] : Array Value)[i]? := zQ (by simp) hb1 (by simp)
 have hF1 : ∀ i, w1.frozen? ⟨w.heap.size + 1, i, none⟩ = false := bf (by simp) hb1 (by simp)
 have g1 : Below w.heap.size w w1 := (((Below.refl _ _).alloc (Nat.le_refl _) _).alloc (by simp) _).trans (hb1.mono (by simp; omega))
 clear hb1
 by_cases hv : fits o l m d
 ·have hd : decide (fits o l m d) = true := by simpa using hv
  have HV := Go.Lib.hid hv
  clear hv
  go_wp2
  exact bodyPost_ret (v := .tuple #[stV o l m d (.slice none 0 0), .bool true]) (by simp [results, Tryz.results126, go_sem, hR1]) rfl ⟨by rw [jh, if_pos HV.out], zH⟩
 ·have hd : decide (fits o l m d) = false := by simpa using hv
  have HV := Go.Lib.hid hv
  clear hv
  go_wp2
  exact bodyPost_ret (v := .tuple #[stZ, .bool false]) (by simp [results, Tryz.results126, go_sem, hR1]) rfl ⟨by rw [jh, if_neg HV.out], zH⟩
end Go.Proofs.YtinncdollpajkaaGreat
