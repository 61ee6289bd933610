import Derived.Test.YtinncdollpajkaaGreatKGA
import Derived.Test.YtinncdollpajkaaGreatKGZ
set_option linter.unusedVariables false
set_option linter.unusedSimpArgs false
set_option maxHeartbeats 8000000
namespace Go.Proofs.YtinncdollpajkaaGreat
open Go.RowKit
attribute [local go_sem high] zy zx zu zS zK yc zA zk zl zq zi zo yO zF yl zD
theorem mX (l : Bs) (w : World) (hs : l.length ≤ 9223372036854775807) :
  Calls Tryz.prog 51 #[.string ⟨l.toArray⟩] w fun e w' => e = .returned (.bool (wO l)) ∧ w = w' := by
 go_enter Tryz.func51, Tryz.ntmps51
 go_wp2
 ·go_ret
  refine ⟨zN ?_, rfl⟩
  rw [eq_comm, wO, Bool.and_eq_false_iff]; left; simp; omega
 ·go_loop [14] (fun k => ∃ n : Nat, n ≤ l.length ∧ k = .int .i64 n ∧ (l.take n).all nameB = true) (fun k => l.length - (intOf k).toNat)
  case atStart => exact ⟨0, Nat.zero_le _, rfl, rfl⟩
  case round =>
   obtain ⟨k, hk, rfl, hx⟩ := hrel
   have HX := Go.Lib.hid hx
   clear hx
   by_cases hlt : k < l.length
   ·have HN := Go.Lib.hid (Zf l k hlt)
    have HS := Go.Lib.hid (uT nameB l k hlt)
    have hc1 := zY l k
    have hc2 := y5 l k
    by_cases hb : 97 ≤ byteAt l k ∧ byteAt l k ≤ 122
    ·obtain ⟨hb1, hb2⟩ := hb
     go_wp2
     go_round
     case rel => exact ⟨k + 1, by omega, by go_num, by rw [HS.out, HX.out, HN.out]; simp; omega⟩
     case measure => simp [intOf]; omega
    ·by_cases hb1 : byteAt l k < 97
     all_goals
      go_wp2
      go_ret
      refine ⟨zN ?_, rfl⟩
      rw [eq_comm, wO, Bool.and_eq_false_iff]; right
      exact tZ nameB l k hlt (by rw [HN.out]; simp; omega)
   ·go_wp2
    go_ret
    refine ⟨zN ?_, rfl⟩
    have e : l.take k = l := List.take_of_length_le (by omega)
    have HX2 := HX.out
    rw [e] at HX2
    rw [eq_comm, wO, HX2]; simp; omega
 ·go_ret
  refine ⟨zN ?_, rfl⟩
  rw [eq_comm, wO, Bool.and_eq_false_iff]; left; simp; omega
theorem vH (a b c : Int) (w : World) :
  Calls Tryz.prog 73 #[.int .i64 a, .int .i64 b, .int .i64 c] w fun e w' => e = .returned (.bool (decide (b ≤ a ∧ a ≤ c))) ∧ w = w' := by
 go_enter Tryz.func73, Tryz.ntmps73
 by_cases h : b ≤ a
 all_goals
  go_wp2
  all_goals
   go_ret
   exact ⟨zN (by rw [Bool.eq_iff_iff]; simp; omega), rfl⟩
theorem eQ (l : Bs) (w : World) (hs : l.length ≤ 9223372036854775807) :
  Calls Tryz.prog 81 #[.string ⟨l.toArray⟩] w fun e w' => e = .returned (.bool (wO l)) ∧ w = w' := by
 go_enter Tryz.func81, Tryz.ntmps81
 go_wp2
 go_loop [3] (fun k => ∃ n : Nat, n ≤ l.length ∧ k = .int .i64 n ∧ (l.take n).all nameB = true) (fun k => l.length - (intOf k).toNat)
 case atStart => exact ⟨0, Nat.zero_le _, rfl, rfl⟩
 case round =>
  obtain ⟨k, hk, rfl, hx⟩ := hrel
  have HX := Go.Lib.hid hx
  clear hx
  by_cases hlt : k < l.length
  ·have HN := Go.Lib.hid (Zf l k hlt)
   have HS := Go.Lib.hid (uT nameB l k hlt)
   have hc1 := zY l k
   have hc2 := y5 l k
   by_cases hb : 97 ≤ byteAt l k ∧ byteAt l k ≤ 122
   ·obtain ⟨hb1, hb2⟩ := hb
    go_wp2
    go_round
    case rel => exact ⟨k + 1, by omega, by go_num, by rw [HS.out, HX.out, HN.out]; simp; omega⟩
    case measure => simp [intOf]; omega
   ·by_cases hb1 : byteAt l k < 97
    all_goals
     go_wp2
     go_ret
     refine ⟨zN ?_, rfl⟩
     rw [eq_comm, wO, Bool.and_eq_false_iff]; right
     exact tZ nameB l k hlt (by rw [HN.out]; simp; omega)
  ·go_wp2_with (go_at_call 73; refine (vH _ _ _ _).mono ?_; rintro e w' ⟨rfl, rfl⟩)
   go_ret
   refine ⟨zN ?_, rfl⟩
   have e : l.take k = l := List.take_of_length_le (by omega)
   have HX2 := HX.out
   rw [e] at HX2
   rw [eq_comm, wO, HX2, Bool.eq_iff_iff]; simp; omega
theorem iL (a b c : Int) (w : World) :
  Calls Tryz.prog 85 #[.int .i64 a, .int .i64 b, .int .i64 c] w fun e w' => e = .returned (.bool (decide (0 ≤ a ∧ a ≤ b ∧ b ≤ c))) ∧ w = w' := by
 go_enter Tryz.func85, Tryz.ntmps85
 by_cases h : 0 ≤ b ∧ b ≤ c
 all_goals
  go_wp2_with (go_at_call 73; refine (vH _ _ _ _).mono ?_; rintro e w' ⟨rfl, rfl⟩)
  all_goals
   go_ret
   exact ⟨zN (by rw [Bool.eq_iff_iff]; simp; omega), rfl⟩
theorem yY (a : Int) (w : World) :
  Calls Tryz.prog 90 #[.int .i64 a] w fun e w' => e = .returned (.bool (decide (1 ≤ a ∧ a ≤ 64))) ∧ w = w' := by
 go_enter Tryz.func90, Tryz.ntmps90
 by_cases h : 1 ≤ a
 all_goals
  go_wp2
  all_goals
   go_ret
   exact ⟨zN (by rw [Bool.eq_iff_iff]; simp; omega), rfl⟩
theorem jK (n : Int) (w : World) (h0 : 0 ≤ n) (h1 : n ≤ 16) :
  Calls Tryz.prog 194 #[.int .i64 n] w fun e w' => e = .returned (.int .i64 (pow2 n)) ∧ w = w' := by
 go_enter Tryz.func194, Tryz.ntmps194
 go_wp2
 go_ret
 exact ⟨yU (tJ n h0 h1), rfl⟩
theorem yC (o l m : Int) (w : World) (h0 : 0 ≤ l) (h1 : l ≤ 16) :
  Calls Tryz.prog 163 #[.agg #[.int .i64 o, .int .i64 l, .int .i64 m]] w fun e w' => e = .returned (.int .i64 (pow2 l)) ∧ Below w.heap.size w w' := by
 go_enter Tryz.func163, Tryz.ntmps163
 go_wp2_with (go_at_call 194; refine (jK _ _ h0 h1).mono ?_; rintro e w' ⟨rfl, rfl⟩)
 go_ret
 exact ⟨rfl, zG⟩
theorem xx (o l m : Int) (w : World) :
  Calls Tryz.prog 83 #[.agg #[.int .i64 o, .int .i64 l, .int .i64 m]] w fun e w' => e = .returned (.bool (decide (vw o l m))) ∧ Below w.heap.size w w' := by
 go_enter Tryz.func83, Tryz.ntmps83
 go_wp2_with (go_in)
 all_goals go_ret
 all_goals refine ⟨zN ?_, (Below.refl _ _).alloc (Nat.le_refl _) _⟩
 all_goals (rw [Bool.eq_iff_iff]; simp only [decide_eq_true_eq]; grind [vw])
theorem uD (o l m : Int) (w : World) :
  Calls Tryz.prog 141 #[.agg #[.int .i64 o, .int .i64 l, .int .i64 m]] w fun e w' => e = .returned (.bool (decide (vw o l m))) ∧ Below w.heap.size w w' := by
 go_enter Tryz.func141, Tryz.ntmps141
 go_wp2_with (first | (go_at_call 73; refine (vH _ _ _ _).mono ?_; rintro e w' ⟨rfl, rfl⟩) | go_in)
 all_goals go_ret
 all_goals refine ⟨zN ?_, (Below.refl _ _).alloc (Nat.le_refl _) _⟩
 all_goals (rw [Bool.eq_iff_iff]; simp only [decide_eq_true_eq]; grind [vw])
theorem uw (o l m : Int) (d : Bs) (w : World) (hs : d.length ≤ 9223372036854775807) :
  Calls Tryz.prog 50 #[.agg #[.int .i64 o, .int .i64 l, .int .i64 m], .string ⟨d.toArray⟩] w fun e w' => e = .returned (.bool (decide (fits o l m d))) ∧ Below w.heap.size w w' := by
 go_enter Tryz.func50, Tryz.ntmps50
 go_wp2_with fail
 refine (xx _ _ _ _).mono ?_
 rintro e w1 ⟨rfl, hb1⟩
 have hB1 := zV (yu _ _ _) hb1 (by simp)
 have g1 : Below w.heap.size w w1 := ((Below.refl _ _).alloc (Nat.le_refl _) _).trans (hb1.mono (by simp))
 clear hb1
 by_cases hv : vw o l m
 ·by_cases hl : d.length ≤ 2000
  ·have HV := Go.Lib.hid hv
   have hl1 : 1 ≤ l := hv.2.1
   have hl2 : l ≤ 8 := hv.2.2.1
   have hd : decide (vw o l m) = true := by simpa using hv
   clear hv
   go_wp2
   go_loopw [16] (fun k wr => ∃ n : Nat, n ≤ d.length ∧ k = .int .i64 n ∧ (d.take n).all (wW l) = true ∧ ∃ q, wr = w1.drewN q) (fun k _ => d.length - (intOf k).toNat)
   case atStart => exact ⟨0, Nat.zero_le _, rfl, rfl, 0, rfl⟩
   case round =>
    obtain ⟨k, hk, rfl, hx, q, rfl⟩ := hrel
    have HX := Go.Lib.hid hx
    clear hx
    by_cases hlt : k < d.length
    ·have HN := Go.Lib.hid (YQ l d k hlt)
     have HS := Go.Lib.hid (uT (wW l) d k hlt)
     have hc1 := zY d k
     have hc2 := y5 d k
     have hw := tJ l (by omega) (by omega)
     have ha : (k : Int) < d.length := by omega
     have hl0 : 0 ≤ l := by omega
     have hl64 : l < 64 := by omega
     by_cases hb : byteAt d k < pow2 l
     ·go_wp2
      go_quiet (fail)
      go_wp2
      go_roundw
      case rel => exact ⟨k + 1, by omega, by go_num, by rw [HS.out, HX.out, HN.out]; simpa using hb, _, rfl⟩
      case measure => simp [intOf]; omega
     ·go_wp2
      go_quiet (fail)
      go_wp2
      go_ret
      refine ⟨zN ?_, eP (eP g1 _) _⟩
      rw [eq_comm, decide_eq_false_iff_not]
      rintro ⟨_, _, h⟩
      rw [tZ (wW l) d k hlt (by rw [HN.out]; simpa using hb)] at h
      cases h
    ·go_wp2
     go_ret
     refine ⟨zN ?_, eP g1 _⟩
     have e : d.take k = d := List.take_of_length_le (by omega)
     have HX2 := HX.out
     rw [e] at HX2
     rw [eq_comm, decide_eq_true_eq]
     exact ⟨HV.out, hl, HX2⟩
  ·have hd : decide (vw o l m) = true := by simpa using hv
   have hl' : 2000 < d.length := by omega
   clear hv
   go_wp2
   go_ret
   refine ⟨zN ?_, g1⟩
   rw [eq_comm, decide_eq_false_iff_not]
   rintro ⟨_, h, _⟩
   omega
 ·have hd : decide (vw o l m) = false := by simpa using hv
  have HV := Go.Lib.hid hv
  clear hv
  go_wp2
  go_ret
  refine ⟨zN ?_, g1⟩
  rw [eq_comm, decide_eq_false_iff_not]
  rintro ⟨h, _, _⟩
  exact HV.out h
theorem Wx (o l m : Int) (d : Bs) (w : World) (hl1 : 0 ≤ l) (hl2 : l ≤ 16) (hs : d.length ≤ 9223372036854775807) :
  Calls Tryz.prog 142 #[.agg #[.int .i64 o, .int .i64 l, .int .i64 m], .string ⟨d.toArray⟩] w fun e w' => e = .returned (.bool (d.all (wW l))) ∧ Below w.heap.size w w' := by
 go_enter Tryz.func142, Tryz.ntmps142
 go_wp2
 go_loopw [5] (fun k wr => ∃ n : Nat, n ≤ d.length ∧ k = .int .i64 n ∧ (d.take n).all (wW l) = true ∧ Below w.heap.size w wr ∧ w.heap.size < wr.heap.size ∧ ∀ i, wr.cell? ⟨w.heap.size, i, none⟩ = (#[.int .i64 o, .int .i64 l, .int .i64 m] : Array Value)[i]?) (fun k _ => d.length - (intOf k).toNat)
 case atStart => exact ⟨0, Nat.zero_le _, rfl, rfl, zG, by simp, yu _ _ _⟩
 case round =>
  obtain ⟨k, hk, rfl, hx, hbl, hsz, hB⟩ := hrel
  have HX := Go.Lib.hid hx
  clear hx
  by_cases hlt : k < d.length
  ·have HN := Go.Lib.hid (YQ l d k hlt)
   have HS := Go.Lib.hid (uT (wW l) d k hlt)
   have hc1 := zY d k
   have hc2 := y5 d k
   have ha : (k : Int) < d.length := by omega
   have hG := zI hB hsz
   go_wp2_with fail
   by_cases hb : byteAt d k < pow2 l
   ·
    refine wp_region_quiet_below (by kernel_rfl) (by kernel_rfl) ?_
    repeat (go_big_quiet_step ((go_at_call 163; exact Calls.regrown_of (yC _ _ _ _ hl1 hl2))))
    refine wpQuiet_nil ?_
    intro w2 hw2
    have hb2 : Below _ _ w2 := zh hw2
    clear hw2
    have hz2 := hb2.size
    go_wp2
    go_roundw
    case rel => exact ⟨k + 1, by omega, by go_num, by rw [HS.out, HX.out, HN.out]; simpa using hb, hbl.trans (hb2.mono (by omega)), by omega, zV hB hb2 hsz⟩
    case measure => simp [intOf]; omega
   ·
    refine wp_region_quiet_below (by kernel_rfl) (by kernel_rfl) ?_
    repeat (go_big_quiet_step ((go_at_call 163; exact Calls.regrown_of (yC _ _ _ _ hl1 hl2))))
    refine wpQuiet_nil ?_
    intro w2 hw2
    have hb2 : Below _ _ w2 := zh hw2
    clear hw2
    have hz2 := hb2.size
    go_wp2
    go_ret
    exact ⟨zN (tZ (wW l) d k hlt (by rw [HN.out]; simpa using hb)).symm, hbl.trans (hb2.mono (by omega))⟩
  ·go_wp2
   go_ret
   refine ⟨zN ?_, hbl⟩
   have e : d.take k = d := List.take_of_length_le (by omega)
   have HX2 := HX.out
   rw [e] at HX2
   exact HX2.symm
theorem uQ (o l m : Int) (d : Bs) (w : World) (hs : d.length ≤ 9223372036854775807) :
  Calls Tryz.prog 111 #[.agg #[.int .i64 o, .int .i64 l, .int .i64 m], .string ⟨d.toArray⟩] w fun e w' => e = .returned (.bool (decide (fits o l m d))) ∧ Below w.heap.size w w' := by
 go_enter Tryz.func111, Tryz.ntmps111
 go_wp2_with fail
 refine (uD _ _ _ _).mono ?_
 rintro e w1 ⟨rfl, hb1⟩
 have hB1 := zV (yu _ _ _) hb1 (by simp)
 have hz1 := hb1.size
 simp only [World.size_alloc] at hz1
 have g1 : Below w.heap.size w w1 := ((Below.refl _ _).alloc (Nat.le_refl _) _).trans (hb1.mono (by simp))
 clear hb1
 by_cases hv : vw o l m
 ·have hd : decide (vw o l m) = true := by simpa using hv
  have hl1 : 0 ≤ l := by have := hv.2.1; omega
  have hl2 : l ≤ 16 := by have := hv.2.2.1; omega
  have HV := Go.Lib.hid hv
  clear hv
  by_cases hl : d.length ≤ 2000
  ·go_wp2_with (go_at_call 142; refine (Wx _ _ _ _ _ hl1 hl2 hs).mono ?_; rintro e w2 ⟨rfl, hb2⟩)
   go_ret
   refine ⟨zN ?_, g1.trans (hb2.mono (by omega))⟩
   rw [Bool.eq_iff_iff, decide_eq_true_eq]
   exact ⟨fun h => ⟨HV.out, hl, by simpa using h⟩, fun h => by simpa using h.2.2⟩
  ·go_wp2
   go_ret
   refine ⟨zN ?_, g1⟩
   rw [eq_comm, decide_eq_false_iff_not]
   rintro ⟨_, h, _⟩
   omega
 ·have hd : decide (vw o l m) = false := by simpa using hv
  have HV := Go.Lib.hid hv
  clear hv
  go_wp2
  go_ret
  refine ⟨zN ?_, g1⟩
  rw [eq_comm, decide_eq_false_iff_not]
  rintro ⟨h, _, _⟩
  exact HV.out h
theorem rU (o l m : Int) (d : Bs) (w : World) (hs : d.length ≤ 9223372036854775807) :
  Calls Tryz.prog 80 #[.agg #[.int .i64 o, .int .i64 l, .int .i64 m], .string ⟨d.toArray⟩] w fun e w' => e = .returned (.bool (decide (fits o l m d))) ∧ Below w.heap.size w w' := by
 go_enter Tryz.func80, Tryz.ntmps80
 go_wp2_with (go_at_call 111; refine (uQ _ _ _ _ _ hs).mono ?_; rintro e w2 ⟨rfl, hb2⟩)
 go_ret
 exact ⟨rfl, ((Below.refl _ _).alloc (Nat.le_refl _) _).trans (hb2.mono (by simp))⟩
theorem jF (l : Bs) (w : World) (hs : l.length ≤ 9223372036854775807) :
  Calls Tryz.prog 137 #[.string ⟨l.toArray⟩] w fun e w' => e = .returned (.int .i64 (sumOf l)) ∧ w = w' := by
 go_enter Tryz.func137, Tryz.ntmps137
 go_wp2
 go_loop [3, 4, 8] (fun a b k => ∃ n : Nat, n ≤ l.length ∧ k = .int .i64 n ∧ a = .int .i64 (sumP (l.take n)).1 ∧ b = .int .i64 (sumP (l.take n)).2) (fun _ _ k => l.length - (intOf k).toNat)
 case atStart => exact ⟨0, Nat.zero_le _, rfl, rfl, rfl⟩
 case round =>
  obtain ⟨k, hk, rfl, rfl, rfl⟩ := hrel
  have hb := Yi (l.take k)
  obtain ⟨hb1, hb2, hb3, hb4⟩ := hb
  by_cases hlt : k < l.length
  ·have HS := Go.Lib.hid (sumP_snoc l k hlt)
   have HB := Go.Lib.hid (yE l k hlt)
   have hc1 := zY l k
   have hc2 := y5 l k
   go_wp2
   go_round
   case rel =>
    refine ⟨k + 1, by omega, by go_num, ?_, ?_⟩
    ·rw [HS.out]; simp [uG, ← HB.out]
    ·rw [HS.out]; simp [uG, ← HB.out]
   case measure => simp [intOf]; omega
  ·go_wp2
   go_ret
   have : k = l.length := by omega
   subst this
   exact ⟨by simp [sumOf], rfl⟩
theorem X8 (l : Bs) (w : World) (hs : l.length ≤ 9223372036854775807) :
  Calls Tryz.prog 167 #[.string ⟨l.toArray⟩] w fun e w' => e = .returned (.int .i64 (sumOf l)) ∧ w = w' := by
 go_enter Tryz.func167, Tryz.ntmps167
 go_wp2
 go_loop [3, 4, 5] (fun a b k => ∃ n : Nat, n ≤ l.length ∧ k = .int .i64 n ∧ a = .int .i64 (sumP (l.take n)).1 ∧ b = .int .i64 (sumP (l.take n)).2) (fun _ _ k => l.length - (intOf k).toNat)
 case atStart => exact ⟨0, Nat.zero_le _, rfl, rfl, rfl⟩
 case round =>
  obtain ⟨k, hk, rfl, rfl, rfl⟩ := hrel
  have hb := Yi (l.take k)
  obtain ⟨hb1, hb2, hb3, hb4⟩ := hb
  by_cases hlt : k < l.length
  ·have HS := Go.Lib.hid (sumP_snoc l k hlt)
   have HB := Go.Lib.hid (yE l k hlt)
   have hc1 := zY l k
   have hc2 := y5 l k
   go_wp2
   go_round
   case rel =>
    refine ⟨k + 1, by omega, by go_num, ?_, ?_⟩
    ·rw [HS.out]; simp [uG, ← HB.out]
    ·rw [HS.out]; simp [uG, ← HB.out]
   case measure => simp [intOf]; omega
  ·go_wp2
   go_ret
   have : k = l.length := by omega
   subst this
   exact ⟨by simp [sumOf], rfl⟩
set_option maxRecDepth 100000 in
theorem two_any (n : Int) (w : World) (h0 : 0 ≤ n) (h1 : n ≤ 9000000) :
  Calls Tryz.prog 207 #[.int .i64 n] w fun e w' => e = .returned (.string ⟨(two n).toArray⟩) ∧ Below w.heap.size w w' := by
 go_enter Tryz.func207, Tryz.ntmps207
 go_wp2
 go_ret
 exact ⟨rfl, (Below.refl _ _).alloc (Nat.le_refl _) _⟩
set_option maxRecDepth 100000 in
theorem aX (n : Int) (w : World) (h0 : 0 ≤ n) (h1 : n ≤ 9000000) :
  Calls Tryz.prog 166 #[.int .i64 n] w fun e w' => e = .returned (.string ⟨(two n).toArray⟩) ∧ Below w.heap.size w w' := by
 go_enter Tryz.func166, Tryz.ntmps166
 go_wp2
 go_ret
 exact ⟨rfl, (Below.refl _ _).alloc (Nat.le_refl _) _⟩
end Go.Proofs.YtinncdollpajkaaGreat
namespace Go.Proofs.YtinncdollpajkaaGreat
open Go.RowKit
def Kn.full (K : Kn) : Bool := decide (K.top < K.nx ∧ K.base < K.ps.length)
theorem kU {K : Kn} (h : 0 ≤ K.base) : K.cleared.full = false := by
 unfold Kn.full Kn.cleared
 simp only [decide_eq_false_iff_not, List.length_take]
 omega
def xC : Nat → Kn → Bs → List Int
  | 0, _, _ => []
  | n + 1, K, t => if t = [] then [] else
    (if K.full = true then [K.cl] else []) ++ (if K.full = true then K.cleared else K).find ((if K.full = true then K.cleared else K).longest t) ::
      xC n ((if K.full = true then K.cleared else K).after ((if K.full = true then K.cleared else K).find ((if K.full = true then K.cleared else K).longest t))) (t.drop ((if K.full = true then K.cleared else K).longest t).length)
theorem dE : ∀ (n : Nat) (K : Kn) (t : Bs), 0 ≤ K.base → t.length ≤ n → xC n K t = if t ≠ [] ∧ K.full = true then K.cl :: zU n K.cleared t else zU n K t
  | 0, K, t, _, ht => by
    have e : t = [] := List.length_eq_zero_iff.1 (by omega)
    subst e; simp [xC, zU]
  | n + 1, K, t, h, htl => by
    by_cases ht : t = []
    · subst ht; simp [xC, zU]
    · unfold xC
      rw [if_neg ht]
      have key : ∀ K1 : Kn, 0 ≤ K1.base → K1.full = false → K1.find (K1.longest t) :: xC n (K1.after (K1.find (K1.longest t))) (t.drop (K1.longest t).length) = zU (n + 1) K1 t := by
        intro K1 hb hf
        have hp := K1.y7 ht
        rw [dE n (K1.after (K1.find (K1.longest t))) _ hb (by simp; omega)]
        rw [zU, if_neg ht]
        simp only
        have e : (K1.after (K1.find (K1.longest t))).cl = K1.cl := rfl
        by_cases hr : t.drop (K1.longest t).length ≠ [] ∧ (K1.after (K1.find (K1.longest t))).top < (K1.after (K1.find (K1.longest t))).nx ∧ (K1.after (K1.find (K1.longest t))).base < (K1.after (K1.find (K1.longest t))).ps.length
        · rw [if_pos hr, e]
          have hfull : (K1.after (K1.find (K1.longest t))).full = true := by unfold Kn.full; simpa using hr.2
          rw [if_pos ⟨hr.1, hfull⟩]
        · rw [if_neg hr]
          rw [if_neg]
          intro hc
          exact hr ⟨hc.1, by have := hc.2; unfold Kn.full at this; simpa using this⟩
      cases hf : K.full with
      | true =>
        simp only [if_true]
        rw [List.cons_append, List.nil_append, key K.cleared h (kU h), if_pos ⟨ht, trivial⟩]
      | false =>
        simp only [Bool.false_eq_true, if_false, List.nil_append, and_false]
        exact key K h hf
theorem YP {K : Kn} {t : Bs} (h : 0 ≤ K.base) : K.zZ t = K.cl :: (xC t.length K.cleared t ++ [K.cl + 1]) := by
 unfold Kn.zZ
 rw [dE _ _ _ (by exact h) (Nat.le_refl _), kU h]
 simp
theorem Yk {n : Nat} {K : Kn} {t : Bs} (ht : t ≠ []) (hf : K.full = true) : xC (n + 1) K t = [K.cl] ++ K.cleared.find (K.cleared.longest t) :: xC n (K.cleared.after (K.cleared.find (K.cleared.longest t))) (t.drop (K.cleared.longest t).length) := by
 rw [xC, if_neg ht, hf]; simp
theorem Yh {n : Nat} {K : Kn} {t : Bs} (ht : t ≠ []) (hf : K.full = false) : xC (n + 1) K t = K.find (K.longest t) :: xC n (K.after (K.find (K.longest t))) (t.drop (K.longest t).length) := by
 rw [xC, if_neg ht, hf]; simp
theorem Xu (n : Nat) (K : Kn) : xC n K [] = [] := by cases n <;> simp [xC]
end Go.Proofs.YtinncdollpajkaaGreat
namespace Go.Proofs.YtinncdollpajkaaGreat
open Go.RowKit
attribute [local go_sem high] zy zx zu zS zK yc zA zk zl zq zi zo yO zF yl zD
theorem Y2 (k f t s : Int) (nm d : Bs) (w : World) (hn : nm.length ≤ 9223372036854775807) (hd : d.length ≤ 9223372036854775807) :
  Calls Tryz.prog 57 #[.agg #[.int .i64 k, .string ⟨nm.toArray⟩, .int .i64 f, .int .i64 t, .int .i64 s, .string ⟨d.toArray⟩]] w fun e w' => e = .returned (.bool (decide (lJ k nm f t s d))) ∧ Below w.heap.size w w' := by
 go_enter Tryz.func57, Tryz.ntmps57
 go_wp2_with (first | (go_at_call 51; refine (mX _ _ hn).mono ?_; rintro e w' ⟨rfl, rfl⟩) | (go_at_call 90; refine (yY _ _).mono ?_; rintro e w' ⟨rfl, rfl⟩))
 all_goals go_ret
 all_goals refine ⟨zN ?_, (Below.refl _ _).alloc (Nat.le_refl _) _⟩
 all_goals (rw [Bool.eq_iff_iff]; simp only [decide_eq_true_eq]; grind [lJ])
theorem Yl (k f t s : Int) (nm d : Bs) (w : World) (hn : nm.length ≤ 9223372036854775807) (hd : d.length ≤ 9223372036854775807) :
  Calls Tryz.prog 53 #[.agg #[.int .i64 k, .string ⟨nm.toArray⟩, .int .i64 f, .int .i64 t, .int .i64 s, .string ⟨d.toArray⟩]] w fun e w' => e = .returned (.bool (decide (lJ k nm f t s d))) ∧ Below w.heap.size w w' := by
 go_enter Tryz.func53, Tryz.ntmps53
 go_wp2_with (first | (go_at_call 81; refine (eQ _ _ hn).mono ?_; rintro e w' ⟨rfl, rfl⟩) | (go_at_call 73; refine (vH _ _ _ _).mono ?_; rintro e w' ⟨rfl, rfl⟩) | (go_at_call 85; refine (iL _ _ _ _).mono ?_; rintro e w' ⟨rfl, rfl⟩))
 all_goals go_ret
 all_goals refine ⟨zN ?_, (Below.refl _ _).alloc (Nat.le_refl _) _⟩
 all_goals (rw [Bool.eq_iff_iff]; simp only [decide_eq_true_eq]; grind [lJ])
theorem SG (k f t s : Int) (nm d : Bs) (w : World) :
  Calls Tryz.prog 26 #[.agg #[.int .i64 k, .string ⟨nm.toArray⟩, .int .i64 f, .int .i64 t, .int .i64 s, .string ⟨d.toArray⟩]] w fun e w' => e = .returned (.agg #[.int .i64 k, .string ⟨nm.toArray⟩, .int .i64 f, .int .i64 t, .int .i64 s, .string ⟨d.toArray⟩]) ∧ Below w.heap.size w w' := by
 go_enter Tryz.func26, Tryz.ntmps26
 go_wp2
 exact bodyPost_ret (v := .agg #[.int .i64 k, .string ⟨nm.toArray⟩, .int .i64 f, .int .i64 t, .int .i64 s, .string ⟨d.toArray⟩]) (by simp [results, Tryz.results26, go_sem]) rfl ⟨rfl, zG⟩
theorem ay (o l m : Int) (w : World) :
  Calls Tryz.prog 55 #[.agg #[.int .i64 o, .int .i64 l, .int .i64 m]] w fun e w' => e = .returned (.agg #[.int .i64 o, .int .i64 l, .int .i64 m]) ∧ Below w.heap.size w w' := by
 go_enter Tryz.func55, Tryz.ntmps55
 go_wp2
 exact bodyPost_ret (v := .agg #[.int .i64 o, .int .i64 l, .int .i64 m]) (by simp [results, Tryz.results55, go_sem]) rfl ⟨rfl, zG⟩
theorem dY (o l m : Int) (w : World) :
  Calls Tryz.prog 59 #[.agg #[.int .i64 o, .int .i64 l, .int .i64 m], .agg #[.int .i64 o, .int .i64 l, .int .i64 m]] w fun e w' => e = .returned (.bool true) ∧ Below w.heap.size w w' := by
 go_enter Tryz.func59, Tryz.ntmps59
 go_wp2
 go_ret
 exact ⟨rfl, zG⟩
end Go.Proofs.YtinncdollpajkaaGreat
namespace Go.Proofs.YtinncdollpajkaaGreat
open Go.RowKit
def wz : Kn → List Int → Nat → Prop
 | _, [], _ => False
 | K, c :: r, n => if c = K.cl + 1 then r = [] else if c = K.cl then wz K.cleared r n else K.fol c = true ∧ n + (K.any c).length ≤ 2000 ∧ wz (K.after c) r (n + (K.any c).length)
theorem Zy : ∀ (cs : List Int) (K : Kn) (n : Nat), n ≤ 2000 → wz K cs n → wu K cs n
  | [], _, _, _, h => by simp [wz] at h
  | c :: r, K, n, hn, h => by
    rw [wz] at h
    rw [wu]
    split
    · rename_i h1; rw [if_pos h1] at h; exact h
    · rename_i h1
      rw [if_neg h1] at h
      split
      · rename_i h2; rw [if_pos h2] at h; exact Zy r _ n hn h
      · rename_i h2; rw [if_neg h2] at h; exact ⟨h.1, by omega, Zy r _ _ (by omega) h.2.2⟩
theorem rG : ∀ (n : Nat) (K : Kn) (t : Bs) (m : Nat), K.ok → t.all (wW K.l) = true → t.length ≤ n → m + t.length ≤ 2000 → wz K (zU n K t ++ [K.cl + 1]) m
  | 0, K, t, m, _, _, ht, _ => by simp [zU, wz]
  | n + 1, K, t, m, hk, hl, ht, hm => by
    unfold zU
    split
    · simp [wz]
    · rename_i hne
      have hf := K.uB hk hne hl
      have hlp := (K.yA t).2
      have hlq := K.y7 hne
      obtain ⟨hf1, hf2, hf3⟩ := hf
      have hb := iq hk hf1
      have hao := K.ve hk hf1
      have hd : (t.drop (K.longest t).length).length = t.length - (K.longest t).length := by simp
      have hrl : (t.drop (K.longest t).length).all (wW K.l) = true := tN _ _ _ hl
      simp only
      split
      · rw [List.cons_append, wz, if_neg hb.2.2.2, if_neg hb.2.2.1, hf2, List.cons_append, wz]
        refine ⟨hf1, by omega, ?_⟩
        have e1 : (K.after (K.find (K.longest t))).cl = K.cl := rfl
        rw [e1, if_neg (by omega), if_pos rfl]
        exact rG n _ _ _ (Kn.yT hao) hrl (by omega) (by omega)
      · rw [List.cons_append, wz, if_neg hb.2.2.2, if_neg hb.2.2.1, hf2]
        exact ⟨hf1, by omega, rG n _ _ _ hao hrl (by omega) (by omega)⟩
theorem ZR {K : Kn} (hk : K.ok) {t : Bs} (hl : t.all (wW K.l) = true) (ht : t.length ≤ 2000) : wz K (K.zZ t) 0 := by
 unfold Kn.zZ
 rw [wz, if_neg (by omega), if_pos rfl]
 exact rG _ _ _ _ (Kn.yT hk) hl (Nat.le_refl _) (by omega)
theorem qX : ∀ (n : Nat) (K : Kn) (t : Bs), 0 ≤ K.base → t.length ≤ n → 2 * (zU n K t).length ≤ 3 * t.length + 1 ∧ (K.last < 0 → (K.ps.length : Int) ≤ K.base → 2 * (zU n K t).length ≤ 3 * t.length)
  | 0, K, t, _, _ => by simp [zU]
  | n + 1, K, t, hb0, ht => by
    unfold zU
    split
    · simp
    · rename_i hne
      have hlq := K.y7 hne
      have hlp := (K.yA t).2
      have hd : (t.drop (K.longest t).length).length = t.length - (K.longest t).length := by simp
      have hp : 0 < t.length := List.length_pos_iff.2 hne
      simp only
      have h1 := qX n (K.after (K.find (K.longest t))) (t.drop (K.longest t).length) hb0 (by omega)
      have h2 := qX n (K.after (K.find (K.longest t))).cleared (t.drop (K.longest t).length) hb0 (by omega)
      constructor
      · split
        · have h3 := h2.2 (by show (-1 : Int) < 0; omega) (by
            show (((K.after (K.find (K.longest t))).ps.take K.base.toNat).length : Int) ≤ K.base
            have := List.length_take_le K.base.toNat (K.after (K.find (K.longest t))).ps
            omega)
          simp only [List.length_cons]
          omega
        · simp only [List.length_cons]
          omega
      · intro h3 h4
        have hg : K.gr = false := by unfold Kn.gr; simp; omega
        have e : (K.after (K.find (K.longest t))).ps = K.ps := by unfold Kn.after; simp [hg]
        have e2 : (K.after (K.find (K.longest t))).base = K.base := rfl
        rw [if_neg (by rw [e, e2]; omega)]
        simp only [List.length_cons]
        omega
theorem bG (K : Kn) (t : Bs) (hb : 0 ≤ K.base) (ht : t.length ≤ 2000) : (K.zZ t).length ≤ 3002 := by
 have h := (qX t.length K.cleared t hb (Nat.le_refl _)).2 (by show (-1 : Int) < 0; omega) (by
  show ((K.ps.take K.base.toNat).length : Int) ≤ K.base
  have := List.length_take_le K.base.toNat K.ps
  omega)
 unfold Kn.zZ
 simp only [List.length_cons, List.length_append, List.length_nil]
 omega
end Go.Proofs.YtinncdollpajkaaGreat
