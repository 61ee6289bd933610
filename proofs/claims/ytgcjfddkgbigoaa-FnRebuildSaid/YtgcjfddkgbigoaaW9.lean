/- Walks: parities and their text. -/
import Derived.Test.YtgcjfddkgbigoaaGW
import Derived.Test.YtgcjfddkgbigoaaW3
import Derived.Test.YtgcjfddkgbigoaaW8
import Derived.Test.YtgcjfddkgbigoaaGR
import Derived.Test.YtgcjfddkgbigoaaW7
namespace Go.Proofs.Ytgcjfddkgbigoaa
open Go.RowKit
set_option linter.unusedVariables false
set_option maxRecDepth 100000
attribute [local go_sem high] run_index_S binOp_eql_S binOp_neq_S append_S toList_S size_S run_slice_S run_slice_from_S run_slice_to_S wrap64_byteAt wrap64_byteAt_mul bits_or_bytes convU conv1_some convU2 conv2_some
/-- A list of strings. -/
abbrev SlS (w : World) (A : Option Addr) (cap : Nat) (ls : List Bs) : Prop := Sl w A ls.length cap 1 (ls.map sv)
theorem SlS.at {w : World} {A : Option Addr} {cap : Nat} {ls : List Bs} (h : SlS w A cap ls) {k : Nat} (hk : k < ls.length) : ∃ g off, A = some ⟨g, off, none⟩ ∧ g < w.heap.size ∧ w.cell? ⟨g, off + k, none⟩ = some (sv ls[k]) := by
  obtain ⟨g, off, u, hA, hg, hu, hc⟩ := Sl.at1 h hk
  refine ⟨g, off, hA, hg, ?_⟩
  rw [List.getElem?_map, List.getElem?_eq_getElem hk] at hu
  simp at hu
  rw [hc, ← hu]
theorem SlS.of_own {w : World} {B : Nat} {A : Option Addr} {cap : Nat} {ls : List Bs} (h : w.ownsRow B 9 1 (.slice A ls.length cap) ls.length (ls.map sv)) : SlS w A cap ls := by
  obtain ⟨A', cap', hv, hs⟩ := Sl.of_own h
  injection hv with e1 e2 e3
  subst e1; subst e3
  exact hs
theorem hexRes_eq (p : Bs) : hexRes p = .returned (.tuple #[sv ((unhex p).getD []), .bool (unhex p).isSome]) := rfl
theorem parOk_snoc (ls : List Bs) (k : Nat) (h : k < ls.length) (hl : decide (2 ≤ ls[k].length ∧ ls[k].length ≤ 76) = false) : parOk ls = false := by
  unfold parOk
  rw [Bool.eq_false_iff]
  intro h2
  simp only [Bool.and_eq_true, List.all_eq_true] at h2
  rw [h2.2 _ (List.getElem_mem h)] at hl
  cases hl
set_option maxRecDepth 100000 in
theorem parityValid_any (ls : List Bs) (A : Option Addr) (cap : Nat) (w : World) (hs : SlS w A cap ls) (hb : ∀ l ∈ ls, l.length ≤ 4000) (hn : ls.length ≤ 2000000) :
    Calls Try.prog 77 #[.slice A ls.length cap] w fun e w' => e = .returned (.bool (parOk ls)) ∧ w = w' := by
  have HB := Go.Lib.hid hb
  clear hb
  go_enter Try.func77, Try.ntmps77
  by_cases h40 : ls.length ≤ 40
  · go_wp2
    go_loop [10] (fun a => ∃ k : Nat, k ≤ ls.length ∧ a = .int .i64 k ∧ Go.RowKit.Hid ((ls.take k).all (fun l => decide (2 ≤ l.length ∧ l.length ≤ 76)) = true)) (fun a => ls.length - (intOf a).toNat)
    case atStart => exact ⟨0, by omega, rfl, by show _ = _; simp⟩
    case round =>
      obtain ⟨k, hk, rfl, ha⟩ := hrel
      by_cases hlt : k < ls.length
      · obtain ⟨g, off, rfl, hg, hc⟩ := SlS.at hs hlt
        have hl := HB.out _ (List.getElem_mem hlt)
        have HT := Go.Lib.hid (List.take_succ_eq_append_getElem hlt)
        have HF := Go.Lib.hid (parOk_snoc ls k hlt)
        generalize ls[k] = x at *
        by_cases h2 : 2 ≤ x.length ∧ x.length ≤ 76
        · obtain ⟨h2a, h2b⟩ := h2
          go_wp2
          go_round
          case rel =>
            refine ⟨k + 1, by omega, by go_num, ?_⟩
            show _ = _
            rw [HT.out, List.all_append, ha.out]
            simp; omega
          case measure => simp [intOf]; omega
        · have HP : Go.RowKit.Hid (parOk ls = false) := HF.out (by simpa using h2)
          by_cases h3 : 2 ≤ x.length
          · have h4 : ¬ (x.length : Int) ≤ 76 := by omega
            go_wp2
            go_ret
            exact ⟨ret_bool HP.out.symm, rfl⟩
          · go_wp2
            go_ret
            exact ⟨ret_bool HP.out.symm, rfl⟩
      · have HP : Go.RowKit.Hid (parOk ls = true) := by
          show _ = _
          have e : ls.take k = ls := List.take_of_length_le (by omega)
          have := ha.out
          rw [e] at this
          unfold parOk
          rw [this]; simp; omega
        go_wp2
        go_ret
        exact ⟨ret_bool HP.out.symm, rfl⟩
  · have HP : Go.RowKit.Hid (parOk ls = false) := by
      show _ = _
      unfold parOk
      simp; omega
    go_wp2
    go_ret
    exact ⟨ret_bool HP.out.symm, rfl⟩
end Go.Proofs.Ytgcjfddkgbigoaa
