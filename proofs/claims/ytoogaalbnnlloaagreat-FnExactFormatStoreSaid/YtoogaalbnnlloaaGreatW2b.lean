/- Walks: the empty store; the law on it. -/
import Derived.Test.YtoogaalbnnlloaaGreatGW
namespace Go.Proofs.YtoogaalbnnlloaaGreat
open Go.RowKit
set_option linter.unusedSimpArgs false
set_option linter.unusedVariables false
attribute [local go_sem high] run_index_S binOp_eql_S binOp_neq_S append_S toList_S size_S run_slice_S run_slice_from_S run_slice_to_S wrap64_byteAt wrap64_byteAt_mul bits_or_bytes convU conv1_some convU2 conv2_some
abbrev stV (o l m : Int) (d : Bs) (f : Value) : Value := .agg #[.int .i64 o, .int .i64 l, .int .i64 m, .string ⟨d.toArray⟩, f]
abbrev stZ : Value := .agg #[.int .i64 0, .int .i64 0, .int .i64 0, .string ⟨#[]⟩, .slice none 0 0]
def emptyRes (o l m : Int) (d : Bs) : Value := if fits o l m d then .tuple #[stV o l m d (.slice none 0 0), .bool true] else .tuple #[stZ, .bool false]
theorem toSetting_any (o l m : Int) (w : World) :
    Calls Tryz.prog 20 #[.agg #[.int .i64 o, .int .i64 l, .int .i64 m]] w fun e w' => e = .returned (.agg #[.int .i64 o, .int .i64 l, .int .i64 m]) ∧ Below w.heap.size w w' := by
  go_enter Tryz.func20, Tryz.ntmps20
  go_wp2
  exact bodyPost_ret (v := .agg #[.int .i64 o, .int .i64 l, .int .i64 m]) (by simp [results, Tryz.results20, go_sem]) rfl ⟨rfl, (by repeat (first | (with_reducible exact Below.refl _ _) | (with_reducible assumption) | (with_reducible refine Below.drew ?_) | (with_reducible refine Below.alloc ?_ (by first | omega | (simp <;> omega)) _) | (with_reducible refine Below.setCell ?_ (by first | omega | (simp <;> omega)) _) | (with_reducible refine belowN ?_ _)))⟩
theorem eqSetting_same (o l m : Int) (w : World) :
    Calls Tryz.prog 79 #[.agg #[.int .i64 o, .int .i64 l, .int .i64 m], .agg #[.int .i64 o, .int .i64 l, .int .i64 m]] w fun e w' => e = .returned (.bool true) ∧ Below w.heap.size w w' := by
  go_enter Tryz.func79, Tryz.ntmps79
  go_wp2
  go_ret
  exact ⟨rfl, (by repeat (first | (with_reducible exact Below.refl _ _) | (with_reducible assumption) | (with_reducible refine Below.drew ?_) | (with_reducible refine Below.alloc ?_ (by first | omega | (simp <;> omega)) _) | (with_reducible refine Below.setCell ?_ (by first | omega | (simp <;> omega)) _) | (with_reducible refine belowN ?_ _)))⟩
theorem eqFileS_nil (w : World) :
    Calls Tryz.prog 80 #[.slice none 0 0, .slice none 0 0] w fun e w' => e = .returned (.bool true) ∧ w = w' := by
  go_enter Tryz.func80, Tryz.ntmps80
  go_wp2
  refine wp_loop_rounds 1 ?_
  rw [rounds_succ]
  go_wp2
  go_ret
  exact ⟨rfl, rfl⟩
set_option maxHeartbeats 1000000 in
theorem eqStore_nil (o l m : Int) (d : Bs) (w : World) :
    Calls Tryz.prog 29 #[stV o l m d (.slice none 0 0), stV o l m d (.slice none 0 0)] w fun e w' => e = .returned (.bool true) ∧ Below w.heap.size w w' := by
  go_enter Tryz.func29, Tryz.ntmps29
  go_wp2_with fail
  refine (eqSetting_same _ _ _ _).mono ?_
  rintro e w1 ⟨rfl, hb1⟩
  obtain ⟨hc1, hf1⟩ := bcell hb1
  have hz1 := hb1.size
  simp only [World.size_alloc] at hz1
  go_wp2_with (go_at_call 80; refine (eqFileS_nil _).mono ?_; rintro e w2 ⟨rfl, rfl⟩)
  go_ret
  exact ⟨rfl, (((Below.refl _ _).alloc (Nat.le_refl _) _).alloc (by simp) _).trans (hb1.mono (by simp; omega))⟩
end Go.Proofs.YtoogaalbnnlloaaGreat
