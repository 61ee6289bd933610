/- Walks: pieces compared. -/
import Derived.Test.YtoogaalbnnlloaaGreatPr
import Derived.Laws.StructEq
namespace Go.Proofs.YtoogaalbnnlloaaGreat
open Go.RowKit
set_option linter.unusedVariables false
set_option linter.unusedSimpArgs false
set_option maxRecDepth 100000
attribute [local go_sem high] run_index_S binOp_eql_S binOp_neq_S append_S toList_S size_S run_slice_S run_slice_from_S run_slice_to_S wrap64_byteAt wrap64_byteAt_mul bits_or_bytes convU conv1_some convU2 conv2_some
theorem stood_Piece : Tryz.prog.stoodInHeld 33 = false := by kernel_rfl
theorem guard_Piece : Tryz.prog.eqGuardType Tryz.prog.depth 33 = false := by kernel_rfl
theorem Sl.pcM {w : World} {A : Option Addr} {ps : List Pc} {cap : Nat} (h : Sl w A ps.length cap 2 (pcsV ps)) {k : Nat} (hk : k < ps.length) : ∃ g off, A = some ⟨g, off, none⟩ ∧ g < w.heap.size ∧
    w.cell? ⟨g, off + k * 2, none⟩ = some (.int .i64 ps[k].1) ∧ w.cell? ⟨g, off + k * 2 + 1, none⟩ = some (.string ⟨ps[k].2.toArray⟩) := by
  obtain ⟨g, off, e, hg, hc⟩ := Sl.cellK h hk
  have hcs := pcsV_at ps k hk
  exact ⟨g, off, e, hg, hc 0 _ hcs.1, hc 1 _ hcs.2⟩
set_option maxHeartbeats 1000000 in
theorem soPieces_same (ps : List Pc) (A B : Option Addr) (ca cb : Nat) (w : World) (ha : Sl w A ps.length ca 2 (pcsV ps)) (hb : Sl w B ps.length cb 2 (pcsV ps)) (hn : ps.length ≤ 9000000) :
    Calls Tryz.prog 38 #[.slice A ps.length ca, .slice B ps.length cb] w fun e w' => e = .returned (.bool true) ∧ Below w.heap.size w w' := by
  have hst := stood_Piece
  have hgd := guard_Piece
  have h1 := ha.1
  have h2 := hb.1
  have HA : Go.RowKit.Hid (∀ wr, Below w.heap.size w wr → Sl wr A ps.length ca 2 (pcsV ps)) := fun wr h => ha.below h
  have HB : Go.RowKit.Hid (∀ wr, Below w.heap.size w wr → Sl wr B ps.length cb 2 (pcsV ps)) := fun wr h => hb.below h
  clear ha hb
  go_enter Tryz.func38, Tryz.ntmps38
  go_wp2
  go_loopw [5] (fun a wr => ∃ k : Nat, k ≤ ps.length ∧ a = .int .i64 (k : Int) ∧ Below w.heap.size w wr) (fun a _ => ps.length - (intOf a).toNat)
  case atStart => exact ⟨0, by omega, rfl, Below.refl _ _⟩
  case round =>
    obtain ⟨k, hk, rfl, hbw⟩ := hrel
    have hz := hbw.size
    by_cases hlt : k < ps.length
    · have h1 : (k : Int) < ps.length := by omega
      obtain ⟨g, off, rfl, hg, c0, c1⟩ := (HA.out wr hbw).pcM hlt
      obtain ⟨g2, off2, rfl, hg2, d0, d1⟩ := (HB.out wr hbw).pcM hlt
      generalize ps[k].1 = a at *
      generalize ps[k].2 = b at *
      go_wp2_with fail
      go_quiet (fail)
      go_wp2
      go_roundw
      case rel => exact ⟨k + 1, by omega, by go_num, (by repeat (first | (with_reducible exact Below.refl _ _) | (with_reducible assumption) | (with_reducible refine Below.drew ?_) | (with_reducible refine Below.alloc ?_ (by first | omega | (simp <;> omega)) _) | (with_reducible refine Below.setCell ?_ (by first | omega | (simp <;> omega)) _) | (with_reducible refine belowN ?_ _)))⟩
      case measure => simp [intOf]; omega
    · have h1 : ¬ (k : Int) < ps.length := by omega
      go_wp2
      go_ret
      exact ⟨rfl, hbw⟩
end Go.Proofs.YtoogaalbnnlloaaGreat
