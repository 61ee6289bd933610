/- Walks: the places of a container's blocks, by both. -/
import Derived.Test.YtfonokhafdflcaaGreatGP2
import Derived.Test.YtfonokhafdflcaaGreatGB
namespace Go.Proofs.YtfonokhafdflcaaGreat
open Go.RowKit
set_option linter.unusedVariables false
set_option linter.unusedSimpArgs false
set_option maxRecDepth 100000
attribute [local go_sem high] run_index_S binOp_eql_S binOp_neq_S append_S toList_S size_S run_slice_S run_slice_from_S run_slice_to_S wrap64_byteAt wrap64_byteAt_mul bits_or_bytes convU conv1_some convU2 conv2_some
/-- Where block i begins, in the stream and in the data. -/
def plcAt (bs : List Blk) (i : Nat) : Int × Int := (((catT (bs.take i)).length : Int), sizesOf (bs.take i))
def plc (bs : List Blk) : List (Int × Int) := (List.range bs.length).map (plcAt bs)
def plV (ps : List (Int × Int)) : List Value := ps.flatMap fun p => [.int .i64 p.1, .int .i64 p.2]
theorem plV_snoc (ps : List (Int × Int)) (p : Int × Int) : plV (ps ++ [p]) = plV ps ++ [.int .i64 p.1, .int .i64 p.2] := by unfold plV; rw [List.flatMap_append]; simp
theorem plV_length (ps : List (Int × Int)) : (plV ps).length = ps.length * 2 := by
  induction ps with
  | nil => rfl
  | cons f fs ih => unfold plV at *; rw [List.flatMap_cons, List.length_append, ih]; simp; omega
theorem plV_at (ps : List (Int × Int)) (k : Nat) (h : k < ps.length) : (plV ps)[k * 2 + 0]? = some (.int .i64 ps[k].1) ∧ (plV ps)[k * 2 + 1]? = some (.int .i64 ps[k].2) := by
  have e : ps = ps.take k ++ (ps[k] :: ps.drop (k + 1)) := by rw [List.getElem_cons_drop, List.take_append_drop]
  have hl : (plV (ps.take k)).length = k * 2 := by rw [plV_length, List.length_take]; omega
  have e2 : plV ps = plV (ps.take k) ++ ([.int .i64 ps[k].1, .int .i64 ps[k].2] ++ plV (ps.drop (k + 1))) := by
    conv => lhs; rw [e]
    unfold plV; rw [List.flatMap_append, List.flatMap_cons]
  rw [e2]
  refine ⟨?_, ?_⟩ <;> (rw [List.getElem?_append_right (by omega), hl]; simp)
theorem plc_length (bs : List Blk) : (plc bs).length = bs.length := by simp [plc]
theorem plc_at (bs : List Blk) (k : Nat) (h : k < (plc bs).length) : (plc bs)[k] = plcAt bs k := by simp [plc]
theorem range_plc_snoc (bs : List Blk) (k : Nat) : (List.range (k + 1)).map (plcAt bs) = (List.range k).map (plcAt bs) ++ [plcAt bs k] := by rw [List.range_succ, List.map_append]; rfl
theorem plcAt_next (bs : List Blk) (k : Nat) (h : k < bs.length) : plcAt bs (k + 1) = ((plcAt bs k).1 + (10 + bs[k].body.length), (plcAt bs k).2 + bs[k].size) := by
  unfold plcAt
  rw [List.take_succ_eq_append_getElem h, catT_snoc, sizesOf_app1, List.length_append, Blk.text_len]
  simp
theorem plcAt_bd (bs : List Blk) (hok : ∀ b ∈ bs, b.ok = true) (k : Nat) : 0 ≤ (plcAt bs k).1 ∧ (plcAt bs k).1 ≤ 74 * bs.length ∧ 0 ≤ (plcAt bs k).2 ∧ (plcAt bs k).2 ≤ 64 * bs.length := by
  have h1 := catT_le (bs.take k) (fun b hb => hok b (List.mem_of_mem_take hb))
  have h2 := sizesOf_bd (bs.take k) (fun b hb => hok b (List.mem_of_mem_take hb))
  have h3 : (bs.take k).length ≤ bs.length := by simp; omega
  unfold plcAt
  simp only
  omega
theorem plcs_len (l : Bs) : ((blocksB l).elim [] plc).length ≤ 40 := by
  cases hB : blocksB l with
  | none => simp
  | some bs => simp only [Option.elim_some, plc_length]; exact (blocks_short hB).2
theorem info_place : (Tryz.prog.info? 42).map (fun i => (i.zero, i.size, i.bytes)) = some (some (.agg #[.int .i64 0, .int .i64 0]), 2, 16) := by kernel_rfl
/-- It returns the places in a row of its own. -/
def PlRow (w : World) (A : Option Addr) (cap : Nat) (ps : List (Int × Int)) (w' : World) : Prop :=
  w'.ownsRow w.heap.size 42 2 (.slice A ps.length cap) ps.length (plV ps) ∧ Below w.heap.size w w'
end Go.Proofs.YtfonokhafdflcaaGreat
