import Derived.Test.YtfonokhafdflcaaGreatDoorKGT
import Derived.Test.YtfonokhafdflcaaGreatDoorKGP1
import Derived.Test.YtfonokhafdflcaaGreatDoorKGP2
import Derived.Test.YtfonokhafdflcaaGreatDoorKGP3
import Derived.Test.YtfonokhafdflcaaGreatDoorKGB
import Derived.Test.YtfonokhafdflcaaGreatDoorKGS4
import Derived.Test.YtfonokhafdflcaaGreatDoorKGA
namespace Go.Proofs.YtfonokhafdflcaaGreatDoor
open Go.RowKit
set_option linter.unusedVariables false
set_option linter.unusedSimpArgs false
set_option maxRecDepth 100000
def Blk.dat (K : Kn) (b : Blk) : Option Bs :=
 if b.raw = true then some b.body else
 if (decU K b.body).2.1 ≠ 0 ∨ (decU K b.body).2.2 ≠ b.body.length ∨ ((decU K b.body).1.length : Int) ≠ b.size then none else some (decU K b.body).1
def datRes (o : Option Bs) : Ending := .returned (.tuple #[sv (o.getD []), .bool o.isSome])
end Go.Proofs.YtfonokhafdflcaaGreatDoor
namespace Go.Proofs.YtfonokhafdflcaaGreatDoor
open Go.RowKit
def AllOk (fs : List Fd) : Prop := ∀ n b, firstF fs n = some b → b.ok = true
theorem findGo_ok (l : Bs) : ∀ (n : Nat) (a : Int), (0 ≤ a → parseOk l a = true) → ∀ f ∈ findGo l n a, f.2.ok = true
  | 0, a, _, f, hf => by cases hf
  | n + 1, a, h, f, hf => by
    by_cases ha : 0 ≤ a
    · rw [findGo_pos l n ha] at hf
      rcases List.mem_cons.1 hf with rfl | hf
      · exact (parse_bd (h ha)).2.2.2
      · exact findGo_ok l n _ (fun h0 => ((nextB_bd l (endAt l a)).2.2 h0).2) f hf
    · rw [findGo_neg l _ (by omega)] at hf; cases hf
theorem find_ok (l : Bs) : AllOk (findB l) := by
  intro n b h
  unfold firstF at h
  cases hf : List.find? (fun f => decide (f.2.num = n)) (findB l) with
  | none => rw [hf] at h; cases h
  | some x =>
    rw [hf] at h
    injection h with h
    subst h
    exact findGo_ok l _ _ (fun h0 => ((nextB_bd l 0).2.2 h0).2) x (List.mem_of_find?_eq_some hf)
end Go.Proofs.YtfonokhafdflcaaGreatDoor
namespace Go.Proofs.YtfonokhafdflcaaGreatDoor
open Go.RowKit
set_option linter.unusedVariables false
set_option linter.unusedSimpArgs false
set_option maxRecDepth 100000
attribute [local go_sem high] run_index_S binOp_eql_S binOp_neq_S append_S toList_S size_S run_slice_S run_slice_from_S run_slice_to_S wrap64_byteAt wrap64_byteAt_mul bits_or_bytes convU conv1_some convU2 conv2_some
def PaRes (o : Option (List Bs)) (w : World) (e : Ending) (w' : World) : Prop := ∃ A cap, e = .returned (.tuple #[.slice A (o.getD []).length cap, .bool o.isSome]) ∧ w'.ownsRow w.heap.size 9 1 (.slice A (o.getD []).length cap) (o.getD []).length ((o.getD []).map sv) ∧ Below w.heap.size w w'
theorem Sl.bk {w : World} {A : Option Addr} {bs : List Blk} {cap : Nat} (h : Sl w A bs.length cap 4 (bksV bs)) {k : Nat} (hk : k < bs.length) : ∃ g off, A = some ⟨g, off, none⟩ ∧ g < w.heap.size ∧
  w.cell? ⟨g, off + k * 4, none⟩ = some (.int .i64 bs[k].num) ∧ w.cell? ⟨g, off + k * 4 + 1, none⟩ = some (.bool bs[k].raw) ∧ w.cell? ⟨g, off + k * 4 + 2, none⟩ = some (.int .i64 bs[k].size) ∧ w.cell? ⟨g, off + k * 4 + 3, none⟩ = some (.string ⟨bs[k].body.toArray⟩) := by
 obtain ⟨g, off, e, hg, hc⟩ := Sl.cellK h hk
 have hcs := bksV_at bs k hk
 exact ⟨g, off, e, hg, hc 0 _ hcs.1, hc 1 _ hcs.2.1, hc 2 _ hcs.2.2.1, hc 3 _ hcs.2.2.2⟩
theorem lens_two {ls : List Bs} (h : ∀ t ∈ ls, t.length ≤ 1500000) : ∀ t ∈ ls.map (fun t : Bs => two t.length), t.length ≤ 1500000 := by
 intro t ht
 obtain ⟨s, _, rfl⟩ := List.mem_map.1 ht
 rw [two_len]; omega
theorem parB_none {l : Bs} {g : Int} (h : blocksB l = none) : parB l g = none := by unfold parB; rw [h]; split <;> rfl
theorem parB_out {l : Bs} {g : Int} (h : ¬ (1 ≤ g ∧ g ≤ 40)) : parB l g = none := by unfold parB; rw [if_neg h]
theorem parB_some {l : Bs} {g : Nat} {bs : List Blk} (h : blocksB l = some bs) (h1 : 1 ≤ g) (h2 : g ≤ 40) : parB l g = some (parL bs g (cnt bs.length g)) := by unfold parB; rw [if_pos (by omega), h]; rfl
theorem own_own2 {w : World} {B B' : Nat} {e e' : TypeId} {s s' n n' : Nat} {v v' : Value} {xs xs' : List Value} (h : w.ownsRow B e s v n xs) (h' : w.ownsRow B' e' s' v' n' xs') (hne : e ≠ e') : v.ownBlock = none ∨ v.ownBlock ≠ v'.ownBlock := by
 rcases h.2 with ⟨rfl, _⟩ | ⟨g, cap, cur, rfl, _, hh, _⟩
 ·exact .inl rfl
 ·right
  rcases h'.2 with ⟨rfl, _⟩ | ⟨g', cap', cur', rfl, _, hh', _⟩
  ·intro hc; cases hc
  ·intro hc
   injection hc with hc
   have hc : g = g' := hc
   subst hc
   rw [hh] at hh'
   injection hh' with hh'
   injection hh' with _ hh'
   exact hne hh'
end Go.Proofs.YtfonokhafdflcaaGreatDoor
namespace Go.Proofs.YtfonokhafdflcaaGreatDoor
open Go.RowKit
set_option linter.unusedVariables false
set_option linter.unusedSimpArgs false
set_option maxRecDepth 100000
attribute [local go_sem high] run_index_S binOp_eql_S binOp_neq_S append_S toList_S size_S run_slice_S run_slice_from_S run_slice_to_S wrap64_byteAt wrap64_byteAt_mul bits_or_bytes convU conv1_some convU2 conv2_some
end Go.Proofs.YtfonokhafdflcaaGreatDoor
namespace Go.Proofs.YtfonokhafdflcaaGreatDoor
open Go.RowKit
set_option linter.unusedVariables false
set_option linter.unusedSimpArgs false
set_option maxRecDepth 100000
attribute [local go_sem high] run_index_S binOp_eql_S binOp_neq_S append_S toList_S size_S run_slice_S run_slice_from_S run_slice_to_S wrap64_byteAt wrap64_byteAt_mul bits_or_bytes convU conv1_some convU2 conv2_some
theorem ext_midR (p : Bs) (n k : Nat) : (⟨p.toArray⟩ : ByteArray).extract n (n + k) = ⟨((p.drop n).take k).toArray⟩ := by
 rw [ByteArray.extract_mk]
 simp [Nat.add_sub_cancel_left]
end Go.Proofs.YtfonokhafdflcaaGreatDoor
namespace Go.Proofs.YtfonokhafdflcaaGreatDoor
open Go.RowKit
set_option linter.unusedVariables false
set_option linter.unusedSimpArgs false
set_option maxRecDepth 100000
attribute [local go_sem high] run_index_S binOp_eql_S binOp_neq_S append_S toList_S size_S run_slice_S run_slice_from_S run_slice_to_S wrap64_byteAt wrap64_byteAt_mul bits_or_bytes convU conv1_some convU2 conv2_some
end Go.Proofs.YtfonokhafdflcaaGreatDoor
namespace Go.Proofs.YtfonokhafdflcaaGreatDoor
open Go.RowKit
set_option linter.unusedVariables false
set_option linter.unusedSimpArgs false
set_option maxRecDepth 100000
attribute [local go_sem high] run_index_S binOp_eql_S binOp_neq_S append_S toList_S size_S run_slice_S run_slice_from_S run_slice_to_S wrap64_byteAt wrap64_byteAt_mul bits_or_bytes convU conv1_some convU2 conv2_some
end Go.Proofs.YtfonokhafdflcaaGreatDoor
namespace Go.Proofs.YtfonokhafdflcaaGreatDoor
open Go.RowKit
set_option linter.unusedVariables false
set_option linter.unusedSimpArgs false
set_option maxRecDepth 100000
attribute [local go_sem high] run_index_S binOp_eql_S binOp_neq_S append_S toList_S size_S run_slice_S run_slice_from_S run_slice_to_S wrap64_byteAt wrap64_byteAt_mul bits_or_bytes convU conv1_some convU2 conv2_some
end Go.Proofs.YtfonokhafdflcaaGreatDoor
namespace Go.Proofs.YtfonokhafdflcaaGreatDoor
open Go.RowKit
set_option linter.unusedVariables false
set_option linter.unusedSimpArgs false
set_option maxRecDepth 100000
attribute [local go_sem high] run_index_S binOp_eql_S binOp_neq_S append_S toList_S size_S run_slice_S run_slice_from_S run_slice_to_S wrap64_byteAt wrap64_byteAt_mul bits_or_bytes convU conv1_some convU2 conv2_some
end Go.Proofs.YtfonokhafdflcaaGreatDoor
namespace Go.Proofs.YtfonokhafdflcaaGreatDoor
open Go.RowKit
set_option linter.unusedVariables false
set_option linter.unusedSimpArgs false
set_option maxRecDepth 100000
attribute [local go_sem high] run_index_S binOp_eql_S binOp_neq_S append_S toList_S size_S run_slice_S run_slice_from_S run_slice_to_S wrap64_byteAt wrap64_byteAt_mul bits_or_bytes convU conv1_some convU2 conv2_some
def plcAt (bs : List Blk) (i : Nat) : Int × Int := (((catT (bs.take i)).length : Int), sizesOf (bs.take i))
def plc (bs : List Blk) : List (Int × Int) := (List.range bs.length).map (plcAt bs)
def plV (ps : List (Int × Int)) : List Value := ps.flatMap fun p => [.int .i64 p.1, .int .i64 p.2]
theorem plV_snoc (ps : List (Int × Int)) (p : Int × Int) : plV (ps ++ [p]) = plV ps ++ [.int .i64 p.1, .int .i64 p.2] := by unfold plV; rw [List.flatMap_append]; simp
theorem plV_length (ps : List (Int × Int)) : (plV ps).length = ps.length * 2 := by
 induction ps with
 | nil => rfl
 | cons f fs ih => unfold plV at *; rw [List.flatMap_cons, List.length_append, ih]; simp; omega
theorem plV_at (ps : List (Int × Int)) (k : Nat) (h : k < ps.length) : (plV ps)[k * 2 + 0]? = some (.int .i64 ps[k].1) ∧ (plV ps)[k * 2 + 1]? = some (.int .i64 ps[k].2) := by
 have e : ps = ps.take k ++ (ps[k] :: ps.drop (k + 1)) := by rw [List.getElem_cons_drop, List.take_append_drop]
 have hl : (plV (ps.take k)).length = k * 2 := by rw [plV_length, List.length_take]; omega
 have e2 : plV ps = plV (ps.take k) ++ ([.int .i64 ps[k].1, .int .i64 ps[k].2] ++ plV (ps.drop (k + 1))) := by
  conv => lhs; rw [e]
  unfold plV; rw [List.flatMap_append, List.flatMap_cons]
 rw [e2]
 refine ⟨?_, ?_⟩ <;> (rw [List.getElem?_append_right (by omega), hl]; simp)
theorem plc_length (bs : List Blk) : (plc bs).length = bs.length := by simp [plc]
theorem plc_at (bs : List Blk) (k : Nat) (h : k < (plc bs).length) : (plc bs)[k] = plcAt bs k := by simp [plc]
theorem range_plc_snoc (bs : List Blk) (k : Nat) : (List.range (k + 1)).map (plcAt bs) = (List.range k).map (plcAt bs) ++ [plcAt bs k] := by rw [List.range_succ, List.map_append]; rfl
theorem plcAt_next (bs : List Blk) (k : Nat) (h : k < bs.length) : plcAt bs (k + 1) = ((plcAt bs k).1 + (10 + bs[k].body.length), (plcAt bs k).2 + bs[k].size) := by
 unfold plcAt
 rw [List.take_succ_eq_append_getElem h, catT_snoc, sizesOf_app1, List.length_append, Blk.text_len]
 simp
theorem plcAt_bd (bs : List Blk) (hok : ∀ b ∈ bs, b.ok = true) (k : Nat) : 0 ≤ (plcAt bs k).1 ∧ (plcAt bs k).1 ≤ 74 * bs.length ∧ 0 ≤ (plcAt bs k).2 ∧ (plcAt bs k).2 ≤ 64 * bs.length := by
 have h1 := catT_le (bs.take k) (fun b hb => hok b (List.mem_of_mem_take hb))
 have h2 := sizesOf_bd (bs.take k) (fun b hb => hok b (List.mem_of_mem_take hb))
 have h3 : (bs.take k).length ≤ bs.length := by simp; omega
 unfold plcAt
 simp only
 omega
theorem info_place : (Tryz.prog.info? 38).map (fun i => (i.zero, i.size, i.bytes)) = some (some (.agg #[.int .i64 0, .int .i64 0]), 2, 16) := by kernel_rfl
def PlRow (w : World) (A : Option Addr) (cap : Nat) (ps : List (Int × Int)) (w' : World) : Prop :=
 w'.ownsRow w.heap.size 38 2 (.slice A ps.length cap) ps.length (plV ps) ∧ Below w.heap.size w w'
end Go.Proofs.YtfonokhafdflcaaGreatDoor
