/- Walks: parities of the groups of a container's blocks, by the reference. -/
import Derived.Test.YtfonokhafdflcaaGreatGP3
import Derived.Test.YtfonokhafdflcaaGreatGB
namespace Go.Proofs.YtfonokhafdflcaaGreat
open Go.RowKit
set_option linter.unusedVariables false
set_option linter.unusedSimpArgs false
set_option maxRecDepth 100000
attribute [local go_sem high] run_index_S binOp_eql_S binOp_neq_S append_S toList_S size_S run_slice_S run_slice_from_S run_slice_to_S wrap64_byteAt wrap64_byteAt_mul bits_or_bytes convU conv1_some convU2 conv2_some
/-- It returns strings in a row of its own. -/
def TxRes (ls : List Bs) (w : World) (e : Ending) (w' : World) : Prop := ∃ A cap, e = .returned (.slice A ls.length cap) ∧ w'.ownsRow w.heap.size 9 1 (.slice A ls.length cap) ls.length (ls.map sv) ∧ Below w.heap.size w w'
/-- It returns parities and whether they are those of a container. -/
def PaRes (o : Option (List Bs)) (w : World) (e : Ending) (w' : World) : Prop := ∃ A cap, e = .returned (.tuple #[.slice A (o.getD []).length cap, .bool o.isSome]) ∧ w'.ownsRow w.heap.size 9 1 (.slice A (o.getD []).length cap) (o.getD []).length ((o.getD []).map sv) ∧ Below w.heap.size w w'
theorem Sl.bk {w : World} {A : Option Addr} {bs : List Blk} {cap : Nat} (h : Sl w A bs.length cap 4 (bksV bs)) {k : Nat} (hk : k < bs.length) : ∃ g off, A = some ⟨g, off, none⟩ ∧ g < w.heap.size ∧
    w.cell? ⟨g, off + k * 4, none⟩ = some (.int .i64 bs[k].num) ∧ w.cell? ⟨g, off + k * 4 + 1, none⟩ = some (.bool bs[k].raw) ∧ w.cell? ⟨g, off + k * 4 + 2, none⟩ = some (.int .i64 bs[k].size) ∧ w.cell? ⟨g, off + k * 4 + 3, none⟩ = some (.string ⟨bs[k].body.toArray⟩) := by
  obtain ⟨g, off, e, hg, hc⟩ := Sl.cellK h hk
  have hcs := bksV_at bs k hk
  exact ⟨g, off, e, hg, hc 0 _ hcs.1, hc 1 _ hcs.2.1, hc 2 _ hcs.2.2.1, hc 3 _ hcs.2.2.2⟩
theorem lens_two {ls : List Bs} (h : ∀ t ∈ ls, t.length ≤ 1500000) : ∀ t ∈ ls.map (fun t : Bs => two t.length), t.length ≤ 1500000 := by
  intro t ht
  obtain ⟨s, _, rfl⟩ := List.mem_map.1 ht
  rw [two_len]; omega
theorem parB_none {l : Bs} {g : Int} (h : blocksB l = none) : parB l g = none := by unfold parB; rw [h]; split <;> rfl
theorem parB_out {l : Bs} {g : Int} (h : ¬ (1 ≤ g ∧ g ≤ 40)) : parB l g = none := by unfold parB; rw [if_neg h]
theorem parB_some {l : Bs} {g : Nat} {bs : List Blk} (h : blocksB l = some bs) (h1 : 1 ≤ g) (h2 : g ≤ 40) : parB l g = some (parL bs g (cnt bs.length g)) := by unfold parB; rw [if_pos (by omega), h]; rfl
theorem own_own2 {w : World} {B B' : Nat} {e e' : TypeId} {s s' n n' : Nat} {v v' : Value} {xs xs' : List Value} (h : w.ownsRow B e s v n xs) (h' : w.ownsRow B' e' s' v' n' xs') (hne : e ≠ e') : v.ownBlock = none ∨ v.ownBlock ≠ v'.ownBlock := by
  rcases h.2 with ⟨rfl, _⟩ | ⟨g, cap, cur, rfl, _, hh, _⟩
  · exact .inl rfl
  · right
    rcases h'.2 with ⟨rfl, _⟩ | ⟨g', cap', cur', rfl, _, hh', _⟩
    · intro hc; cases hc
    · intro hc
      injection hc with hc
      have hc : g = g' := hc
      subst hc
      rw [hh] at hh'
      injection hh' with hh'
      injection hh' with _ hh'
      exact hne hh'
end Go.Proofs.YtfonokhafdflcaaGreat
