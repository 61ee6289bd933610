/- Where a row of the call's own lies. -/
import Derived.Test.YtgcjfddkgbigoaaSl
namespace Go.Proofs.Ytgcjfddkgbigoaa
open Go.RowKit
theorem own_pos {w : World} {B : Nat} {e : TypeId} {A : Option Addr} {n cap size : Nat} {cs : List Value} (h : w.ownsRow B e size (.slice A n cap) n cs) (hn : 0 < n) : ∃ g, A = some ⟨g, 0, none⟩ ∧ B ≤ g ∧ g < w.heap.size := by
  have hlt := h.lt
  rcases h.2 with ⟨h', h0⟩ | ⟨g, cap', cur, h', hb, hg, _⟩
  · omega
  · simp only [Value.slice.injEq] at h'
    obtain ⟨h1, _, _⟩ := h'
    subst h1
    exact ⟨g, rfl, hlt g rfl⟩
end Go.Proofs.Ytgcjfddkgbigoaa
