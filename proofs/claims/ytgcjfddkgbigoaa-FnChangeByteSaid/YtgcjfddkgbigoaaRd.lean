/- The deterministic source that the drawing functions read: a struct in a block of its own, of which the number alone turns. -/
import Derived.Test.YtgcjfddkgbigoaaSl
namespace Go.Proofs.Ytgcjfddkgbigoaa
open Go.RowKit
set_option linter.unusedVariables false
/-- Below block number B the world w' is as w was, but for block r. -/
structure BelowR (B r : Nat) (w w' : World) : Prop where
  os : w'.os = w.os
  tape : w'.tape = w.tape
  output : w'.output = w.output
  size : w.heap.size ≤ w'.heap.size
  block : ∀ k, k < B → k ≠ r → w'.heap[k]? = w.heap[k]?
section
variable {B B' r b : Nat} {w w' a c : World}
theorem below_toR (h : Below B w w') (r : Nat) : BelowR B r w w' := ⟨h.os, h.tape, h.output, h.size, fun k hk _ => h.block k hk⟩
theorem BelowR.refl (B r : Nat) (w : World) : BelowR B r w w := below_toR (Below.refl B w) r
theorem BelowR.trans (h : BelowR B r a w) (k : BelowR B r w c) : BelowR B r a c :=
  ⟨k.os.trans h.os, k.tape.trans h.tape, k.output.trans h.output, Nat.le_trans h.size k.size, fun i hi hr => (k.block i hi hr).trans (h.block i hi hr)⟩
theorem BelowR.mono (h : BelowR B r w w') (hB : B' ≤ B) : BelowR B' r w w' := ⟨h.os, h.tape, h.output, h.size, fun k hk => h.block k (Nat.lt_of_lt_of_le hk hB)⟩
theorem BelowR.drewN (h : BelowR B r a w) (n : Nat) : BelowR B r a (w.drewN n) := ⟨h.os, h.tape, h.output, h.size, h.block⟩
theorem BelowR.drew (h : BelowR B r a w) : BelowR B r a w.drew := ⟨h.os, h.tape, h.output, h.size, h.block⟩
theorem BelowR.alloc (h : BelowR B r a w) (hB : B ≤ w.heap.size) (o : Obj) : BelowR B r a (w.alloc o) := h.trans (below_toR ((Below.refl B w).alloc hB o) r)
theorem BelowR.setCell (h : BelowR B r a w) {p : Addr} (hp : p.block = r ∨ B ≤ p.block) (u : Value) : BelowR B r a (w.setCell p u) :=
  h.trans ⟨rfl, rfl, rfl, by simp [World.setCell], fun k hk hr => Below.heap_setCell _ _ _ _ (by omega)⟩
theorem BelowR.grown {row : Option Nat} (h : BelowR B r a w) (hg : w.grownBy w' row) (hB : B ≤ w.heap.size) (hr : ∀ k, row = some k → B ≤ k) : BelowR B r a w' :=
  h.trans (below_toR ((Below.refl B w).grown hg hB hr) r)
theorem BelowR.below (h : BelowR B r w w') (hr : B ≤ r) : Below B w w' := ⟨h.os, h.tape, h.output, h.size, fun k hk => h.block k hk (by omega)⟩
theorem BelowR.cell (h : BelowR B r w w') {p : Addr} (hp : p.block < B) (hr : p.block ≠ r) : w'.cell? p = w.cell? p := World.cell?_of_block (w := w) (h.block p.block hp hr)
theorem boxR_keep {W w1 : World} {cs : Array Value} (hB : ∀ i, W.cell? ⟨b, i, none⟩ = cs[i]?) (hb : BelowR W.heap.size r W w1) (hlt : b < W.heap.size) (hr : r < b) : ∀ i, w1.cell? ⟨b, i, none⟩ = cs[i]? :=
  fun i => (hb.cell (p := ⟨b, i, none⟩) hlt (by show b ≠ r; omega)).trans (hB i)
theorem ownsR_keep {e : TypeId} {size n : Nat} {v : Value} {xs : List Value} (h : w.ownsRow B e size v n xs) (hb : BelowR w.heap.size r w w') (hr : r < B) : w'.ownsRow B e size v n xs := by
  have hlt := h.lt
  obtain ⟨h1, h2⟩ := h
  refine ⟨h1, ?_⟩
  rcases h2 with h2 | ⟨g, cap, cur, rfl, hg, hh, rest⟩
  · exact .inl h2
  · have := hlt g rfl
    exact .inr ⟨g, cap, cur, rfl, hg, (hb.block g this.2 (by omega)).trans hh, rest⟩
end
/-- Block r is a source whose bytes lie below it; its number is at most M. -/
def Rd (w : World) (r M : Nat) : Prop := ∃ (A : Option Addr) (n cap : Nat) (bs : Bs) (P : Nat),
  w.heap[r]? = some (.cells #[.slice A n cap, .int .i64 (P : Int)] 103 (0, 0)) ∧ bs.length = n ∧ n ≤ 2000 ∧ n ≤ cap ∧ cap ≤ 9223372036854775807 ∧ P ≤ M ∧
  (0 < n → ∃ g off, A = some ⟨g, off, none⟩ ∧ g < r ∧ ∀ (j : Nat) (hj : j < bs.length), w.cell? ⟨g, off + j, none⟩ = some (u8v bs[j]))
section
variable {r M M' : Nat} {w w' : World}
theorem Rd.lt (h : Rd w r M) : r < w.heap.size := by
  obtain ⟨A, n, cap, bs, P, h1, _⟩ := h
  rcases Nat.lt_or_ge r w.heap.size with hlt | hge
  · exact hlt
  · rw [Array.getElem?_eq_none hge] at h1; cases h1
theorem Rd.mono (h : Rd w r M) (hM : M ≤ M') : Rd w r M' := by
  obtain ⟨A, n, cap, bs, P, h1, h2, h3, h4, h5, h6, h7⟩ := h
  exact ⟨A, n, cap, bs, P, h1, h2, h3, h4, h5, by omega, h7⟩
theorem Rd.keep (h : Rd w r M) (hb : Below w.heap.size w w') : Rd w' r M := by
  have hlt := h.lt
  obtain ⟨A, n, cap, bs, P, h1, h2, h3, h4, h5, h6, h7⟩ := h
  refine ⟨A, n, cap, bs, P, (hb.block r hlt).trans h1, h2, h3, h4, h5, h6, fun hn => ?_⟩
  obtain ⟨g, off, hA, hg, hc⟩ := h7 hn
  exact ⟨g, off, hA, hg, fun j hj => (hb.cell (p := ⟨g, off + j, none⟩) (by show g < _; omega)).trans (hc j hj)⟩
theorem Rd.far (h : Rd w r M) {p : Addr} (hp : r < p.block) (u : Value) : Rd (w.setCell p u) r M := by
  obtain ⟨A, n, cap, bs, P, h1, h2, h3, h4, h5, h6, h7⟩ := h
  refine ⟨A, n, cap, bs, P, (Below.heap_setCell w p u r (by omega)).trans h1, h2, h3, h4, h5, h6, fun hn => ?_⟩
  obtain ⟨g, off, hA, hg, hc⟩ := h7 hn
  exact ⟨g, off, hA, hg, fun j hj => (World.cell?_of_block (a := ⟨g, off + j, none⟩) (Below.heap_setCell w p u g (by omega))).trans (hc j hj)⟩
theorem Rd.drewN (h : Rd w r M) (n : Nat) : Rd (w.drewN n) r M := h
theorem Rd.drew (h : Rd w r M) : Rd w.drew r M := h
theorem Rd.alloc (h : Rd w r M) (o : Obj) : Rd (w.alloc o) r M := h.keep ((Below.refl _ _).alloc (Nat.le_refl _) o)
end
end Go.Proofs.Ytgcjfddkgbigoaa
