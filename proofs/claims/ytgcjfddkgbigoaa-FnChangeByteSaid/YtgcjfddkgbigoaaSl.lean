/- Slices: what a slice value reads as (its cells), nil let in; how it is kept; from a row of the call's own. -/
import Derived.Test.YtgcjfddkgbigoaaOwn
namespace Go.Proofs.Ytgcjfddkgbigoaa
open Go.RowKit

/-- The slice value '.slice A n cap' holds the cells cs (size cells an element). -/
def Sl (w : World) (A : Option Addr) (n cap size : Nat) (cs : List Value) : Prop :=
  n ≤ cap ∧ cap ≤ 9223372036854775807 ∧ cs.length = n * size ∧ (0 < n → ∃ g off, A = some ⟨g, off, none⟩ ∧ g < w.heap.size ∧ ∀ (j : Nat) (u : Value), cs[j]? = some u → w.cell? ⟨g, off + j, none⟩ = some u)

section
variable {w w' : World} {A : Option Addr} {n cap size : Nat} {cs : List Value}
theorem Sl.nil (w : World) (size : Nat) : Sl w none 0 0 size [] := ⟨Nat.le_refl _, by omega, by simp, fun h => absurd h (by omega)⟩
theorem Sl.keep (h : Sl w A n cap size cs) (hk : ∀ p : Addr, p.block < w.heap.size → w'.cell? p = w.cell? p) (hz : w.heap.size ≤ w'.heap.size) : Sl w' A n cap size cs := by
  obtain ⟨h1, h2, h3, h4⟩ := h
  refine ⟨h1, h2, h3, fun hn => ?_⟩
  obtain ⟨g, off, rfl, hg, hc⟩ := h4 hn
  exact ⟨g, off, rfl, by omega, fun j u hu => (hk _ hg).trans (hc j u hu)⟩
theorem Sl.below (h : Sl w A n cap size cs) (hb : Below w.heap.size w w') : Sl w' A n cap size cs := h.keep (fun _ hp => hb.cell hp) hb.size
theorem Sl.drewN (h : Sl w A n cap size cs) (k : Nat) : Sl (w.drewN k) A n cap size cs := h
theorem Sl.alloc (h : Sl w A n cap size cs) (o : Obj) : Sl (w.alloc o) A n cap size cs := h.keep (fun p hp => World.cell?_alloc_lt w o p hp) (by simp)
theorem Sl.blk {g off : Nat} (h : Sl w (some ⟨g, off, none⟩) n cap size cs) (hb : w'.heap[g]? = w.heap[g]?) (hz : w.heap.size ≤ w'.heap.size) : Sl w' (some ⟨g, off, none⟩) n cap size cs := by
  obtain ⟨h1, h2, h3, h4⟩ := h
  refine ⟨h1, h2, h3, fun hn => ?_⟩
  obtain ⟨g', off', hA, hg, hc⟩ := h4 hn
  injection hA with hA
  injection hA with e1 e2 _
  subst e1
  subst e2
  exact ⟨g, off, rfl, by omega, fun j u hu => (World.cell?_of_block (a := ⟨g, off + j, none⟩) hb).trans (hc j u hu)⟩
/-- Element k. -/
theorem Sl.at1 (h : Sl w A n cap 1 cs) {k : Nat} (hk : k < n) : ∃ g off u, A = some ⟨g, off, none⟩ ∧ g < w.heap.size ∧ cs[k]? = some u ∧ w.cell? ⟨g, off + k, none⟩ = some u := by
  obtain ⟨_, _, h3, h4⟩ := h
  obtain ⟨g, off, rfl, hg, hc⟩ := h4 (by omega)
  have hl : k < cs.length := by omega
  exact ⟨g, off, cs[k], rfl, hg, List.getElem?_eq_getElem hl, hc k _ (List.getElem?_eq_getElem hl)⟩
/-- A row of the call's own reads as its cells. -/
theorem Sl.of_own {B : Nat} {e : TypeId} {v : Value} (h : w.ownsRow B e size v n cs) : ∃ A cap, v = .slice A n cap ∧ Sl w A n cap size cs := by
  have hcs := fun g hg => h.cells (g := g) hg
  have hlt := h.lt
  obtain ⟨h1, h2⟩ := h
  rcases h2 with ⟨rfl, h0⟩ | ⟨g, cap, cur, rfl, hb, hg, hn, hm, hs, ht⟩
  · subst h0
    refine ⟨none, 0, rfl, Nat.le_refl _, by omega, h1, fun h => absurd h (by omega)⟩
  · unfold maxLen at hm
    refine ⟨_, cap, rfl, hn, hm, h1, fun _ => ⟨g, 0, rfl, (hlt g rfl).2, fun j u hu => ?_⟩⟩
    have := hcs g rfl j u hu
    rw [Nat.zero_add]
    unfold Addr.add at this
    split at this <;> simp_all
end
/-- Block g is just the cells cs of element type t, none frozen. -/
def Bk (w : World) (g : Nat) (t : TypeId) (cs : Array Value) : Prop := w.heap[g]? = some (.cells cs t (0, 0))
section
variable {w w' : World} {g : Nat} {t : TypeId} {cs : Array Value}
theorem Bk.lt (h : Bk w g t cs) : g < w.heap.size := by
  rcases Nat.lt_or_ge g w.heap.size with hlt | hge
  · exact hlt
  · unfold Bk at h; rw [Array.getElem?_eq_none hge] at h; cases h
theorem Bk.cell (h : Bk w g t cs) : ∀ i, w.cell? ⟨g, i, none⟩ = cs[i]? := fun i => cell_of_row w g i cs t (0, 0) h
theorem Bk.free (h : Bk w g t cs) : ∀ i, w.frozen? ⟨g, i, none⟩ = false := fun i => by unfold Bk at h; simp [World.frozen?, h]
theorem Bk.new (w : World) (cs : Array Value) (t : TypeId) : Bk (w.alloc (.cells cs t)) w.heap.size t cs := heap_alloc_new w _
theorem Bk.newAt (w : World) (cs : Array Value) (t : TypeId) {n : Nat} (h : n = w.heap.size) : Bk (w.alloc (.cells cs t)) n t cs := by subst h; exact Bk.new w cs t
theorem Bk.drew (h : Bk w g t cs) : Bk w.drew g t cs := h
theorem Bk.drewN (h : Bk w g t cs) (n : Nat) : Bk (w.drewN n) g t cs := h
theorem Bk.alloc (h : Bk w g t cs) (o : Obj) : Bk (w.alloc o) g t cs := (Below.heap_alloc w o g h.lt).trans h
theorem Bk.far (h : Bk w g t cs) {p : Addr} (hp : g ≠ p.block) (u : Value) : Bk (w.setCell p u) g t cs := (Below.heap_setCell w p u g hp).trans h
theorem Bk.set (h : Bk w g t cs) (i : Nat) (u : Value) : Bk (w.setCell ⟨g, i, none⟩ u) g t (cs.setIfInBounds i u) := heap_setCell_same w g i cs t u h
theorem Bk.below {B : Nat} (h : Bk w g t cs) (hb : Below B w w') (hg : g < B) : Bk w' g t cs := (hb.block g hg).trans h
theorem Bk.grown {row : Option Nat} (h : Bk w g t cs) (hb : w.grownBy w' row) (hg : ∀ k, row = some k → k ≠ g) : Bk w' g t cs := (hb.block g h.lt (fun e => hg g e.symm rfl)).trans h
theorem own_ne {base : Nat} {e : TypeId} {size n : Nat} {v : Value} {xs : List Value} (h : w.ownsRow base e size v n xs) (hg : Bk w g t cs) (hne : e ≠ t) : ∀ k, v.ownBlock = some k → k ≠ g := by
  intro k hk hkg
  subst hkg
  obtain ⟨_, h2⟩ := h
  rcases h2 with ⟨rfl, _⟩ | ⟨g', cap, cur, rfl, _, hh, _⟩
  · cases hk
  · injection hk with hk
    have hk' : g' = k := hk
    subst hk'
    unfold Bk at hg
    rw [hh] at hg
    injection hg with hg
    injection hg with _ hg
    exact hne hg
theorem own_far {base : Nat} {e : TypeId} {size n : Nat} {v : Value} {xs : List Value} (h : w.ownsRow base e size v n xs) {p : Addr} (hne : ∀ k, v.ownBlock = some k → k ≠ p.block) (u : Value) : (w.setCell p u).ownsRow base e size v n xs := by
  obtain ⟨h1, h2⟩ := h
  refine ⟨h1, ?_⟩
  rcases h2 with h2 | ⟨g', cap, cur, rfl, hg, hh, rest⟩
  · exact .inl h2
  · exact .inr ⟨g', cap, cur, rfl, hg, (Below.heap_setCell w p u g' (hne g' rfl)).trans hh, rest⟩
theorem lit_own {base size : Nat} (h : Bk w g t #[]) (hb : base ≤ g) : w.ownsRow base t size (.slice (some ⟨g, 0, none⟩) 0 0) 0 [] :=
  ⟨by simp, .inr ⟨g, 0, #[], rfl, hb, h, Nat.le_refl _, by unfold maxLen; omega, by simp, by simp⟩⟩
end
/-- A block just laid reads as its cells. -/
theorem Sl.new (w : World) (cs : Array Value) (t : TypeId) (n size : Nat) (h : cs.size = n * size) (hn : n ≤ 9223372036854775807) : Sl (w.alloc (.cells cs t)) (some ⟨w.heap.size, 0, none⟩) n n size cs.toList :=
  ⟨Nat.le_refl _, hn, by simpa using h, fun _ => ⟨w.heap.size, 0, rfl, by simp, fun j u hu => by
    rw [Nat.zero_add, World.cell?_alloc_at _ _ _ _ rfl]; simpa using hu⟩⟩
theorem Sl.new0 (w : World) (t : TypeId) (size : Nat) : Sl (w.alloc (.cells #[] t)) (some ⟨w.heap.size, 0, none⟩) 0 0 size [] := by
  simpa using Sl.new w #[] t 0 size (by simp) (by omega)
theorem lt_of_cell {w : World} {b off : Nat} {v : Value} (h : w.cell? ⟨b, off, none⟩ = some v) : b < w.heap.size := by
  rcases Nat.lt_or_ge b w.heap.size with h1 | h1
  · exact h1
  · simp [World.cell?, Array.getElem?_eq_none h1] at h
theorem info_str : (Try.prog.info? 9).map (fun i => (i.zero, i.size, i.bytes)) = some (some (.string ⟨#[]⟩), 1, 16) := by kernel_rfl
abbrev sv (l : Bs) : Value := .string ⟨l.toArray⟩
theorem below_undrew {B : Nat} {w w' : World} (h : Below B w.drew w') : Below B w w' := ⟨h.os, h.tape, h.output, h.size, h.block⟩
theorem box_new_free (w : World) (cs : Array Value) (t : TypeId) : ∀ i, (w.alloc (.cells cs t)).frozen? ⟨w.heap.size, i, none⟩ = false := by simp
theorem grown_undrew {w w' : World} {row : Option Nat} (h : w.drew.grownBy w' row) : w.grownBy w' row := ⟨h.os, h.tape, h.output, h.size, h.block⟩
theorem own_mono {w : World} {B B' : Nat} {e : TypeId} {size n : Nat} {v : Value} {xs : List Value} (h : w.ownsRow B e size v n xs) (hB : B' ≤ B) : w.ownsRow B' e size v n xs := by
  obtain ⟨h1, h2⟩ := h
  refine ⟨h1, ?_⟩
  rcases h2 with h2 | ⟨g, cap, cur, hv, hg, rest⟩
  · exact .inl h2
  · exact .inr ⟨g, cap, cur, hv, by omega, rest⟩
/-- Behind an append of new cells: a block that is not the row's. -/
theorem app_far {W w3 : World} {o : Obj} {row : Option Nat} {b : Nat} (hg : (W.alloc o).grownBy w3 row) (hb : b < W.heap.size) (hne : ∀ k, row = some k → k ≠ b) : ∀ i, w3.cell? ⟨b, i, none⟩ = W.cell? ⟨b, i, none⟩ :=
  fun i => (World.cell?_of_block (a := ⟨b, i, none⟩) (hg.block b (by simp; omega) (fun e => hne b e.symm rfl))).trans (World.cell?_alloc_lt W o ⟨b, i, none⟩ hb)
theorem app_below {B : Nat} {w W w3 : World} {o : Obj} {row : Option Nat} (hB : Below B w W) (hg : (W.alloc o).grownBy w3 row) (hs : B ≤ W.heap.size) (hr : ∀ k, row = some k → B ≤ k) : Below B w w3 :=
  (hB.alloc hs o).grown hg (by simp; omega) hr
theorem app_size {W w3 : World} {o : Obj} {row : Option Nat} (hg : (W.alloc o).grownBy w3 row) : W.heap.size + 1 ≤ w3.heap.size := by
  have := hg.size; simp at this; exact this
section
variable {w w' : World} {B : Nat}
theorem owns_keep {e : TypeId} {size n : Nat} {v : Value} {xs : List Value} (h : w.ownsRow B e size v n xs) (hb : Below w.heap.size w w') : w'.ownsRow B e size v n xs := by
  have hlt := h.lt
  obtain ⟨h1, h2⟩ := h
  refine ⟨h1, ?_⟩
  rcases h2 with h2 | ⟨g, cap, cur, rfl, hg, hh, rest⟩
  · exact .inl h2
  · have := hlt g rfl
    exact .inr ⟨g, cap, cur, rfl, hg, (hb.block g this.2).trans hh, rest⟩
end
end Go.Proofs.Ytgcjfddkgbigoaa
