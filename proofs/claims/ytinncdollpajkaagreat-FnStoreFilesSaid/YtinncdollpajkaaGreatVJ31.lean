import Derived.Test.YtinncdollpajkaaGreatVGA
import Derived.Laws.CopyOwn
import Derived.Lib.AppendZerosOnto
import Derived.Lib.Overlaps
import Derived.Laws.Externs
import Derived.Test.YtinncdollpajkaaGreatVR2
import Derived.Deep.Cut
set_option linter.unusedVariables false
set_option linter.unusedSimpArgs false
namespace Go.Proofs.YtinncdollpajkaaGreat
open Go.RowKit
set_option maxRecDepth 100000
attribute [local go_sem high] zA zu zy zO zK zX zx zk zn zq zi zo yQ zC yf zD
section
variable {P : Program} {w w' : World} {ops : Array Oper} {rest : List Oper} {o : Oper} {a : Act} {K : Act → World → Prop} {Q : Exit → Act → World → Prop} {E : Prop} {v' : Value}
theorem bD (d s : Operand) (t t' : TypeId) (ho : o.op = .call { callee := .builtin .append, args := #[d, s], argTypes := #[t, t'] }) (v u : Value) (hd : a.eval d = v) (hs : a.eval s = u)
  (hr : (Builtin.append_ #[t, t'] o.type #[v, u]).run P w = .ok v' w') (h : K (a.put o.dst v') w') : o.wp P a w K Q := by
 unfold Oper.wp execOp
 simp only [ho, resolve, invoke, builtin, Sem.run_bind, Sem.run_pure, Result.andThen_ok, List.map_toArray, List.map_cons, List.map_nil, hd, hs, hr]
 exact h
theorem iR (hgd : o.guard = none) (d s : Operand) (t t' : TypeId) (ho : o.op = .call { callee := .builtin .append, args := #[d, s], argTypes := #[t, t'] }) (v u : Value) (hd : a.eval d = v) (hs : a.eval s = u)
  (hr : (Builtin.append_ #[t, t'] o.type #[v, u]).run P w = .ok v' w') (h : K (a.put o.dst v') w') : if Region.wanted o (yielded ops a.tmps) = true then Oper.wp P o a w K Q else E := by
 rw [if_pos (by simp [Region.wanted, hgd])]
 exact bD d s t t' ho v u hd hs hr h
end
def OwC (w : World) (B : Nat) (e : TypeId) (size : Nat) (A : Option Addr) (n : Nat) (cs : List Value) : Prop := cs.length = n * size ∧ ((A = none ∧ n = 0) ∨ ∃ g cur, A = some ⟨g, 0, none⟩ ∧ B ≤ g ∧ w.heap[g]? = some (.cells cur e (0, 0)) ∧ n * size ≤ cur.size ∧ cur.toList.take (n * size) = cs)
section
variable {w w' : World} {B B' : Nat} {e : TypeId} {size n c : Nat} {A : Option Addr} {cs : List Value}
theorem OwC.uU (h : w.ownsRow B e size (.slice A n c) n cs) : OwC w B e size A n cs := by
 obtain ⟨h1, h2⟩ := h
 refine ⟨h1, ?_⟩
 rcases h2 with ⟨h2, h3⟩ | ⟨g, cap, cur, h2, hb, hg, hn, hm, hs, ht⟩
 ·injection h2 with e1 _ _; exact .inl ⟨e1, h3⟩
 ·injection h2 with e1 _ e3
  exact .inr ⟨g, cur, e1, hb, hg, by rw [hs]; exact Nat.mul_le_mul_right _ hn, ht⟩
theorem OwC.lt (h : OwC w B e size A n cs) {g : Nat} (hA : A = some ⟨g, 0, none⟩) : B ≤ g ∧ g < w.heap.size := by
 obtain ⟨_, h2⟩ := h
 rcases h2 with ⟨h2, _⟩ | ⟨g', cur, h2, hb, hg, _⟩
 ·rw [hA] at h2; cases h2
 ·rw [hA] at h2
  injection h2 with h2
  injection h2 with h2
  subst h2
  refine ⟨hb, ?_⟩
  rcases Nat.lt_or_ge g w.heap.size with hlt | hge
  ·exact hlt
  ·rw [Array.getElem?_eq_none hge] at hg; cases hg
theorem OwC.form (h : OwC w B e size A n cs) (hn : 0 < n) : ∃ g, A = some ⟨g, 0, none⟩ ∧ B ≤ g ∧ g < w.heap.size := by
 rcases h.2 with ⟨_, h2⟩ | ⟨g, cur, h2, _⟩
 ·omega
 ·exact ⟨g, h2, h.lt h2⟩
theorem OwC.cell (h : OwC w B e size A n cs) {g : Nat} (hA : A = some ⟨g, 0, none⟩) (j : Nat) (v : Value) (hj : cs[j]? = some v) : w.cell? ⟨g, j, none⟩ = some v := by
 rcases h.2 with ⟨h2, _⟩ | ⟨g', cur, h2, hb, hg, hl, ht⟩
 ·rw [hA] at h2; cases h2
 ·rw [hA] at h2
  injection h2 with h2
  injection h2 with h2
  subst h2
  rw [cell_of_row w g j cur e (0, 0) hg]
  rw [← ht, List.getElem?_take] at hj
  split at hj
  ·simpa using hj
  ·cases hj
theorem OwC.free (h : OwC w B e size A n cs) {g : Nat} (hA : A = some ⟨g, 0, none⟩) (j : Nat) : w.frozen? ⟨g, j, none⟩ = false := by
 rcases h.2 with ⟨h2, _⟩ | ⟨g', cur, h2, hb, hg, hl, ht⟩
 ·rw [hA] at h2; cases h2
 ·rw [hA] at h2
  injection h2 with h2
  injection h2 with h2
  subst h2
  simp [World.frozen?, hg]
theorem OwC.sl (h : OwC w B e size A n cs) (hn : n ≤ c) (hc : c ≤ 9223372036854775807) : Sl w A n c size cs :=
 ⟨hn, hc, h.1, fun h0 => by
  obtain ⟨g, hA, _, hg⟩ := h.form h0
  exact ⟨g, 0, hA, hg, fun j u hu => by rw [Nat.zero_add]; exact h.cell hA j u hu⟩⟩
theorem OwC.mono (h : OwC w B e size A n cs) (hB : B' ≤ B) : OwC w B' e size A n cs := by
 obtain ⟨h1, h2⟩ := h
 refine ⟨h1, ?_⟩
 rcases h2 with h2 | ⟨g, cur, h2, hb, rest⟩
 ·exact .inl h2
 ·exact .inr ⟨g, cur, h2, by omega, rest⟩
theorem OwC.keep (h : OwC w B e size A n cs) (hk : ∀ g, A = some ⟨g, 0, none⟩ → w'.heap[g]? = w.heap[g]?) : OwC w' B e size A n cs := by
 obtain ⟨h1, h2⟩ := h
 refine ⟨h1, ?_⟩
 rcases h2 with h2 | ⟨g, cur, h2, hb, hg, rest⟩
 ·exact .inl h2
 ·exact .inr ⟨g, cur, h2, hb, (hk g h2).trans hg, rest⟩
theorem OwC.below (h : OwC w B e size A n cs) (hb : Below w.heap.size w w') : OwC w' B e size A n cs := h.keep fun g hA => hb.block g (h.lt hA).2
theorem OwC.alloc (h : OwC w B e size A n cs) (o : Obj) : OwC (w.alloc o) B e size A n cs := h.below ((Below.refl _ _).alloc (Nat.le_refl _) o)
theorem OwC.far (h : OwC w B e size A n cs) {p : Addr} (hp : ∀ g, A = some ⟨g, 0, none⟩ → g ≠ p.block) (u : Value) : OwC (w.setCell p u) B e size A n cs := h.keep fun g hA => Below.heap_setCell w p u g (hp g hA)
theorem OwC.stored (h : OwC w B e size A n cs) {g : Nat} (hA : A = some ⟨g, 0, none⟩) (j : Nat) (v : Value) : OwC (w.setCell ⟨g, j, none⟩ v) B e size A n (cs.set j v) := by
 obtain ⟨h1, h2⟩ := h
 refine ⟨by rw [List.length_set]; exact h1, ?_⟩
 rcases h2 with ⟨h2, _⟩ | ⟨g', cur, h2, hb, hg, hl, ht⟩
 ·rw [hA] at h2; cases h2
 ·have h2' := h2
  rw [hA] at h2
  injection h2 with h2
  injection h2 with h2
  subst h2
  refine .inr ⟨g, cur.setIfInBounds j v, hA, hb, heap_setCell_same w g j cur e v hg, by simpa using hl, ?_⟩
  rw [Array.toList_setIfInBounds, List.take_set, ht]
end
end Go.Proofs.YtinncdollpajkaaGreat
