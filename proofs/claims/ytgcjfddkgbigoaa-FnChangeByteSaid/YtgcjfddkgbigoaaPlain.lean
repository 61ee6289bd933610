/- Plain words: checksums, pairs of bytes, blocks. No program. -/
import Derived.Test.YtgcjfddkgbigoaaKit
namespace Go.Proofs.Ytgcjfddkgbigoaa
open Go.RowKit

abbrev Bs := List UInt8

theorem snoc_ind {α : Type} {P : List α → Prop} (h0 : P []) (h1 : ∀ l a, P l → P (l ++ [a])) (l : List α) : P l := by
  have key : ∀ m : List α, P m.reverse := by
    intro m
    induction m with
    | nil => exact h0
    | cons a m ih => rw [List.reverse_cons]; exact h1 _ _ ih
  have := key l.reverse
  rwa [List.reverse_reverse] at this


def sumA (l : Bs) : Int := l.foldl (fun a c => (a + (c.toNat : Int)) % 255) 0
def sumStep (p : Int × Int) (c : UInt8) : Int × Int := ((p.1 + (c.toNat : Int)) % 255, (p.2 + (p.1 + (c.toNat : Int)) % 255) % 255)
def sumP (l : Bs) : Int × Int := l.foldl sumStep (0, 0)
def sumOf (l : Bs) : Int := 256 * (sumP l).2 + (sumP l).1

theorem sumP_bd (l : Bs) : 0 ≤ (sumP l).1 ∧ (sumP l).1 < 255 ∧ 0 ≤ (sumP l).2 ∧ (sumP l).2 < 255 := by
  unfold sumP
  suffices h : ∀ (l : Bs) (p : Int × Int), (0 ≤ p.1 ∧ p.1 < 255 ∧ 0 ≤ p.2 ∧ p.2 < 255) → (0 ≤ (l.foldl sumStep p).1 ∧ (l.foldl sumStep p).1 < 255 ∧ 0 ≤ (l.foldl sumStep p).2 ∧ (l.foldl sumStep p).2 < 255) from
    h l _ ⟨by decide, by decide, by decide, by decide⟩
  intro l
  induction l with
  | nil => intro p h; exact h
  | cons c l ih =>
    intro p h
    apply ih
    unfold sumStep
    refine ⟨?_, ?_, ?_, ?_⟩ <;> simp <;> omega

theorem sumOf_bd (l : Bs) : 0 ≤ sumOf l ∧ sumOf l < 65536 := by
  have := sumP_bd l; unfold sumOf; omega

theorem take_snoc' (l : Bs) (k : Nat) (h : k < l.length) : l.take (k + 1) = l.take k ++ [l[k]] := by
  rw [List.take_succ_eq_append_getElem h]

theorem sumP_snoc (l : Bs) (k : Nat) (h : k < l.length) : sumP (l.take (k + 1)) = sumStep (sumP (l.take k)) l[k] := by
  unfold sumP; rw [take_snoc' l k h, List.foldl_append]; rfl

/-- Two bytes as a number. -/
def numAt (l : Bs) (i : Int) : Int := byteAt l i * 256 + byteAt l (i + 1)
theorem numAt_bd (l : Bs) (i : Int) : 0 ≤ numAt l i ∧ numAt l i ≤ 65535 := by
  have h1 := byteAt_nonneg l i; have h2 := byteAt_le l i; have h3 := byteAt_nonneg l (i + 1); have h4 := byteAt_le l (i + 1)
  unfold numAt; omega

def two (n : Int) : Bs := [UInt8.ofNat (n / 256 % 256).toNat, UInt8.ofNat (n % 256).toNat]

structure Blk where
  num : Int
  raw : Bool
  size : Int
  body : Bs

def Blk.ok (b : Blk) : Bool := decide (0 ≤ b.num ∧ b.num < 40 ∧ 1 ≤ b.size ∧ b.size ≤ 64 ∧ (if b.raw then (b.body.length : Int) = b.size else 1 ≤ b.body.length ∧ (b.body.length : Int) < b.size))

/-! ### Names and operations -/
def nameB (c : UInt8) : Bool := 97 ≤ c && c ≤ 122
def nameV (l : Bs) : Bool := decide (1 ≤ l.length ∧ l.length ≤ 8) && l.all nameB

theorem nameB_iff (l : Bs) (k : Nat) (h : k < l.length) : nameB l[k] = decide (97 ≤ byteAt l k ∧ byteAt l k ≤ 122) := by
  rw [byteAt_nat l k h, nameB, Bool.eq_iff_iff]
  simp [UInt8.le_iff_toNat_le]
  omega

theorem all_take_snoc (p : UInt8 → Bool) (l : Bs) (k : Nat) (h : k < l.length) : (l.take (k + 1)).all p = ((l.take k).all p && p l[k]) := by
  rw [take_snoc' l k h, List.all_append]; simp

theorem all_false_of (p : UInt8 → Bool) (l : Bs) (k : Nat) (h : k < l.length) (hp : p l[k] = false) : l.all p = false := by
  rw [Bool.eq_false_iff]
  intro ha
  rw [List.all_eq_true] at ha
  have := ha _ (List.getElem_mem h)
  rw [hp] at this; cases this

def opOk (k : Int) (nm : Bs) (f t s : Int) (d : Bs) : Prop :=
  nameV nm = true ∧ d.length ≤ 2000 ∧
    (((k = 0 ∨ k = 1) ∧ 1 ≤ s ∧ s ≤ 64 ∧ f = 0 ∧ t = 0) ∨ (k = 2 ∧ 1 ≤ s ∧ s ≤ 64 ∧ 0 ≤ f ∧ f ≤ t ∧ t ≤ 2000) ∨
      (k = 3 ∧ 1 ≤ s ∧ s ≤ 64 ∧ f = 0 ∧ t = 0 ∧ d = []) ∨ (k = 4 ∧ s = 0 ∧ f = 0 ∧ t = 0 ∧ d = []))
instance (k : Int) (nm : Bs) (f t s : Int) (d : Bs) : Decidable (opOk k nm f t s d) := by unfold opOk; infer_instance

theorem ret_bool {a b : Bool} (h : a = b) : Ending.returned (.bool a) = Ending.returned (.bool b) := by rw [h]
theorem ret_int {k : IntKind} {a b : Int} (h : a = b) : Ending.returned (.int k a) = Ending.returned (.int k b) := by rw [h]
theorem ret_S {a b : Bs} (h : a = b) : Ending.returned (.string ⟨a.toArray⟩) = Ending.returned (.string ⟨b.toArray⟩) := by rw [h]

theorem belowN {B : Nat} {a w : World} (h : Below B a w) (n : Nat) : Below B a (w.drewN n) := ⟨h.os, h.tape, h.output, h.size, h.block⟩
theorem below_of_class {w w2 : World} (h : ∃ p : Regrown, w2 = Go.Sort.grow (redrawn w p.d) p.os) : Below w.heap.size w w2 := by
  obtain ⟨⟨d, os⟩, rfl⟩ := h
  exact below_regrown _ _ _
/-- A block of the call's own, in every world of the class that a region with calls ranges over. -/
theorem box_class {W : World} {b : Nat} {cs : Array Value} (hB : ∀ i, W.cell? ⟨b, i, none⟩ = cs[i]?) (hlt : b < W.heap.size) : ∀ d os i, (Go.Sort.grow (redrawn W d) os).cell? ⟨b, i, none⟩ = cs[i]? :=
  fun d os i => ((below_regrown W d os).cell (p := ⟨b, i, none⟩) hlt).trans (hB i)
theorem World.drewN_below (w : World) (n : Nat) : Below w.heap.size w (w.drewN n) := ⟨rfl, rfl, rfl, Nat.le_refl _, fun _ _ => rfl⟩
/-- A block of the call's own, whole, behind a callee. -/
theorem box_keep {W w1 : World} {b : Nat} {cs : Array Value} (hB : ∀ i, W.cell? ⟨b, i, none⟩ = cs[i]?) (hb : Below W.heap.size W w1) (hlt : b < W.heap.size) : ∀ i, w1.cell? ⟨b, i, none⟩ = cs[i]? :=
  fun i => (hb.cell (p := ⟨b, i, none⟩) hlt).trans (hB i)
theorem box_free {W w1 : World} {b : Nat} (hF : ∀ i, W.frozen? ⟨b, i, none⟩ = false) (hb : Below W.heap.size W w1) (hlt : b < W.heap.size) : ∀ i, w1.frozen? ⟨b, i, none⟩ = false :=
  fun i => (hb.frozen (p := ⟨b, i, none⟩) hlt).trans (hF i)
theorem box_past {W : World} {b : Nat} {cs : Array Value} (hB : ∀ i, W.cell? ⟨b, i, none⟩ = cs[i]?) (hlt : b < W.heap.size) (o : Obj) : ∀ i, (W.alloc o).cell? ⟨b, i, none⟩ = cs[i]? :=
  fun i => (World.cell?_alloc_past o b i hlt).trans (hB i)
theorem box_new (w : World) (cs : Array Value) (t : TypeId) : ∀ i, (w.alloc (.cells cs t)).cell? ⟨w.heap.size, i, none⟩ = cs[i]? := fun _ => World.cell?_alloc_at _ _ _ _ rfl
theorem bcell {W w1 : World} (hb : Below W.heap.size W w1) : (∀ b o, b < W.heap.size → w1.cell? ⟨b, o, none⟩ = W.cell? ⟨b, o, none⟩) ∧ (∀ b o, b < W.heap.size → w1.frozen? ⟨b, o, none⟩ = W.frozen? ⟨b, o, none⟩) :=
  ⟨fun b o h => hb.cell (p := ⟨b, o, none⟩) h, fun b o h => hb.frozen (p := ⟨b, o, none⟩) h⟩
/-! ### Settings -/
def stOk (o l m : Int) : Prop := (o = 0 ∨ o = 1) ∧ 1 ≤ l ∧ l ≤ 8 ∧ l + 2 ≤ m ∧ m ≤ 10
instance (o l m : Int) : Decidable (stOk o l m) := by unfold stOk; infer_instance
def pow2 (n : Int) : Int := 2 ^ n.toNat
theorem pow2_bd (n : Int) (h0 : 0 ≤ n) (h : n ≤ 16) : 1 ≤ pow2 n ∧ pow2 n ≤ 65536 := by
  obtain ⟨k, rfl⟩ := Int.eq_ofNat_of_zero_le h0
  have hk : k ≤ 16 := by omega
  unfold pow2
  simp only [Int.toNat_natCast]
  match k, hk with
  | 0, _ | 1, _ | 2, _ | 3, _ | 4, _ | 5, _ | 6, _ | 7, _ | 8, _ | 9, _ | 10, _ | 11, _ | 12, _ | 13, _ | 14, _ | 15, _ | 16, _ => decide
theorem wrap64_pow2 (n : Int) (h0 : 0 ≤ n) (h : n ≤ 16) : wrap64 (2 ^ n.toNat) = pow2 n := by
  have := pow2_bd n h0 h
  show wrap64 (pow2 n) = pow2 n
  exact IntWalk.wrap64_in _ ⟨by omega, by omega⟩
def litB (l : Int) (c : UInt8) : Bool := decide ((c.toNat : Int) < pow2 l)
theorem litB_iff (n : Int) (l : Bs) (k : Nat) (h : k < l.length) : litB n l[k] = decide (byteAt l k < pow2 n) := by rw [byteAt_nat l k h]; rfl
def fits (o l m : Int) (d : Bs) : Prop := stOk o l m ∧ d.length ≤ 2000 ∧ d.all (litB l) = true
instance (o l m : Int) (d : Bs) : Decidable (fits o l m d) := by unfold fits; infer_instance

end Go.Proofs.Ytgcjfddkgbigoaa
