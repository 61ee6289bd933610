/- Plain: a container restored from the blocks that are found and the parities of groups. No program. -/
import Derived.Test.YtdpchkelbcndaaaB
namespace Go.Proofs.Ytdpchkelbcndaaa
set_option linter.unusedVariables false
/-- The texts of the found blocks with numbers from a on, k many numbers. -/
def foundTo (fs : List (Int × Blk)) (a : Int) : Nat → List Bs
  | 0 => []
  | j + 1 => foundTo fs a j ++ (match firstF fs (a + j) with
    | some b => [b.text]
    | none => [])
/-- The numbers that are not found. -/
def lostTo (fs : List (Int × Blk)) (a : Int) : Nat → List Int
  | 0 => []
  | j + 1 => lostTo fs a j ++ (match firstF fs (a + j) with
    | some _ => []
    | none => [a + (j : Int)])
def builtOf (ls : List Bs) (p : Bs) (n : Int) : Option Bs := match rebuildT ls p with
  | some t => if parseOk t 0 = true ∧ (blkAt t 0).num = n ∧ endAt t 0 = t.length then some t else none
  | none => none
/-- The bytes of the block with number n, of a group of k from a on. -/
def txtN (fs : List (Int × Blk)) (p : Bs) (a : Int) (k : Nat) (n : Int) : Option Bs := match firstF fs n with
  | some b => some b.text
  | none => if lostTo fs a k = [n] then builtOf (foundTo fs a k) p n else none
def catTo (f : Nat → Option Bs) : Nat → Option Bs
  | 0 => some []
  | n + 1 => match catTo f n with
    | some x => (match f n with
      | some t => some (x ++ t)
      | none => none)
    | none => none
theorem catTo_step {f : Nat → Option Bs} {n : Nat} {x t : Bs} (h : catTo f n = some x) (h1 : f n = some t) : catTo f (n + 1) = some (x ++ t) := by
  unfold catTo; rw [h]; simp only; rw [h1]
theorem catTo_stop {f : Nat → Option Bs} {n : Nat} (h : f n = none) : ∀ k, n < k → catTo f k = none := by
  intro k
  induction k with
  | zero => intro hk; omega
  | succ k ih =>
    intro hk
    unfold catTo
    by_cases e : n = k
    · subst e
      cases catTo f n with
      | none => rfl
      | some x => simp only; rw [h]
    · rw [ih (by omega)]
theorem catTo_add (f : Nat → Option Bs) (a : Nat) (x : Bs) (h : catTo f a = some x) : ∀ k, catTo f (a + k) = (catTo (fun j => f (a + j)) k).map (x ++ ·)
  | 0 => by simp [catTo, h]
  | k + 1 => by
    have ih := catTo_add f a x h k
    show catTo f (a + k + 1) = _
    unfold catTo
    rw [ih]
    cases catTo (fun j => f (a + j)) k with
    | none => rfl
    | some y =>
      simp only [Option.map_some]
      cases f (a + k) with
      | none => rfl
      | some t => simp
theorem catTo_congr {f g : Nat → Option Bs} : ∀ k, (∀ j, j < k → f j = g j) → catTo f k = catTo g k
  | 0, _ => rfl
  | k + 1, h => by
    unfold catTo
    rw [catTo_congr k (fun j hj => h j (by omega)), h k (by omega)]
theorem catTo_none {f : Nat → Option Bs} {n k : Nat} (h : catTo f n = none) (hk : n ≤ k) : catTo f k = none := by
  induction k with
  | zero => have : n = 0 := by omega
            subst this; exact h
  | succ k ih =>
    by_cases e : n = k + 1
    · subst e; exact h
    · unfold catTo; rw [ih (by omega)]
theorem lostTo_mem (fs : List (Int × Blk)) (a : Int) : ∀ (k : Nat) (n : Int), n ∈ lostTo fs a k → ∃ j : Nat, j < k ∧ n = a + j ∧ firstF fs n = none
  | 0, n, h => by cases h
  | k + 1, n, h => by
    unfold lostTo at h
    rcases List.mem_append.1 h with h | h
    · obtain ⟨j, h1, h2, h3⟩ := lostTo_mem fs a k n h
      exact ⟨j, by omega, h2, h3⟩
    · split at h
      · cases h
      · rename_i hn
        simp at h
        subst h
        exact ⟨k, by omega, rfl, hn⟩
theorem lostTo_of (fs : List (Int × Blk)) (a : Int) : ∀ (k j : Nat), j < k → firstF fs (a + j) = none → a + (j : Int) ∈ lostTo fs a k
  | 0, j, h, _ => by omega
  | k + 1, j, h, hn => by
    unfold lostTo
    by_cases e : j = k
    · subst e; rw [hn]; simp
    · exact List.mem_append_left _ (lostTo_of fs a k j (by omega) hn)
theorem lostTo_step_some {fs : List (Int × Blk)} {a : Int} {j : Nat} {b : Blk} (h : firstF fs (a + j) = some b) : lostTo fs a (j + 1) = lostTo fs a j ∧ foundTo fs a (j + 1) = foundTo fs a j ++ [b.text] := by
  constructor
  · rw [lostTo, h]; simp
  · rw [foundTo, h]
theorem lostTo_step_none {fs : List (Int × Blk)} {a : Int} {j : Nat} (h : firstF fs (a + j) = none) : lostTo fs a (j + 1) = lostTo fs a j ++ [a + (j : Int)] ∧ foundTo fs a (j + 1) = foundTo fs a j := by
  constructor
  · rw [lostTo, h]
  · rw [foundTo, h]; simp
theorem lostTo_prefix (fs : List (Int × Blk)) (a : Int) (j : Nat) : ∀ k, ∃ r, lostTo fs a (j + k) = lostTo fs a j ++ r
  | 0 => ⟨[], by simp⟩
  | k + 1 => by
    obtain ⟨r, h⟩ := lostTo_prefix fs a j k
    refine ⟨r ++ (match firstF fs (a + (j + k : Nat)) with | some _ => [] | none => [a + ((j + k : Nat) : Int)]), ?_⟩
    show lostTo fs a (j + k + 1) = _
    conv => lhs; unfold lostTo
    rw [h, List.append_assoc]
/-- Two numbers of a group are lost: none of its bytes. -/
theorem group_two {fs : List (Int × Blk)} {p : Bs} {a : Int} {k : Nat} {n m : Int} {r : List Int} (h : lostTo fs a k = n :: m :: r) : catTo (fun j => txtN fs p a k (a + (j : Int))) k = none := by
  obtain ⟨j, h1, h2, h3⟩ := lostTo_mem fs a k n (by rw [h]; simp)
  refine catTo_stop (n := j) ?_ k h1
  show txtN fs p a k (a + (j : Int)) = none
  rw [← h2]
  unfold txtN
  rw [h3]
  simp only
  rw [if_neg (by rw [h]; simp)]
theorem foundTo_length (fs : List (Int × Blk)) (a : Int) : ∀ k, (foundTo fs a k).length ≤ k
  | 0 => by simp [foundTo]
  | k + 1 => by
    have := foundTo_length fs a k
    unfold foundTo
    rw [List.length_append]
    split <;> simp <;> omega
/-- Where the group of number n begins, and how many it has. -/
def grpA (g : Int) (n : Nat) : Int := (n : Int) / g * g
def grpK (g c : Int) (n : Nat) : Nat := (min (((n : Int) / g + 1) * g) c - (n : Int) / g * g).toNat
def repTxt (fs : List (Int × Blk)) (par : List Bs) (g c : Int) (n : Nat) : Option Bs := txtN fs (par.getD ((n : Int) / g).toNat []) (grpA g n) (grpK g c n) n
def repairB (l : Bs) (par : List Bs) (g c : Int) : Option Bs :=
  if l.length ≤ 8000 ∧ 1 ≤ g ∧ g ≤ 40 ∧ 0 ≤ c ∧ c ≤ 40 ∧ (par.length : Int) = (c + g - 1) / g then
    match catTo (repTxt (findB l) par g c) c.toNat with
    | some x => if (blocksB x).isSome = true then some x else none
    | none => none
  else none
/-- The numbers of group i. -/
theorem grp_of {g c i : Int} (hg : 1 ≤ g) (hi : 0 ≤ i) {j : Nat} (hj : (j : Int) < g) : ((i * g).toNat + j : Nat) / g = i ∧ (((i * g).toNat + j : Nat) : Int) = i * g + j := by
  have h0 : 0 ≤ i * g := Int.mul_nonneg hi (by omega)
  have h1 : (((i * g).toNat + j : Nat) : Int) = i * g + j := by omega
  refine ⟨?_, h1⟩
  rw [h1, Int.add_comm, Int.add_mul_ediv_right _ _ (by omega), Int.ediv_eq_zero_of_lt (by omega) hj]
  omega
theorem repTxt_grp {fs : List (Int × Blk)} {par : List Bs} {g c i : Int} (hg : 1 ≤ g) (hi : 0 ≤ i) {j : Nat} (hj : (j : Int) < g) :
    repTxt fs par g c ((i * g).toNat + j) = txtN fs (par.getD i.toNat []) (i * g) (min ((i + 1) * g) c - i * g).toNat (i * g + j) := by
  have h := grp_of (c := c) hg hi hj
  unfold repTxt grpA grpK
  rw [h.1, h.2]
end Go.Proofs.Ytdpchkelbcndaaa
