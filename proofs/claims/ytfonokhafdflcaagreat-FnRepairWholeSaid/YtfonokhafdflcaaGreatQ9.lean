/- Plain: the blocks of data, made with what is known. -/
import Derived.Test.YtfonokhafdflcaaGreatGS4
import Derived.Test.YtfonokhafdflcaaGreatGP2
import Derived.Test.YtfonokhafdflcaaGreatGB
namespace Go.Proofs.YtfonokhafdflcaaGreat
open Go.RowKit
set_option linter.unusedSimpArgs false
set_option linter.unusedVariables false
/-- The block of data. -/
def blkK (K : Kn) (n : Int) (d : Bs) : Blk := match compO K d with
  | some s => if s.length < d.length then ⟨n, false, d.length, s⟩ else ⟨n, true, d.length, d⟩
  | none => ⟨n, true, d.length, d⟩
theorem blkK_W (o l m : Int) (dict : Bs) (n : Int) (d : Bs) : blkW o l m dict n d = blkK (startW o l m dict) n d := rfl
theorem blkK_some {K : Kn} {n : Int} {d s : Bs} (h : compO K d = some s) : blkK K n d = if s.length < d.length then ⟨n, false, d.length, s⟩ else ⟨n, true, d.length, d⟩ := by unfold blkK; rw [h]
theorem blkK_none {K : Kn} {n : Int} {d : Bs} (h : compO K d = none) : blkK K n d = ⟨n, true, d.length, d⟩ := by unfold blkK; rw [h]
theorem blkK_size (K : Kn) (n : Int) (d : Bs) : (blkK K n d).size = d.length := by
  unfold blkK
  split
  · split <;> rfl
  · rfl
theorem blkK_num (K : Kn) (n : Int) (d : Bs) (k : Int) : ({ blkK K n d with num := k } : Blk) = blkK K k d := by
  unfold blkK
  split
  · split <;> rfl
  · rfl
theorem bits_pos (K : Kn) (c : Int) (r : List Int) (hw : 1 ≤ K.width) : 1 ≤ (K.bits (c :: r)).length := by
  unfold Kn.bits
  rw [walk_cons, List.zip_cons_cons, List.flatMap_cons, List.length_append, codeBits_length]
  simp only
  omega
theorem comp_pos {K : Kn} (hk : K.ok) (d : Bs) : 1 ≤ (K.comp d).length := by
  unfold Kn.comp
  rw [packB_length]
  have h : 1 ≤ (K.bits (K.greedy d)).length := by unfold Kn.greedy; exact bits_pos K _ _ (width_bd hk).1
  omega
theorem blkK_ok {K : Kn} (hk : K.ok) {n : Int} (h0 : 0 ≤ n) (h1 : n < 40) {d : Bs} (hd0 : 1 ≤ d.length) (hd1 : d.length ≤ 64) : (blkK K n d).ok = true := by
  have hr : (⟨n, true, (d.length : Int), d⟩ : Blk).ok = true := by rw [Blk.ok_iff]; simp; omega
  cases hc : compO K d with
  | none => rw [blkK_none hc]; exact hr
  | some s =>
    rw [blkK_some hc]
    split
    · rename_i hs
      have hp : 1 ≤ s.length := by
        unfold compO at hc
        split at hc
        · injection hc with hc; rw [← hc]; exact comp_pos hk d
        · cases hc
      rw [Blk.ok_iff]; simp; omega
    · exact hr
/-- Data in parts of so many bytes. -/
def chunks (size : Nat) : Nat → Bs → List Bs
  | 0, _ => []
  | n + 1, d => if d = [] then [] else d.take size :: chunks size n (d.drop size)
theorem chunks_nil (size n : Nat) : chunks size n [] = [] := by
  cases n with
  | zero => rfl
  | succ n => unfold chunks; rw [if_pos rfl]
theorem chunks_go (size n : Nat) {d : Bs} (h : d ≠ []) : chunks size (n + 1) d = d.take size :: chunks size n (d.drop size) := by rw [chunks, if_neg h]
theorem chunks_bd (size : Nat) (hs : 1 ≤ size) : ∀ (n : Nat) (d : Bs), ∀ x ∈ chunks size n d, 1 ≤ x.length ∧ x.length ≤ size
  | 0, d, x, h => by cases h
  | n + 1, d, x, h => by
    by_cases hd : d = []
    · rw [hd, chunks_nil] at h; cases h
    · have hp := List.length_pos_iff.2 hd
      rw [chunks_go _ _ hd] at h
      rcases List.mem_cons.1 h with rfl | h
      · rw [List.length_take]; omega
      · exact chunks_bd size hs n _ x h
theorem chunks_len (size : Nat) (hs : 1 ≤ size) : ∀ (k n : Nat) (d : Bs), d.length ≤ k * size → (chunks size n d).length ≤ k
  | 0, n, d, h => by
    have : d = [] := List.eq_nil_of_length_eq_zero (by omega)
    rw [this, chunks_nil]; simp
  | k + 1, 0, d, h => by simp [chunks]
  | k + 1, n + 1, d, h => by
    by_cases hd : d = []
    · rw [hd, chunks_nil]; simp
    · rw [chunks_go _ _ hd, List.length_cons]
      have := chunks_len size hs k n (d.drop size) (by rw [List.length_drop]; rw [Nat.add_mul] at h; omega)
      omega
theorem chunks_sum (size : Nat) (hs : 1 ≤ size) : ∀ (n : Nat) (d : Bs), d.length ≤ n → ((chunks size n d).flatten = d)
  | 0, d, h => by
    have : d = [] := List.eq_nil_of_length_eq_zero (by omega)
    rw [this]; rfl
  | n + 1, d, h => by
    by_cases hd : d = []
    · rw [hd, chunks_nil]; rfl
    · have hp := List.length_pos_iff.2 hd
      rw [chunks_go _ _ hd, List.flatten_cons, chunks_sum size hs n _ (by rw [List.length_drop]; omega), List.take_append_drop]
/-- The blocks of data, with the number 0. -/
def mks (K : Kn) (size n : Nat) (d : Bs) : List Blk := (chunks size n d).map (blkK K 0)
theorem mks_nil (K : Kn) (size n : Nat) : mks K size n [] = [] := by unfold mks; rw [chunks_nil]; rfl
theorem mks_go (K : Kn) (size n : Nat) {d : Bs} (h : d ≠ []) : mks K size (n + 1) d = blkK K 0 (d.take size) :: mks K size n (d.drop size) := by unfold mks; rw [chunks_go _ _ h]; rfl
theorem mks_ok {K : Kn} (hk : K.ok) (size n : Nat) (hs : 1 ≤ size) (hs2 : size ≤ 64) (d : Bs) : ∀ b ∈ mks K size n d, b.ok = true := by
  intro b hb
  unfold mks at hb
  obtain ⟨x, hx, rfl⟩ := List.mem_map.1 hb
  have h := chunks_bd size hs n d x hx
  exact blkK_ok hk (by omega) (by omega) h.1 (by omega)
theorem sizes_mks (K : Kn) (ls : List Bs) : sizesOf (ls.map (blkK K 0)) = (ls.flatten.length : Int) := by
  induction ls with
  | nil => rfl
  | cons x ls ih => rw [List.map_cons, sizesOf_consX, ih, blkK_size, List.flatten_cons, List.length_append]; omega
theorem mks_sizes (K : Kn) (size n : Nat) (hs : 1 ≤ size) (d : Bs) (h : d.length ≤ n) : sizesOf (mks K size n d) = (d.length : Int) := by
  unfold mks; rw [sizes_mks, chunks_sum size hs n d h]
/-- Blocks numbered from f on. -/
def numB : Nat → List Blk → List Blk
  | _, [] => []
  | f, b :: bs => { b with num := (f : Int) } :: numB (f + 1) bs
theorem numB_length (f : Nat) (bs : List Blk) : (numB f bs).length = bs.length := by
  induction bs generalizing f with
  | nil => rfl
  | cons b bs ih => simp [numB, ih]
theorem numB_snoc (f : Nat) (bs : List Blk) (b : Blk) : numB f (bs ++ [b]) = numB f bs ++ [{ b with num := ((f + bs.length : Nat) : Int) }] := by
  induction bs generalizing f with
  | nil => simp [numB]
  | cons c bs ih => rw [List.cons_append, numB, ih, numB, List.cons_append, List.length_cons]; congr 4; omega
theorem numB_sizes (f : Nat) (bs : List Blk) : sizesOf (numB f bs) = sizesOf bs := by
  induction bs generalizing f with
  | nil => rfl
  | cons b bs ih => rw [numB, sizesOf_consX, sizesOf_consX, ih]
theorem ok_num {b : Blk} (h : b.ok = true) {n : Int} (h0 : 0 ≤ n) (h1 : n < 40) : ({ b with num := n } : Blk).ok = true := by
  rw [Blk.ok_iff] at *
  obtain ⟨x, r, s, t⟩ := b
  simp only at *
  exact ⟨h0, h1, h.2.2⟩
theorem mkGo_mks (o l m : Int) (dict : Bs) (size : Nat) : ∀ (n f : Nat) (d : Bs), mkGo o l m dict size n f d = catT (numB f (mks (startW o l m dict) size n d))
  | 0, f, d => rfl
  | n + 1, f, d => by
    by_cases hd : d = []
    · rw [hd, mkGo_nil, mks_nil]; rfl
    · rw [mkGo_go _ _ _ _ _ _ _ _ hd, mks_go _ _ _ hd, numB, catT_cons, blkK_num, mkGo_mks o l m dict size n (f + 1), blkK_W]
/-- The container that blocks make. -/
def mcO (bs : List Blk) : Option Bs := if bs.length ≤ 40 ∧ sizesOf bs ≤ 2000 then some (catT (numB 0 bs)) else none
theorem mcO_mks (o l m : Int) (dict d : Bs) (size : Nat) (hs : 1 ≤ size) (hl : d.length ≤ 40 * size) (h2 : d.length ≤ 2000) : mcO (mks (startW o l m dict) size d.length d) = some (mkB o l m dict size 0 d) := by
  unfold mcO
  rw [if_pos ⟨by unfold mks; rw [List.length_map]; exact chunks_len size hs 40 _ d hl, by rw [mks_sizes _ _ _ hs d (Nat.le_refl _)]; omega⟩]
  unfold mkB
  rw [mkGo_mks]
end Go.Proofs.YtfonokhafdflcaaGreat
