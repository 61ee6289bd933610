import Derived.Test.YtfonokhafdflcaaGreatGU1
import Derived.Test.YtfonokhafdflcaaGreatPr
import Derived.Test.YtfonokhafdflcaaGreatGP4
import Derived.Deep.Cut
/- Plain: pieces of a count; the lost numbers; the joined data. -/
namespace Go.Proofs.YtfonokhafdflcaaGreat
open Go.RowKit
set_option linter.unusedVariables false
set_option linter.unusedSimpArgs false
set_option maxRecDepth 100000
/-- These are pieces of a count. -/
def PV (ps : List Pc) (c : Int) : Prop := 0 ≤ c ∧ c ≤ 40 ∧ PcOk ps c
open Classical in
noncomputable def PVb (ps : List Pc) (c : Int) : Bool := decide (PV ps c)
theorem PVb_yes {ps : List Pc} {c : Int} (h : PV ps c) : PVb ps c = true := by unfold PVb; simpa using h
theorem PVb_no {ps : List Pc} {c : Int} (h : ¬ PV ps c) : PVb ps c = false := by unfold PVb; simpa using h
/-- Piece i is as it should be. -/
def pcFine (ps : List Pc) (c : Int) (i : Nat) (h : i < ps.length) : Prop := 0 ≤ ps[i].1 ∧ ps[i].1 < c ∧ 1 ≤ ps[i].2.length ∧ ps[i].2.length ≤ 64 ∧ ∀ h0 : 0 < i, (ps[i - 1]'(by omega)).1 < ps[i].1
theorem PcOk_iff (ps : List Pc) (c : Int) : PcOk ps c ↔ ∀ (i : Nat) (h : i < ps.length), pcFine ps c i h := by
  constructor
  · intro h i hi
    have h1 := h.1 i hi
    refine ⟨h1.1, h1.2.1, h1.2.2.1, h1.2.2.2, fun h0 => ?_⟩
    have h2 := h.2 (i - 1) (by omega)
    simpa [show i - 1 + 1 = i by omega] using h2
  · intro h
    refine ⟨fun i hi => ?_, fun i hi => ?_⟩
    · have h1 := h i hi
      exact ⟨h1.1, h1.2.1, h1.2.2.1, h1.2.2.2.1⟩
    · have h1 := (h (i + 1) hi).2.2.2.2 (by omega)
      simpa using h1
theorem PcOk_asc {ps : List Pc} {c : Int} (h : PcOk ps c) : ∀ (j i : Nat) (hj : j < ps.length) (hi : i < j), (ps[i]'(by omega)).1 < ps[j].1
  | 0, i, hj, hi => by omega
  | j + 1, i, hj, hi => by
    have h1 := h.2 j hj
    by_cases he : i = j
    · subst he; exact h1
    · have := PcOk_asc h j i (by omega) (by omega); omega
/-- The number before piece k; -1 before the first. -/
def bef (ps : List Pc) (k : Nat) : Int := if k = 0 then -1 else (ps[k - 1]?.getD (0, [])).1
theorem bef_succ {ps : List Pc} {k : Nat} (h : k < ps.length) : bef ps (k + 1) = ps[k].1 := by
  unfold bef; rw [if_neg (by omega), Nat.add_sub_cancel, List.getElem?_eq_getElem h]; rfl
theorem fine_bef {ps : List Pc} {c : Int} {k : Nat} (hA : ∀ (i : Nat) (h : i < ps.length), i < k → pcFine ps c i h) (hk : k < ps.length) :
    pcFine ps c k hk ↔ bef ps k < ps[k].1 ∧ ps[k].1 < c ∧ 1 ≤ ps[k].2.length ∧ ps[k].2.length ≤ 64 := by
  unfold pcFine bef
  by_cases h0 : k = 0
  · subst h0
    rw [if_pos rfl]
    constructor
    · rintro ⟨a, b, c, d, _⟩; exact ⟨by omega, b, c, d⟩
    · rintro ⟨a, b, c, d⟩; exact ⟨by omega, b, c, d, fun h => by omega⟩
  · rw [if_neg h0, List.getElem?_eq_getElem (by omega)]
    simp only [Option.getD_some]
    have h1 := (hA (k - 1) (by omega) (by omega)).1
    constructor
    · rintro ⟨a, b, c, d, e⟩; exact ⟨e (by omega), b, c, d⟩
    · rintro ⟨a, b, c, d⟩; exact ⟨by omega, b, c, d, fun _ => a⟩
theorem bef_bd {ps : List Pc} {c : Int} {k : Nat} (hA : ∀ (i : Nat) (h : i < ps.length), i < k → pcFine ps c i h) (hk : k ≤ ps.length) (hc : c ≤ 1000) : -1 ≤ bef ps k ∧ bef ps k ≤ 1000 := by
  unfold bef
  split
  · omega
  · rw [List.getElem?_eq_getElem (by omega)]
    have := hA (k - 1) (by omega) (by omega)
    unfold pcFine at this
    simp only [Option.getD_some]
    omega
theorem PV_all {ps : List Pc} {c : Int} (h0 : 0 ≤ c) (h1 : c ≤ 40) (hA : ∀ (i : Nat) (h : i < ps.length), i < ps.length → pcFine ps c i h) : PV ps c :=
  ⟨h0, h1, (PcOk_iff ps c).2 fun i h => hA i h h⟩
theorem PV_not {ps : List Pc} {c : Int} {k : Nat} (hk : k < ps.length) (h : ¬ pcFine ps c k hk) : ¬ PV ps c := fun hp => h ((PcOk_iff ps c).1 hp.2.2 k hk)
theorem fine_succ {ps : List Pc} {c : Int} {k : Nat} (hA : ∀ (i : Nat) (h : i < ps.length), i < k → pcFine ps c i h) (hk : k < ps.length) (hf : pcFine ps c k hk) : ∀ (i : Nat) (h : i < ps.length), i < k + 1 → pcFine ps c i h := by
  intro i h hi
  by_cases he : i = k
  · subst he; exact hf
  · exact hA i h (by omega)
/-- The data of the piece with a number. -/
def hasP (ps : List Pc) (n : Int) : Option Bs := (ps.find? fun p => decide (p.1 = n)).map (·.2)
theorem hasP_none {ps : List Pc} {n : Int} (h : ∀ (i : Nat) (hi : i < ps.length), ps[i].1 ≠ n) : hasP ps n = none := by
  unfold hasP
  rw [Option.map_eq_none_iff, List.find?_eq_none]
  intro p hp
  obtain ⟨i, hi, rfl⟩ := List.getElem_of_mem hp
  simpa using h i hi
theorem hasP_some {ps : List Pc} {n : Int} {i : Nat} (hi : i < ps.length) (he : ps[i].1 = n) (hb : ∀ (j : Nat) (hj : j < i), (ps[j]'(by omega)).1 ≠ n) : hasP ps n = some ps[i].2 := by
  unfold hasP
  have h : ps.find? (fun p => decide (p.1 = n)) = some ps[i] := by
    rw [List.find?_eq_some_iff_getElem]
    exact ⟨by simpa using he, i, hi, rfl, fun j hj => by simpa using hb j hj⟩
  rw [h]; rfl
theorem hasP_take {ps : List Pc} {n : Int} {k : Nat} (hk : k < ps.length) (h : hasP (ps.take k) n = none) (hn : ps[k].1 ≠ n) : hasP (ps.take (k + 1)) n = none := by
  refine hasP_none fun i hi => ?_
  simp at hi
  rw [List.getElem_take]
  by_cases he : i = k
  · subst he; exact hn
  · intro e
    have hi2 : i < (ps.take k).length := by simp; omega
    unfold hasP at h
    rw [Option.map_eq_none_iff, List.find?_eq_none] at h
    have := h (ps.take k)[i] (List.getElem_mem hi2)
    rw [List.getElem_take] at this
    simp [e] at this
theorem hasP_first {ps : List Pc} {n : Int} {k : Nat} (hk : k < ps.length) (h : hasP (ps.take k) n = none) (hn : ps[k].1 = n) : hasP ps n = some ps[k].2 := by
  refine hasP_some hk hn fun j hj e => ?_
  have hj2 : j < (ps.take k).length := by simp; omega
  unfold hasP at h
  rw [Option.map_eq_none_iff, List.find?_eq_none] at h
  have := h (ps.take k)[j] (List.getElem_mem hj2)
  rw [List.getElem_take] at this
  simp [e] at this
theorem hasP_mem {ps : List Pc} {n : Int} {d : Bs} (h : hasP ps n = some d) : ∃ (i : Nat) (hi : i < ps.length), ps[i] = (n, d) := by
  unfold hasP at h
  cases hf : ps.find? (fun p => decide (p.1 = n)) with
  | none => rw [hf] at h; cases h
  | some p =>
    rw [hf] at h
    injection h with h
    have h1 := List.find?_some hf
    have h2 := List.mem_of_find?_eq_some hf
    obtain ⟨i, hi, e⟩ := List.getElem_of_mem h2
    refine ⟨i, hi, ?_⟩
    rw [e]
    simp at h1
    exact Prod.ext h1 h
theorem hasP_len {ps : List Pc} {n c : Int} {d : Bs} (ho : PcOk ps c) (h : hasP ps n = some d) : 1 ≤ d.length ∧ d.length ≤ 64 := by
  obtain ⟨i, hi, e⟩ := hasP_mem h
  have := (ho.1 i hi).2.2
  rw [e] at this
  exact this
/-- 'at' stands behind the pieces with numbers below n. -/
def AtN (ps : List Pc) (at_ : Nat) (n : Int) : Prop := at_ ≤ ps.length ∧ (∀ (i : Nat) (h : i < ps.length), i < at_ → ps[i].1 < n) ∧ ∀ (i : Nat) (h : i < ps.length), at_ ≤ i → n ≤ ps[i].1
theorem AtN_zero {ps : List Pc} {c : Int} (h : PcOk ps c) : AtN ps 0 0 := ⟨by omega, fun i h h' => by omega, fun i hi _ => (h.1 i hi).1⟩
theorem AtN_hit {ps : List Pc} {c : Int} (h : PcOk ps c) {at_ : Nat} {n : Int} (ha : AtN ps at_ n) (hl : at_ < ps.length) (he : ps[at_].1 = n) : hasP ps n = some ps[at_].2 ∧ AtN ps (at_ + 1) (n + 1) := by
  refine ⟨hasP_some hl he fun j hj => ?_, by omega, fun i hi h' => ?_, fun i hi h' => ?_⟩
  · have := ha.2.1 j (by omega) hj; omega
  · by_cases hq : i = at_
    · subst hq; omega
    · have := ha.2.1 i hi (by omega); omega
  · have := PcOk_asc h i at_ hi (by omega); omega
theorem AtN_miss {ps : List Pc} {c : Int} (h : PcOk ps c) {at_ : Nat} {n : Int} (ha : AtN ps at_ n) (hm : ∀ hl : at_ < ps.length, ps[at_].1 ≠ n) : hasP ps n = none ∧ AtN ps at_ (n + 1) := by
  have key : ∀ (i : Nat) (hi : i < ps.length), at_ ≤ i → n + 1 ≤ ps[i].1 := by
    intro i hi h'
    have h1 := ha.2.2 at_ (by omega) (Nat.le_refl _)
    have h2 := hm (by omega)
    by_cases hq : i = at_
    · subst hq; omega
    · have := PcOk_asc h i at_ hi (by omega); omega
  refine ⟨hasP_none fun i hi e => ?_, ha.1, fun i hi h' => ?_, key⟩
  · by_cases hq : i < at_
    · have := ha.2.1 i hi hq; omega
    · have := key i hi (by omega); omega
  · have := ha.2.1 i hi h'; omega
/-- The lost numbers below k. -/
def lstTo (ps : List Pc) (k : Nat) : List Int := ((List.range k).filter fun n : Nat => (hasP ps (n : Int)).isNone).map fun n : Nat => (n : Int)
theorem lstTo_hit {ps : List Pc} {k : Nat} {d : Bs} (h : hasP ps k = some d) : lstTo ps (k + 1) = lstTo ps k := by
  unfold lstTo; rw [List.range_succ, List.filter_append]; simp [h]
theorem lstTo_miss {ps : List Pc} {k : Nat} (h : hasP ps k = none) : lstTo ps (k + 1) = lstTo ps k ++ [(k : Int)] := by
  unfold lstTo; rw [List.range_succ, List.filter_append]; simp [h]
theorem lstTo_len (ps : List Pc) (k : Nat) : (lstTo ps k).length ≤ k := by
  unfold lstTo
  have := List.length_filter_le (fun n : Nat => (hasP ps (n : Int)).isNone) (List.range k)
  simpa using this
open Classical in
noncomputable def lostB (ps : List Pc) (c : Int) : List Int := if PV ps c then lstTo ps c.toNat else []
theorem lostB_no {ps : List Pc} {c : Int} (h : ¬ PV ps c) : lostB ps c = [] := by unfold lostB; rw [if_neg h]
theorem lostB_yes {ps : List Pc} {c : Int} (h : PV ps c) : lostB ps c = lstTo ps c.toNat := by unfold lostB; rw [if_pos h]
/-- The joined data of the first k numbers. -/
def joinTo (ps : List Pc) (s : Nat) (f : UInt8) (k : Nat) : Bs := (List.range k).flatMap fun n : Nat => (hasP ps (n : Int)).getD (List.replicate s f)
theorem joinTo_zero (ps : List Pc) (s : Nat) (f : UInt8) : joinTo ps s f 0 = [] := rfl
theorem joinTo_succ (ps : List Pc) (s : Nat) (f : UInt8) (k : Nat) : joinTo ps s f (k + 1) = joinTo ps s f k ++ (hasP ps (k : Int)).getD (List.replicate s f) := by
  unfold joinTo; rw [List.range_succ, List.flatMap_append]; simp
theorem joinTo_len {ps : List Pc} {c : Int} (ho : PcOk ps c) {s : Nat} (hs : s ≤ 64) (f : UInt8) : ∀ k, (joinTo ps s f k).length ≤ 64 * k
  | 0 => by simp [joinTo]
  | k + 1 => by
    have ih := joinTo_len ho hs f k
    rw [joinTo_succ, List.length_append]
    cases h : hasP ps (k : Int) with
    | none => simp; omega
    | some d => have := hasP_len ho h; simp; omega
/-- The joined data, or none. -/
def joinOk (ps : List Pc) (c s f : Int) : Prop := PV ps c ∧ 1 ≤ s ∧ s ≤ 64 ∧ 0 ≤ f ∧ f ≤ 255
open Classical in
noncomputable def joinB (ps : List Pc) (c s f : Int) : Option Bs := if joinOk ps c s f then some (joinTo ps s.toNat (UInt8.ofNat f.toNat) c.toNat) else none
theorem joinB_no {ps : List Pc} {c s f : Int} (h : ¬ joinOk ps c s f) : joinB ps c s f = none := by unfold joinB; rw [if_neg h]
theorem joinB_yes {ps : List Pc} {c s f : Int} (h : joinOk ps c s f) : joinB ps c s f = some (joinTo ps s.toNat (UInt8.ofNat f.toNat) c.toNat) := by unfold joinB; rw [if_pos h]
/-- Of the numbers below k, as many are lost as have no piece. -/
theorem lost_count {ps : List Pc} {c : Int} (ho : PcOk ps c) : ∀ k : Nat, ∃ a : Nat, AtN ps a k ∧ (lstTo ps k).length + a = k
  | 0 => ⟨0, AtN_zero ho, rfl⟩
  | k + 1 => by
    obtain ⟨a, ha, hl⟩ := lost_count ho k
    by_cases h : ∃ hl : a < ps.length, ps[a].1 = (k : Int)
    · obtain ⟨h1, h2⟩ := h
      obtain ⟨h3, h4⟩ := AtN_hit ho ha h1 h2
      exact ⟨a + 1, h4, by rw [lstTo_hit h3]; omega⟩
    · obtain ⟨h3, h4⟩ := AtN_miss ho ha fun h1 h2 => h ⟨h1, h2⟩
      exact ⟨a, h4, by rw [lstTo_miss h3]; simp; omega⟩
theorem lost_all {ps : List Pc} {c : Int} (h : PV ps c) : (lstTo ps c.toNat).length + ps.length = c.toNat := by
  obtain ⟨a, ha, hl⟩ := lost_count h.2.2 c.toNat
  have e : a = ps.length := by
    by_cases hq : a < ps.length
    · have h1 := ha.2.2 a hq (Nat.le_refl _)
      have h2 := (h.2.2.1 a hq).2.1
      have := h.1
      omega
    · have := ha.1; omega
  omega
theorem lstTo_asc (ps : List Pc) : ∀ k : Nat, (∀ x ∈ lstTo ps k, 0 ≤ x ∧ x < (k : Int) ∧ hasP ps x = none) ∧ (lstTo ps k).Pairwise (· < ·)
  | 0 => ⟨fun x hx => by simp [lstTo] at hx, by simp [lstTo]⟩
  | k + 1 => by
    obtain ⟨h1, h2⟩ := lstTo_asc ps k
    cases h : hasP ps (k : Int) with
    | some d => rw [lstTo_hit h]; exact ⟨fun x hx => by obtain ⟨a, b, c⟩ := h1 x hx; exact ⟨a, by omega, c⟩, h2⟩
    | none =>
      rw [lstTo_miss h]
      refine ⟨fun x hx => ?_, ?_⟩
      · rcases List.mem_append.1 hx with hx | hx
        · obtain ⟨a, b, c⟩ := h1 x hx; exact ⟨a, by omega, c⟩
        · simp at hx; subst hx; exact ⟨by omega, by omega, h⟩
      · rw [List.pairwise_append]
        refine ⟨h2, by simp, fun x hx y hy => ?_⟩
        simp at hy; subst hy
        exact (h1 x hx).2.1
end Go.Proofs.YtfonokhafdflcaaGreat
/- Walks: pieces of a count, the lost numbers, the joined data: by both. -/
namespace Go.Proofs.YtfonokhafdflcaaGreat
open Go.RowKit
set_option linter.unusedVariables false
set_option linter.unusedSimpArgs false
set_option maxRecDepth 100000
attribute [local go_sem high] run_index_S binOp_eql_S binOp_neq_S append_S toList_S size_S run_slice_S run_slice_from_S run_slice_to_S wrap64_byteAt wrap64_byteAt_mul bits_or_bytes convU conv1_some convU2 conv2_some
theorem Sl.pc {w : World} {A : Option Addr} {ps : List Pc} {cap : Nat} (h : Sl w A ps.length cap 2 (pcsV ps)) {k : Nat} (hk : k < ps.length) : ∃ g off, A = some ⟨g, off, none⟩ ∧ g < w.heap.size ∧
    w.cell? ⟨g, off + k * 2, none⟩ = some (.int .i64 ps[k].1) ∧ w.cell? ⟨g, off + k * 2 + 1, none⟩ = some (.string ⟨ps[k].2.toArray⟩) := by
  obtain ⟨g, off, e, hg, hc⟩ := Sl.cellK h hk
  have hcs := pcsV_at ps k hk
  exact ⟨g, off, e, hg, hc 0 _ hcs.1, hc 1 _ hcs.2⟩
set_option maxHeartbeats 1000000 in
theorem piecesValid_any (ps : List Pc) (c : Int) (A : Option Addr) (cap : Nat) (w : World) (hs : Sl w A ps.length cap 2 (pcsV ps)) (hl : ps.length ≤ 100000) (hd : ∀ p ∈ ps, p.2.length ≤ 100000) :
    Calls Tryz.prog 38 #[.slice A ps.length cap, .int .i64 c] w fun e w' => e = .returned (.bool (PVb ps c)) ∧ Below w.heap.size w w' := by
  have hcap := hs.1
  have hcap2 := hs.2.1
  have HS : Go.RowKit.Hid (∀ wr, Below w.heap.size w wr → Sl wr A ps.length cap 2 (pcsV ps)) := fun wr h => hs.below h
  have HD := Go.Lib.hid hd
  clear hs hd
  by_cases h0 : c < 0
  · have hP : PVb ps c = false := PVb_no (fun h => by have := h.1; omega)
    rw [hP]
    clear hP
    go_enter Tryz.func38, Tryz.ntmps38
    go_wp2
    go_ret
    exact ⟨rfl, (by repeat (first | (with_reducible exact Below.refl _ _) | (with_reducible assumption) | (with_reducible refine Below.drew ?_) | (with_reducible refine Below.alloc ?_ (by first | omega | (simp <;> omega)) _) | (with_reducible refine Below.setCell ?_ (by first | omega | (simp <;> omega)) _) | (with_reducible refine belowN ?_ _)))⟩
  by_cases h1 : 40 < c
  · have hP : PVb ps c = false := PVb_no (fun h => by have := h.2.1; omega)
    rw [hP]
    clear hP
    go_enter Tryz.func38, Tryz.ntmps38
    go_wp2
    go_ret
    exact ⟨rfl, (by repeat (first | (with_reducible exact Below.refl _ _) | (with_reducible assumption) | (with_reducible refine Below.drew ?_) | (with_reducible refine Below.alloc ?_ (by first | omega | (simp <;> omega)) _) | (with_reducible refine Below.setCell ?_ (by first | omega | (simp <;> omega)) _) | (with_reducible refine belowN ?_ _)))⟩
  have HY : Go.RowKit.Hid ((∀ (i : Nat) (h : i < ps.length), i < ps.length → pcFine ps c i h) → PVb ps c = true) := fun h => PVb_yes (PV_all (by omega) (by omega) h)
  have HN : Go.RowKit.Hid (∀ (k : Nat) (hk : k < ps.length), ¬ pcFine ps c k hk → PVb ps c = false) := fun k hk h => PVb_no (PV_not hk h)
  generalize PVb ps c = R at *
  go_enter Tryz.func38, Tryz.ntmps38
  go_wp2
  go_loopw [5, 16] (fun b i wr => ∃ k : Nat, b = .int .i64 (bef ps k) ∧ i = .int .i64 (k : Int) ∧ k ≤ ps.length ∧ Go.RowKit.Hid (∀ (i : Nat) (h : i < ps.length), i < k → pcFine ps c i h) ∧ Below w.heap.size w wr) (fun _ i _ => ps.length - (intOf i).toNat)
  case atStart => exact ⟨0, rfl, rfl, by omega, fun i h hi => by omega, (by repeat (first | (with_reducible exact Below.refl _ _) | (with_reducible assumption) | (with_reducible refine Below.drew ?_) | (with_reducible refine Below.alloc ?_ (by first | omega | (simp <;> omega)) _) | (with_reducible refine Below.setCell ?_ (by first | omega | (simp <;> omega)) _) | (with_reducible refine belowN ?_ _)))⟩
  case round =>
    obtain ⟨k, rfl, rfl, hk, HA, hb⟩ := hrel
    have hz := hb.size
    by_cases hlt : k < ps.length
    · have hki : (k : Int) < ps.length := by omega
      obtain ⟨g, off, rfl, hg, c0, c1⟩ := (HS.out wr hb).pc hlt
      have HF := Go.Lib.hid (fine_bef HA.out hlt)
      have hbs := bef_succ hlt
      have hdl := HD.out ps[k] (List.getElem_mem hlt)
      have HBAD : Go.RowKit.Hid (¬ (bef ps k < ps[k].1 ∧ ps[k].1 < c ∧ 1 ≤ ps[k].2.length ∧ ps[k].2.length ≤ 64) → R = false) := fun h => HN.out k hlt (fun h2 => h (HF.out.1 h2))
      have HGOOD : Go.RowKit.Hid ((bef ps k < ps[k].1 ∧ ps[k].1 < c ∧ 1 ≤ ps[k].2.length ∧ ps[k].2.length ≤ 64) → ∀ (i : Nat) (h : i < ps.length), i < k + 1 → pcFine ps c i h) := fun h => fine_succ HA.out hlt (HF.out.2 h)
      have HBS := Go.Lib.hid hbs
      clear hbs HF HA
      generalize ps[k].1 = n at *
      generalize ps[k].2 = D at *
      generalize bef ps k = b0 at *
      by_cases t1 : n ≤ b0
      · have hR := HBAD.out (fun h => by omega)
        subst hR
        clear HBAD HGOOD
        go_wp2
        go_ret
        exact ⟨rfl, (by repeat (first | (with_reducible exact Below.refl _ _) | (with_reducible assumption) | (with_reducible refine Below.drew ?_) | (with_reducible refine Below.alloc ?_ (by first | omega | (simp <;> omega)) _) | (with_reducible refine Below.setCell ?_ (by first | omega | (simp <;> omega)) _) | (with_reducible refine belowN ?_ _)))⟩
      by_cases t2 : c ≤ n
      · have hR := HBAD.out (fun h => by omega)
        subst hR
        clear HBAD HGOOD
        go_wp2
        go_ret
        exact ⟨rfl, (by repeat (first | (with_reducible exact Below.refl _ _) | (with_reducible assumption) | (with_reducible refine Below.drew ?_) | (with_reducible refine Below.alloc ?_ (by first | omega | (simp <;> omega)) _) | (with_reducible refine Below.setCell ?_ (by first | omega | (simp <;> omega)) _) | (with_reducible refine belowN ?_ _)))⟩
      by_cases t3 : 1 ≤ (D.length : Int) ∧ (D.length : Int) ≤ 64
      · have t3d : decide (1 ≤ (D.length : Int) ∧ (D.length : Int) ≤ 64) = true := by simpa using t3
        have cZ := fun w => sizeValid_any (D.length : Int) w
        rw [t3d] at cZ
        have HG := Go.Lib.hid (HGOOD.out ⟨by omega, by omega, by omega, by omega⟩)
        clear HBAD HGOOD t3 t3d
        go_wp2_with (go_at_call 27; refine (cZ _).mono ?_; rintro e w' ⟨rfl, rfl⟩)
        go_roundw
        case rel => exact ⟨k + 1, by rw [HBS.out], by go_num, by omega, HG, (by repeat (first | (with_reducible exact Below.refl _ _) | (with_reducible assumption) | (with_reducible refine Below.drew ?_) | (with_reducible refine Below.alloc ?_ (by first | omega | (simp <;> omega)) _) | (with_reducible refine Below.setCell ?_ (by first | omega | (simp <;> omega)) _) | (with_reducible refine belowN ?_ _)))⟩
        case measure => simp [intOf]; omega
      · have t3d : decide (1 ≤ (D.length : Int) ∧ (D.length : Int) ≤ 64) = false := by simpa using t3
        have cZ := fun w => sizeValid_any (D.length : Int) w
        rw [t3d] at cZ
        have hR := HBAD.out (fun h => by omega)
        subst hR
        clear HBAD HGOOD t3 t3d
        go_wp2_with (go_at_call 27; refine (cZ _).mono ?_; rintro e w' ⟨rfl, rfl⟩)
        go_ret
        exact ⟨rfl, (by repeat (first | (with_reducible exact Below.refl _ _) | (with_reducible assumption) | (with_reducible refine Below.drew ?_) | (with_reducible refine Below.alloc ?_ (by first | omega | (simp <;> omega)) _) | (with_reducible refine Below.setCell ?_ (by first | omega | (simp <;> omega)) _) | (with_reducible refine belowN ?_ _)))⟩
    · have hki : ¬ (k : Int) < ps.length := by omega
      have hR := HY.out (fun i h _ => HA.out i h (by omega))
      subst hR
      go_wp2
      go_ret
      exact ⟨rfl, hb⟩
theorem info_intR : (Tryz.prog.info? 3).map (fun i => (i.zero, i.size, i.bytes)) = some (some (.int .i64 0), 1, 8) := by kernel_rfl
/-- It returns numbers in a row of its own. -/
def IsRes (vs : List Int) (w : World) (e : Ending) (w' : World) : Prop := ∃ A cap, e = .returned (.slice A vs.length cap) ∧ w'.ownsRow w.heap.size 3 1 (.slice A vs.length cap) vs.length (vs.map fun x => Value.int .i64 x) ∧ Below w.heap.size w w'
set_option maxHeartbeats 2000000 in
theorem lostNumbers_any (ps : List Pc) (c : Int) (A : Option Addr) (cap : Nat) (w : World) (hs : Sl w A ps.length cap 2 (pcsV ps)) (hl : ps.length ≤ 100000) (hd : ∀ p ∈ ps, p.2.length ≤ 100000) :
    Calls Tryz.prog 14 #[.slice A ps.length cap, .int .i64 c] w (IsRes (lostB ps c) w) := by
  obtain ⟨i, hi, hz0, hz1, hz2⟩ := info_parts info_intR
  have cV := piecesValid_any ps c A cap w hs hl hd
  by_cases hP : PV ps c
  · rw [PVb_yes hP] at cV
    rw [lostB_yes hP]
    obtain ⟨n, rfl⟩ := Int.eq_ofNat_of_zero_le hP.1
    have hn : n ≤ 40 := by have := hP.2.1; omega
    have HO := Go.Lib.hid hP.2.2
    have hcap := hs.1
    have hcap2 := hs.2.1
    rw [Int.toNat_natCast]
    clear hP hd
    go_enter Tryz.func14, Tryz.ntmps14
    go_wp2_with fail
    refine cV.mono ?_
    rintro e w1 ⟨rfl, hb1⟩
    have hz1' := hb1.size
    have HS : Go.RowKit.Hid (∀ wr, Below w1.heap.size w1 wr → Sl wr A ps.length cap 2 (pcsV ps)) := fun wr h => (hs.below hb1).below h
    have HBB : Go.RowKit.Hid (∀ wr, Below w1.heap.size w1 wr → Below w.heap.size w wr) := fun wr h => hb1.trans (h.mono hz1')
    clear hs cV hb1
    go_wp2
    go_loopw [5, 6, 13] (fun a t j wr => ∃ (k at_ : Nat) (B : Option Addr) (cb : Nat) (vs : List Int), a = .slice B vs.length cb ∧ t = .int .i64 (at_ : Int) ∧ j = .int .i64 (k : Int) ∧ k ≤ n ∧ vs.length ≤ k ∧ Go.RowKit.Hid (AtN ps at_ k) ∧ Go.RowKit.Hid (lstTo ps k = vs) ∧ wr.ownsRow w1.heap.size 3 1 (.slice B vs.length cb) vs.length (vs.map fun x => Value.int .i64 x) ∧ Below w1.heap.size w1 wr) (fun _ _ j _ => n - (intOf j).toNat)
    case atStart => exact ⟨0, 0, none, 0, [], rfl, rfl, rfl, by omega, by simp, AtN_zero HO.out, rfl, ⟨by simp, .inl ⟨rfl, rfl⟩⟩, Below.refl _ _⟩
    case round =>
      obtain ⟨k, at_, B, cb, vs, rfl, rfl, rfl, hk, hvl, HT, HV, ow, hb⟩ := hrel
      have hz := hb.size
      have hatl : at_ ≤ ps.length := HT.out.1
      by_cases hlt : k < n
      · have hki : (k : Int) < n := by omega
        by_cases hh : ∃ hl : at_ < ps.length, ps[at_].1 = (k : Int)
        · obtain ⟨h1, h2⟩ := hh
          obtain ⟨h3, h4⟩ := AtN_hit HO.out HT.out h1 h2
          have HT2 : Go.RowKit.Hid (AtN ps (at_ + 1) ((k + 1 : Nat) : Int)) := h4
          have HV2 : Go.RowKit.Hid (lstTo ps (k + 1) = vs) := by show _ = _; rw [lstTo_hit h3, HV.out]
          obtain ⟨g, off, rfl, hg, c0, _⟩ := (HS.out wr hb).pc h1
          rw [h2] at c0
          have hai : (at_ : Int) < ps.length := by omega
          clear h2 h3 h4 HT HV
          go_wp2
          go_roundw
          case rel => exact ⟨k + 1, at_ + 1, B, cb, vs, rfl, by go_num, by go_num, by omega, by omega, HT2, HV2, ow, hb⟩
          case measure => simp [intOf]; omega
        · obtain ⟨h3, h4⟩ := AtN_miss HO.out HT.out (fun h1 h2 => hh ⟨h1, h2⟩)
          have HT2 : Go.RowKit.Hid (AtN ps at_ ((k + 1 : Nat) : Int)) := h4
          have HV2 : Go.RowKit.Hid (lstTo ps (k + 1) = vs ++ [(k : Int)]) := by show _ = _; rw [lstTo_miss h3, HV.out]
          have hm1 : vs.length + 1 ≤ maxLen := by unfold maxLen; omega
          have hm2 : (vs.length + 1) * 8 ≤ 140737488355328 := by omega
          have hol : (vs ++ [(k : Int)]).length = vs.length + 1 := by simp
          have HOL := Go.Lib.hid hol
          clear hol h3 h4 HT HV
          by_cases h1 : at_ < ps.length
          · have hai : (at_ : Int) < ps.length := by omega
            have h2 : (ps[at_].1 == (k : Int)) = false := by simpa using fun h => hh ⟨h1, h⟩
            obtain ⟨g, off, rfl, hg, c0, _⟩ := (HS.out wr hb).pc h1
            generalize ps[at_].1 = n0 at *
            clear hh
            go_wp2_with (at_builtin; go_must (refine wpList_ap _ rfl _ _ 46 rfl (w1.heap.size) 3 i _ 1 8 Tryz.underlying46 hi hz0 hz1 hz2 rfl (by omega) _ _ _ rfl (ow.alloc _) _ 1 1 [Value.int .i64 (k : Int)] rfl (Sl.newAt wr #[Value.int .i64 (k : Int)] _ 1 1 (by first | rfl | simp) (by simp) (by omega)) (by simp [Value.oneCell']) hm1 hm2 ?_ ?_))
            try (case refine_1 => first | omega | (simp <;> omega; done))
            intro B6 cb6 w6 ow6 hg6 _
            have g6 := app_below hb hg6 (by omega) (fun q hq => by have := (ow.lt q hq).1; omega)
            have ow6' : w6.ownsRow w1.heap.size 3 1 (.slice B6 (vs ++ [(k : Int)]).length cb6) (vs ++ [(k : Int)]).length ((vs ++ [(k : Int)]).map fun x => Value.int .i64 x) := by
              rw [List.length_append, List.map_append]; exact ow6
            clear ow6 hg6 ow hb
            go_wp2
            go_roundw
            case rel => exact ⟨k + 1, at_, B6, cb6, _, by rw [HOL.out], rfl, by go_num, by omega, by rw [HOL.out]; omega, HT2, HV2, ow6', g6⟩
            case measure => simp [intOf]; omega
          · have hai : ¬ (at_ : Int) < ps.length := by omega
            clear hh
            go_wp2_with (at_builtin; go_must (refine wpList_ap _ rfl _ _ 46 rfl (w1.heap.size) 3 i _ 1 8 Tryz.underlying46 hi hz0 hz1 hz2 rfl (by omega) _ _ _ rfl (ow.alloc _) _ 1 1 [Value.int .i64 (k : Int)] rfl (Sl.newAt wr #[Value.int .i64 (k : Int)] _ 1 1 (by first | rfl | simp) (by simp) (by omega)) (by simp [Value.oneCell']) hm1 hm2 ?_ ?_))
            try (case refine_1 => first | omega | (simp <;> omega; done))
            intro B6 cb6 w6 ow6 hg6 _
            have g6 := app_below hb hg6 (by omega) (fun q hq => by have := (ow.lt q hq).1; omega)
            have ow6' : w6.ownsRow w1.heap.size 3 1 (.slice B6 (vs ++ [(k : Int)]).length cb6) (vs ++ [(k : Int)]).length ((vs ++ [(k : Int)]).map fun x => Value.int .i64 x) := by
              rw [List.length_append, List.map_append]; exact ow6
            clear ow6 hg6 ow hb
            go_wp2
            go_roundw
            case rel => exact ⟨k + 1, at_, B6, cb6, _, by rw [HOL.out], rfl, by go_num, by omega, by rw [HOL.out]; omega, HT2, HV2, ow6', g6⟩
            case measure => simp [intOf]; omega
      · have hki : ¬ (k : Int) < n := by omega
        have hkn : k = n := by omega
        subst hkn
        have h := HV.out
        subst h
        have gw := HBB.out _ hb
        have ow' := own_mono (B' := w.heap.size) ow hz1'
        go_wp2
        go_ret
        exact ⟨B, cb, rfl, ow', gw⟩
  · rw [PVb_no hP] at cV
    rw [lostB_no hP]
    clear hs hP hd
    go_enter Tryz.func14, Tryz.ntmps14
    go_wp2_with fail
    refine cV.mono ?_
    rintro e w1 ⟨rfl, hb1⟩
    go_wp2
    go_ret
    exact ⟨none, 0, rfl, ⟨by simp, .inl ⟨rfl, rfl⟩⟩, hb1⟩
end Go.Proofs.YtfonokhafdflcaaGreat
/- Walks: the joined data, by the program; the lost numbers, by the reference. -/
namespace Go.Proofs.YtfonokhafdflcaaGreat
open Go.RowKit
set_option linter.unusedVariables false
set_option linter.unusedSimpArgs false
set_option maxRecDepth 100000
attribute [local go_sem high] run_index_S binOp_eql_S binOp_neq_S append_S toList_S size_S run_slice_S run_slice_from_S run_slice_to_S wrap64_byteAt wrap64_byteAt_mul bits_or_bytes convU conv1_some convU2 conv2_some
theorem bld_newS {w : World} {B : Nat} (hB : B ≤ w.heap.size) : Go.Lib.IsBuilderF 88 5 B w.heap.size [] (w.alloc (.cells #[.pointer none, .slice none 0 0] 88)) :=
  .inl ⟨hB, .slice none 0 0, heap_alloc_new w _, ⟨by simp, .inl ⟨rfl, rfl⟩⟩, by simp [Value.ownBlock]⟩
theorem repeatL_one (b : UInt8) (n : Nat) : Lib.repeatL [b] n = List.replicate n b := by
  induction n with
  | zero => rfl
  | succ n ih => rw [List.replicate_succ, ← ih]; rfl
set_option maxHeartbeats 2000000 in
theorem joinPieces_any (ps : List Pc) (c s f : Int) (A : Option Addr) (cap : Nat) (w : World) (hs : Sl w A ps.length cap 2 (pcsV ps)) (hl : ps.length ≤ 100000) (hd : ∀ p ∈ ps, p.2.length ≤ 100000) :
    Calls Tryz.prog 13 #[.slice A ps.length cap, .int .i64 c, .int .i64 s, .int .i64 f] w fun e w' => e = datRes (joinB ps c s f) ∧ Below w.heap.size w w' := by
  have cV := piecesValid_any ps c A cap w hs hl hd
  by_cases hP : PV ps c
  · rw [PVb_yes hP] at cV
    by_cases hz : 1 ≤ s ∧ s ≤ 64
    · have cZ := fun w => sizeValid_any s w
      rw [show decide (1 ≤ s ∧ s ≤ 64) = true by simpa using hz] at cZ
      by_cases hf : 0 ≤ f ∧ f ≤ 255
      · have hE := joinB_yes (ps := ps) (c := c) (s := s) (f := f) ⟨hP, hz.1, hz.2, hf.1, hf.2⟩
        rw [hE]
        obtain ⟨n, rfl⟩ := Int.eq_ofNat_of_zero_le hP.1
        obtain ⟨z, rfl⟩ := Int.eq_ofNat_of_zero_le (by omega : 0 ≤ s)
        obtain ⟨q, rfl⟩ := Int.eq_ofNat_of_zero_le hf.1
        have hq2 : q ≤ 255 := by omega
        have hz2 : z ≤ 64 := by omega
        have hn : n ≤ 40 := by have := hP.2.1; omega
        have HO := Go.Lib.hid hP.2.2
        have hcap := hs.1
        have hcap2 := hs.2.1
        simp only [Int.toNat_natCast]
        obtain ⟨R, hR⟩ : ∃ R, joinTo ps z (UInt8.ofNat q) n = R := ⟨_, rfl⟩
        rw [hR]
        have HR := Go.Lib.hid hR
        clear hR
        have hwq : IntKind.u8.wrap (q : Int) = (q : Int) := IntWalk.u8_in _ ⟨by omega, by omega⟩
        have f1 : ¬ (q : Int) < 0 := by omega
        have f2 : ¬ (255 : Int) < (q : Int) := by omega
        have cR := fun w => Tryz.strings_Repeat ⟨[UInt8.ofNat q].toArray⟩ z w (by omega) (by simp [ByteArray.size]; omega)
        have hrl : Lib.repeatL (⟨[UInt8.ofNat q].toArray⟩ : ByteArray).data.toList z = List.replicate z (UInt8.ofNat q) := by
          rw [← repeatL_one]
        rw [hrl] at cR
        have hjl := fun k => joinTo_len HO.out (s := z) hz2 (UInt8.ofNat q) k
        have HJL := Go.Lib.hid hjl
        clear hjl hrl hE hP hf hz hd
        go_enter Tryz.func13, Tryz.ntmps13
        go_wp2_with fail
        refine cV.mono ?_
        rintro e w1 ⟨rfl, hb1⟩
        have hz1' := hb1.size
        have s1 := hs.below hb1
        clear hs cV
        go_wp2_with (go_at_call 27; refine (cZ _).mono ?_; rintro e w' ⟨rfl, rfl⟩)
        generalize hfi : UInt8.ofNat q = fi at *
        have HFI := Go.Lib.hid hfi
        refine (cR _).mono ?_
        rintro e w2 ⟨rfl, hb2⟩
        have hz2' := hb2.size
        simp only [World.size_alloc] at hz2'
        have g2 := (hb1.alloc hz1' (.cells #[.int .u8 (q : Int)] 5)).trans (hb2.mono (by simp; omega))
        have s2 := (s1.alloc (.cells #[.int .u8 (q : Int)] 5)).below hb2
        clear hb2 s1 hb1 cR cZ
        have hrl : (List.replicate z fi).length ≤ 64 := by simp; omega
        have HRL := Go.Lib.hid hrl
        clear hrl
        obtain ⟨RP, hRP⟩ : ∃ RP, List.replicate z fi = RP := ⟨_, rfl⟩
        have HJ : Go.RowKit.Hid (∀ k : Nat, joinTo ps z fi (k + 1) = joinTo ps z fi k ++ (hasP ps (k : Int)).getD RP) := fun k => by rw [joinTo_succ, hRP]
        rw [hRP] at HRL
        rw [hRP]
        clear hRP
        have HJ0 : Go.RowKit.Hid (joinTo ps z fi 0 = []) := rfl
        generalize joinTo ps z fi = J at *
        have HS : Go.RowKit.Hid (∀ wr, Below w2.heap.size w2 wr → Sl wr A ps.length cap 2 (pcsV ps)) := fun wr h => s2.below h
        have hg2 := g2.size
        have HBB : Go.RowKit.Hid (∀ wr, Below w2.heap.size w2 wr → Below w.heap.size w wr) := fun wr h => g2.trans (h.mono hg2)
        clear s2 g2
        go_upto_region 4 with (fail)
        have B0 := bld_newS (w := w2) (B := w2.heap.size) (Nat.le_refl _)
        have b0 : Below w2.heap.size w2 (w2.alloc (.cells #[.pointer none, .slice none 0 0] 88)) := (by repeat (first | (with_reducible exact Below.refl _ _) | (with_reducible assumption) | (with_reducible refine Below.drew ?_) | (with_reducible refine Below.alloc ?_ (by first | omega | (simp <;> omega)) _) | (with_reducible refine Below.setCell ?_ (by first | omega | (simp <;> omega)) _) | (with_reducible refine belowN ?_ _)))
        obtain ⟨bb, hbb⟩ : ∃ bb, w2.heap.size = bb := ⟨_, rfl⟩
        rw [hbb] at B0 b0 HS HBB
        go_wp2
        go_loopw [12, 38] (fun t j wr => ∃ (k at_ : Nat), t = .int .i64 (at_ : Int) ∧ j = .int .i64 (k : Int) ∧ k ≤ n ∧ Go.RowKit.Hid (AtN ps at_ k) ∧ Go.Lib.IsBuilderF 88 5 bb bb ((J k).map u8v) wr ∧ Below bb w2 wr) (fun _ j _ => n - (intOf j).toNat)
        case atStart => exact ⟨0, 0, rfl, rfl, by omega, AtN_zero HO.out, by rw [HJ0.out]; exact B0, b0⟩
        case round =>
          obtain ⟨k, at_, rfl, rfl, hk, HT, hB, hb⟩ := hrel
          clear B0 b0
          have hz := hb.size
          rw [hbb] at hz
          have hatl : at_ ≤ ps.length := HT.out.1
          have hjk := HJL.out k
          have hJk : (J k).length ≤ 2560 := by omega
          clear hjk
          have HJK := HJ.out k
          have HJS := Go.Lib.hid HJK
          clear HJK
          by_cases hlt : k < n
          · have hki : (k : Int) < n := by omega
            by_cases hh : ∃ hl : at_ < ps.length, ps[at_].1 = (k : Int)
            · obtain ⟨h1, h2⟩ := hh
              obtain ⟨h3, h4⟩ := AtN_hit HO.out HT.out h1 h2
              have HT2 : Go.RowKit.Hid (AtN ps (at_ + 1) ((k + 1 : Nat) : Int)) := h4
              have HJ2 : Go.RowKit.Hid (J (k + 1) = J k ++ ps[at_].2) := by show _ = _; rw [HJS.out, h3]; rfl
              have hdl := (HO.out.1 at_ h1).2.2
              obtain ⟨g, off, rfl, hg, c0, c1⟩ := (HS.out wr hb).pc h1
              rw [h2] at c0
              have hai : (at_ : Int) < ps.length := by omega
              clear h2 h3 h4 HT HJS
              generalize ps[at_].2 = d at *
              obtain ⟨_, hdl⟩ := hdl
              have cW := bld_write bb bb ((J k).map u8v) d wr hB (by simp; omega) hz
              go_wp2_with fail
              refine cW.mono ?_
              rintro e w3 ⟨rfl, hB3, b3, k3⟩
              have g3 := hb.trans b3
              have hB4 : Go.Lib.IsBuilderF 88 5 bb bb ((J (k + 1)).map u8v) w3 := by rw [HJ2.out, List.map_append]; exact .inr hB3
              have HB4 := Go.Lib.hid hB4
              clear cW hB3 b3 k3 hB hB4 hb
              go_wp2
              go_roundw
              case rel => exact ⟨k + 1, at_ + 1, by go_num, by go_num, by omega, HT2, HB4.out, g3⟩
              case measure => simp [intOf]; omega
            · obtain ⟨h3, h4⟩ := AtN_miss HO.out HT.out (fun h1 h2 => hh ⟨h1, h2⟩)
              have HT2 : Go.RowKit.Hid (AtN ps at_ ((k + 1 : Nat) : Int)) := h4
              have HJ2 : Go.RowKit.Hid (J (k + 1) = J k ++ RP) := by show _ = _; rw [HJS.out, h3]; rfl
              have hdl := HRL.out
              have cW := bld_write bb bb ((J k).map u8v) RP wr hB (by simp; omega) hz
              clear h3 h4 HT HJS
              by_cases h1 : at_ < ps.length
              · have hai : (at_ : Int) < ps.length := by omega
                have h2 : (ps[at_].1 == (k : Int)) = false := by simpa using fun h => hh ⟨h1, h⟩
                obtain ⟨g, off, rfl, hg, c0, _⟩ := (HS.out wr hb).pc h1
                generalize ps[at_].1 = n0 at *
                clear hh
                go_wp2_with fail
                refine cW.mono ?_
                rintro e w3 ⟨rfl, hB3, b3, k3⟩
                have g3 := hb.trans b3
                have hB4 : Go.Lib.IsBuilderF 88 5 bb bb ((J (k + 1)).map u8v) w3 := by rw [HJ2.out, List.map_append]; exact .inr hB3
                have HB4 := Go.Lib.hid hB4
                clear cW hB3 b3 k3 hB hB4 hb
                go_wp2
                go_roundw
                case rel => exact ⟨k + 1, at_, rfl, by go_num, by omega, HT2, HB4.out, g3⟩
                case measure => simp [intOf]; omega
              · have hai : ¬ (at_ : Int) < ps.length := by omega
                clear hh
                go_wp2_with fail
                refine cW.mono ?_
                rintro e w3 ⟨rfl, hB3, b3, k3⟩
                have g3 := hb.trans b3
                have hB4 : Go.Lib.IsBuilderF 88 5 bb bb ((J (k + 1)).map u8v) w3 := by rw [HJ2.out, List.map_append]; exact .inr hB3
                have HB4 := Go.Lib.hid hB4
                clear cW hB3 b3 k3 hB hB4 hb
                go_wp2
                go_roundw
                case rel => exact ⟨k + 1, at_, rfl, by go_num, by omega, HT2, HB4.out, g3⟩
                case measure => simp [intOf]; omega
          · have hki : ¬ (k : Int) < n := by omega
            have hkn : k = n := by omega
            subst hkn
            have cS := Tryz.Builder_String_any_k bb bb (J k) wr (by unfold Go.Lib.byteCells; exact hB) hz
            go_wp2_with fail
            refine cS.mono ?_
            rintro e w3 ⟨rfl, _, b3, _⟩
            have gw := HBB.out _ (hb.trans b3)
            clear cS b3 hb hB
            have hR := HR.out
            subst hR
            go_wp2
            exact bodyPost_ret (v := .tuple #[sv (J k), .bool true]) (by simp [results, Tryz.results13, go_sem]) rfl ⟨rfl, gw⟩
      · rw [joinB_no (fun h => hf ⟨h.2.2.2.1, h.2.2.2.2⟩)]
        have h3 : f < 0 ∨ (¬ f < 0 ∧ 255 < f) := by omega
        clear hP hz hf hd
        rcases h3 with h1 | ⟨h1, h2⟩
        all_goals
          go_enter Tryz.func13, Tryz.ntmps13
          go_wp2_with fail
          refine cV.mono ?_
          rintro e w1 ⟨rfl, hb1⟩
          clear cV
          go_wp2_with (go_at_call 27; refine (cZ _).mono ?_; rintro e w' ⟨rfl, rfl⟩)
          exact bodyPost_ret (v := .tuple #[sv [], .bool false]) (by simp [results, Tryz.results13, go_sem]) rfl ⟨rfl, hb1⟩
    · have cZ := fun w => sizeValid_any s w
      rw [show decide (1 ≤ s ∧ s ≤ 64) = false by simpa using hz] at cZ
      rw [joinB_no (fun h => hz ⟨h.2.1, h.2.2.1⟩)]
      clear hP hz hd
      go_enter Tryz.func13, Tryz.ntmps13
      go_wp2_with fail
      refine cV.mono ?_
      rintro e w1 ⟨rfl, hb1⟩
      clear cV
      go_wp2_with (go_at_call 27; refine (cZ _).mono ?_; rintro e w' ⟨rfl, rfl⟩)
      exact bodyPost_ret (v := .tuple #[sv [], .bool false]) (by simp [results, Tryz.results13, go_sem]) rfl ⟨rfl, hb1⟩
  · rw [PVb_no hP] at cV
    rw [joinB_no (fun h => hP h.1)]
    clear hP hd
    go_enter Tryz.func13, Tryz.ntmps13
    go_wp2_with fail
    refine cV.mono ?_
    rintro e w1 ⟨rfl, hb1⟩
    clear cV
    go_wp2
    exact bodyPost_ret (v := .tuple #[sv [], .bool false]) (by simp [results, Tryz.results13, go_sem]) rfl ⟨rfl, hb1⟩
end Go.Proofs.YtfonokhafdflcaaGreat
