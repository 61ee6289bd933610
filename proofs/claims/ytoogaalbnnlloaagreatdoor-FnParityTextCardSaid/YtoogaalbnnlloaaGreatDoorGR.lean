import Derived.Test.YtoogaalbnnlloaaGreatDoorGQ
import Derived.Lib.ItoaNum
import Derived.Lib.Atoi
import Derived.Lib.AtoiTie
/- Plain: the text of an operation. No program. -/
namespace Go.Proofs.YtoogaalbnnlloaaGreatDoor
def fmtOp (k : Int) (nm : Bs) (f t s : Int) (d : Bs) : Bs :=
  if opOk k nm f t s d then
    (if k = 0 then [112, 117, 116, 32] ++ nm ++ [32] ++ Lib.itoa s ++ [32] ++ orDash (fmtHex d)
     else if k = 1 then [97, 112, 112, 101, 110, 100, 32] ++ nm ++ [32] ++ Lib.itoa s ++ [32] ++ orDash (fmtHex d)
     else if k = 2 then [114, 101, 112, 108, 97, 99, 101, 32] ++ nm ++ [32] ++ Lib.itoa f ++ [32] ++ Lib.itoa t ++ [32] ++ Lib.itoa s ++ [32] ++ orDash (fmtHex d)
     else if k = 3 then [109, 101, 114, 103, 101, 32] ++ nm ++ [32] ++ Lib.itoa s
     else [100, 101, 108, 101, 116, 101, 32] ++ nm)
  else []
theorem nameV_len {l : Bs} (h : nameV l = true) : 1 ≤ l.length ∧ l.length ≤ 8 := by
  rw [nameV, Bool.and_eq_true, decide_eq_true_eq] at h; exact h.1
theorem fmtHex_len (d : Bs) : (fmtHex d).length ≤ 8000 := by
  unfold fmtHex; split
  · rw [hexOf_length]; omega
  · simp
theorem orDash_len (d : Bs) : (orDash d).length ≤ d.length + 1 := by
  unfold orDash; split <;> simp
end Go.Proofs.YtoogaalbnnlloaaGreatDoor
/- Plain: numbers and operations read from their texts. No program. -/
namespace Go.Proofs.YtoogaalbnnlloaaGreatDoor
open Go.RowKit
theorem digitVal_dig (k : Nat) (h : k < 10) : Lib.digitVal (UInt8.ofNat (48 + k)) = some k := by
  have key : ∀ x : Fin 10, Lib.digitVal (UInt8.ofNat (48 + x.val)) = some x.val := by decide +kernel
  exact key ⟨k, h⟩
theorem decFrom_snoc : ∀ (l : Bs) (acc : Nat) (b : UInt8), Lib.decFrom acc (l ++ [b]) = (Lib.decFrom acc l).bind fun n => (Lib.digitVal b).map fun d => n * 10 + d
  | [], acc, b => by
    show Lib.decFrom acc [b] = _
    unfold Lib.decFrom
    cases Lib.digitVal b <;> rfl
  | c :: l, acc, b => by
    rw [List.cons_append]
    unfold Lib.decFrom
    cases Lib.digitVal c with
    | none => rfl
    | some d => exact decFrom_snoc l _ b
theorem dd_step (u : Nat) (h : 10 ≤ u) : Lib.decDigits u = Lib.decDigits (u / 10) ++ [UInt8.ofNat (48 + u % 10)] := by
  rw [Lib.decDigits, dif_neg (by omega)]
theorem dd_one (u : Nat) (h : u < 10) : Lib.decDigits u = [UInt8.ofNat (48 + u)] := by
  rw [Lib.decDigits, dif_pos h]
theorem decFrom_digits (u : Nat) : Lib.decFrom 0 (Lib.decDigits u) = some u := by
  induction u using Nat.strongRecOn with
  | ind u ih =>
    by_cases h : u < 10
    · rw [dd_one u h]
      unfold Lib.decFrom
      rw [digitVal_dig u h]
      simp [Lib.decFrom]
    · rw [dd_step u (by omega), decFrom_snoc, ih (u / 10) (by omega), digitVal_dig _ (by omega)]
      simp; omega
theorem dd_dig (u : Nat) : ∀ x ∈ Lib.decDigits u, 48 ≤ x.toNat ∧ x.toNat ≤ 57 := by
  have key : ∀ k, k < 10 → 48 ≤ (UInt8.ofNat (48 + k)).toNat ∧ (UInt8.ofNat (48 + k)).toNat ≤ 57 := by
    intro k hk
    rw [UInt8.toNat_ofNat']; omega
  induction u using Nat.strongRecOn with
  | ind u ih =>
    by_cases h : u < 10
    · rw [dd_one u h]
      intro x hx
      simp only [List.mem_singleton] at hx
      rw [hx]; exact key u h
    · rw [dd_step u (by omega)]
      intro x hx
      rcases List.mem_append.1 hx with hx | hx
      · exact ih (u / 10) (by omega) x hx
      · simp only [List.mem_singleton] at hx
        rw [hx]; exact key _ (by omega)
theorem dd_ne (u : Nat) : Lib.decDigits u ≠ [] := by
  by_cases h : u < 10
  · rw [dd_one u h]; simp
  · rw [dd_step u (by omega)]; simp
theorem dd_len : ∀ (k u : Nat), u < 10 ^ (k + 1) → (Lib.decDigits u).length ≤ k + 1
  | 0, u, h => by rw [dd_one u (by omega)]; simp
  | k + 1, u, h => by
    by_cases h1 : u < 10
    · rw [dd_one u h1]; simp
    · rw [dd_step u (by omega), List.length_append]
      have := dd_len k (u / 10) (by rw [Nat.pow_succ] at h; omega)
      simp; omega
theorem byteAt_app0 (l m : Bs) (h : l ≠ []) : byteAt (l ++ m) 0 = byteAt l 0 := by
  cases l with
  | nil => exact absurd rfl h
  | cons x r => rfl
theorem dd_head (u : Nat) : byteAt (Lib.decDigits u) 0 = 48 → u = 0 := by
  induction u using Nat.strongRecOn with
  | ind u ih =>
    intro h0
    by_cases h : u < 10
    · rw [dd_one u h] at h0
      unfold byteAt at h0
      simp at h0
      omega
    · rw [dd_step u (by omega), byteAt_app0 _ _ (dd_ne _)] at h0
      have := ih (u / 10) (by omega) h0
      omega
theorem dd_byte0 (u : Nat) : 48 ≤ byteAt (Lib.decDigits u) 0 ∧ byteAt (Lib.decDigits u) 0 ≤ 57 := by
  have h := dd_dig u
  have hne := dd_ne u
  cases hd : Lib.decDigits u with
  | nil => exact absurd hd hne
  | cons x r =>
    rw [hd] at h
    have := h x List.mem_cons_self
    unfold byteAt
    simp; omega
/-- A canonical decimal number of at most 17 digits. -/
def numR (neg : Bool) (r : Bs) : Option Int :=
  if r.length = 0 ∨ 17 < r.length ∨ (byteAt r 0 = 48 ∧ (1 < r.length ∨ neg = true)) then none else (Lib.decFrom 0 r).map fun n => if neg = true then -(n : Int) else n
def numL (l : Bs) : Option Int := if 0 < l.length ∧ byteAt l 0 = 45 then numR true (l.drop 1) else numR false l
theorem numL_digits (u : Nat) (h : u ≤ 100000000000) : numL (Lib.decDigits u) = some (u : Int) := by
  have hb := dd_byte0 u
  have hl := dd_len 11 u (by omega)
  have hh := dd_head u
  have hne := List.length_pos_iff.2 (dd_ne u)
  unfold numL
  rw [if_neg (by omega)]
  unfold numR
  rw [if_neg, decFrom_digits]
  · simp
  · rintro (h1 | h1 | ⟨h1, h2 | h2⟩)
    · omega
    · omega
    · have := hh h1
      rw [this, dd_one 0 (by omega)] at h2
      simp at h2
    · cases h2
/-- A number that the program reads. -/
def numOf (l : Bs) : Option Int := match Lib.atoiAll l with
  | .ok v => if Lib.itoa v = l then some v else none
  | _ => none
theorem itoa_nat (u : Nat) : Lib.itoa (u : Int) = Lib.decDigits u := by
  unfold Lib.itoa
  rw [if_neg (by omega)]; simp
theorem atoi_digits (u : Nat) : Lib.atoi (Lib.decDigits u) = some (u : Int) := by
  have h := dd_dig u
  have hne := dd_ne u
  have hf := decFrom_digits u
  cases hd : Lib.decDigits u with
  | nil => exact absurd hd hne
  | cons x r =>
    rw [hd] at h hf
    have hx := h x List.mem_cons_self
    have e1 : (x == 45) = false := by
      rw [beq_eq_false_iff_ne]
      intro e; rw [e] at hx; revert hx; decide
    have e2 : (x == 43) = false := by
      rw [beq_eq_false_iff_ne]
      intro e; rw [e] at hx; revert hx; decide
    unfold Lib.atoi
    simp only [e1, e2]
    unfold Lib.decNat
    simp [hf]
theorem numOf_digits (u : Nat) (h : u ≤ 100000000000) : numOf (Lib.decDigits u) = some (u : Int) := by
  unfold numOf
  rw [Lib.atoiAll_short _ (by have := dd_len 11 u (by omega); omega), atoi_digits]
  simp [Lib.NumEnd.ofOption, itoa_nat]
theorem numOf_some {l : Bs} {v : Int} (h : numOf l = some v) : Lib.itoa v = l := by
  unfold numOf at h
  split at h
  · split at h
    · simp at h; subst h; assumption
    · cases h
  · cases h
/-- The bytes of hexadecimal digits, or of a dash. -/
def unDash (l : Bs) : Bs := if l = [45] then [] else l
def hexD (l : Bs) : Option Bs := if l = [45] then some [] else if l = [] then none else unhex l
theorem hexOf_dash (d : Bs) : hexOf d ≠ [45] := by
  intro e
  have := congrArg List.length e
  rw [hexOf_length] at this
  simp at this; omega
theorem hexOf_nil {d : Bs} (h : hexOf d = []) : d = [] := by
  have := congrArg List.length h
  rw [hexOf_length] at this
  exact List.eq_nil_of_length_eq_zero (by simp at this; omega)
theorem unhex_hexOf {d : Bs} (h : d.length ≤ 4000) : unhex (hexOf d) = some d := by
  unfold unhex
  rw [if_pos (by rw [hexOf_length]; omega), unhex_hex]
theorem unDash_hex {d : Bs} (h : d.length ≤ 4000) : unhex (unDash (orDash (hexOf d))) = some d := by
  unfold orDash
  split
  · rename_i e
    have := hexOf_nil e
    subst this
    rfl
  · unfold unDash
    rw [if_neg (hexOf_dash d), unhex_hexOf h]
theorem hexD_hex {d : Bs} (h : d.length ≤ 4000) : hexD (orDash (hexOf d)) = some d := by
  unfold orDash
  split
  · rename_i e
    have := hexOf_nil e
    subst this
    rfl
  · rename_i e
    unfold hexD
    rw [if_neg (hexOf_dash d), if_neg e, unhex_hexOf h]
theorem hexD_some {l d : Bs} (h : hexD l = some d) : orDash (hexOf d) = l := by
  unfold hexD at h
  split at h
  · rename_i e
    simp at h; subst h; subst e; rfl
  · split at h
    · cases h
    · rename_i h1 h2
      unfold unhex at h
      split at h
      · have := hex_unhex l d h
        rw [this]
        unfold orDash
        rw [if_neg h2]
      · cases h
/-! ### Operations -/
structure OpR where
  k : Int
  f : Int
  t : Int
  s : Int
  nm : Bs
  d : Bs
def OpR.ok (x : OpR) : Prop := opOk x.k x.nm x.f x.t x.s x.d
instance (x : OpR) : Decidable x.ok := by unfold OpR.ok; infer_instance
def OpR.fmt (x : OpR) : Bs := fmtOp x.k x.nm x.f x.t x.s x.d
abbrev wPut : Bs := [112, 117, 116]
abbrev wAppend : Bs := [97, 112, 112, 101, 110, 100]
abbrev wReplace : Bs := [114, 101, 112, 108, 97, 99, 101]
abbrev wMerge : Bs := [109, 101, 114, 103, 101]
abbrev wDelete : Bs := [100, 101, 108, 101, 116, 101]
def OpR.parts (x : OpR) : List Bs :=
  if x.k = 0 then [wPut, x.nm, Lib.itoa x.s, orDash (hexOf x.d)]
  else if x.k = 1 then [wAppend, x.nm, Lib.itoa x.s, orDash (hexOf x.d)]
  else if x.k = 2 then [wReplace, x.nm, Lib.itoa x.f, Lib.itoa x.t, Lib.itoa x.s, orDash (hexOf x.d)]
  else if x.k = 3 then [wMerge, x.nm, Lib.itoa x.s]
  else [wDelete, x.nm]
theorem OpR.fmt_join {x : OpR} (h : x.ok) : x.fmt = join 32 x.parts := by
  have h2 : fmtHex x.d = hexOf x.d := by
    unfold fmtHex
    rw [if_pos]
    have := h.2.1; omega
  unfold OpR.fmt fmtOp OpR.parts
  have h' : opOk x.k x.nm x.f x.t x.s x.d := h
  rw [if_pos h', h2]
  split
  · simp [join]
  · split
    · simp [join]
    · split
      · simp [join]
      · split <;> simp [join]
theorem nosp_hex (d : Bs) : ∀ x ∈ orDash (hexOf d), x ≠ 32 := by
  unfold orDash
  split
  · intro x hx; simp at hx; subst hx; decide
  · exact hex_no d
theorem nosp_itoa {n : Int} (h : 0 ≤ n) : ∀ x ∈ Lib.itoa n, x ≠ 32 := by
  obtain ⟨u, rfl⟩ := Int.eq_ofNat_of_zero_le h
  rw [itoa_nat]
  intro x hx e
  have := dd_dig u x hx
  rw [e] at this; revert this; decide
theorem nosp_name {l : Bs} (h : nameV l = true) : ∀ x ∈ l, x ≠ 32 := by
  rw [nameV, Bool.and_eq_true, List.all_eq_true] at h
  intro x hx e
  have := h.2 x hx
  rw [e] at this; revert this; decide
theorem OpR.nosp {x : OpR} (h : x.ok) : ∀ p ∈ x.parts, ∀ c ∈ p, c ≠ 32 := by
  have hn := nosp_name h.1
  have hd := nosp_hex x.d
  have hk := h.2.2
  unfold OpR.parts
  have w1 : ∀ c ∈ wPut, c ≠ 32 := by decide
  have w2 : ∀ c ∈ wAppend, c ≠ 32 := by decide
  have w3 : ∀ c ∈ wReplace, c ≠ 32 := by decide
  have w4 : ∀ c ∈ wMerge, c ≠ 32 := by decide
  have w5 : ∀ c ∈ wDelete, c ≠ 32 := by decide
  split
  · have hs := nosp_itoa (n := x.s) (by omega)
    simp only [List.mem_cons, List.not_mem_nil, or_false]
    rintro p (rfl | rfl | rfl | rfl) <;> assumption
  · split
    · have hs := nosp_itoa (n := x.s) (by omega)
      simp only [List.mem_cons, List.not_mem_nil, or_false]
      rintro p (rfl | rfl | rfl | rfl) <;> assumption
    · split
      · have hs := nosp_itoa (n := x.s) (by omega)
        have hf := nosp_itoa (n := x.f) (by omega)
        have ht := nosp_itoa (n := x.t) (by omega)
        simp only [List.mem_cons, List.not_mem_nil, or_false]
        rintro p (rfl | rfl | rfl | rfl | rfl | rfl) <;> assumption
      · split
        · have hs := nosp_itoa (n := x.s) (by omega)
          simp only [List.mem_cons, List.not_mem_nil, or_false]
          rintro p (rfl | rfl | rfl) <;> assumption
        · simp only [List.mem_cons, List.not_mem_nil, or_false]
          rintro p (rfl | rfl) <;> assumption
theorem OpR.parts_ne (x : OpR) : x.parts ≠ [] := by
  unfold OpR.parts
  repeat (first | split | simp)
def implCand : List Bs → Option OpR
  | [a, b, c, e] => if a = wPut ∨ a = wAppend then match numOf c, hexD e with
      | some s, some d => some ⟨if a = wAppend then 1 else 0, 0, 0, s, b, d⟩
      | _, _ => none
    else none
  | [a, b, c, e, g, h] => if a = wReplace then match numOf c, numOf e, numOf g, hexD h with
      | some f, some t, some s, some d => some ⟨2, f, t, s, b, d⟩
      | _, _, _, _ => none
    else none
  | [a, b, c] => if a = wMerge then (numOf c).map fun s => ⟨3, 0, 0, s, b, []⟩ else none
  | [a, b] => if a = wDelete then some ⟨4, 0, 0, 0, b, []⟩ else none
  | _ => none
def specCand : List Bs → Option OpR
  | [a, b, c, e] => if a = wPut ∨ a = wAppend then some ⟨if a = wAppend then 1 else 0, 0, 0, (numL c).getD 0, b, (unhex (unDash e)).getD []⟩ else none
  | [a, b, c, e, g, h] => if a = wReplace then some ⟨2, (numL c).getD 0, (numL e).getD 0, (numL g).getD 0, b, (unhex (unDash h)).getD []⟩ else none
  | [a, b, c] => if a = wMerge then some ⟨3, 0, 0, (numL c).getD 0, b, []⟩ else none
  | [a, b] => if a = wDelete then some ⟨4, 0, 0, 0, b, []⟩ else none
  | _ => none
theorem numL_itoa {n : Int} (h0 : 0 ≤ n) (h1 : n ≤ 100000000000) : numL (Lib.itoa n) = some n := by
  obtain ⟨u, rfl⟩ := Int.eq_ofNat_of_zero_le h0
  rw [itoa_nat, numL_digits u (by omega)]
theorem numOf_itoa {n : Int} (h0 : 0 ≤ n) (h1 : n ≤ 100000000000) : numOf (Lib.itoa n) = some n := by
  obtain ⟨u, rfl⟩ := Int.eq_ofNat_of_zero_le h0
  rw [itoa_nat, numOf_digits u (by omega)]
theorem OpR.specA {x : OpR} (h : x.ok) : specCand x.parts = some x := by
  obtain ⟨k, f, t, s, nm, d⟩ := x
  have hd := h.2.1
  have hk := h.2.2
  simp only at hd hk
  have h1 := unDash_hex (d := d) (by omega)
  unfold OpR.parts
  simp only
  rcases hk with ⟨rfl | rfl, h3, h4, rfl, rfl⟩ | ⟨rfl, h3, h4, h5, h6, h7⟩ | ⟨rfl, h3, h4, rfl, rfl, rfl⟩ | ⟨rfl, rfl, rfl, rfl, rfl⟩
  · have h2 := numL_itoa (n := s) (by omega) (by omega)
    simp [specCand, h1, h2]
  · have h2 := numL_itoa (n := s) (by omega) (by omega)
    simp [specCand, h1, h2]
  · have h2 := numL_itoa (n := s) (by omega) (by omega)
    have e1 := numL_itoa (n := f) (by omega) (by omega)
    have e2 := numL_itoa (n := t) (by omega) (by omega)
    simp [specCand, h1, h2, e1, e2]
  · have h2 := numL_itoa (n := s) (by omega) (by omega)
    simp [specCand, h2]
  · simp [specCand]
theorem OpR.implB {x : OpR} (h : x.ok) : implCand x.parts = some x := by
  obtain ⟨k, f, t, s, nm, d⟩ := x
  have hd := h.2.1
  have hk := h.2.2
  simp only at hd hk
  have h1 := hexD_hex (d := d) (by omega)
  unfold OpR.parts
  simp only
  rcases hk with ⟨rfl | rfl, h3, h4, rfl, rfl⟩ | ⟨rfl, h3, h4, h5, h6, h7⟩ | ⟨rfl, h3, h4, rfl, rfl, rfl⟩ | ⟨rfl, rfl, rfl, rfl, rfl⟩
  · have h2 := numOf_itoa (n := s) (by omega) (by omega)
    simp [implCand, h1, h2]
  · have h2 := numOf_itoa (n := s) (by omega) (by omega)
    simp [implCand, h1, h2]
  · have h2 := numOf_itoa (n := s) (by omega) (by omega)
    have e1 := numOf_itoa (n := f) (by omega) (by omega)
    have e2 := numOf_itoa (n := t) (by omega) (by omega)
    simp [implCand, h1, h2, e1, e2]
  · have h2 := numOf_itoa (n := s) (by omega) (by omega)
    simp [implCand, h2]
  · simp [implCand]
theorem implC {ps : List Bs} {x : OpR} (h : implCand ps = some x) : x.parts = ps := by
  unfold implCand at h
  split at h
  · rename_i a b c e
    split at h
    · rename_i ha
      cases hn : numOf c with
      | none => rw [hn] at h; simp at h
      | some s =>
        cases hh : hexD e with
        | none => rw [hn, hh] at h; simp at h
        | some d =>
          rw [hn, hh] at h
          simp at h
          subst h
          unfold OpR.parts
          simp only
          rw [numOf_some hn, hexD_some hh]
          rcases ha with rfl | rfl
          · simp
          · simp
    · cases h
  · rename_i a b c e g i
    split at h
    · rename_i ha
      cases hn : numOf c with
      | none => rw [hn] at h; simp at h
      | some f =>
        cases hn2 : numOf e with
        | none => rw [hn, hn2] at h; simp at h
        | some t =>
          cases hn3 : numOf g with
          | none => rw [hn, hn2, hn3] at h; simp at h
          | some s =>
            cases hh : hexD i with
            | none => rw [hn, hn2, hn3, hh] at h; simp at h
            | some d =>
              rw [hn, hn2, hn3, hh] at h
              simp at h
              subst h
              unfold OpR.parts
              simp only
              rw [numOf_some hn, numOf_some hn2, numOf_some hn3, hexD_some hh, ha]
              simp
    · cases h
  · rename_i a b c
    split at h
    · rename_i ha
      cases hn : numOf c with
      | none => rw [hn] at h; simp at h
      | some s =>
        rw [hn] at h
        simp at h
        subst h
        unfold OpR.parts
        simp only
        rw [numOf_some hn, ha]
        simp
    · cases h
  · split at h
    · rename_i ha
      simp at h
      subst h
      unfold OpR.parts
      simp only
      rw [ha]; simp
    · cases h
  · cases h
def parseOpR (t : Bs) : Option OpR := match implCand (cut 32 t) with
  | some x => if x.ok then some x else none
  | none => none
theorem fmt_nil {x : OpR} (h : ¬ x.ok) : x.fmt = [] := by
  unfold OpR.fmt fmtOp
  exact if_neg h
theorem op_test (t : Bs) : (match specCand (cut 32 t) with
    | some x => if x.fmt = t then some x else none
    | none => none) = parseOpR t := by
  unfold parseOpR
  by_cases h : ∃ x : OpR, x.ok ∧ x.parts = cut 32 t
  · obtain ⟨x, hx, hp⟩ := h
    rw [← hp, OpR.specA hx, OpR.implB hx]
    have : x.fmt = t := by rw [OpR.fmt_join hx, hp, join_cut]
    simp only [this, if_pos hx, if_true]
  · have h1 : ∀ x, specCand (cut 32 t) = some x → ¬ x.fmt = t := by
      intro x hx e
      by_cases hok : x.ok
      · refine h ⟨x, hok, ?_⟩
        rw [← e, OpR.fmt_join hok, cut_join 32 _ x.parts_ne (OpR.nosp hok)]
      · rw [fmt_nil hok] at e
        subst e
        simp [cut, specCand] at hx
    have h2 : ∀ x, implCand (cut 32 t) = some x → ¬ x.ok := fun x hx hok => h ⟨x, hok, implC hx⟩
    cases hs : specCand (cut 32 t) with
    | none =>
      cases hi : implCand (cut 32 t) with
      | none => rfl
      | some y => simp only [if_neg (h2 y hi)]
    | some x =>
      simp only [if_neg (h1 x hs)]
      cases hi : implCand (cut 32 t) with
      | none => rfl
      | some y => simp only [if_neg (h2 y hi)]
end Go.Proofs.YtoogaalbnnlloaaGreatDoor
