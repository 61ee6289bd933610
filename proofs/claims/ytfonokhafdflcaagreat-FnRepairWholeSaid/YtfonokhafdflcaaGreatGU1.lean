import Derived.Test.YtfonokhafdflcaaGreatDt
import Derived.Test.YtfonokhafdflcaaGreatGP2
import Derived.Test.YtfonokhafdflcaaGreatFo
import Derived.Test.YtfonokhafdflcaaGreatGB
import Derived.Test.YtfonokhafdflcaaGreatGW
import Derived.Test.YtfonokhafdflcaaGreatGL
import Derived.Deep.SlicePairs
/- Plain: the data of blocks in sequence, of a container; pieces. -/
namespace Go.Proofs.YtfonokhafdflcaaGreat
open Go.RowKit
set_option linter.unusedVariables false
set_option linter.unusedSimpArgs false
set_option maxRecDepth 100000
theorem dat_len {K : Kn} {b : Blk} {d : Bs} (hb : b.ok = true) (h : b.dat K = some d) : (d.length : Int) = b.size := by
  unfold Blk.dat at h
  obtain ⟨n, r, s, t⟩ := b
  rw [Blk.ok_iff] at hb
  simp only at h ⊢
  cases r with
  | true => simp only [if_true] at h hb; injection h with h; subst h; exact hb.2.2.2.2
  | false =>
    simp only [Bool.false_eq_true, if_false] at h
    split at h
    · cases h
    · rename_i hn
      injection h with h
      subst h
      have h3 := not_or.1 (not_or.1 hn).2
      exact Classical.not_not.1 h3.2
theorem ok_body {b : Blk} (h : b.ok = true) : b.body.length ≤ 64 := by
  obtain ⟨n, r, s, t⟩ := b
  rw [Blk.ok_iff] at h
  cases r <;> simp at h <;> simp only <;> omega
/-- The data of blocks in sequence. -/
def datsB (K : Kn) : List Blk → Option Bs
  | [] => some []
  | b :: bs => (b.dat K).bind fun d => (datsB K bs).map (d ++ ·)
theorem datsB_snoc (K : Kn) (bs : List Blk) (b : Blk) : datsB K (bs ++ [b]) = (datsB K bs).bind fun x => (b.dat K).map (x ++ ·) := by
  induction bs with
  | nil => simp only [List.nil_append, datsB, Option.bind_some]; cases b.dat K <;> simp
  | cons c bs ih =>
    simp only [List.cons_append, datsB, ih]
    cases c.dat K with
    | none => rfl
    | some d =>
      simp only [Option.bind_some]
      cases datsB K bs with
      | none => rfl
      | some x => simp only [Option.bind_some, Option.map_some]; cases b.dat K <;> simp
theorem datsB_app_none {K : Kn} {bs : List Blk} (h : datsB K bs = none) (cs : List Blk) : datsB K (bs ++ cs) = none := by
  induction cs using snoc_ind with
  | h0 => simpa using h
  | h1 cs c ih => rw [← List.append_assoc, datsB_snoc, ih]; rfl
theorem datsB_step {K : Kn} {bs : List Blk} {k : Nat} {x d : Bs} (hk : k < bs.length) (h : datsB K (bs.take k) = some x) (hd : bs[k].dat K = some d) : datsB K (bs.take (k + 1)) = some (x ++ d) := by
  rw [List.take_succ_eq_append_getElem hk, datsB_snoc, h, hd]; rfl
theorem datsB_stop {K : Kn} {bs : List Blk} {k : Nat} (hk : k < bs.length) (hd : bs[k].dat K = none) : datsB K bs = none := by
  have h : datsB K (bs.take (k + 1)) = none := by
    rw [List.take_succ_eq_append_getElem hk, datsB_snoc, hd]; cases datsB K (bs.take k) <;> rfl
  have e := datsB_app_none h (bs.drop (k + 1))
  rwa [List.take_append_drop] at e
theorem datsB_len {K : Kn} {bs : List Blk} {x : Bs} (hok : ∀ b ∈ bs, b.ok = true) (h : datsB K bs = some x) : (x.length : Int) = sizesOf bs := by
  induction bs using snoc_ind generalizing x with
  | h0 => injection h with h; subst h; rfl
  | h1 bs b ih =>
    rw [datsB_snoc] at h
    cases h1 : datsB K bs with
    | none => rw [h1] at h; cases h
    | some y =>
      rw [h1] at h
      cases h2 : b.dat K with
      | none => rw [h2] at h; cases h
      | some d =>
        rw [h2] at h
        injection h with h
        subst h
        have e1 := ih (fun c hc => hok c (by simp [hc])) h1
        have e2 := dat_len (hok b (by simp)) h2
        rw [sizesOf_snoc]
        simp only [List.length_append]
        omega
theorem blocks_ok {l : Bs} {bs : List Blk} (h : blocksB l = some bs) : ∀ b ∈ bs, b.ok = true := by
  exact NumOk_mem (blocks_some h).1
theorem blocks_sz {l : Bs} {bs : List Blk} (h : blocksB l = some bs) : sizesOf bs ≤ 2000 := (blocks_some h).2.2
/-- The data of a container. -/
def cdB (o l m : Int) (dict t : Bs) : Option Bs := if fits o l m dict then (blocksB t).bind (datsB (startW o l m dict)) else none
theorem cdB_no {o l m : Int} {dict t : Bs} (h : ¬ fits o l m dict) : cdB o l m dict t = none := by unfold cdB; rw [if_neg h]
theorem cdB_none {o l m : Int} {dict t : Bs} (h : blocksB t = none) : cdB o l m dict t = none := by unfold cdB; rw [h]; split <;> rfl
theorem cdB_some {o l m : Int} {dict t : Bs} {bs : List Blk} (hf : fits o l m dict) (h : blocksB t = some bs) : cdB o l m dict t = datsB (startW o l m dict) bs := by unfold cdB; rw [h, if_pos hf]; rfl
theorem cdB_len {o l m : Int} {dict t x : Bs} (h : cdB o l m dict t = some x) : x.length ≤ 2000 := by
  unfold cdB at h
  split at h
  · cases hb : blocksB t with
    | none => rw [hb] at h; cases h
    | some bs =>
      rw [hb] at h
      have := datsB_len (blocks_ok hb) h
      have := blocks_sz hb
      omega
  · cases h
/-- The data of a block, with a setting and a dictionary. -/
def bdB (o l m : Int) (dict : Bs) (b : Blk) : Option Bs := if fits o l m dict ∧ b.ok = true then b.dat (startW o l m dict) else none
abbrev Pc := Int × Bs
def pcL (p : Pc) : List Value := [.int .i64 p.1, .string ⟨p.2.toArray⟩]
def pcsV (ps : List Pc) : List Value := ps.flatMap pcL
theorem pcsV_snoc (ps : List Pc) (p : Pc) : pcsV (ps ++ [p]) = pcsV ps ++ pcL p := by unfold pcsV; rw [List.flatMap_append]; simp
theorem pcsV_length (ps : List Pc) : (pcsV ps).length = ps.length * 2 := by
  induction ps with
  | nil => rfl
  | cons f fs ih => unfold pcsV at *; rw [List.flatMap_cons, List.length_append, ih]; simp [pcL]; omega
theorem pcsV_at (ps : List Pc) (k : Nat) (h : k < ps.length) : (pcsV ps)[k * 2 + 0]? = some (.int .i64 ps[k].1) ∧ (pcsV ps)[k * 2 + 1]? = some (.string ⟨ps[k].2.toArray⟩) := by
  have e : ps = ps.take k ++ (ps[k] :: ps.drop (k + 1)) := by rw [List.getElem_cons_drop, List.take_append_drop]
  have hl : (pcsV (ps.take k)).length = k * 2 := by rw [pcsV_length, List.length_take]; omega
  have e2 : pcsV ps = pcsV (ps.take k) ++ (pcL ps[k] ++ pcsV (ps.drop (k + 1))) := by
    conv => lhs; rw [e]
    unfold pcsV; rw [List.flatMap_append, List.flatMap_cons]
  rw [e2]
  refine ⟨?_, ?_⟩ <;> (rw [List.getElem?_append_right (by omega), hl]; simp [pcL])
/-- The piece of a number, among found blocks. -/
def pcOf (K : Kn) (fs : List Fd) (n : Int) : Option Pc := (firstF fs n).bind fun b => (b.dat K).map fun d => (n, d)
def pcTo (K : Kn) (fs : List Fd) (k : Nat) : List Pc := (List.range k).filterMap fun n : Nat => pcOf K fs (n : Int)
theorem pcTo_none {K : Kn} {fs : List Fd} {k : Nat} (h : pcOf K fs k = none) : pcTo K fs (k + 1) = pcTo K fs k := by
  unfold pcTo; rw [List.range_succ, List.filterMap_append]; simp [h]
theorem pcTo_some {K : Kn} {fs : List Fd} {k : Nat} {p : Pc} (h : pcOf K fs k = some p) : pcTo K fs (k + 1) = pcTo K fs k ++ [p] := by
  unfold pcTo; rw [List.range_succ, List.filterMap_append]; simp [h]
theorem pcTo_len (K : Kn) (fs : List Fd) (k : Nat) : (pcTo K fs k).length ≤ k := by
  have := List.length_filterMap_le (fun n : Nat => pcOf K fs (n : Int)) (List.range k)
  unfold pcTo; simpa using this
theorem pcOf_no {K : Kn} {fs : List Fd} {n : Int} (h : firstF fs n = none) : pcOf K fs n = none := by unfold pcOf; rw [h]; rfl
theorem pcOf_bad {K : Kn} {fs : List Fd} {n : Int} {b : Blk} (h : firstF fs n = some b) (h2 : b.dat K = none) : pcOf K fs n = none := by unfold pcOf; rw [h, Option.bind_some, h2]; rfl
theorem pcOf_yes {K : Kn} {fs : List Fd} {n : Int} {b : Blk} {d : Bs} (h : firstF fs n = some b) (h2 : b.dat K = some d) : pcOf K fs n = some (n, d) := by unfold pcOf; rw [h, Option.bind_some, h2]; rfl
theorem findB_len (l : Bs) : (findB l).length ≤ 8001 := by
  have key : ∀ (n : Nat) (a : Int), (findGo l n a).length ≤ n := by
    intro n
    induction n with
    | zero => intro a; simp [findGo]
    | succ n ih =>
      intro a
      unfold findGo
      split
      · have := ih (nextB l (endAt l a)); simp; omega
      · simp
  by_cases h : l.length ≤ 8000
  · have := key (l.length + 1) (nextB l 0)
    unfold findB; omega
  · have e : nextB l 0 = -1 := by unfold nextB; rw [if_neg (fun h2 => h h2.1)]
    unfold findB
    rw [e, findGo_neg l _ (by omega)]; simp
/-- What pieces are: numbers ascend, below 40, with 1 to 64 bytes of data each. -/
def PcOk (ps : List Pc) (k : Int) : Prop := (∀ (i : Nat) (h : i < ps.length), 0 ≤ ps[i].1 ∧ ps[i].1 < k ∧ 1 ≤ ps[i].2.length ∧ ps[i].2.length ≤ 64) ∧ ∀ (i : Nat) (h : i + 1 < ps.length), ps[i].1 < ps[i + 1].1
theorem pcTo_ok {K : Kn} {fs : List Fd} (ho : AllOk fs) : ∀ k : Nat, PcOk (pcTo K fs k) k := by
  intro k
  induction k with
  | zero => exact ⟨fun i h => by simp [pcTo] at h, fun i h => by simp [pcTo] at h⟩
  | succ k ih =>
    cases hp : pcOf K fs k with
    | none =>
      rw [pcTo_none hp]
      exact ⟨fun i h => by have := ih.1 i h; omega, ih.2⟩
    | some p =>
      rw [pcTo_some hp]
      have hpp : p.1 = k ∧ 1 ≤ p.2.length ∧ p.2.length ≤ 64 := by
        unfold pcOf at hp
        cases hf : firstF fs k with
        | none => rw [hf] at hp; cases hp
        | some b =>
          rw [hf, Option.bind_some] at hp
          cases hd : b.dat K with
          | none => rw [hd] at hp; cases hp
          | some d =>
            rw [hd] at hp
            injection hp with hp
            subst hp
            have h1 := ho _ _ hf
            have h2 := dat_len h1 hd
            have h3 := Blk.ok_size h1
            exact ⟨rfl, by simp only; omega, by simp only; omega⟩
      generalize pcTo K fs k = ps at *
      refine ⟨fun i h => ?_, fun i h => ?_⟩
      · by_cases hi : i < ps.length
        · rw [List.getElem_append_left hi]; have := ih.1 i hi; omega
        · have e : i = ps.length := by simp at h; omega
          subst e
          rw [List.getElem_append_right (Nat.le_refl _)]
          simp
          omega
      · by_cases hi : i + 1 < ps.length
        · rw [List.getElem_append_left hi, List.getElem_append_left (by omega)]; exact ih.2 i hi
        · have e : i + 1 = ps.length := by simp at h; omega
          have hi2 : i < ps.length := by omega
          have := ih.1 i hi2
          rw [List.getElem_append_left hi2, List.getElem_append_right (by omega)]
          simp [e]
          omega
/-- The pieces of what is found. -/
def pcsB (o l m : Int) (dict t : Bs) : List Pc := if fits o l m dict then pcTo (startW o l m dict) (findB t) 40 else []
theorem pcsB_no {o l m : Int} {dict t : Bs} (h : ¬ fits o l m dict) : pcsB o l m dict t = [] := by unfold pcsB; rw [if_neg h]
theorem pcsB_yes {o l m : Int} {dict t : Bs} (h : fits o l m dict) : pcsB o l m dict t = pcTo (startW o l m dict) (findB t) 40 := by unfold pcsB; rw [if_pos h]
theorem pcsB_ok (o l m : Int) (dict t : Bs) : PcOk (pcsB o l m dict t) 40 := by
  unfold pcsB
  split
  · exact pcTo_ok (find_ok t) 40
  · exact ⟨fun i h => by simp at h, fun i h => by simp at h⟩
theorem pcsB_len (o l m : Int) (dict t : Bs) : (pcsB o l m dict t).length ≤ 40 := by
  unfold pcsB
  split
  · exact pcTo_len _ _ _
  · simp
end Go.Proofs.YtfonokhafdflcaaGreat
/- Plain: the order of strings; stores: which are valid; the file of a name. -/
namespace Go.Proofs.YtfonokhafdflcaaGreat
open Go.RowKit
set_option linter.unusedVariables false
set_option linter.unusedSimpArgs false
set_option maxRecDepth 100000
abbrev ltS (a b : Bs) : Bool := Op.bytesLess a b
theorem ltS_irrefl : ∀ a : Bs, ltS a a = false
  | [] => rfl
  | x :: a => by
    have h := ltS_irrefl a
    show (decide (x < x) || (x == x && Op.bytesLess a a)) = false
    have h2 : Op.bytesLess a a = false := h
    rw [h2]
    simp
theorem ltS_cons (x y : UInt8) (a b : Bs) : ltS (x :: a) (y :: b) = (decide (x < y) || (x == y && ltS a b)) := rfl
theorem ltS_total : ∀ a b : Bs, ltS a b = false → ltS b a = false → a = b
  | [], [], _, _ => rfl
  | [], y :: b, h, _ => by cases h
  | x :: a, [], _, h => by cases h
  | x :: a, y :: b, h, h' => by
    rw [ltS_cons] at h h'
    simp only [Bool.or_eq_false_iff, decide_eq_false_iff_not, Bool.and_eq_false_iff, beq_eq_false_iff_ne] at h h'
    have hxy : x = y := by
      have h1 := h.1
      have h2 := h'.1
      apply UInt8.toNat_inj.1
      simp only [UInt8.lt_iff_toNat_lt] at h1 h2
      omega
    subst hxy
    have h1 : ltS a b = false := by rcases h.2 with h | h; exact absurd rfl h; exact h
    have h2 : ltS b a = false := by rcases h'.2 with h | h; exact absurd rfl h; exact h
    rw [ltS_total a b h1 h2]
theorem ltS_trans : ∀ a b c : Bs, ltS a b = true → ltS b c = true → ltS a c = true
  | [], [], _, h, _ => by cases h
  | _ :: _, [], _, h, _ => by cases h
  | _, _ :: _, [], _, h => by cases h
  | [], y :: b, z :: c, _, _ => rfl
  | x :: a, y :: b, z :: c, h, h' => by
    rw [ltS_cons] at h h' ⊢
    simp only [Bool.or_eq_true, decide_eq_true_eq, Bool.and_eq_true, beq_iff_eq] at h h' ⊢
    rcases h with h | ⟨rfl, h⟩
    · rcases h' with h' | ⟨rfl, h'⟩
      · left; simp only [UInt8.lt_iff_toNat_lt] at *; omega
      · exact .inl h
    · rcases h' with h' | ⟨rfl, h'⟩
      · exact .inl h'
      · exact .inr ⟨rfl, ltS_trans a b c h h'⟩
theorem ltS_ne {a b : Bs} (h : ltS a b = true) : a ≠ b := by rintro rfl; rw [ltS_irrefl] at h; cases h
/-- Not 'a is at most b' is 'b comes before a'. -/
theorem leS_not (a b : Bs) : (Op.bytesLess a b || a == b) = !(ltS b a) := by
  by_cases h : a = b
  · subst h; rw [ltS_irrefl]; simp
  · cases h1 : ltS b a with
    | true =>
      have h2 : ltS a b = false := by
        cases h2 : ltS a b with
        | false => rfl
        | true => have := ltS_trans _ _ _ h1 h2; rw [ltS_irrefl] at this; cases this
      have h3 : Op.bytesLess a b = false := h2
      rw [h3]; simpa using h
    | false =>
      have h3 : Op.bytesLess a b = true := by
        cases h2 : Op.bytesLess a b with
        | true => rfl
        | false => exact absurd (ltS_total a b h2 h1) h
      rw [h3]; rfl
theorem binOp_leq_S (t : TypeId) (a b : Bs) : binOp .leq t (.string ⟨a.toArray⟩) (.string ⟨b.toArray⟩) = pure (.bool (!(Op.bytesLess b a))) := by
  rw [binOp_string_leq, toList_S, toList_S, leS_not]
theorem binOp_geq_S (t : TypeId) (a b : Bs) : binOp .geq t (.string ⟨a.toArray⟩) (.string ⟨b.toArray⟩) = pure (.bool (!(Op.bytesLess a b))) := by
  rw [binOp_string_geq, toList_S, toList_S]
abbrev Fl := Bs × Bs
def flL (f : Fl) : List Value := [.string ⟨f.1.toArray⟩, .string ⟨f.2.toArray⟩]
def flsV (fs : List Fl) : List Value := fs.flatMap flL
theorem flsV_snoc (ps : List Fl) (p : Fl) : flsV (ps ++ [p]) = flsV ps ++ flL p := by unfold flsV; rw [List.flatMap_append]; simp
theorem flsV_length (ps : List Fl) : (flsV ps).length = ps.length * 2 := by
  induction ps with
  | nil => rfl
  | cons f fs ih => unfold flsV at *; rw [List.flatMap_cons, List.length_append, ih]; simp [flL]; omega
theorem flsV_at (ps : List Fl) (k : Nat) (h : k < ps.length) : (flsV ps)[k * 2 + 0]? = some (.string ⟨ps[k].1.toArray⟩) ∧ (flsV ps)[k * 2 + 1]? = some (.string ⟨ps[k].2.toArray⟩) := by
  have e : ps = ps.take k ++ (ps[k] :: ps.drop (k + 1)) := by rw [List.getElem_cons_drop, List.take_append_drop]
  have hl : (flsV (ps.take k)).length = k * 2 := by rw [flsV_length, List.length_take]; omega
  have e2 : flsV ps = flsV (ps.take k) ++ (flL ps[k] ++ flsV (ps.drop (k + 1))) := by
    conv => lhs; rw [e]
    unfold flsV; rw [List.flatMap_append, List.flatMap_cons]
  rw [e2]
  refine ⟨?_, ?_⟩ <;> (rw [List.getElem?_append_right (by omega), hl]; simp [flL])
structure Sto where
  o : Int
  l : Int
  m : Int
  dict : Bs
  fs : List Fl
/-- File i is as it should be. -/
def Sto.fine (S : Sto) (i : Nat) (h : i < S.fs.length) : Prop := nameV S.fs[i].1 = true ∧ (cdB S.o S.l S.m S.dict S.fs[i].2).isSome = true ∧ ∀ h0 : 0 < i, ltS (S.fs[i - 1]'(by omega)).1 S.fs[i].1 = true
def Sto.ok (S : Sto) : Prop := fits S.o S.l S.m S.dict ∧ S.fs.length ≤ 6 ∧ ∀ (i : Nat) (h : i < S.fs.length), S.fine i h
open Classical in
noncomputable def Sto.okB (S : Sto) : Bool := decide S.ok
theorem Sto.okB_iff (S : Sto) : S.okB = true ↔ S.ok := by unfold Sto.okB; simp
theorem Sto.okB_no {S : Sto} (h : ¬ S.ok) : S.okB = false := by unfold Sto.okB; simpa using h
theorem Sto.asc {S : Sto} (h : S.ok) : ∀ (j i : Nat) (hj : j < S.fs.length) (hi : i < j), ltS (S.fs[i]'(by omega)).1 S.fs[j].1 = true
  | 0, i, hj, hi => by omega
  | j + 1, i, hj, hi => by
    have h1 := (h.2.2 (j + 1) hj).2.2 (by omega)
    simp only [Nat.add_sub_cancel] at h1
    by_cases he : i = j
    · subst he; exact h1
    · exact ltS_trans _ _ _ (Sto.asc h j i (by omega) (by omega)) h1
theorem Sto.okB_fits {S : Sto} (h : ¬ fits S.o S.l S.m S.dict) : S.okB = false := Sto.okB_no fun h2 => h h2.1
theorem Sto.okB_len {S : Sto} (h : ¬ S.fs.length ≤ 6) : S.okB = false := Sto.okB_no fun h2 => h h2.2.1
theorem Sto.okB_bad {S : Sto} {k : Nat} {hk : k < S.fs.length} (h : ¬ S.fine k hk) : S.okB = false := Sto.okB_no fun h2 => h (h2.2.2 k hk)
theorem Sto.okB_all {S : Sto} (h : fits S.o S.l S.m S.dict) (h2 : S.fs.length ≤ 6) (h3 : ∀ (i : Nat) (hi : i < S.fs.length), i < S.fs.length → S.fine i hi) : S.okB = true := (Sto.okB_iff S).2 ⟨h, h2, fun i hi => h3 i hi hi⟩
theorem Sto.fine_succ {S : Sto} {k : Nat} (hA : ∀ (i : Nat) (h : i < S.fs.length), i < k → S.fine i h) (hk : k < S.fs.length) (hf : S.fine k hk) : ∀ (i : Nat) (h : i < S.fs.length), i < k + 1 → S.fine i h := by
  intro i h hi
  by_cases he : i = k
  · subst he; exact hf
  · exact hA i h (by omega)
/-- The name before file k. -/
def prevN (fs : List Fl) (k : Nat) : Bs := (fs[k - 1]?.getD ([], [])).1
/-- File k is fine, in parts. -/
theorem Sto.fine_iff {S : Sto} {k : Nat} (hk : k < S.fs.length) : S.fine k hk ↔ nameV S.fs[k].1 = true ∧ (cdB S.o S.l S.m S.dict S.fs[k].2).isSome = true ∧ (k = 0 ∨ Op.bytesLess (prevN S.fs k) S.fs[k].1 = true) := by
  unfold Sto.fine prevN
  rw [List.getElem?_eq_getElem (show k - 1 < S.fs.length by omega)]
  simp only [Option.getD_some]
  constructor
  · rintro ⟨a, b, c⟩
    refine ⟨a, b, ?_⟩
    by_cases h : k = 0
    · exact .inl h
    · exact .inr (c (by omega))
  · rintro ⟨a, b, c⟩
    exact ⟨a, b, fun h => by rcases c with c | c; omega; exact c⟩
/-- The number of the file with a name. -/
def fidx (fs : List Fl) (n : Bs) : Option Nat := fs.findIdx? (fun f => decide (f.1 = n))
theorem fidx_some {fs : List Fl} {n : Bs} {i : Nat} (hi : i < fs.length) (he : fs[i].1 = n) (hb : ∀ (j : Nat) (hj : j < i), (fs[j]'(by omega)).1 ≠ n) : fidx fs n = some i := by
  unfold fidx
  rw [List.findIdx?_eq_some_iff_getElem]
  exact ⟨hi, by simpa using he, fun j hj => by simpa using hb j hj⟩
theorem fidx_none {fs : List Fl} {n : Bs} (hb : ∀ (j : Nat) (hj : j < fs.length), fs[j].1 ≠ n) : fidx fs n = none := by
  unfold fidx
  rw [List.findIdx?_eq_none_iff]
  intro f hf
  obtain ⟨j, hj, rfl⟩ := List.getElem_of_mem hf
  simpa using hb j hj
theorem fidx_lt {fs : List Fl} {n : Bs} {i : Nat} (h : fidx fs n = some i) : i < fs.length := by
  unfold fidx at h
  rw [List.findIdx?_eq_some_iff_getElem] at h
  exact h.1
theorem find_stop {S : Sto} (hok : S.ok) {n : Bs} {k : Nat} (hk : k < S.fs.length) (hA : ∀ (j : Nat) (h : j < S.fs.length), j < k → Op.bytesLess S.fs[j].1 n = true) (h : Op.bytesLess S.fs[k].1 n = false) :
    fidx S.fs n = if S.fs[k].1 = n then some k else none := by
  split
  · rename_i he
    exact fidx_some hk he fun j hj => ltS_ne (hA j (by omega) hj)
  · rename_i he
    have hgt : ltS n S.fs[k].1 = true := by
      cases h2 : ltS n S.fs[k].1 with
      | true => rfl
      | false => exact absurd (ltS_total _ _ h h2) he
    refine fidx_none fun j hj => ?_
    by_cases h1 : j < k
    · exact ltS_ne (hA j hj h1)
    · by_cases h2 : j = k
      · subst h2; exact he
      · exact (ltS_ne (ltS_trans _ _ _ hgt (Sto.asc hok j k hj (by omega)))).symm
theorem find_end {S : Sto} {n : Bs} {k : Nat} (hk : S.fs.length ≤ k) (hA : ∀ (j : Nat) (h : j < S.fs.length), j < k → Op.bytesLess S.fs[j].1 n = true) : fidx S.fs n = none :=
  fidx_none fun j hj => ltS_ne (hA j hj (by omega))
theorem less_succ {fs : List Fl} {n : Bs} {k : Nat} (hk : k < fs.length) (hA : ∀ (j : Nat) (h : j < fs.length), j < k → Op.bytesLess fs[j].1 n = true) (h : Op.bytesLess fs[k].1 n = true) : ∀ (j : Nat) (h : j < fs.length), j < k + 1 → Op.bytesLess fs[j].1 n = true := by
  intro j hj h1
  by_cases he : j = k
  · subst he; exact h
  · exact hA j hj (by omega)
theorem ne_succ {fs : List Fl} {n : Bs} {k : Nat} (hk : k < fs.length) (hA : ∀ (j : Nat) (h : j < fs.length), j < k → fs[j].1 ≠ n) (h : fs[k].1 ≠ n) : ∀ (j : Nat) (h : j < fs.length), j < k + 1 → fs[j].1 ≠ n := by
  intro j hj h1
  by_cases he : j = k
  · subst he; exact h
  · exact hA j hj (by omega)
open Classical in
/-- The container of a file. -/
noncomputable def Sto.file (S : Sto) (n : Bs) : Option Bs := if S.ok then (fidx S.fs n).bind fun i => (S.fs[i]?).map (·.2) else none
theorem Sto.file_no {S : Sto} {n : Bs} (h : ¬ S.ok) : S.file n = none := by unfold Sto.file; rw [if_neg h]
theorem Sto.file_none {S : Sto} {n : Bs} (h : fidx S.fs n = none) : S.file n = none := by unfold Sto.file; rw [h]; split <;> rfl
theorem Sto.file_some {S : Sto} {n : Bs} {i : Nat} (h : S.ok) (h2 : fidx S.fs n = some i) : S.file n = some (S.fs[i]'(fidx_lt h2)).2 := by
  unfold Sto.file; rw [if_pos h, h2]; simp [List.getElem?_eq_getElem (fidx_lt h2)]
/-- The sizes of all containers. -/
def fsz (fs : List Fl) : Int := fs.foldl (fun n f => n + f.2.length) 0
theorem fsz_snoc (fs : List Fl) (f : Fl) : fsz (fs ++ [f]) = fsz fs + f.2.length := by unfold fsz; rw [List.foldl_append]; rfl
open Classical in
noncomputable def Sto.size (S : Sto) : Int := if S.ok then fsz S.fs else -1
theorem Sto.size_no {S : Sto} (h : ¬ S.ok) : S.size = -1 := by unfold Sto.size; rw [if_neg h]
theorem Sto.size_yes {S : Sto} (h : S.ok) : S.size = fsz S.fs := by unfold Sto.size; rw [if_pos h]
theorem fsz_bd {fs : List Fl} (hb : ∀ f ∈ fs, f.1.length ≤ 1500000 ∧ f.2.length ≤ 1500000) : ∀ k, 0 ≤ fsz (fs.take k) ∧ fsz (fs.take k) ≤ 1500000 * k
  | 0 => by simp [fsz]
  | k + 1 => by
    have ih := fsz_bd hb k
    by_cases hk : k < fs.length
    · rw [List.take_succ_eq_append_getElem hk, fsz_snoc]
      have := hb fs[k] (List.getElem_mem hk)
      omega
    · rw [List.take_of_length_le (by omega)]
      rw [List.take_of_length_le (by omega)] at ih
      omega
/-- A range of data. -/
def rngB (d : Bs) (a b : Int) : Option Bs := if 0 ≤ a ∧ a ≤ b ∧ b ≤ d.length then some ((d.drop a.toNat).take (b.toNat - a.toNat)) else none
def rrB (o l m : Int) (dict t : Bs) (a b : Int) : Option Bs := (cdB o l m dict t).bind fun d => rngB d a b
end Go.Proofs.YtfonokhafdflcaaGreat
/- Opening a store that a law takes: its values, its files in memory. -/
namespace Go.Proofs.YtfonokhafdflcaaGreat
open Go.RowKit
set_option linter.unusedVariables false
set_option linter.unusedSimpArgs false
set_option maxRecDepth 100000
end Go.Proofs.YtfonokhafdflcaaGreat
