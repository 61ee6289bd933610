import Derived.Test.YtfonokhafdflcaaGreatDoorKDt
import Derived.Test.YtfonokhafdflcaaGreatDoorKGP2
import Derived.Test.YtfonokhafdflcaaGreatDoorKGB
import Derived.Test.YtfonokhafdflcaaGreatDoorKGW
import Derived.Test.YtfonokhafdflcaaGreatDoorKGL
import Derived.Deep.SlicePairs
namespace Go.Proofs.YtfonokhafdflcaaGreatDoor
open Go.RowKit
set_option linter.unusedVariables false
set_option linter.unusedSimpArgs false
set_option maxRecDepth 100000
theorem dat_len {K : Kn} {b : Blk} {d : Bs} (hb : b.ok = true) (h : b.dat K = some d) : (d.length : Int) = b.size := by
  unfold Blk.dat at h
  obtain ⟨n, r, s, t⟩ := b
  rw [Blk.ok_iff] at hb
  simp only at h ⊢
  cases r with
  | true => simp only [if_true] at h hb; injection h with h; subst h; exact hb.2.2.2.2
  | false =>
    simp only [Bool.false_eq_true, if_false] at h
    split at h
    · cases h
    · rename_i hn
      injection h with h
      subst h
      have h3 := not_or.1 (not_or.1 hn).2
      exact Classical.not_not.1 h3.2
theorem ok_body {b : Blk} (h : b.ok = true) : b.body.length ≤ 64 := by
 obtain ⟨n, r, s, t⟩ := b
 rw [Blk.ok_iff] at h
 cases r <;> simp at h <;> simp only <;> omega
def datsB (K : Kn) : List Blk → Option Bs
 | [] => some []
 | b :: bs => (b.dat K).bind fun d => (datsB K bs).map (d ++ ·)
theorem datsB_snoc (K : Kn) (bs : List Blk) (b : Blk) : datsB K (bs ++ [b]) = (datsB K bs).bind fun x => (b.dat K).map (x ++ ·) := by
  induction bs with
  | nil => simp only [List.nil_append, datsB, Option.bind_some]; cases b.dat K <;> simp
  | cons c bs ih =>
    simp only [List.cons_append, datsB, ih]
    cases c.dat K with
    | none => rfl
    | some d =>
      simp only [Option.bind_some]
      cases datsB K bs with
      | none => rfl
      | some x => simp only [Option.bind_some, Option.map_some]; cases b.dat K <;> simp
theorem datsB_app_none {K : Kn} {bs : List Blk} (h : datsB K bs = none) (cs : List Blk) : datsB K (bs ++ cs) = none := by
 induction cs using snoc_ind with
 | h0 => simpa using h
 | h1 cs c ih => rw [← List.append_assoc, datsB_snoc, ih]; rfl
theorem datsB_step {K : Kn} {bs : List Blk} {k : Nat} {x d : Bs} (hk : k < bs.length) (h : datsB K (bs.take k) = some x) (hd : bs[k].dat K = some d) : datsB K (bs.take (k + 1)) = some (x ++ d) := by
 rw [List.take_succ_eq_append_getElem hk, datsB_snoc, h, hd]; rfl
theorem datsB_stop {K : Kn} {bs : List Blk} {k : Nat} (hk : k < bs.length) (hd : bs[k].dat K = none) : datsB K bs = none := by
 have h : datsB K (bs.take (k + 1)) = none := by
  rw [List.take_succ_eq_append_getElem hk, datsB_snoc, hd]; cases datsB K (bs.take k) <;> rfl
 have e := datsB_app_none h (bs.drop (k + 1))
 rwa [List.take_append_drop] at e
theorem datsB_len {K : Kn} {bs : List Blk} {x : Bs} (hok : ∀ b ∈ bs, b.ok = true) (h : datsB K bs = some x) : (x.length : Int) = sizesOf bs := by
  induction bs using snoc_ind generalizing x with
  | h0 => injection h with h; subst h; rfl
  | h1 bs b ih =>
    rw [datsB_snoc] at h
    cases h1 : datsB K bs with
    | none => rw [h1] at h; cases h
    | some y =>
      rw [h1] at h
      cases h2 : b.dat K with
      | none => rw [h2] at h; cases h
      | some d =>
        rw [h2] at h
        injection h with h
        subst h
        have e1 := ih (fun c hc => hok c (by simp [hc])) h1
        have e2 := dat_len (hok b (by simp)) h2
        rw [sizesOf_snoc]
        simp only [List.length_append]
        omega
theorem blocks_ok {l : Bs} {bs : List Blk} (h : blocksB l = some bs) : ∀ b ∈ bs, b.ok = true := by
 exact NumOk_mem (blocks_some h).1
theorem blocks_sz {l : Bs} {bs : List Blk} (h : blocksB l = some bs) : sizesOf bs ≤ 2000 := (blocks_some h).2.2
def cdB (o l m : Int) (dict t : Bs) : Option Bs := if fits o l m dict then (blocksB t).bind (datsB (startW o l m dict)) else none
theorem cdB_no {o l m : Int} {dict t : Bs} (h : ¬ fits o l m dict) : cdB o l m dict t = none := by unfold cdB; rw [if_neg h]
theorem cdB_none {o l m : Int} {dict t : Bs} (h : blocksB t = none) : cdB o l m dict t = none := by unfold cdB; rw [h]; split <;> rfl
theorem cdB_some {o l m : Int} {dict t : Bs} {bs : List Blk} (hf : fits o l m dict) (h : blocksB t = some bs) : cdB o l m dict t = datsB (startW o l m dict) bs := by unfold cdB; rw [h, if_pos hf]; rfl
theorem cdB_len {o l m : Int} {dict t x : Bs} (h : cdB o l m dict t = some x) : x.length ≤ 2000 := by
  unfold cdB at h
  split at h
  · cases hb : blocksB t with
    | none => rw [hb] at h; cases h
    | some bs =>
      rw [hb] at h
      have := datsB_len (blocks_ok hb) h
      have := blocks_sz hb
      omega
  · cases h
abbrev Pc := Int × Bs
def pcOf (K : Kn) (fs : List Fd) (n : Int) : Option Pc := (firstF fs n).bind fun b => (b.dat K).map fun d => (n, d)
def pcTo (K : Kn) (fs : List Fd) (k : Nat) : List Pc := (List.range k).filterMap fun n : Nat => pcOf K fs (n : Int)
theorem pcTo_none {K : Kn} {fs : List Fd} {k : Nat} (h : pcOf K fs k = none) : pcTo K fs (k + 1) = pcTo K fs k := by
 unfold pcTo; rw [List.range_succ, List.filterMap_append]; simp [h]
theorem pcTo_some {K : Kn} {fs : List Fd} {k : Nat} {p : Pc} (h : pcOf K fs k = some p) : pcTo K fs (k + 1) = pcTo K fs k ++ [p] := by
 unfold pcTo; rw [List.range_succ, List.filterMap_append]; simp [h]
theorem pcOf_no {K : Kn} {fs : List Fd} {n : Int} (h : firstF fs n = none) : pcOf K fs n = none := by unfold pcOf; rw [h]; rfl
theorem pcOf_yes {K : Kn} {fs : List Fd} {n : Int} {b : Blk} {d : Bs} (h : firstF fs n = some b) (h2 : b.dat K = some d) : pcOf K fs n = some (n, d) := by unfold pcOf; rw [h, Option.bind_some, h2]; rfl
def PcOk (ps : List Pc) (k : Int) : Prop := (∀ (i : Nat) (h : i < ps.length), 0 ≤ ps[i].1 ∧ ps[i].1 < k ∧ 1 ≤ ps[i].2.length ∧ ps[i].2.length ≤ 64) ∧ ∀ (i : Nat) (h : i + 1 < ps.length), ps[i].1 < ps[i + 1].1
theorem pcTo_ok {K : Kn} {fs : List Fd} (ho : AllOk fs) : ∀ k : Nat, PcOk (pcTo K fs k) k := by
  intro k
  induction k with
  | zero => exact ⟨fun i h => by simp [pcTo] at h, fun i h => by simp [pcTo] at h⟩
  | succ k ih =>
    cases hp : pcOf K fs k with
    | none =>
      rw [pcTo_none hp]
      exact ⟨fun i h => by have := ih.1 i h; omega, ih.2⟩
    | some p =>
      rw [pcTo_some hp]
      have hpp : p.1 = k ∧ 1 ≤ p.2.length ∧ p.2.length ≤ 64 := by
        unfold pcOf at hp
        cases hf : firstF fs k with
        | none => rw [hf] at hp; cases hp
        | some b =>
          rw [hf, Option.bind_some] at hp
          cases hd : b.dat K with
          | none => rw [hd] at hp; cases hp
          | some d =>
            rw [hd] at hp
            injection hp with hp
            subst hp
            have h1 := ho _ _ hf
            have h2 := dat_len h1 hd
            have h3 := Blk.ok_size h1
            exact ⟨rfl, by simp only; omega, by simp only; omega⟩
      generalize pcTo K fs k = ps at *
      refine ⟨fun i h => ?_, fun i h => ?_⟩
      · by_cases hi : i < ps.length
        · rw [List.getElem_append_left hi]; have := ih.1 i hi; omega
        · have e : i = ps.length := by simp at h; omega
          subst e
          rw [List.getElem_append_right (Nat.le_refl _)]
          simp
          omega
      · by_cases hi : i + 1 < ps.length
        · rw [List.getElem_append_left hi, List.getElem_append_left (by omega)]; exact ih.2 i hi
        · have e : i + 1 = ps.length := by simp at h; omega
          have hi2 : i < ps.length := by omega
          have := ih.1 i hi2
          rw [List.getElem_append_left hi2, List.getElem_append_right (by omega)]
          simp [e]
          omega
end Go.Proofs.YtfonokhafdflcaaGreatDoor
namespace Go.Proofs.YtfonokhafdflcaaGreatDoor
open Go.RowKit
set_option linter.unusedVariables false
set_option linter.unusedSimpArgs false
set_option maxRecDepth 100000
abbrev ltS (a b : Bs) : Bool := Op.bytesLess a b
theorem ltS_irrefl : ∀ a : Bs, ltS a a = false
  | [] => rfl
  | x :: a => by
    have h := ltS_irrefl a
    show (decide (x < x) || (x == x && Op.bytesLess a a)) = false
    have h2 : Op.bytesLess a a = false := h
    rw [h2]
    simp
theorem ltS_cons (x y : UInt8) (a b : Bs) : ltS (x :: a) (y :: b) = (decide (x < y) || (x == y && ltS a b)) := rfl
theorem ltS_total : ∀ a b : Bs, ltS a b = false → ltS b a = false → a = b
  | [], [], _, _ => rfl
  | [], y :: b, h, _ => by cases h
  | x :: a, [], _, h => by cases h
  | x :: a, y :: b, h, h' => by
    rw [ltS_cons] at h h'
    simp only [Bool.or_eq_false_iff, decide_eq_false_iff_not, Bool.and_eq_false_iff, beq_eq_false_iff_ne] at h h'
    have hxy : x = y := by
      have h1 := h.1
      have h2 := h'.1
      apply UInt8.toNat_inj.1
      simp only [UInt8.lt_iff_toNat_lt] at h1 h2
      omega
    subst hxy
    have h1 : ltS a b = false := by rcases h.2 with h | h; exact absurd rfl h; exact h
    have h2 : ltS b a = false := by rcases h'.2 with h | h; exact absurd rfl h; exact h
    rw [ltS_total a b h1 h2]
theorem ltS_trans : ∀ a b c : Bs, ltS a b = true → ltS b c = true → ltS a c = true
  | [], [], _, h, _ => by cases h
  | _ :: _, [], _, h, _ => by cases h
  | _, _ :: _, [], _, h => by cases h
  | [], y :: b, z :: c, _, _ => rfl
  | x :: a, y :: b, z :: c, h, h' => by
    rw [ltS_cons] at h h' ⊢
    simp only [Bool.or_eq_true, decide_eq_true_eq, Bool.and_eq_true, beq_iff_eq] at h h' ⊢
    rcases h with h | ⟨rfl, h⟩
    · rcases h' with h' | ⟨rfl, h'⟩
      · left; simp only [UInt8.lt_iff_toNat_lt] at *; omega
      · exact .inl h
    · rcases h' with h' | ⟨rfl, h'⟩
      · exact .inl h'
      · exact .inr ⟨rfl, ltS_trans a b c h h'⟩
theorem leS_not (a b : Bs) : (Op.bytesLess a b || a == b) = !(ltS b a) := by
  by_cases h : a = b
  · subst h; rw [ltS_irrefl]; simp
  · cases h1 : ltS b a with
    | true =>
      have h2 : ltS a b = false := by
        cases h2 : ltS a b with
        | false => rfl
        | true => have := ltS_trans _ _ _ h1 h2; rw [ltS_irrefl] at this; cases this
      have h3 : Op.bytesLess a b = false := h2
      rw [h3]; simpa using h
    | false =>
      have h3 : Op.bytesLess a b = true := by
        cases h2 : Op.bytesLess a b with
        | true => rfl
        | false => exact absurd (ltS_total a b h2 h1) h
      rw [h3]; rfl
theorem binOp_leq_S (t : TypeId) (a b : Bs) : binOp .leq t (.string ⟨a.toArray⟩) (.string ⟨b.toArray⟩) = pure (.bool (!(Op.bytesLess b a))) := by
 rw [binOp_string_leq, toList_S, toList_S, leS_not]
theorem binOp_geq_S (t : TypeId) (a b : Bs) : binOp .geq t (.string ⟨a.toArray⟩) (.string ⟨b.toArray⟩) = pure (.bool (!(Op.bytesLess a b))) := by
 rw [binOp_string_geq, toList_S, toList_S]
abbrev Fl := Bs × Bs
structure Sto where
 o : Int
 l : Int
 m : Int
 dict : Bs
 fs : List Fl
def Sto.fine (S : Sto) (i : Nat) (h : i < S.fs.length) : Prop := nameV S.fs[i].1 = true ∧ (cdB S.o S.l S.m S.dict S.fs[i].2).isSome = true ∧ ∀ h0 : 0 < i, ltS (S.fs[i - 1]'(by omega)).1 S.fs[i].1 = true
def Sto.ok (S : Sto) : Prop := fits S.o S.l S.m S.dict ∧ S.fs.length ≤ 6 ∧ ∀ (i : Nat) (h : i < S.fs.length), S.fine i h
def fsz (fs : List Fl) : Int := fs.foldl (fun n f => n + f.2.length) 0
open Classical in
noncomputable def Sto.size (S : Sto) : Int := if S.ok then fsz S.fs else -1
def rngB (d : Bs) (a b : Int) : Option Bs := if 0 ≤ a ∧ a ≤ b ∧ b ≤ d.length then some ((d.drop a.toNat).take (b.toNat - a.toNat)) else none
def rrB (o l m : Int) (dict t : Bs) (a b : Int) : Option Bs := (cdB o l m dict t).bind fun d => rngB d a b
end Go.Proofs.YtfonokhafdflcaaGreatDoor
namespace Go.Proofs.YtfonokhafdflcaaGreatDoor
open Go.RowKit
set_option linter.unusedVariables false
set_option linter.unusedSimpArgs false
set_option maxRecDepth 100000
abbrev Sto.C (S : Sto) (A : Option Addr) (cap : Nat) : Array Value := #[.int .i64 S.o, .int .i64 S.l, .int .i64 S.m, .string ⟨S.dict.toArray⟩, .slice A S.fs.length cap]
end Go.Proofs.YtfonokhafdflcaaGreatDoor
