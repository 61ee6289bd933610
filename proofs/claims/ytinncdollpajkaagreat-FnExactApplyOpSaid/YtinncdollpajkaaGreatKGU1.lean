import Derived.Test.YtinncdollpajkaaGreatKGP2
import Derived.Test.YtinncdollpajkaaGreatKGB
import Derived.Test.YtinncdollpajkaaGreatKGW
import Derived.Test.YtinncdollpajkaaGreatKGL
import Derived.Deep.SlicePairs
set_option linter.unusedVariables false
set_option linter.unusedSimpArgs false
namespace Go.Proofs.YtinncdollpajkaaGreat
open Go.RowKit
set_option maxRecDepth 100000
theorem vY {K : Kn} {b : Blk} {d : Bs} (hb : b.ok = true) (h : b.dat K = some d) : (d.length : Int) = b.size := by
  unfold Blk.dat at h
  obtain ⟨n, r, s, t⟩ := b
  rw [Blk.oN] at hb
  simp only at h ⊢
  cases r with
  | true => simp only [if_true] at h hb; injection h with h; subst h; exact hb.2.2.2.2
  | false =>
    simp only [Bool.false_eq_true, if_false] at h
    split at h
    · cases h
    · rename_i hn
      injection h with h
      subst h
      have h3 := not_or.1 (not_or.1 hn).2
      exact Classical.not_not.1 h3.2
theorem sH {b : Blk} (h : b.ok = true) : b.body.length ≤ 64 := by
 obtain ⟨n, r, s, t⟩ := b
 rw [Blk.oN] at h
 cases r <;> simp at h <;> simp only <;> omega
def yw (K : Kn) : List Blk → Option Bs
 | [] => some []
 | b :: bs => (b.dat K).bind fun d => (yw K bs).map (d ++ ·)
theorem vI (K : Kn) (bs : List Blk) (b : Blk) : yw K (bs ++ [b]) = (yw K bs).bind fun x => (b.dat K).map (x ++ ·) := by
  induction bs with
  | nil => simp only [List.nil_append, yw, Option.bind_some]; cases b.dat K <;> simp
  | cons c bs ih =>
    simp only [List.cons_append, yw, ih]
    cases c.dat K with
    | none => rfl
    | some d =>
      simp only [Option.bind_some]
      cases yw K bs with
      | none => rfl
      | some x => simp only [Option.bind_some, Option.map_some]; cases b.dat K <;> simp
theorem gW {K : Kn} {bs : List Blk} (h : yw K bs = none) (cs : List Blk) : yw K (bs ++ cs) = none := by
 induction cs using yS with
 | h0 => simpa using h
 | h1 cs c ih => rw [← List.append_assoc, vI, ih]; rfl
theorem kz {K : Kn} {bs : List Blk} {k : Nat} {x d : Bs} (hk : k < bs.length) (h : yw K (bs.take k) = some x) (hd : bs[k].dat K = some d) : yw K (bs.take (k + 1)) = some (x ++ d) := by
 rw [List.take_succ_eq_append_getElem hk, vI, h, hd]; rfl
theorem lY {K : Kn} {bs : List Blk} {k : Nat} (hk : k < bs.length) (hd : bs[k].dat K = none) : yw K bs = none := by
 have h : yw K (bs.take (k + 1)) = none := by
  rw [List.take_succ_eq_append_getElem hk, vI, hd]; cases yw K (bs.take k) <;> rfl
 have e := gW h (bs.drop (k + 1))
 rwa [List.take_append_drop] at e
theorem UI {K : Kn} {bs : List Blk} {x : Bs} (hok : ∀ b ∈ bs, b.ok = true) (h : yw K bs = some x) : (x.length : Int) = zn bs := by
  induction bs using yS generalizing x with
  | h0 => injection h with h; subst h; rfl
  | h1 bs b ih =>
    rw [vI] at h
    cases h1 : yw K bs with
    | none => rw [h1] at h; cases h
    | some y =>
      rw [h1] at h
      cases h2 : b.dat K with
      | none => rw [h2] at h; cases h
      | some d =>
        rw [h2] at h
        injection h with h
        subst h
        have e1 := ih (fun c hc => hok c (by simp [hc])) h1
        have e2 := vY (hok b (by simp)) h2
        rw [wY]
        simp only [List.length_append]
        omega
theorem xA {l : Bs} {bs : List Blk} (h : zM l = some bs) : ∀ b ∈ bs, b.ok = true := by
 exact jZ (ni h).1
theorem Zc {l : Bs} {bs : List Blk} (h : zM l = some bs) : zn bs ≤ 2000 := (ni h).2.2
def cdB (o l m : Int) (dict t : Bs) : Option Bs := if fits o l m dict then (zM t).bind (yw (zt o l m dict)) else none
theorem U3 {o l m : Int} {dict t : Bs} (h : ¬ fits o l m dict) : cdB o l m dict t = none := by unfold cdB; rw [if_neg h]
theorem YF {o l m : Int} {dict t : Bs} (h : zM t = none) : cdB o l m dict t = none := by unfold cdB; rw [h]; split <;> rfl
theorem uH {o l m : Int} {dict t : Bs} {bs : List Blk} (hf : fits o l m dict) (h : zM t = some bs) : cdB o l m dict t = yw (zt o l m dict) bs := by unfold cdB; rw [h, if_pos hf]; rfl
abbrev Pc := Int × Bs
def XR (ps : List Pc) (k : Int) : Prop := (∀ (i : Nat) (h : i < ps.length), 0 ≤ ps[i].1 ∧ ps[i].1 < k ∧ 1 ≤ ps[i].2.length ∧ ps[i].2.length ≤ 64) ∧ ∀ (i : Nat) (h : i + 1 < ps.length), ps[i].1 < ps[i + 1].1
abbrev ltS (a b : Bs) : Bool := Op.bytesLess a b
theorem ru : ∀ a : Bs, ltS a a = false
  | [] => rfl
  | x :: a => by
    have h := ru a
    show (decide (x < x) || (x == x && Op.bytesLess a a)) = false
    have h2 : Op.bytesLess a a = false := h
    rw [h2]
    simp
theorem Xp (x y : UInt8) (a b : Bs) : ltS (x :: a) (y :: b) = (decide (x < y) || (x == y && ltS a b)) := rfl
theorem nJ : ∀ a b : Bs, ltS a b = false → ltS b a = false → a = b
  | [], [], _, _ => rfl
  | [], y :: b, h, _ => by cases h
  | x :: a, [], _, h => by cases h
  | x :: a, y :: b, h, h' => by
    rw [Xp] at h h'
    simp only [Bool.or_eq_false_iff, decide_eq_false_iff_not, Bool.and_eq_false_iff, beq_eq_false_iff_ne] at h h'
    have hxy : x = y := by
      have h1 := h.1
      have h2 := h'.1
      apply UInt8.toNat_inj.1
      simp only [UInt8.lt_iff_toNat_lt] at h1 h2
      omega
    subst hxy
    have h1 : ltS a b = false := by rcases h.2 with h | h; exact absurd rfl h; exact h
    have h2 : ltS b a = false := by rcases h'.2 with h | h; exact absurd rfl h; exact h
    rw [nJ a b h1 h2]
theorem qH : ∀ a b c : Bs, ltS a b = true → ltS b c = true → ltS a c = true
  | [], [], _, h, _ => by cases h
  | _ :: _, [], _, h, _ => by cases h
  | _, _ :: _, [], _, h => by cases h
  | [], y :: b, z :: c, _, _ => rfl
  | x :: a, y :: b, z :: c, h, h' => by
    rw [Xp] at h h' ⊢
    simp only [Bool.or_eq_true, decide_eq_true_eq, Bool.and_eq_true, beq_iff_eq] at h h' ⊢
    rcases h with h | ⟨rfl, h⟩
    · rcases h' with h' | ⟨rfl, h'⟩
      · left; simp only [UInt8.lt_iff_toNat_lt] at *; omega
      · exact .inl h
    · rcases h' with h' | ⟨rfl, h'⟩
      · exact .inl h'
      · exact .inr ⟨rfl, qH a b c h h'⟩
theorem oZ {a b : Bs} (h : ltS a b = true) : a ≠ b := by rintro rfl; rw [ru] at h; cases h
theorem SV (a b : Bs) : (Op.bytesLess a b || a == b) = !(ltS b a) := by
  by_cases h : a = b
  · subst h; rw [ru]; simp
  · cases h1 : ltS b a with
    | true =>
      have h2 : ltS a b = false := by
        cases h2 : ltS a b with
        | false => rfl
        | true => have := qH _ _ _ h1 h2; rw [ru] at this; cases this
      have h3 : Op.bytesLess a b = false := h2
      rw [h3]; simpa using h
    | false =>
      have h3 : Op.bytesLess a b = true := by
        cases h2 : Op.bytesLess a b with
        | true => rfl
        | false => exact absurd (nJ a b h2 h1) h
      rw [h3]; rfl
theorem tV (t : TypeId) (a b : Bs) : binOp .leq t (.string ⟨a.toArray⟩) (.string ⟨b.toArray⟩) = pure (.bool (!(Op.bytesLess b a))) := by
 rw [binOp_string_leq, zK, zK, SV]
theorem tu (t : TypeId) (a b : Bs) : binOp .geq t (.string ⟨a.toArray⟩) (.string ⟨b.toArray⟩) = pure (.bool (!(Op.bytesLess a b))) := by
 rw [binOp_string_geq, zK, zK]
abbrev Fl := Bs × Bs
def flL (f : Fl) : List Value := [.string ⟨f.1.toArray⟩, .string ⟨f.2.toArray⟩]
def zQ (fs : List Fl) : List Value := fs.flatMap flL
theorem uk (ps : List Fl) (p : Fl) : zQ (ps ++ [p]) = zQ ps ++ flL p := by unfold zQ; rw [List.flatMap_append]; simp
theorem xn (ps : List Fl) : (zQ ps).length = ps.length * 2 := by
 induction ps with
 | nil => rfl
 | cons f fs ih => unfold zQ at *; rw [List.flatMap_cons, List.length_append, ih]; simp [flL]; omega
theorem nY (ps : List Fl) (k : Nat) (h : k < ps.length) : (zQ ps)[k * 2 + 0]? = some (.string ⟨ps[k].1.toArray⟩) ∧ (zQ ps)[k * 2 + 1]? = some (.string ⟨ps[k].2.toArray⟩) := by
 have e : ps = ps.take k ++ (ps[k] :: ps.drop (k + 1)) := by rw [List.getElem_cons_drop, List.take_append_drop]
 have hl : (zQ (ps.take k)).length = k * 2 := by rw [xn, List.length_take]; omega
 have e2 : zQ ps = zQ (ps.take k) ++ (flL ps[k] ++ zQ (ps.drop (k + 1))) := by
  conv => lhs; rw [e]
  unfold zQ; rw [List.flatMap_append, List.flatMap_cons]
 rw [e2]
 refine ⟨?_, ?_⟩ <;> (rw [List.getElem?_append_right (by omega), hl]; simp [flL])
structure Sto where
 o : Int
 l : Int
 m : Int
 dict : Bs
 fs : List Fl
def Sto.fine (S : Sto) (i : Nat) (h : i < S.fs.length) : Prop := wO S.fs[i].1 = true ∧ (cdB S.o S.l S.m S.dict S.fs[i].2).isSome = true ∧ ∀ h0 : 0 < i, ltS (S.fs[i - 1]'(by omega)).1 S.fs[i].1 = true
def Sto.ok (S : Sto) : Prop := fits S.o S.l S.m S.dict ∧ S.fs.length ≤ 6 ∧ ∀ (i : Nat) (h : i < S.fs.length), S.fine i h
open Classical in
noncomputable def Sto.okB (S : Sto) : Bool := decide S.ok
theorem Sto.jl (S : Sto) : S.okB = true ↔ S.ok := by unfold Sto.okB; simp
theorem Sto.XB {S : Sto} (h : ¬ S.ok) : S.okB = false := by unfold Sto.okB; simpa using h
theorem Sto.asc {S : Sto} (h : S.ok) : ∀ (j i : Nat) (hj : j < S.fs.length) (hi : i < j), ltS (S.fs[i]'(by omega)).1 S.fs[j].1 = true
  | 0, i, hj, hi => by omega
  | j + 1, i, hj, hi => by
    have h1 := (h.2.2 (j + 1) hj).2.2 (by omega)
    simp only [Nat.add_sub_cancel] at h1
    by_cases he : i = j
    · subst he; exact h1
    · exact qH _ _ _ (Sto.asc h j i (by omega) (by omega)) h1
theorem Sto.Y0 {S : Sto} (h : ¬ fits S.o S.l S.m S.dict) : S.okB = false := Sto.XB fun h2 => h h2.1
theorem Sto.Vb {S : Sto} (h : ¬ S.fs.length ≤ 6) : S.okB = false := Sto.XB fun h2 => h h2.2.1
theorem Sto.VI {S : Sto} {k : Nat} {hk : k < S.fs.length} (h : ¬ S.fine k hk) : S.okB = false := Sto.XB fun h2 => h (h2.2.2 k hk)
theorem Sto.Vh {S : Sto} (h : fits S.o S.l S.m S.dict) (h2 : S.fs.length ≤ 6) (h3 : ∀ (i : Nat) (hi : i < S.fs.length), i < S.fs.length → S.fine i hi) : S.okB = true := (Sto.jl S).2 ⟨h, h2, fun i hi => h3 i hi hi⟩
theorem Sto.ik {S : Sto} {k : Nat} (hA : ∀ (i : Nat) (h : i < S.fs.length), i < k → S.fine i h) (hk : k < S.fs.length) (hf : S.fine k hk) : ∀ (i : Nat) (h : i < S.fs.length), i < k + 1 → S.fine i h := by
 intro i h hi
 by_cases he : i = k
 ·subst he; exact hf
 ·exact hA i h (by omega)
def pO (fs : List Fl) (k : Nat) : Bs := (fs[k - 1]?.getD ([], [])).1
theorem Sto.je {S : Sto} {k : Nat} (hk : k < S.fs.length) : S.fine k hk ↔ wO S.fs[k].1 = true ∧ (cdB S.o S.l S.m S.dict S.fs[k].2).isSome = true ∧ (k = 0 ∨ Op.bytesLess (pO S.fs k) S.fs[k].1 = true) := by
 unfold Sto.fine pO
 rw [List.getElem?_eq_getElem (show k - 1 < S.fs.length by omega)]
 simp only [Option.getD_some]
 constructor
 ·rintro ⟨a, b, c⟩
  refine ⟨a, b, ?_⟩
  by_cases h : k = 0
  ·exact .inl h
  ·exact .inr (c (by omega))
 ·rintro ⟨a, b, c⟩
  exact ⟨a, b, fun h => by rcases c with c | c; omega; exact c⟩
def xI (fs : List Fl) (n : Bs) : Option Nat := fs.findIdx? (fun f => decide (f.1 = n))
theorem Zr {fs : List Fl} {n : Bs} {i : Nat} (hi : i < fs.length) (he : fs[i].1 = n) (hb : ∀ (j : Nat) (hj : j < i), (fs[j]'(by omega)).1 ≠ n) : xI fs n = some i := by
 unfold xI
 rw [List.findIdx?_eq_some_iff_getElem]
 exact ⟨hi, by simpa using he, fun j hj => by simpa using hb j hj⟩
theorem jE {fs : List Fl} {n : Bs} (hb : ∀ (j : Nat) (hj : j < fs.length), fs[j].1 ≠ n) : xI fs n = none := by
 unfold xI
 rw [List.findIdx?_eq_none_iff]
 intro f hf
 obtain ⟨j, hj, rfl⟩ := List.getElem_of_mem hf
 simpa using hb j hj
theorem gI {fs : List Fl} {n : Bs} {i : Nat} (h : xI fs n = some i) : i < fs.length := by
 unfold xI at h
 rw [List.findIdx?_eq_some_iff_getElem] at h
 exact h.1
theorem Uy {S : Sto} (hok : S.ok) {n : Bs} {k : Nat} (hk : k < S.fs.length) (hA : ∀ (j : Nat) (h : j < S.fs.length), j < k → Op.bytesLess S.fs[j].1 n = true) (h : Op.bytesLess S.fs[k].1 n = false) :
  xI S.fs n = if S.fs[k].1 = n then some k else none := by
 split
 ·rename_i he
  exact Zr hk he fun j hj => oZ (hA j (by omega) hj)
 ·rename_i he
  have hgt : ltS n S.fs[k].1 = true := by
   cases h2 : ltS n S.fs[k].1 with
   | true => rfl
   | false => exact absurd (nJ _ _ h h2) he
  refine jE fun j hj => ?_
  by_cases h1 : j < k
  ·exact oZ (hA j hj h1)
  ·by_cases h2 : j = k
   ·subst h2; exact he
   ·exact (oZ (qH _ _ _ hgt (Sto.asc hok j k hj (by omega)))).symm
theorem TR {S : Sto} {n : Bs} {k : Nat} (hk : S.fs.length ≤ k) (hA : ∀ (j : Nat) (h : j < S.fs.length), j < k → Op.bytesLess S.fs[j].1 n = true) : xI S.fs n = none :=
 jE fun j hj => oZ (hA j hj (by omega))
theorem Ui {fs : List Fl} {n : Bs} {k : Nat} (hk : k < fs.length) (hA : ∀ (j : Nat) (h : j < fs.length), j < k → Op.bytesLess fs[j].1 n = true) (h : Op.bytesLess fs[k].1 n = true) : ∀ (j : Nat) (h : j < fs.length), j < k + 1 → Op.bytesLess fs[j].1 n = true := by
 intro j hj h1
 by_cases he : j = k
 ·subst he; exact h
 ·exact hA j hj (by omega)
theorem Rx {fs : List Fl} {n : Bs} {k : Nat} (hk : k < fs.length) (hA : ∀ (j : Nat) (h : j < fs.length), j < k → fs[j].1 ≠ n) (h : fs[k].1 ≠ n) : ∀ (j : Nat) (h : j < fs.length), j < k + 1 → fs[j].1 ≠ n := by
 intro j hj h1
 by_cases he : j = k
 ·subst he; exact h
 ·exact hA j hj (by omega)
def fsz (fs : List Fl) : Int := fs.foldl (fun n f => n + f.2.length) 0
open Classical in
noncomputable def Sto.size (S : Sto) : Int := if S.ok then fsz S.fs else -1
def strOf : Value → Bs
 | .string s => s.data.toList
 | _ => []
theorem VF (s : ByteArray) : Value.string s = sv (strOf (.string s)) := by unfold strOf; simp [sv]
open Go.WideShapes Go.ChangeShapes Go.ChangeAt in
theorem Wn {H : Type} {enc : TypeId × Value → H} {W : World} {n : Nat} {c : Value} {x : DataW H × List MemPlace} (h : DataW.trod enc Tryz.prog W 0 (fun _ => true) true n 44 [c] = some x) :
  ∃ (A : Option Addr) (cap : Nat) (fs : List Fl), c = .slice A fs.length cap ∧ Sl W A fs.length cap 2 (zQ fs) ∧ ∀ f ∈ fs, f.1.length ≤ 9223372036854775807 ∧ f.2.length ≤ 9223372036854775807 := by
 rcases Go.Deep.open_slice_pairs Tryz.underlying44 Tryz.underlying118 (by kernel_rfl) rfl rfl (by kernel_rfl) (by kernel_rfl) h with ⟨hcs, _⟩ | ⟨a, len, cap, m, n', V0, V1, D0, D1, P0, P1, hcs, _, hl, hm, hmm, _, hx⟩
 ·injection hcs with hcs _
  subst hcs
  exact ⟨none, 0, [], rfl, Sl.nil _ _, fun f hf => by cases hf⟩
 ·injection hcs with hcs _
  subst hcs
  simp only [if_true] at hmm
  rw [hmm] at hx
  clear hmm
  have key : ∀ i, i < len → W.cell? (a.add (i * 2)) = some (sv (strOf (V0 i))) ∧ W.cell? (a.add (i * 2 + 1)) = some (sv (strOf (V1 i))) ∧ (strOf (V0 i)).length ≤ 9223372036854775807 ∧ (strOf (V1 i)).length ≤ 9223372036854775807 := by
   intro i hi
   obtain ⟨c0, c1, t0, t1⟩ := hx i (by omega)
   obtain ⟨s0, e0, _, w0⟩ := DataW.trod_string Tryz.underlying9 t0
   obtain ⟨s1, e1, _, w1⟩ := DataW.trod_string Tryz.underlying9 t1
   injection e0 with e0 _
   injection e1 with e1 _
   rw [e0] at c0 ⊢
   rw [e1] at c1 ⊢
   unfold maxLen at w0 w1
   exact ⟨by rw [← VF]; exact c0, by rw [← VF]; exact c1, by simpa [strOf] using w0, by simpa [strOf] using w1⟩
  have hfl : ((List.range len).map fun i => ((strOf (V0 i), strOf (V1 i)) : Fl)).length = len := by simp
  have hat : ∀ i (h : i < ((List.range len).map fun i => ((strOf (V0 i), strOf (V1 i)) : Fl)).length), ((List.range len).map fun i => ((strOf (V0 i), strOf (V1 i)) : Fl))[i] = (strOf (V0 i), strOf (V1 i)) := fun i h => by simp
  have hbd : ∀ f ∈ ((List.range len).map fun i => ((strOf (V0 i), strOf (V1 i)) : Fl)), f.1.length ≤ 9223372036854775807 ∧ f.2.length ≤ 9223372036854775807 := by
   intro f hf
   obtain ⟨i, hi, rfl⟩ := List.mem_map.1 hf
   have h1 := key i (by simpa using hi)
   exact ⟨h1.2.2.1, h1.2.2.2⟩
  generalize ((List.range len).map fun i => ((strOf (V0 i), strOf (V1 i)) : Fl)) = fs at *
  refine ⟨some a, cap, fs, by rw [hfl], ?_, hbd⟩
  rw [hfl]
  refine ⟨hl, by unfold maxLen at hm; omega, by rw [xn, hfl], fun h0 => ?_⟩
  obtain ⟨g, off, spot⟩ := a
  have hspot : spot = none := by simpa [Addr.add] using World.cell?_spot ((key 0 h0).1)
  subst hspot
  have h00 := (key 0 h0).1
  rw [Go.WideShapes.add_plain] at h00
  refine ⟨g, off, rfl, lt_of_cell h00, fun j u hu => ?_⟩
  have hj : j < len * 2 := by
   have := List.getElem?_eq_some_iff.1 hu
   obtain ⟨hj, _⟩ := this
   rw [xn, hfl] at hj
   exact hj
  obtain ⟨i, rfl | rfl⟩ : ∃ i, j = i * 2 + 0 ∨ j = i * 2 + 1 := ⟨j / 2, by omega⟩
  ·have hi : i < len := by omega
   have hk := (key i hi).1
   have hv := (nY fs i (by omega)).1
   rw [hat i (by omega)] at hv
   rw [hv] at hu
   rw [Go.WideShapes.add_plain] at hk
   rw [← hu, ← hk]; rfl
  ·have hi : i < len := by omega
   have hk := (key i hi).2.1
   have hv := (nY fs i (by omega)).2
   rw [hat i (by omega)] at hv
   rw [hv] at hu
   rw [Go.WideShapes.add_plain] at hk
   rw [← hu, ← hk]
abbrev Sto.C (S : Sto) (A : Option Addr) (cap : Nat) : Array Value := #[.int .i64 S.o, .int .i64 S.l, .int .i64 S.m, .string ⟨S.dict.toArray⟩, .slice A S.fs.length cap]
abbrev Sto.V (S : Sto) (A : Option Addr) (cap : Nat) : Value := .agg #[.int .i64 S.o, .int .i64 S.l, .int .i64 S.m, .string ⟨S.dict.toArray⟩, .slice A S.fs.length cap]
open Go.WideShapes Go.ChangeShapes Go.ChangeAt in
theorem Xx {H : Type} {enc : TypeId × Value → H} {W : World} {b : Nat} {v : Value} {d : DataW H} {p : List MemPlace} (hv : Value.okWide Tryz.prog W .any b 46 v) (h : DataW.Trod enc Tryz.prog W 0 (fun _ => true) true 46 v d p) :
    ∃ (S : Sto) (A : Option Addr) (cap : Nat), v = S.V A cap ∧ Sl W A S.fs.length cap 2 (zQ S.fs) ∧ S.dict.length ≤ 9223372036854775807 ∧ ∀ f ∈ S.fs, f.1.length ≤ 9223372036854775807 ∧ f.2.length ≤ 9223372036854775807 := by
  obtain ⟨cs, rfl, hsz⟩ := okWide_struct Tryz.underlying46 hv
  obtain ⟨fuel, hf⟩ := h
  obtain ⟨xs, n, _, _, _, hlen, hg⟩ := DataW.trod_struct Tryz.underlying46 hf
  obtain ⟨l⟩ := cs
  have hC : Tryz.prog.cellsOf 46 = 5 := by kernel_rfl
  have hC3 : Tryz.prog.cellsOf 43 = 3 := by kernel_rfl
  have hC1 : Tryz.prog.cellsOf 44 = 1 := by kernel_rfl
  have hC0 : Tryz.prog.cellsOf 9 = 1 := by kernel_rfl
  match l, hsz.trans hC with
  | [c0, c1, c2, c3, c4], _ =>
    have h0 := hg 0 _ rfl
    have h1 := hg 1 _ rfl
    have h2 := hg 2 _ rfl
    obtain ⟨y0, hy0⟩ := xM hlen (i := 0) (by decide)
    obtain ⟨y2, hy2⟩ := xM hlen (i := 2) (by decide)
    rw [hy0] at h0
    rw [hy2] at h2
    simp [hC3] at h0
    simp [hC1] at h2
    obtain ⟨xs', n', _, _, _, hlen', hg'⟩ := DataW.trod_struct Tryz.underlying43 h0
    have k0 := hg' 0 _ rfl
    have k1 := hg' 1 _ rfl
    have k2 := hg' 2 _ rfl
    obtain ⟨o, rfl, _⟩ := uM Tryz.underlying3 (xM hlen' (by decide)) k0
    obtain ⟨li, rfl, _⟩ := uM Tryz.underlying3 (xM hlen' (by decide)) k1
    obtain ⟨m, rfl, _⟩ := uM Tryz.underlying3 (xM hlen' (by decide)) k2
    obtain ⟨dict, rfl, hd⟩ := qN Tryz.underlying9 (xM hlen (by decide)) h1
    obtain ⟨A, cap, fs, rfl, hs, hb⟩ := Wn h2
    exact ⟨⟨o, li, m, dict, fs⟩, A, cap, rfl, hs, hd, hb⟩
end Go.Proofs.YtinncdollpajkaaGreat
