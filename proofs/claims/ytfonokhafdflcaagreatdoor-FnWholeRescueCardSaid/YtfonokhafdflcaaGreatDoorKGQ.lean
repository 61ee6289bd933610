import Derived.Test.YtfonokhafdflcaaGreatDoorKGA
import Derived.Lib.Split
import Derived.Lib.CountLaws
import Derived.Lib.Bytealg
namespace Go.Proofs.YtfonokhafdflcaaGreatDoor
open Go.RowKit
abbrev hexL : Bs := [48, 49, 50, 51, 52, 53, 54, 55, 56, 57, 97, 98, 99, 100, 101, 102]
def hexOf (l : Bs) : Bs := l.flatMap fun c => [hexL.getD (c.toNat / 16) 0, hexL.getD (c.toNat % 16) 0]
theorem hexOf_length (l : Bs) : (hexOf l).length = 2 * l.length := by
 induction l with
 | nil => rfl
 | cons c l ih => simp only [hexOf, List.flatMap_cons, List.length_append, List.length_cons, List.length_nil] at ih ⊢; omega
theorem hexOf_snoc (l : Bs) (k : Nat) (h : k < l.length) : hexOf (l.take (k + 1)) = hexOf (l.take k) ++ [hexL.getD (l[k].toNat / 16) 0, hexL.getD (l[k].toNat % 16) 0] := by
 rw [take_snoc' l k h, hexOf, List.flatMap_append]; rfl
theorem hexHi (l : Bs) (k : Nat) (h : k < l.length) : byteAt hexL (byteAt l k / 16) = ((hexL.getD (l[k].toNat / 16) 0).toNat : Int) := by
 rw [byteAt_nat l k h]
 show ((hexL[((l[k].toNat : Int) / 16).toNat]?.getD 0).toNat : Int) = _
 rw [show ((l[k].toNat : Int) / 16).toNat = l[k].toNat / 16 by omega]; rfl
theorem hexLo (l : Bs) (k : Nat) (h : k < l.length) : byteAt hexL (byteAt l k % 16) = ((hexL.getD (l[k].toNat % 16) 0).toNat : Int) := by
 rw [byteAt_nat l k h]
 show ((hexL[((l[k].toNat : Int) % 16).toNat]?.getD 0).toNat : Int) = _
 rw [show ((l[k].toNat : Int) % 16).toNat = l[k].toNat % 16 by omega]; rfl
def orDash (l : Bs) : Bs := if l = [] then [45] else l
def fmtHex (l : Bs) : Bs := if l.length ≤ 4000 then hexOf l else []
end Go.Proofs.YtfonokhafdflcaaGreatDoor
namespace Go.Proofs.YtfonokhafdflcaaGreatDoor
def cut (c : UInt8) : Bs → List Bs
  | [] => [[]]
  | x :: r => if x = c then [] :: cut c r else match cut c r with
    | [] => [[x]]
    | y :: ys => (x :: y) :: ys
theorem cut_miss (c : UInt8) : ∀ a : Bs, (∀ x ∈ a, x ≠ c) → cut c a = [a]
  | [], _ => rfl
  | x :: r, h => by
    unfold cut
    rw [if_neg (h x List.mem_cons_self), cut_miss c r (fun y hy => h y (List.mem_cons_of_mem _ hy))]
theorem cut_hit (c : UInt8) (r : Bs) : ∀ a : Bs, (∀ x ∈ a, x ≠ c) → cut c (a ++ c :: r) = a :: cut c r
  | [], _ => by simp [cut]
  | x :: a, h => by
    have e : cut c (x :: (a ++ c :: r)) = if x = c then [] :: cut c (a ++ c :: r) else match cut c (a ++ c :: r) with
      | [] => [[x]]
      | y :: ys => (x :: y) :: ys := rfl
    rw [List.cons_append, e, if_neg (h x List.mem_cons_self), cut_hit c r a (fun y hy => h y (List.mem_cons_of_mem _ hy))]
theorem cut_parts (c : UInt8) : ∀ l : Bs, (∀ x ∈ l, x ≠ c) ∨ ∃ a r, l = a ++ c :: r ∧ ∀ x ∈ a, x ≠ c
  | [] => .inl (by simp)
  | x :: l => by
    by_cases hx : x = c
    · exact .inr ⟨[], l, by simp [hx], by simp⟩
    · rcases cut_parts c l with h | ⟨a, r, rfl, h⟩
      · refine .inl fun y hy => ?_
        rcases List.mem_cons.1 hy with rfl | hy
        · exact hx
        · exact h y hy
      · refine .inr ⟨x :: a, r, rfl, fun y hy => ?_⟩
        rcases List.mem_cons.1 hy with rfl | hy
        · exact hx
        · exact h y hy
theorem idx_miss (c : UInt8) : ∀ a : Bs, (∀ x ∈ a, x ≠ c) → Lib.index a [c] = -1
  | [], _ => rfl
  | x :: a, h => by
    have h1 := idx_miss c a (fun y hy => h y (List.mem_cons_of_mem _ hy))
    have h2 : ([c] : Bs).isPrefixOf (x :: a) = false := by
      simp [List.isPrefixOf]
      exact fun e => h x List.mem_cons_self e.symm
    unfold Lib.index
    rw [h2, h1]; rfl
theorem idx_hit (c : UInt8) (r : Bs) : ∀ a : Bs, (∀ x ∈ a, x ≠ c) → Lib.index (a ++ c :: r) [c] = (a.length : Int)
  | [], _ => by
    show Lib.index (c :: r) [c] = 0
    unfold Lib.index
    simp [List.isPrefixOf]
  | x :: a, h => by
    have h1 := idx_hit c r a (fun y hy => h y (List.mem_cons_of_mem _ hy))
    have h2 : ([c] : Bs).isPrefixOf (x :: (a ++ c :: r)) = false := by
      simp [List.isPrefixOf]
      exact fun e => h x List.mem_cons_self e.symm
    rw [List.cons_append]
    unfold Lib.index
    rw [h2, h1]
    have : ((a.length : Int) == -1) = false := by
      rw [beq_eq_false_iff_ne]; omega
    rw [this]
    simp
theorem split_one (c : UInt8) : ∀ (n : Nat) (l : Bs), l.length ≤ n → Lib.splitK [c] 0 (Lib.count l [c]) l = cut c l
  | 0, l, h => by
    have : l = [] := List.eq_nil_of_length_eq_zero (by omega)
    subst this
    rfl
  | n + 1, l, h => by
    rcases cut_parts c l with hm | ⟨a, r, rfl, ha⟩
    · rw [Lib.count_miss (idx_miss c l hm), cut_miss c l hm]; rfl
    · have hi := idx_hit c r a ha
      have hlen : (a ++ c :: r).length = a.length + 1 + r.length := by simp; omega
      have hd : (a ++ c :: r).drop (a.length + 1) = r := by
        rw [List.drop_append]; simp
      rw [Lib.count_hit (by simp) hi, cut_hit c r a ha, Nat.add_comm 1]
      unfold Lib.splitK
      rw [hi]
      have : ((a.length : Int) == -1) = false := by
        rw [beq_eq_false_iff_ne]; omega
      rw [this]
      simp only [Bool.false_eq_true, if_false, Int.toNat_natCast, List.length_cons, List.length_nil, Nat.add_zero]
      rw [show a.length + (0 + 1) = a.length + 1 by omega, hd, split_one c n r (by omega)]
      simp
theorem split_cut (c : UInt8) (t : Bs) : (Lib.splitB ⟨#[c]⟩ 0 (Lib.countB ⟨t.toArray⟩ ⟨#[c]⟩) ⟨t.toArray⟩).map Value.string = (cut c t).map fun l => Value.string ⟨l.toArray⟩ := by
 have h := Lib.splitB_data ⟨#[c]⟩ 0 (Lib.countB ⟨t.toArray⟩ ⟨#[c]⟩) ⟨t.toArray⟩
 have e : Lib.countB ⟨t.toArray⟩ ⟨#[c]⟩ = Lib.count t [c] := by simp [Lib.countB]
 rw [e] at h ⊢
 have h2 := split_one c t.length t (Nat.le_refl _)
 have h3 : (Lib.splitB ⟨#[c]⟩ 0 (Lib.count t [c]) ⟨t.toArray⟩).map (·.data.toList) = cut c t := by rw [h, ← h2]
 rw [← h3, List.map_map]
 apply List.map_congr_left
 intro x _
 simp
theorem split_count (c : UInt8) : ∀ (n : Nat) (l : Bs), l.length ≤ n → Lib.count l [c] + 1 = (cut c l).length
  | 0, l, h => by
    have : l = [] := List.eq_nil_of_length_eq_zero (by omega)
    subst this
    rfl
  | n + 1, l, h => by
    rcases cut_parts c l with hm | ⟨a, r, rfl, ha⟩
    · rw [Lib.count_miss (idx_miss c l hm), cut_miss c l hm]; rfl
    · have hi := idx_hit c r a ha
      have hlen : (a ++ c :: r).length = a.length + 1 + r.length := by simp; omega
      have hd : (a ++ c :: r).drop (a.length + 1) = r := by
        rw [List.drop_append]; simp
      rw [Lib.count_hit (by simp) hi, cut_hit c r a ha, List.length_cons]
      simp only [List.length_cons, List.length_nil, Nat.zero_add, hd]
      have := split_count c n r (by omega)
      omega
end Go.Proofs.YtfonokhafdflcaaGreatDoor
namespace Go.Proofs.YtfonokhafdflcaaGreatDoor
def digI (c : UInt8) : Int := Lib.indexByte hexL c
theorem dig_all : ∀ x : Fin 256, (0 ≤ digI (UInt8.ofNat x.val) → digI (UInt8.ofNat x.val) < 16 ∧ hexL.getD (digI (UInt8.ofNat x.val)).toNat 0 = UInt8.ofNat x.val) ∧ -1 ≤ digI (UInt8.ofNat x.val) := by decide +kernel
theorem dig_ok (c : UInt8) : (0 ≤ digI c → digI c < 16 ∧ hexL.getD (digI c).toNat 0 = c) ∧ -1 ≤ digI c := by
 have := dig_all ⟨c.toNat, c.toNat_lt⟩
 simpa using this
theorem dig_hex : ∀ n : Fin 16, digI (hexL.getD n.val 0) = n.val := by decide +kernel
def unhexL : Bs → Option Bs
 | a :: b :: r => if 0 ≤ digI a ∧ 0 ≤ digI b then (unhexL r).map (UInt8.ofNat (16 * (digI a).toNat + (digI b).toNat) :: ·) else none
 | [] => some []
 | [_] => none
def unhex (l : Bs) : Option Bs := if l.length % 2 = 0 ∧ l.length ≤ 8000 then unhexL l else none
theorem two_ind {P : Bs → Prop} (h0 : P []) (h1 : ∀ a, P [a]) (h2 : ∀ a b r, P r → P (a :: b :: r)) : ∀ l, P l
 | [] => h0
 | [a] => h1 a
 | a :: b :: r => h2 a b r (two_ind h0 h1 h2 r)
theorem byte_split (x y : Nat) (hx : x < 16) (hy : y < 16) : (UInt8.ofNat (16 * x + y)).toNat / 16 = x ∧ (UInt8.ofNat (16 * x + y)).toNat % 16 = y := by
 rw [UInt8.toNat_ofNat']; omega
theorem hex_unhex (l : Bs) : ∀ r, unhexL l = some r → hexOf r = l := by
  induction l using two_ind with
  | h0 => intro r h; simp [unhexL] at h; subst h; rfl
  | h1 a => intro r h; simp [unhexL] at h
  | h2 a b t ih =>
    intro r h
    unfold unhexL at h
    split at h
    · rename_i hd
      cases hu : unhexL t with
      | none => rw [hu] at h; simp at h
      | some u =>
        rw [hu] at h
        simp at h
        subst h
        have ha := (dig_ok a).1 hd.1
        have hb := (dig_ok b).1 hd.2
        have hs := byte_split (digI a).toNat (digI b).toNat (by omega) (by omega)
        have := ih u hu
        unfold hexOf at this ⊢
        rw [List.flatMap_cons, this]
        rw [show UInt8.ofNat (16 * (digI a).toNat + (digI b).toNat) = UInt8.ofNat (16 * (digI a).toNat + (digI b).toNat) from rfl] at hs
        simp only [UInt8.ofNat_add, UInt8.ofNat_mul] at hs ⊢
        show [hexL.getD ((UInt8.ofNat 16 * UInt8.ofNat (digI a).toNat + UInt8.ofNat (digI b).toNat).toNat / 16) 0, hexL.getD ((UInt8.ofNat 16 * UInt8.ofNat (digI a).toNat + UInt8.ofNat (digI b).toNat).toNat % 16) 0] ++ t = _
        rw [hs.1, hs.2, ha.2, hb.2]; rfl
    · cases h
theorem unhex_hex (r : Bs) : unhexL (hexOf r) = some r := by
  induction r with
  | nil => rfl
  | cons c r ih =>
    have e : hexOf (c :: r) = hexL.getD (c.toNat / 16) 0 :: hexL.getD (c.toNat % 16) 0 :: hexOf r := rfl
    have h1 := c.toNat_lt
    have d1 := dig_hex ⟨c.toNat / 16, by omega⟩
    have d2 := dig_hex ⟨c.toNat % 16, by omega⟩
    simp only at d1 d2
    rw [e]
    unfold unhexL
    rw [d1, d2, if_pos ⟨by omega, by omega⟩, ih]
    simp only [Int.toNat_natCast, Option.map_some]
    congr 2
    have : 16 * (c.toNat / 16) + c.toNat % 16 = c.toNat := by omega
    rw [this]; simp
theorem unhexL_take (l : Bs) : ∀ (k : Nat), 2 * k + 1 < l.length → l.length % 2 = 0 →
    unhexL (l.take (2 * (k + 1))) = (unhexL (l.take (2 * k))).bind fun r => if 0 ≤ digI (l.getD (2 * k) 0) ∧ 0 ≤ digI (l.getD (2 * k + 1) 0) then some (r ++ [UInt8.ofNat (16 * (digI (l.getD (2 * k) 0)).toNat + (digI (l.getD (2 * k + 1) 0)).toNat)]) else none := by
  induction l using two_ind with
  | h0 => intro k h; simp at h
  | h1 a => intro k h; simp at h
  | h2 a b t ih =>
    intro k h he
    cases k with
    | zero =>
      simp only [Nat.mul_zero, Nat.zero_add, Nat.mul_one, List.take_succ_cons, List.take_zero]
      show unhexL [a, b] = some ([] : Bs) >>= _
      simp [unhexL]
    | succ k =>
      have e1 : 2 * (k + 1 + 1) = 2 * (k + 1) + 1 + 1 := by omega
      have e2 : 2 * (k + 1) = 2 * k + 1 + 1 := by omega
      have e3 : (a :: b :: t).getD (2 * (k + 1)) 0 = t.getD (2 * k) 0 := by rw [e2]; rfl
      have e4 : (a :: b :: t).getD (2 * (k + 1) + 1) 0 = t.getD (2 * k + 1) 0 := by rw [e2]; rfl
      have h3 := ih k (by simp at h; omega) (by simp at he; omega)
      rw [e3, e4, e1, List.take_succ_cons, List.take_succ_cons]
      rw [e2, List.take_succ_cons, List.take_succ_cons]
      rw [show 2 * k + 1 + 1 = 2 * (k + 1) by omega]
      unfold unhexL
      rw [h3]
      by_cases hd : 0 ≤ digI a ∧ 0 ≤ digI b
      · rw [if_pos hd, if_pos hd]
        cases unhexL (t.take (2 * k)) with
        | none => rfl
        | some r =>
          simp only [Option.bind_some, Option.map_some]
          split <;> rfl
      · rw [if_neg hd, if_neg hd]; rfl
theorem unhexL_len (l : Bs) : ∀ r, unhexL l = some r → l.length = 2 * r.length := by
 intro r h
 rw [← hex_unhex l r h, hexOf_length]
theorem unhexL_bad (l : Bs) : ∀ (k : Nat), 2 * k + 1 < l.length → ¬ (0 ≤ digI (l.getD (2 * k) 0) ∧ 0 ≤ digI (l.getD (2 * k + 1) 0)) → unhexL l = none := by
  induction l using two_ind with
  | h0 => intro k h; simp at h
  | h1 a => intro k h; simp at h
  | h2 a b t ih =>
    intro k h hb
    unfold unhexL
    cases k with
    | zero => exact if_neg hb
    | succ k =>
      have e2 : 2 * (k + 1) = 2 * k + 1 + 1 := by omega
      have e3 : (a :: b :: t).getD (2 * (k + 1)) 0 = t.getD (2 * k) 0 := by rw [e2]; rfl
      have e4 : (a :: b :: t).getD (2 * (k + 1) + 1) 0 = t.getD (2 * k + 1) 0 := by rw [e2]; rfl
      rw [e3, e4] at hb
      rw [ih k (by simp at h; omega) hb]
      split <;> rfl
theorem unhexL_step {l r : Bs} {k : Nat} (h : 2 * k + 1 < l.length) (he : l.length % 2 = 0) (hr : unhexL (l.take (2 * k)) = some r) (h1 : 0 ≤ digI (l.getD (2 * k) 0)) (h2 : 0 ≤ digI (l.getD (2 * k + 1) 0)) :
  unhexL (l.take (2 * (k + 1))) = some (r ++ [UInt8.ofNat (16 * (digI (l.getD (2 * k) 0)).toNat + (digI (l.getD (2 * k + 1) 0)).toNat)]) := by
 rw [unhexL_take l k h he, hr]
 simp only [Option.bind_some]
 rw [if_pos ⟨h1, h2⟩]
def join (c : UInt8) : List Bs → Bs
 | [] => []
 | [a] => a
 | a :: b :: r => a ++ c :: join c (b :: r)
theorem join_snoc (c : UInt8) (x : Bs) : ∀ ls : List Bs, ls ≠ [] → join c (ls ++ [x]) = join c ls ++ c :: x
  | [a], _ => rfl
  | a :: b :: r, _ => by
    have := join_snoc c x (b :: r) (by simp)
    show a ++ c :: join c (b :: r ++ [x]) = _
    rw [this]
    show _ = (a ++ c :: join c (b :: r)) ++ c :: x
    simp
theorem cut_join (c : UInt8) : ∀ ls : List Bs, ls ≠ [] → (∀ l ∈ ls, ∀ x ∈ l, x ≠ c) → cut c (join c ls) = ls
  | [a], _, h => cut_miss c a (h a List.mem_cons_self)
  | a :: b :: r, _, h => by
    show cut c (a ++ c :: join c (b :: r)) = _
    rw [cut_hit c _ a (h a List.mem_cons_self), cut_join c (b :: r) (by simp) (fun l hl => h l (List.mem_cons_of_mem _ hl))]
theorem join_cons (c : UInt8) (a : Bs) (ls : List Bs) (h : ls ≠ []) : join c (a :: ls) = a ++ c :: join c ls := by
 cases ls with
 | nil => exact absurd rfl h
 | cons b r => rfl
def parOk (ls : List Bs) : Bool := decide (ls.length ≤ 40) && ls.all fun l => decide (2 ≤ l.length ∧ l.length ≤ 76)
def fmtPar (ls : List Bs) : Bs := if parOk ls = true then orDash (join 32 (ls.map hexOf)) else []
def allHex : List Bs → Option (List Bs)
  | [] => some []
  | l :: r => match unhex l, allHex r with
    | some x, some xs => some (x :: xs)
    | _, _ => none
def parsePar (t : Bs) : Option (List Bs) :=
 if t = [45] then some [] else match allHex (cut 32 t) with
  | some ls => if parOk ls = true then some ls else none
  | none => none
theorem allHex_some : ∀ (ps ls : List Bs), allHex ps = some ls → ls.map hexOf = ps ∧ ps.map (fun p => (unhex p).getD []) = ls
  | [], ls, h => by simp [allHex] at h; subst h; exact ⟨rfl, rfl⟩
  | p :: ps, ls, h => by
    unfold allHex at h
    cases h1 : unhex p with
    | none => rw [h1] at h; simp at h
    | some x =>
      cases h2 : allHex ps with
      | none => rw [h1, h2] at h; simp at h
      | some xs =>
        rw [h1, h2] at h
        simp at h
        subst h
        have := allHex_some ps xs h2
        have hx : hexOf x = p := by
          unfold unhex at h1
          split at h1
          · exact hex_unhex p x h1
          · cases h1
        refine ⟨?_, ?_⟩
        · rw [List.map_cons, hx, this.1]
        · rw [List.map_cons, h1, this.2]; rfl
theorem allHex_hex : ∀ ls : List Bs, (∀ l ∈ ls, l.length ≤ 4000) → allHex (ls.map hexOf) = some ls
  | [], _ => rfl
  | l :: ls, h => by
    have h1 := allHex_hex ls (fun x hx => h x (List.mem_cons_of_mem _ hx))
    have h2 : unhex (hexOf l) = some l := by
      unfold unhex
      have := h l List.mem_cons_self
      rw [if_pos (by rw [hexOf_length]; omega), unhex_hex]
    rw [List.map_cons]
    unfold allHex
    rw [h2, h1]
theorem allHex_snoc : ∀ (ps : List Bs) (p : Bs), allHex (ps ++ [p]) = match allHex ps, unhex p with
    | some xs, some x => some (xs ++ [x])
    | _, _ => none
  | [], p => by
    show allHex [p] = _
    unfold allHex
    cases unhex p <;> rfl
  | q :: ps, p => by
    rw [List.cons_append]
    unfold allHex
    rw [allHex_snoc ps p]
    cases unhex q <;> cases allHex ps <;> cases unhex p <;> rfl
theorem allHex_take {ps r : List Bs} {k : Nat} (h : k < ps.length) (hr : allHex (ps.take k) = some r) {x : Bs} (hx : unhex ps[k] = some x) : allHex (ps.take (k + 1)) = some (r ++ [x]) := by
 rw [List.take_succ_eq_append_getElem h, allHex_snoc, hr, hx]
theorem allHex_none {p : Bs} (hx : unhex p = none) : ∀ (ps : List Bs), p ∈ ps → allHex ps = none
  | q :: ps, h => by
    unfold allHex
    rcases List.mem_cons.1 h with rfl | h
    · rw [hx]
    · rw [allHex_none hx ps h]
      cases unhex q <;> rfl
theorem unhex_len (p r : Bs) (h : unhex p = some r) : r.length ≤ 4000 ∧ p.length = 2 * r.length := by
 unfold unhex at h
 split at h
 ·rename_i hp
  have := unhexL_len p r h
  omega
 ·cases h
theorem unhexD_len (p : Bs) : ((unhex p).getD []).length ≤ 4000 := by
 cases h : unhex p with
 | none => simp
 | some r => exact (unhex_len p r h).1
theorem allHex_bd : ∀ (ps ls : List Bs), allHex ps = some ls → ∀ l ∈ ls, l.length ≤ 4000 := by
 intro ps ls h l hl
 have := (allHex_some ps ls h).2
 rw [← this, List.mem_map] at hl
 obtain ⟨p, _, rfl⟩ := hl
 exact unhexD_len p
theorem parsePar_dash : parsePar [45] = some [] := by unfold parsePar; rw [if_pos rfl]
theorem parsePar_bad {t : Bs} (h : t ≠ [45]) (ha : allHex (cut 32 t) = none) : parsePar t = none := by unfold parsePar; rw [if_neg h, ha]
theorem parsePar_some {t : Bs} {ls : List Bs} (h : t ≠ [45]) (ha : allHex (cut 32 t) = some ls) : parsePar t = if parOk ls = true then some ls else none := by unfold parsePar; rw [if_neg h, ha]
theorem cut_len (c : UInt8) : ∀ l : Bs, (cut c l).length ≤ l.length + 1
  | [] => by simp [cut]
  | x :: r => by
    have ih := cut_len c r
    unfold cut
    split
    · simp; omega
    · cases hc : cut c r with
      | nil => simp
      | cons y ys => rw [hc] at ih; simp at ih ⊢; omega
theorem cut_mem_len (c : UInt8) : ∀ (l : Bs), ∀ p ∈ cut c l, p.length ≤ l.length
  | [], p, h => by simp [cut] at h; subst h; simp
  | x :: r, p, h => by
    have ih := cut_mem_len c r
    unfold cut at h
    split at h
    · rcases List.mem_cons.1 h with rfl | h
      · simp
      · have := ih p h; simp; omega
    · cases hc : cut c r with
      | nil => rw [hc] at h; simp at h; subst h; simp
      | cons y ys =>
        rw [hc] at h ih
        rcases List.mem_cons.1 h with rfl | h
        · have := ih y List.mem_cons_self; simp; omega
        · have := ih p (List.mem_cons_of_mem _ h); simp; omega
theorem join_nonempty (c : UInt8) (ls : List Bs) (h : ls ≠ []) (h1 : ∀ l ∈ ls, l ≠ []) : join c ls ≠ [] := by
  match ls, h with
  | [a], _ => exact h1 a List.mem_cons_self
  | a :: b :: r, _ =>
    show a ++ c :: join c (b :: r) ≠ []
    simp
end Go.Proofs.YtfonokhafdflcaaGreatDoor
namespace Go.Proofs.YtfonokhafdflcaaGreatDoor
set_option linter.unusedVariables false
theorem hexL_no32 : ∀ n : Nat, n < 16 → hexL.getD n 0 ≠ 32 := by decide
theorem hexOf_no32 (l : Bs) : ∀ x ∈ hexOf l, x ≠ 32 := by
 intro x hx
 unfold hexOf at hx
 rw [List.mem_flatMap] at hx
 obtain ⟨c, _, hx⟩ := hx
 have h1 := c.toNat_lt
 simp only [List.mem_cons, List.not_mem_nil, or_false] at hx
 rcases hx with rfl | rfl
 ·exact hexL_no32 _ (by omega)
 ·exact hexL_no32 _ (by omega)
theorem parse_fmtG {ls : List Bs} (h : parOk ls = true) : parsePar (fmtPar ls) = some ls := by
  have hp := h
  unfold parOk at h
  simp only [Bool.and_eq_true, decide_eq_true_eq, List.all_eq_true] at h
  obtain ⟨h1, h2⟩ := h
  unfold fmtPar
  rw [if_pos hp]
  by_cases he : ls = []
  · subst he; exact parsePar_dash
  · have hm : ls.map hexOf ≠ [] := by simpa using he
    have hne : join 32 (ls.map hexOf) ≠ [] := join_nonempty 32 _ hm (fun l hl => by
      obtain ⟨m, hm, rfl⟩ := List.mem_map.1 hl
      have := (h2 m hm).1
      intro e
      have h3 := congrArg List.length e
      rw [hexOf_length] at h3
      simp at h3
      omega)
    have hcut : cut 32 (join 32 (ls.map hexOf)) = ls.map hexOf := cut_join 32 _ hm (fun l hl x hx => by
      obtain ⟨m, hm, rfl⟩ := List.mem_map.1 hl
      exact hexOf_no32 m x hx)
    have hah : allHex (cut 32 (join 32 (ls.map hexOf))) = some ls := by
      rw [hcut]
      exact allHex_hex ls (fun l hl => by have := (h2 l hl).2; omega)
    unfold orDash
    rw [if_neg hne, parsePar_some ?_ hah, if_pos hp]
    intro e
    rw [e] at hcut
    have hc : cut 32 ([45] : Bs) = [[45]] := by rfl
    rw [hc] at hcut
    have h5 : ∀ m ∈ ls.map hexOf, m = [45] := by rw [← hcut]; simp
    cases ls with
    | nil => exact he rfl
    | cons a r =>
      have h6 := h5 (hexOf a) (by simp)
      have h7 := congrArg List.length h6
      rw [hexOf_length] at h7
      simp at h7
      omega
end Go.Proofs.YtfonokhafdflcaaGreatDoor
