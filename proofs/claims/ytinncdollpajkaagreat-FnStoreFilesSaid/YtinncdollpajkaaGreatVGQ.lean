import Derived.Test.YtinncdollpajkaaGreatVGA
import Derived.Lib.Split
import Derived.Lib.CountLaws
import Derived.Lib.Bytealg
set_option linter.unusedVariables false
set_option linter.unusedSimpArgs false
set_option maxHeartbeats 8000000
namespace Go.Proofs.YtinncdollpajkaaGreat
open Go.RowKit
abbrev hexL : Bs := [48, 49, 50, 51, 52, 53, 54, 55, 56, 57, 97, 98, 99, 100, 101, 102]
def hexOf (l : Bs) : Bs := l.flatMap fun c => [hexL.getD (c.toNat / 16) 0, hexL.getD (c.toNat % 16) 0]
theorem hexOf_length (l : Bs) : (hexOf l).length = 2 * l.length := by
 induction l with
 | nil => rfl
 | cons c l ih => simp only [hexOf, List.flatMap_cons, List.length_append, List.length_cons, List.length_nil] at ih ⊢; omega
theorem dO (l : Bs) (k : Nat) (h : k < l.length) : hexOf (l.take (k + 1)) = hexOf (l.take k) ++ [hexL.getD (l[k].toNat / 16) 0, hexL.getD (l[k].toNat % 16) 0] := by
 rw [take_snoc' l k h, hexOf, List.flatMap_append]; rfl
theorem Oz (l : Bs) (k : Nat) (h : k < l.length) : byteAt hexL (byteAt l k / 16) = ((hexL.getD (l[k].toNat / 16) 0).toNat : Int) := by
 rw [zV l k h]
 show ((hexL[((l[k].toNat : Int) / 16).toNat]?.getD 0).toNat : Int) = _
 rw [show ((l[k].toNat : Int) / 16).toNat = l[k].toNat / 16 by omega]; rfl
theorem OA (l : Bs) (k : Nat) (h : k < l.length) : byteAt hexL (byteAt l k % 16) = ((hexL.getD (l[k].toNat % 16) 0).toNat : Int) := by
 rw [zV l k h]
 show ((hexL[((l[k].toNat : Int) % 16).toNat]?.getD 0).toNat : Int) = _
 rw [show ((l[k].toNat : Int) % 16).toNat = l[k].toNat % 16 by omega]; rfl
def yC (l : Bs) : Bs := if l = [] then [45] else l
def xM (l : Bs) : Bs := if l.length ≤ 4000 then hexOf l else []
end Go.Proofs.YtinncdollpajkaaGreat
namespace Go.Proofs.YtinncdollpajkaaGreat
def cut (c : UInt8) : Bs → List Bs
  | [] => [[]]
  | x :: r => if x = c then [] :: cut c r else match cut c r with
    | [] => [[x]]
    | y :: ys => (x :: y) :: ys
theorem Rz (c : UInt8) (l : Bs) : cut c l ≠ [] := by
  cases l with
  | nil => simp [cut]
  | cons x r =>
    unfold cut
    split
    · simp
    · split <;> simp
theorem dA (c : UInt8) : ∀ a : Bs, (∀ x ∈ a, x ≠ c) → cut c a = [a]
  | [], _ => rfl
  | x :: r, h => by
    unfold cut
    rw [if_neg (h x List.mem_cons_self), dA c r (fun y hy => h y (List.mem_cons_of_mem _ hy))]
theorem YX (c : UInt8) (r : Bs) : ∀ a : Bs, (∀ x ∈ a, x ≠ c) → cut c (a ++ c :: r) = a :: cut c r
  | [], _ => by simp [cut]
  | x :: a, h => by
    have e : cut c (x :: (a ++ c :: r)) = if x = c then [] :: cut c (a ++ c :: r) else match cut c (a ++ c :: r) with
      | [] => [[x]]
      | y :: ys => (x :: y) :: ys := rfl
    rw [List.cons_append, e, if_neg (h x List.mem_cons_self), YX c r a (fun y hy => h y (List.mem_cons_of_mem _ hy))]
def wM (c : UInt8) : Int := Lib.indexByte hexL c
theorem PY : ∀ x : Fin 256, (0 ≤ wM (UInt8.ofNat x.val) → wM (UInt8.ofNat x.val) < 16 ∧ hexL.getD (wM (UInt8.ofNat x.val)).toNat 0 = UInt8.ofNat x.val) ∧ -1 ≤ wM (UInt8.ofNat x.val) := by decide +kernel
theorem WL (c : UInt8) : (0 ≤ wM c → wM c < 16 ∧ hexL.getD (wM c).toNat 0 = c) ∧ -1 ≤ wM c := by
 have := PY ⟨c.toNat, c.toNat_lt⟩
 simpa using this
theorem Uh : ∀ n : Fin 16, wM (hexL.getD n.val 0) = n.val := by decide +kernel
theorem UH : ∀ n : Fin 16, hexL.getD n.val 0 ≠ 32 := by decide +kernel
def unhexL : Bs → Option Bs
 | a :: b :: r => if 0 ≤ wM a ∧ 0 ≤ wM b then (unhexL r).map (UInt8.ofNat (16 * (wM a).toNat + (wM b).toNat) :: ·) else none
 | [] => some []
 | [_] => none
def unhex (l : Bs) : Option Bs := if l.length % 2 = 0 ∧ l.length ≤ 8000 then unhexL l else none
theorem ed {P : Bs → Prop} (h0 : P []) (h1 : ∀ a, P [a]) (h2 : ∀ a b r, P r → P (a :: b :: r)) : ∀ l, P l
 | [] => h0
 | [a] => h1 a
 | a :: b :: r => h2 a b r (ed h0 h1 h2 r)
theorem VL (x y : Nat) (hx : x < 16) (hy : y < 16) : (UInt8.ofNat (16 * x + y)).toNat / 16 = x ∧ (UInt8.ofNat (16 * x + y)).toNat % 16 = y := by
 rw [UInt8.toNat_ofNat']; omega
theorem Zq (l : Bs) : ∀ r, unhexL l = some r → hexOf r = l := by
  induction l using ed with
  | h0 => intro r h; simp [unhexL] at h; subst h; rfl
  | h1 a => intro r h; simp [unhexL] at h
  | h2 a b t ih =>
    intro r h
    unfold unhexL at h
    split at h
    · rename_i hd
      cases hu : unhexL t with
      | none => rw [hu] at h; simp at h
      | some u =>
        rw [hu] at h
        simp at h
        subst h
        have ha := (WL a).1 hd.1
        have hb := (WL b).1 hd.2
        have hs := VL (wM a).toNat (wM b).toNat (by omega) (by omega)
        have := ih u hu
        unfold hexOf at this ⊢
        rw [List.flatMap_cons, this]
        rw [show UInt8.ofNat (16 * (wM a).toNat + (wM b).toNat) = UInt8.ofNat (16 * (wM a).toNat + (wM b).toNat) from rfl] at hs
        simp only [UInt8.ofNat_add, UInt8.ofNat_mul] at hs ⊢
        show [hexL.getD ((UInt8.ofNat 16 * UInt8.ofNat (wM a).toNat + UInt8.ofNat (wM b).toNat).toNat / 16) 0, hexL.getD ((UInt8.ofNat 16 * UInt8.ofNat (wM a).toNat + UInt8.ofNat (wM b).toNat).toNat % 16) 0] ++ t = _
        rw [hs.1, hs.2, ha.2, hb.2]; rfl
    · cases h
theorem SE (r : Bs) : unhexL (hexOf r) = some r := by
  induction r with
  | nil => rfl
  | cons c r ih =>
    have e : hexOf (c :: r) = hexL.getD (c.toNat / 16) 0 :: hexL.getD (c.toNat % 16) 0 :: hexOf r := rfl
    have h1 := c.toNat_lt
    have d1 := Uh ⟨c.toNat / 16, by omega⟩
    have d2 := Uh ⟨c.toNat % 16, by omega⟩
    simp only at d1 d2
    rw [e]
    unfold unhexL
    rw [d1, d2, if_pos ⟨by omega, by omega⟩, ih]
    simp only [Int.toNat_natCast, Option.map_some]
    congr 2
    have : 16 * (c.toNat / 16) + c.toNat % 16 = c.toNat := by omega
    rw [this]; simp
theorem OH (r : Bs) : ∀ x ∈ hexOf r, x ≠ 32 := by
 intro x hx
 unfold hexOf at hx
 rw [List.mem_flatMap] at hx
 obtain ⟨c, _, hx⟩ := hx
 have h1 := c.toNat_lt
 have d1 := UH ⟨c.toNat / 16, by omega⟩
 have d2 := UH ⟨c.toNat % 16, by omega⟩
 simp only at d1 d2
 rcases List.mem_cons.1 hx with rfl | hx
 ·exact d1
 ·rcases List.mem_cons.1 hx with rfl | hx
  ·exact d2
  ·cases hx
theorem Xc (l : Bs) : ∀ (k : Nat), 2 * k + 1 < l.length → l.length % 2 = 0 →
    unhexL (l.take (2 * (k + 1))) = (unhexL (l.take (2 * k))).bind fun r => if 0 ≤ wM (l.getD (2 * k) 0) ∧ 0 ≤ wM (l.getD (2 * k + 1) 0) then some (r ++ [UInt8.ofNat (16 * (wM (l.getD (2 * k) 0)).toNat + (wM (l.getD (2 * k + 1) 0)).toNat)]) else none := by
  induction l using ed with
  | h0 => intro k h; simp at h
  | h1 a => intro k h; simp at h
  | h2 a b t ih =>
    intro k h he
    cases k with
    | zero =>
      simp only [Nat.mul_zero, Nat.zero_add, Nat.mul_one, List.take_succ_cons, List.take_zero]
      show unhexL [a, b] = some ([] : Bs) >>= _
      simp [unhexL]
    | succ k =>
      have e1 : 2 * (k + 1 + 1) = 2 * (k + 1) + 1 + 1 := by omega
      have e2 : 2 * (k + 1) = 2 * k + 1 + 1 := by omega
      have e3 : (a :: b :: t).getD (2 * (k + 1)) 0 = t.getD (2 * k) 0 := by rw [e2]; rfl
      have e4 : (a :: b :: t).getD (2 * (k + 1) + 1) 0 = t.getD (2 * k + 1) 0 := by rw [e2]; rfl
      have h3 := ih k (by simp at h; omega) (by simp at he; omega)
      rw [e3, e4, e1, List.take_succ_cons, List.take_succ_cons]
      rw [e2, List.take_succ_cons, List.take_succ_cons]
      rw [show 2 * k + 1 + 1 = 2 * (k + 1) by omega]
      unfold unhexL
      rw [h3]
      by_cases hd : 0 ≤ wM a ∧ 0 ≤ wM b
      · rw [if_pos hd, if_pos hd]
        cases unhexL (t.take (2 * k)) with
        | none => rfl
        | some r =>
          simp only [Option.bind_some, Option.map_some]
          split <;> rfl
      · rw [if_neg hd, if_neg hd]; rfl
theorem V6 (l : Bs) : ∀ r, unhexL l = some r → l.length = 2 * r.length := by
 intro r h
 rw [← Zq l r h, hexOf_length]
theorem V5 (l : Bs) : ∀ (k : Nat), 2 * k + 1 < l.length → ¬ (0 ≤ wM (l.getD (2 * k) 0) ∧ 0 ≤ wM (l.getD (2 * k + 1) 0)) → unhexL l = none := by
  induction l using ed with
  | h0 => intro k h; simp at h
  | h1 a => intro k h; simp at h
  | h2 a b t ih =>
    intro k h hb
    unfold unhexL
    cases k with
    | zero => exact if_neg hb
    | succ k =>
      have e2 : 2 * (k + 1) = 2 * k + 1 + 1 := by omega
      have e3 : (a :: b :: t).getD (2 * (k + 1)) 0 = t.getD (2 * k) 0 := by rw [e2]; rfl
      have e4 : (a :: b :: t).getD (2 * (k + 1) + 1) 0 = t.getD (2 * k + 1) 0 := by rw [e2]; rfl
      rw [e3, e4] at hb
      rw [ih k (by simp at h; omega) hb]
      split <;> rfl
theorem Xb {l r : Bs} {k : Nat} (h : 2 * k + 1 < l.length) (he : l.length % 2 = 0) (hr : unhexL (l.take (2 * k)) = some r) (h1 : 0 ≤ wM (l.getD (2 * k) 0)) (h2 : 0 ≤ wM (l.getD (2 * k + 1) 0)) :
  unhexL (l.take (2 * (k + 1))) = some (r ++ [UInt8.ofNat (16 * (wM (l.getD (2 * k) 0)).toNat + (wM (l.getD (2 * k + 1) 0)).toNat)]) := by
 rw [Xc l k h he, hr]
 simp only [Option.bind_some]
 rw [if_pos ⟨h1, h2⟩]
theorem Uu (c : UInt8) : ∀ l : Bs, (∀ x ∈ l, x ≠ c) → Lib.indexByte l c = -1
  | [], _ => rfl
  | x :: l, h => by
    have h1 := Uu c l (fun y hy => h y (List.mem_cons_of_mem _ hy))
    have h2 : (x == c) = false := by simpa using h x List.mem_cons_self
    unfold Lib.indexByte
    rw [h1, h2]; rfl
theorem Qa (c : UInt8) : ∀ (l : Bs) (k : Nat) (hk : k < l.length), (∀ x ∈ l.take k, x ≠ c) → l[k] = c → Lib.indexByte l c = k
  | [], k, hk, _, _ => absurd hk (by simp)
  | x :: l, 0, _, _, he => by
    have h2 : (x == c) = true := by simpa using he
    unfold Lib.indexByte
    rw [h2]; rfl
  | x :: l, k + 1, hk, h, he => by
    have h1 := Qa c l k (by simpa using hk) (fun y hy => h y (by simp [hy])) he
    have h2 : (x == c) = false := by simpa using h x (by simp)
    unfold Lib.indexByte
    rw [h1, h2]
    have : ((k : Int) == -1) = false := by rw [beq_eq_false_iff_ne]; omega
    rw [this]; simp
def join (c : UInt8) : List Bs → Bs
 | [] => []
 | [a] => a
 | a :: b :: r => a ++ c :: join c (b :: r)
theorem ig (c : UInt8) (x : Bs) : ∀ ls : List Bs, ls ≠ [] → join c (ls ++ [x]) = join c ls ++ c :: x
  | [a], _ => rfl
  | a :: b :: r, _ => by
    have := ig c x (b :: r) (by simp)
    show a ++ c :: join c (b :: r ++ [x]) = _
    rw [this]
    show _ = (a ++ c :: join c (b :: r)) ++ c :: x
    simp
theorem cu (c : UInt8) : ∀ ls : List Bs, ls ≠ [] → (∀ l ∈ ls, ∀ x ∈ l, x ≠ c) → cut c (join c ls) = ls
  | [a], _, h => dA c a (h a List.mem_cons_self)
  | a :: b :: r, _, h => by
    show cut c (a ++ c :: join c (b :: r)) = _
    rw [YX c _ a (h a List.mem_cons_self), cu c (b :: r) (by simp) (fun l hl => h l (List.mem_cons_of_mem _ hl))]
theorem join_cons (c : UInt8) (a : Bs) (ls : List Bs) (h : ls ≠ []) : join c (a :: ls) = a ++ c :: join c ls := by
 cases ls with
 | nil => exact absurd rfl h
 | cons b r => rfl
theorem bK (c : UInt8) : ∀ l : Bs, join c (cut c l) = l
  | [] => rfl
  | x :: r => by
    have ih := bK c r
    have hne := Rz c r
    unfold cut
    split
    · rename_i e
      rw [join_cons c _ _ hne, ih, e]; rfl
    · cases hc : cut c r with
      | nil => exact absurd hc hne
      | cons y ys =>
        rw [hc] at ih
        cases ys with
        | nil => show x :: y = _; rw [← ih]; rfl
        | cons z zs =>
          show (x :: y) ++ c :: join c (z :: zs) = _
          rw [← ih]; rfl
theorem Rn (p r : Bs) (h : unhex p = some r) : r.length ≤ 4000 ∧ p.length = 2 * r.length := by
 unfold unhex at h
 split at h
 ·rename_i hp
  have := V6 p r h
  omega
 ·cases h
theorem dM (p : Bs) : ((unhex p).getD []).length ≤ 4000 := by
 cases h : unhex p with
 | none => simp
 | some r => exact (Rn p r h).1
theorem iZ (c : UInt8) : ∀ (l : Bs), ∀ p ∈ cut c l, p.length ≤ l.length
  | [], p, h => by simp [cut] at h; subst h; simp
  | x :: r, p, h => by
    have ih := iZ c r
    unfold cut at h
    split at h
    · rcases List.mem_cons.1 h with rfl | h
      · simp
      · have := ih p h; simp; omega
    · cases hc : cut c r with
      | nil => rw [hc] at h; simp at h; subst h; simp
      | cons y ys =>
        rw [hc] at h ih
        rcases List.mem_cons.1 h with rfl | h
        · have := ih y List.mem_cons_self; simp; omega
        · have := ih p (List.mem_cons_of_mem _ h); simp; omega
end Go.Proofs.YtinncdollpajkaaGreat
namespace Go.Proofs.YtinncdollpajkaaGreat
open Go.RowKit
set_option maxRecDepth 100000
attribute [local go_sem high] zA zu zy zO zK zX zx zk zn zq zi zo yQ zC yf zD
theorem QC (c : UInt8) (l : Bs) (f k : Nat) (hf : f ≤ k) (hk : k < l.length) (h : ∀ x ∈ (l.drop f).take (k - f), x ≠ c) (hc : l[k] = c) :
  cut c (l.drop f) = (l.drop f).take (k - f) :: cut c (l.drop (k + 1)) := by
 have e : l.drop f = (l.drop f).take (k - f) ++ c :: l.drop (k + 1) := by
  conv => lhs; rw [← List.take_append_drop (k - f) (l.drop f)]
  rw [List.drop_drop, show f + (k - f) = k by omega, List.drop_eq_getElem_cons hk, hc]
 conv => lhs; rw [e]
 exact YX c _ _ h
theorem TI (c : UInt8) (l : Bs) (f k : Nat) (hf : f ≤ k) (hk : k < l.length) (h : ∀ x ∈ (l.drop f).take (k - f), x ≠ c) (hc : l[k] ≠ c) : ∀ x ∈ (l.drop f).take (k + 1 - f), x ≠ c := by
 intro x hx
 rw [show k + 1 - f = (k - f) + 1 by omega, List.take_succ_eq_append_getElem (by simp; omega)] at hx
 rcases List.mem_append.1 hx with hx | hx
 ·exact h x hx
 ·simp at hx
  rw [hx]
  simpa [show f + (k - f) = k by omega] using hc
def O1 (c : UInt8) (l : Bs) (out : List Bs) (f k : Nat) : Prop :=
 k ≤ l.length + 1 ∧ (k ≤ l.length → f ≤ k ∧ cut c l = out ++ cut c (l.drop f) ∧ ∀ x ∈ (l.drop f).take (k - f), x ≠ c) ∧ (k = l.length + 1 → out = cut c l)
theorem Sm (c : UInt8) (l : Bs) (w : World) (hs : l.length ≤ 2000000) :
  Calls Tryz.prog 189 #[.string ⟨l.toArray⟩, .int .u8 (c.toNat : Int)] w fun e w' => (∃ v, e = .returned v ∧ w'.ownsRow w.heap.size 9 1 v (cut c l).length ((cut c l).map sv)) ∧ Below w.heap.size w w' := by
 obtain ⟨i, hi, hz0, hz1, hz2⟩ := info_parts YZ
 go_enter Tryz.func189, Tryz.ntmps189
 go_wp2
 go_loopw [5, 6, 7] (fun v f k wr => ∃ (F K : Nat) (out : List Bs), f = .int .i64 F ∧ k = .int .i64 K ∧ O1 c l out F K ∧ out.length ≤ K ∧ F ≤ l.length + 1 ∧ wr.ownsRow w.heap.size 9 1 v out.length (out.map sv) ∧ Below w.heap.size w wr) (fun _ _ k _ => l.length + 1 - (intOf k).toNat)
 case atStart =>
  refine ⟨0, 0, [], rfl, rfl, ⟨by omega, fun _ => ⟨Nat.le_refl _, by simp, by simp⟩, fun h => by omega⟩, Nat.le_refl _, by omega, World.ownsRow_made w _ 0 (Nat.le_refl _) (by unfold maxLen; omega) rfl, zH⟩
 case round =>
  obtain ⟨F, K, out, rfl, rfl, hinv, hol, hF, hown, hb⟩ := hrel
  have hz := hb.size
  obtain ⟨hk1, hk2, hk3⟩ := hinv
  by_cases hle : K ≤ l.length
  ·obtain ⟨hfk, hcut, hno⟩ := hk2 hle
   have HC := Go.Lib.hid hcut
   have HN := Go.Lib.hid hno
   clear hk2 hk3 hcut hno
   by_cases hlt : K < l.length
   ·have hc1 := zM l K
    have hc2 := yg l K
    have ha : (K : Int) < l.length := by omega
    by_cases hc : l[K] = c
    ·have hbc : (byteAt l K == (c.toNat : Int)) = true := by rw [zV l K hlt, hc]; simp
     have HS := Go.Lib.hid (QC c l F K hfk hlt HN.out hc)
     clear hc
     have hm1 : out.length + 1 ≤ maxLen := by unfold maxLen; omega
     have hm2 : (out.length + 1) * 16 ≤ 140737488355328 := by omega
     go_wp2_with (at_builtin; go_must (refine wpList_append_own _ rfl _ _ 73 rfl (w.heap.size) 9 i _ 1 16 Tryz.underlying73 hi hz0 hz1 hz2 rfl (by omega) _ _ _ rfl (hown.alloc _) ⟨wr.heap.size, 0, none⟩ 1 1 [sv ((l.drop F).take (K - F))] rfl rfl ?_ ?_ hm1 hm2 ?_ ?_))
     try (case refine_1 => first | exact cell_one_new _ _ _ | omega | (simp <;> omega; done) | (simp [Value.oneCell']; done))
     try (case refine_2 => first | exact cell_one_new _ _ _ | omega | (simp <;> omega; done) | (simp [Value.oneCell']; done))
     try (case refine_3 => first | exact cell_one_new _ _ _ | omega | (simp <;> omega; done) | (simp [Value.oneCell']; done))
     intro v2 w2 hown2 hg2 _
     go_wp2
     go_roundw
     case rel =>
      refine ⟨K + 1, K + 1, out ++ [(l.drop F).take (K - F)], by go_num, by go_num, ⟨by omega, fun _ => ⟨Nat.le_refl _, ?_, by simp⟩, fun h => by omega⟩, by simp; omega, by omega, ?_, ?_⟩
      ·rw [HC.out, HS.out]; simp
      ·simpa using hown2
      ·exact hb.trans (((Below.refl w.heap.size wr).alloc hz _).grown hg2 (by first | omega | (simp <;> omega)) (by intro q hq; have := (hown.lt q hq); omega))
     case measure => simp [intOf]; omega
    ·have hbc : (byteAt l K == (c.toNat : Int)) = false := by
      rw [zV l K hlt, beq_eq_false_iff_ne]
      intro e
      exact hc (UInt8.toNat_inj.1 (by omega))
     have HS := Go.Lib.hid (TI c l F K hfk hlt HN.out hc)
     clear hc
     go_wp2
     go_roundw
     case rel =>
      exact ⟨F, K + 1, out, rfl, by go_num, ⟨by omega, fun _ => ⟨by omega, HC.out, HS.out⟩, fun h => by omega⟩, by omega, hF, hown, hb⟩
     case measure => simp [intOf]; omega
   ·have hKe : K = l.length := by omega
    subst hKe
    have hm1 : out.length + 1 ≤ maxLen := by unfold maxLen; omega
    have hm2 : (out.length + 1) * 16 ≤ 140737488355328 := by omega
    go_wp2_with (at_builtin; go_must (refine wpList_append_own _ rfl _ _ 73 rfl (w.heap.size) 9 i _ 1 16 Tryz.underlying73 hi hz0 hz1 hz2 rfl (by omega) _ _ _ rfl (hown.alloc _) ⟨wr.heap.size, 0, none⟩ 1 1 [sv ((l.drop F).take (l.length - F))] rfl rfl ?_ ?_ hm1 hm2 ?_ ?_))
    try (case refine_1 => first | exact cell_one_new _ _ _ | omega | (simp <;> omega; done) | (simp [Value.oneCell']; done))
    try (case refine_2 => first | exact cell_one_new _ _ _ | omega | (simp <;> omega; done) | (simp [Value.oneCell']; done))
    try (case refine_3 => first | exact cell_one_new _ _ _ | omega | (simp <;> omega; done) | (simp [Value.oneCell']; done))
    intro v2 w2 hown2 hg2 _
    go_wp2
    go_roundw
    case rel =>
     refine ⟨l.length + 1, l.length + 1, out ++ [(l.drop F).take (l.length - F)], by go_num, by go_num, ⟨by omega, fun h => by omega, fun _ => ?_⟩, by first | (simp; omega) | simp, by omega, ?_, ?_⟩
     ·have e : (l.drop F).take (l.length - F) = l.drop F := List.take_of_length_le (by simp)
      have HN2 := HN.out
      rw [e] at HN2 ⊢
      rw [HC.out, dA c _ HN2]
     ·simpa using hown2
     ·exact hb.trans (((Below.refl w.heap.size wr).alloc hz _).grown hg2 (by first | omega | (simp <;> omega)) (by intro q hq; have := (hown.lt q hq); omega))
    case measure => first | (simp [intOf]; done) | (simp [intOf]; omega)
  ·have hKe : K = l.length + 1 := by omega
   subst hKe
   have HO := Go.Lib.hid (hk3 rfl)
   clear hk2 hk3
   go_wp2
   go_ret
   exact ⟨⟨_, rfl, by rw [← HO.out]; exact hown⟩, hb⟩
end Go.Proofs.YtinncdollpajkaaGreat
