import Derived.Test.YtfonokhafdflcaaGreatDoorKW9
import Derived.Test.YtfonokhafdflcaaGreatDoorKShelf
namespace Go.Proofs.YtfonokhafdflcaaGreatDoor
open Go.RowKit
set_option linter.unusedVariables false
set_option linter.unusedSimpArgs false
set_option maxRecDepth 100000
attribute [local go_sem high] run_index_S binOp_eql_S binOp_neq_S append_S toList_S size_S run_slice_S run_slice_from_S run_slice_to_S wrap64_byteAt wrap64_byteAt_mul bits_or_bytes convU conv1_some convU2 conv2_some
def mpC (ms : List Bs) (k : Nat) : List Value := (ms.take k).map sv ++ List.replicate (ms.length - k) (sv [])
theorem mpC_zero (ms : List Bs) : mpC ms 0 = List.replicate ms.length (sv []) := by simp [mpC]
theorem mpC_full (ms : List Bs) : mpC ms ms.length = ms.map sv := by simp [mpC]
theorem mpC_cur (ms : List Bs) (k : Nat) (h : k < ms.length) : (mpC ms k)[k]? = some (sv []) := by
 unfold mpC
 have e : ((ms.take k).map sv).length = k := by simp; omega
 rw [List.getElem?_append_right (by omega), e, Nat.sub_self, List.getElem?_replicate, if_pos (by omega)]
theorem mpC_set (ms : List Bs) (k : Nat) (h : k < ms.length) : (mpC ms k).set k (sv ms[k]) = mpC ms (k + 1) := by
 unfold mpC
 have e : ((ms.take k).map sv).length = k := by simp; omega
 rw [List.set_append_right _ _ (by omega), e, Nat.sub_self, show ms.length - k = (ms.length - (k + 1)) + 1 by omega, List.replicate_succ, List.set_cons_zero, List.take_succ_eq_append_getElem h, List.map_append, List.append_assoc]
 rfl
theorem mpC_set' (ms : List Bs) (k : Nat) {u : Bs} (h : ms[k]? = some u) : (mpC ms k).set k (sv u) = mpC ms (k + 1) := by
 obtain ⟨hk, e⟩ := List.getElem?_eq_some_iff.1 h
 rw [← e]; exact mpC_set ms k hk
theorem jn_len (ls : List Bs) (n : Nat) (h : ∀ l ∈ ls, l.length ≤ n) : (join 32 ls).length ≤ (n + 1) * ls.length := by
  induction ls using snoc_ind with
  | h0 => simp [join]
  | h1 ls x ih =>
    have h1 := ih (fun l hl => h l (by simp [hl]))
    have h2 := h x (by simp)
    have e3 : (n + 1) * (ls ++ [x]).length = (n + 1) * ls.length + (n + 1) := by simp [Nat.mul_add]
    by_cases e : ls = []
    · subst e
      simp [join]; omega
    · rw [join_snoc _ _ _ e, e3]
      simp; omega
theorem jn_lib (ls : List Bs) : Lib.join ls [32] = join 32 ls := by
  induction ls with
  | nil => rfl
  | cons a r ih =>
    by_cases e : r = []
    · subst e; rw [Lib.join_one]; rfl
    · rw [join_cons _ _ _ e, ← ih]
      cases r with
      | nil => exact absurd rfl e
      | cons b r =>
        unfold Lib.join
        simp
theorem arr_map (ls : List Bs) : (ls.map fun l => (⟨l.toArray⟩ : ByteArray)).map (·.data.toList) = ls := by
 induction ls with
 | nil => rfl
 | cons a r ih => rw [List.map_cons, List.map_cons, ih]
theorem join_any (ls : List Bs) (A : Option Addr) (cap : Nat) (w : World) (hs : SlS w A cap ls) (hl : ls.length ≤ 100000) (hb : ∀ l ∈ ls, l.length ≤ 100000) :
  Calls Tryz.prog 50 #[.slice A ls.length cap, .string ⟨#[32]⟩] w fun e w' => e = .returned (sv (join 32 ls)) ∧ Below w.heap.size w w' := by
 by_cases hn : ls.length = 0
 ·have hn2 : ls = [] := List.eq_nil_of_length_eq_zero hn
  subst hn2
  refine (Tryz.strings_Join_none A cap ⟨#[32]⟩ w).mono ?_
  rintro e w' ⟨rfl, rfl⟩
  exact ⟨rfl, Below.refl _ _⟩
 ·obtain ⟨g, off, rfl, hg, _⟩ := hs.at (show 0 < ls.length by omega)
  have hjl := jn_len ls 100000 hb
  have hm : (100000 + 1) * ls.length ≤ (100000 + 1) * 100000 := Nat.mul_le_mul_left _ hl
  have hlen : (ls.map fun l => (⟨l.toArray⟩ : ByteArray)).length = ls.length := by simp
  have h := Tryz.strings_Join g off cap (ls.map fun l => (⟨l.toArray⟩ : ByteArray)) ⟨#[32]⟩ w (fun j x hx => ?_) hg (by rw [hlen]; omega) (by rw [hlen]; exact hs.1) (by rw [arr_map, show (⟨#[32]⟩ : ByteArray).data.toList = [32] from rfl, jn_lib]; omega)
  ·rw [hlen, arr_map, show (⟨#[32]⟩ : ByteArray).data.toList = [32] from rfl, jn_lib] at h
   exact h
  ·rw [List.getElem?_map] at hx
   by_cases hj : j < ls.length
   ·obtain ⟨g', off', e, _, hc⟩ := hs.at hj
    injection e with e
    injection e with e1 e2
    subst e1 e2
    rw [List.getElem?_eq_getElem hj] at hx
    simp at hx
    rw [hc, ← hx]
   ·rw [List.getElem?_eq_none (by omega)] at hx
    cases hx
set_option maxHeartbeats 2000000 in
theorem iFormatParity_any (ls : List Bs) (A : Option Addr) (cap : Nat) (w : World) (hs : SlS w A cap ls) (hb : ∀ l ∈ ls, l.length ≤ 4000) (hn : ls.length ≤ 100000) :
  Calls Tryz.prog 11 #[.slice A ls.length cap] w fun e w' => e = .returned (sv (fmtPar ls)) ∧ Below w.heap.size w w' := by
 have cV := fun w hs => parityValid_any ls A cap w hs hb (by omega)
 cases hp : parOk ls
 ·have HF : Go.RowKit.Hid (fmtPar ls = []) := by show _ = _; unfold fmtPar; rw [if_neg (by simp [hp])]
  rw [hp] at cV
  go_enter Tryz.func11, Tryz.ntmps11
  go_wp2_with (go_at_call 47; refine (cV _ hs).mono ?_; rintro e w' ⟨rfl, rfl⟩)
  go_ret
  exact ⟨ret_S HF.out.symm, Below.refl _ _⟩
 ·have HF : Go.RowKit.Hid (fmtPar ls = orDash (join 32 (ls.map hexOf))) := by show _ = _; unfold fmtPar; rw [if_pos hp]
  rw [hp] at cV
  obtain ⟨i0, hi, hz0, hz1, hz2⟩ := info_parts info_str
  have HS : Go.RowKit.Hid (∀ wr, Below w.heap.size w wr → SlS wr A cap ls) := fun wr h => hs.below h
  have hcap := hs.1
  have HB : Go.RowKit.Hid (∀ (k : Nat) (h : k < ls.length), (ls.map hexOf)[k]? = some (fmtHex ls[k]) ∧ ls[k].length ≤ 4000) := fun k h => by
   have h1 := hb ls[k] (List.getElem_mem h)
   refine ⟨?_, h1⟩
   rw [List.getElem?_map, List.getElem?_eq_getElem h]
   unfold fmtHex
   rw [if_pos h1]; rfl
  have HML : Go.RowKit.Hid (∀ t ∈ ls.map hexOf, t.length ≤ 100000) := fun t ht => by
   obtain ⟨u, hu, rfl⟩ := List.mem_map.1 ht
   have := hb u hu
   rw [hexOf_length]; omega
  have hml : (ls.map hexOf).length = ls.length := by simp
  generalize ls.map hexOf = ms at *
  obtain ⟨n, hln⟩ : ∃ n, ls.length = n := ⟨_, rfl⟩
  have cV2 := cV w hs
  rw [hln] at cV2
  go_enter Tryz.func11, Tryz.ntmps11
  rw [hln]
  go_wp2_with fail
  refine cV2.mono ?_
  rintro e w' ⟨rfl, rfl⟩
  clear cV2 cV
  go_wp2_with (at_make; go_must (refine wpList_make_full _ rfl _ _ 29 rfl w.heap.size 9 i0 (.string ⟨#[]⟩) 1 Tryz.underlying29 hi hz0 hz1 _ _ _ _ n rfl rfl (by omega) (by omega) (by rw [hz2]; omega) (by unfold maxLen; omega) (by omega) ?_); intro w2 hown hg1)
  have b2 : Below w.heap.size w w2 := (Below.refl _ _).grown hg1 (Nat.le_refl _) (by simp)
  rw [← hln] at *
  clear hg1 hs hb hp
  go_loopw [14] (fun i wr => ∃ k : Nat, i = .int .i64 (k : Int) ∧ k ≤ ls.length ∧ wr.ownsRow w.heap.size 9 1 (.slice (some ⟨w.heap.size, 0, none⟩) ls.length ls.length) ls.length (mpC ms k) ∧ Below w.heap.size w wr) (fun i _ => ls.length - (intOf i).toNat)
  case atStart =>
   refine ⟨0, rfl, by omega, ?_, b2⟩
   rw [mpC_zero, hml, ← toList_madeCells_one]
   rw [Nat.mul_one] at hown
   exact hown
  case round =>
   obtain ⟨k, rfl, hk, hown, hb⟩ := hrel
   have hz := hb.size
   have hlt3 : w.heap.size < wr.heap.size := (hown.lt _ rfl).2
   by_cases hlt : k < ls.length
   ·have hki : (k : Int) < ls.length := by omega
    have hkm : k < ms.length := by omega
    obtain ⟨g, off, rfl, hg, hc⟩ := (HS.out wr hb).at hlt
    have hbk := HB.out k hlt
    obtain ⟨hfx, hbl⟩ := hbk
    have HSET := Go.Lib.hid (mpC_set' ms k hfx)
    have HCUR := Go.Lib.hid (mpC_cur ms k hkm)
    have cF := fun w => formatHex_any ls[k] w hbl
    clear hfx
    generalize fmtHex ls[k] = u at *
    generalize ls[k] = t at *
    go_wp2_with fail
    refine (cF _).mono ?_
    rintro e w4 ⟨rfl, hb4⟩
    have z4 := hb4.size
    have o4 := owns_keep hown hb4
    have b4 := hb.trans (hb4.mono (by omega))
    have hfr := o4.frozenAt k
    have hcl := (o4.cellAt k (by omega)).trans HCUR.out
    have hst := o4.stored k (sv u)
    rw [HSET.out] at hst
    have HST := Go.Lib.hid hst
    have b5 : Below w.heap.size w (w4.setCell ⟨w.heap.size, k, none⟩ (sv u)) := b4.setCell (Nat.le_refl _) _
    clear hst hb4 hown o4 hb cF
    go_wp2
    go_roundw
    case rel => exact ⟨k + 1, by go_num, by omega, HST.out.1, b5⟩
    case measure => simp [intOf]; omega
   ·have hki : ¬ (k : Int) < ls.length := by omega
    have hke : k = ms.length := by omega
    subst hke
    rw [mpC_full, ← hml] at hown
    have S3 := SlS.of_own hown
    have cJ := join_any ms (some ⟨w.heap.size, 0, none⟩) ms.length wr S3 (by omega) HML.out
    have cD := fun l w => orDash_any l w
    rw [hml] at cJ
    clear hown S3
    go_wp2_with fail
    refine cJ.mono ?_
    rintro e w5 ⟨rfl, hb5⟩
    have z5 := hb5.size
    have g5 := hb.trans (hb5.mono (by omega))
    clear hb5 hb cJ
    go_wp2_with (go_at_call 49; refine (cD _ _).mono ?_; rintro e w' ⟨rfl, rfl⟩)
    go_ret
    exact ⟨ret_S HF.out.symm, g5⟩
end Go.Proofs.YtfonokhafdflcaaGreatDoor
