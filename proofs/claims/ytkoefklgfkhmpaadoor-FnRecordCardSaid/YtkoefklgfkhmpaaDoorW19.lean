/- Walks: records of operations read. -/
import Derived.Test.YtkoefklgfkhmpaaDoorW18
import Derived.Test.YtkoefklgfkhmpaaDoorW6
namespace Go.Proofs.YtkoefklgfkhmpaaDoor
open Go.RowKit
set_option linter.unusedVariables false
set_option maxRecDepth 100000
attribute [local go_sem high] run_index_S binOp_eql_S binOp_neq_S append_S toList_S size_S run_slice_S run_slice_from_S run_slice_to_S wrap64_byteAt wrap64_byteAt_mul bits_or_bytes convU conv1_some convU2 conv2_some
def rdRes (o : Option (OpR × Int)) : Ending := .returned (.tuple #[((o.map (·.1)).getD opZ).val, .int .i64 ((o.map (·.2)).getD 0), .bool o.isSome])
theorem rdRes_none : rdRes none = .returned (.tuple #[opZ.val, .int .i64 0, .bool false]) := rfl
theorem rdRes_some (x : OpR) (e : Int) : rdRes (some (x, e)) = .returned (.tuple #[x.val, .int .i64 e, .bool true]) := rfl
theorem numberAt_any (l : Bs) (a : Nat) (w : World) (h : a + 1 < l.length) (hl : l.length ≤ 4000000) :
    Calls Tryd.prog 24 #[.string ⟨l.toArray⟩, .int .i64 (a : Int)] w fun e w' => e = .returned (.int .i64 (numAt l a)) ∧ Below w.heap.size w w' := by
  have h0 := byteAt_nonneg l a
  have h1 := byteAt_le l a
  have h2 := byteAt_nonneg l ((a : Int) + 1)
  have h3 := byteAt_le l ((a : Int) + 1)
  have hi : (a : Int) + 1 < l.length := by omega
  go_enter Tryd.func24, Tryd.ntmps24
  go_wp2
  go_quiet (fail)
  go_wp2
  go_ret
  exact ⟨rfl, (by repeat (first | (with_reducible exact Below.refl _ _) | (with_reducible assumption) | (with_reducible refine Below.drew ?_) | (with_reducible refine Below.alloc ?_ (by first | omega | (simp <;> omega)) _) | (with_reducible refine Below.setCell ?_ (by first | omega | (simp <;> omega)) _) | (with_reducible refine belowN ?_ _)))⟩
set_option maxHeartbeats 4000000 in
theorem readRecord_any (l : Bs) (a : Int) (mx : Int) (w : World) (B : Nat) (hB : B ≤ w.heap.size) (hT : HasTab B w) (hE : ErrVars w) (hmx : w.cell? ⟨1, 0, none⟩ = some (.int .i64 mx)) (hs : l.length ≤ 1500000) (ha0 : -9223372036854775808 ≤ a) (ha1 : a ≤ 9223372036854775807) :
    Calls Tryd.prog 10 #[.string ⟨l.toArray⟩, .int .i64 a] w fun e w' => e = rdRes (readOpR l a) ∧ Below w.heap.size w w' := by
  have HT := Go.Lib.hid hT
  have h00 := lt_of_cell hmx
  clear hT
  by_cases hg : 0 ≤ a ∧ a + 4 ≤ l.length
  · obtain ⟨n, rfl⟩ := Int.eq_ofNat_of_zero_le hg.1
    have hn4 : n + 4 ≤ l.length := by omega
    have hi1 : ¬ (n : Int) < 0 := by omega
    have hi2 : (n : Int) ≤ (l.length : Int) - 4 := by omega
    have hnb := numAt_bd l n
    have cP := fun w => numberAt_any l n w (by omega) (by omega)
    have hR : readOpR l n = if 0 ≤ (n : Int) ∧ (n : Int) + 4 ≤ l.length ∧ (n : Int) + 4 + numAt l n ≤ l.length then
      match parseOpR (recT l n) with
      | some x => if sumOf (recT l n) = numAt l ((n : Int) + 2 + numAt l n) then some (x, (n : Int) + 4 + numAt l n) else none
      | none => none else none := rfl
    have hlen := recT_len l n
    have hrec : recT l n = (l.drop (n + 2)).take (numAt l n).toNat := rfl
    obtain ⟨m, hm⟩ := Int.eq_ofNat_of_zero_le hnb.1
    rw [hm] at hR hlen hrec cP hnb
    simp only [Int.toNat_natCast] at hlen hrec
    have hm2 : m ≤ 65535 := by omega
    clear hg hm hnb
    have hx2 : (⟨l.toArray⟩ : ByteArray).extract (n + 2) (n + 2 + m) = ⟨(recT l n).toArray⟩ := by
      rw [ByteArray.extract_mk, hrec]; simp
    clear hrec
    by_cases hfit : n + 4 + m ≤ l.length
    · have hfi : ¬ (l.length : Int) - 2 < (n : Int) + 2 + m := by omega
      replace hlen := hlen hfit
      rw [if_pos ⟨by omega, by omega, by omega⟩] at hR
      generalize recT l n = T at *
      have HRT := Go.Lib.hid hR
      clear hR
      have cO := fun w hB hT hE hm => parseOp_any T mx w B hB hT hE hm (by omega)
      unfold opRes at cO
      have cQ := fun w => numberAt_any l (n + 2 + m) w (by omega) (by omega)
      have ec : ((n + 2 + m : Nat) : Int) = (n : Int) + 2 + m := by omega
      rw [ec] at cQ
      have hsb := sumOf_bd T
      go_enter Tryd.func10, Tryd.ntmps10
      go_wp2_with fail
      have K0 := Bk.new w opZ.cells 24
      refine (cP _).mono ?_
      rintro e w1 ⟨rfl, hb1⟩
      have K1 := K0.below hb1 K0.lt
      have hz1 := hb1.size
      simp only [World.size_alloc] at hz1
      have g1 : Below w.heap.size w w1 := ((Below.refl _ _).alloc (Nat.le_refl _) _).trans (hb1.mono (by simp))
      clear hb1 K0
      go_wp2_with fail
      refine (cO w1 (by omega) (Lib.TabBelow.on HT.out (g1.mono hB)) (hE.on g1) ((g1.cell (p := ⟨1, 0, none⟩) h00).trans hmx)).mono ?_
      rintro e w2 ⟨rfl, hb2⟩
      have K2 := K1.below hb2 K1.lt
      have hz2 := hb2.size
      have g2 := g1.trans (hb2.mono (by omega))
      clear hb2 K1 g1 cO cP
      have hkk : (parseOpR T).isSome = true ∨ parseOpR T = none := by cases parseOpR T <;> simp
      rcases hkk with hk | hk
      · obtain ⟨x, hx⟩ := Option.isSome_iff_exists.1 hk
        have HR2 : Go.RowKit.Hid (readOpR l n = if sumOf T = numAt l ((n : Int) + 2 + m) then some (x, (n : Int) + 4 + m) else none) := by
          show _ = _
          rw [HRT.out, hx]
        have e1 : (parseOpR T).getD opZ = x := by rw [hx]; rfl
        rw [e1, hk]
        clear hk hx e1 HRT
        obtain ⟨k, f, tt, s, nm, d⟩ := x
        have X2 := (K2.alloc (.cells (⟨k, f, tt, s, nm, d⟩ : OpR).cells 24)).cell
        have F2 := (K2.alloc (.cells (⟨k, f, tt, s, nm, d⟩ : OpR).cells 24)).free
        simp only [OpR.cells] at X2 F2
        have g3 : Below w.heap.size w (w2.alloc (.cells (⟨k, f, tt, s, nm, d⟩ : OpR).cells 24)) := (by repeat (first | (with_reducible exact Below.refl _ _) | (with_reducible assumption) | (with_reducible refine Below.drew ?_) | (with_reducible refine Below.alloc ?_ (by first | omega | (simp <;> omega)) _) | (with_reducible refine Below.setCell ?_ (by first | omega | (simp <;> omega)) _) | (with_reducible refine belowN ?_ _)))
        have K7 := Bk.new w2 (⟨k, f, tt, s, nm, d⟩ : OpR).cells 24
        have K2' := K2.alloc (.cells (⟨k, f, tt, s, nm, d⟩ : OpR).cells 24)
        by_cases hsum : sumOf T = numAt l ((n : Int) + 2 + m)
        · have HR3 : Go.RowKit.Hid (rdRes (readOpR l n) = .returned (.tuple #[(⟨k, f, tt, s, nm, d⟩ : OpR).val, .int .i64 ((n : Int) + 4 + m), .bool true])) := by
            show _ = _
            rw [HR2.out, if_pos hsum]; rfl
          have hd : (sumOf T != numAt l ((n : Int) + 2 + m)) = false := by simpa using hsum
          clear hsum HR2
          go_wp2_with fail
          refine (sumOf_any T _ (by omega)).mono ?_
          rintro e w3 ⟨rfl, rfl⟩
          go_wp2_with fail
          refine (cQ _).mono ?_
          rintro e w3 ⟨rfl, hb3⟩
          have K8 := K7.below hb3 K7.lt
          have K3 := K2'.below hb3 K2'.lt
          have hz3 := hb3.size
          simp only [World.size_alloc] at hz3
          have g4 := g3.trans (hb3.mono (by simp; omega))
          have X3 := K3.cell
          have F3 := K3.free
          have X8 := K8.cell
          clear hb3 X2 F2 K7 K2'
          go_wp2
          exact bodyPost_ret (v := .tuple #[(⟨k, f, tt, s, nm, d⟩ : OpR).val, .int .i64 ((n : Int) + 4 + m), .bool true]) (by simp [results, Tryd.results10, go_sem, X3] <;> omega) rfl ⟨HR3.out.symm, (by repeat (first | (with_reducible exact Below.refl _ _) | (with_reducible assumption) | (with_reducible refine Below.drew ?_) | (with_reducible refine Below.alloc ?_ (by first | omega | (simp <;> omega)) _) | (with_reducible refine Below.setCell ?_ (by first | omega | (simp <;> omega)) _) | (with_reducible refine belowN ?_ _)))⟩
        · have HR3 : Go.RowKit.Hid (rdRes (readOpR l n) = .returned (.tuple #[opZ.val, .int .i64 0, .bool false])) := by
            show _ = _
            rw [HR2.out, if_neg hsum]; rfl
          have hd : (sumOf T != numAt l ((n : Int) + 2 + m)) = true := by simpa using hsum
          clear hsum HR2
          go_wp2_with fail
          refine (sumOf_any T _ (by omega)).mono ?_
          rintro e w3 ⟨rfl, rfl⟩
          go_wp2_with fail
          refine (cQ _).mono ?_
          rintro e w3 ⟨rfl, hb3⟩
          have K3 := K2'.below hb3 K2'.lt
          have hz3 := hb3.size
          simp only [World.size_alloc] at hz3
          have g4 := g3.trans (hb3.mono (by simp; omega))
          have X3 := K3.cell
          have F3 := K3.free
          clear hb3 X2 F2 K7 K2'
          go_wp2
          exact bodyPost_ret (v := .tuple #[opZ.val, .int .i64 0, .bool false]) (by simp [results, Tryd.results10, go_sem, opZ, X3]) rfl ⟨HR3.out.symm, (by repeat (first | (with_reducible exact Below.refl _ _) | (with_reducible assumption) | (with_reducible refine Below.drew ?_) | (with_reducible refine Below.alloc ?_ (by first | omega | (simp <;> omega)) _) | (with_reducible refine Below.setCell ?_ (by first | omega | (simp <;> omega)) _) | (with_reducible refine belowN ?_ _)))⟩
      · have HR2 : Go.RowKit.Hid (rdRes (readOpR l n) = .returned (.tuple #[opZ.val, .int .i64 0, .bool false])) := by
          show _ = _
          rw [HRT.out, hk]; rfl
        rw [hk]
        clear hk HRT
        have X2 := (K2.alloc (.cells opZ.cells 24)).cell
        have F2 := (K2.alloc (.cells opZ.cells 24)).free
        simp only [OpR.cells] at X2 F2
        go_wp2
        simp only [opZ] at X2
        exact bodyPost_ret (v := .tuple #[opZ.val, .int .i64 0, .bool false]) (by simp [results, Tryd.results10, go_sem, opZ, X2]) rfl ⟨HR2.out.symm, (by repeat (first | (with_reducible exact Below.refl _ _) | (with_reducible assumption) | (with_reducible refine Below.drew ?_) | (with_reducible refine Below.alloc ?_ (by first | omega | (simp <;> omega)) _) | (with_reducible refine Below.setCell ?_ (by first | omega | (simp <;> omega)) _) | (with_reducible refine belowN ?_ _)))⟩
    · have hfi : (l.length : Int) - 2 < (n : Int) + 2 + m := by omega
      have HR : Go.RowKit.Hid (rdRes (readOpR l n) = .returned (.tuple #[opZ.val, .int .i64 0, .bool false])) := by
        show _ = _
        rw [hR, if_neg (fun h => hfit (by have := h.2.2; omega))]; rfl
      clear hR hlen
      go_enter Tryd.func10, Tryd.ntmps10
      go_wp2_with fail
      have K0 := Bk.new w opZ.cells 24
      refine (cP _).mono ?_
      rintro e w1 ⟨rfl, hb1⟩
      have K1 := K0.below hb1 K0.lt
      have hz1 := hb1.size
      simp only [World.size_alloc] at hz1
      have g1 : Below w.heap.size w w1 := ((Below.refl _ _).alloc (Nat.le_refl _) _).trans (hb1.mono (by simp))
      have X1 := K1.cell
      have F1 := K1.free
      go_wp2
      exact bodyPost_ret (v := .tuple #[opZ.val, .int .i64 0, .bool false]) (by simp [results, Tryd.results10, go_sem, opZ, X1]) rfl ⟨HR.out.symm, (by repeat (first | (with_reducible exact Below.refl _ _) | (with_reducible assumption) | (with_reducible refine Below.drew ?_) | (with_reducible refine Below.alloc ?_ (by first | omega | (simp <;> omega)) _) | (with_reducible refine Below.setCell ?_ (by first | omega | (simp <;> omega)) _) | (with_reducible refine belowN ?_ _)))⟩
  · have HR : Go.RowKit.Hid (rdRes (readOpR l a) = .returned (.tuple #[opZ.val, .int .i64 0, .bool false])) := by
      show _ = _
      unfold readOpR
      rw [if_neg (fun h => hg ⟨h.1, h.2.1⟩)]; rfl
    by_cases h1 : a < 0
    · go_enter Tryd.func10, Tryd.ntmps10
      go_wp2
      exact bodyPost_ret (v := .tuple #[opZ.val, .int .i64 0, .bool false]) (by simp [results, Tryd.results10, go_sem, opZ]) rfl ⟨HR.out.symm, (by repeat (first | (with_reducible exact Below.refl _ _) | (with_reducible assumption) | (with_reducible refine Below.drew ?_) | (with_reducible refine Below.alloc ?_ (by first | omega | (simp <;> omega)) _) | (with_reducible refine Below.setCell ?_ (by first | omega | (simp <;> omega)) _) | (with_reducible refine belowN ?_ _)))⟩
    · have h2 : (l.length : Int) - 4 < a := by
        have := fun h => hg ⟨by omega, h⟩
        omega
      go_enter Tryd.func10, Tryd.ntmps10
      go_wp2
      exact bodyPost_ret (v := .tuple #[opZ.val, .int .i64 0, .bool false]) (by simp [results, Tryd.results10, go_sem, opZ]) rfl ⟨HR.out.symm, (by repeat (first | (with_reducible exact Below.refl _ _) | (with_reducible assumption) | (with_reducible refine Below.drew ?_) | (with_reducible refine Below.alloc ?_ (by first | omega | (simp <;> omega)) _) | (with_reducible refine Below.setCell ?_ (by first | omega | (simp <;> omega)) _) | (with_reducible refine belowN ?_ _)))⟩
end Go.Proofs.YtkoefklgfkhmpaaDoor
