/- Walks: operations read from their texts. -/
import Derived.Test.YtkoefklgfkhmpaaDoorW13
import Derived.Test.YtkoefklgfkhmpaaDoorW10
import Derived.Lib.AtoiErrMem
namespace Go.Proofs.YtkoefklgfkhmpaaDoor
open Go.RowKit
set_option linter.unusedVariables false
set_option maxRecDepth 100000
attribute [local go_sem high] run_index_S binOp_eql_S binOp_neq_S append_S toList_S size_S run_slice_S run_slice_from_S run_slice_to_S wrap64_byteAt wrap64_byteAt_mul bits_or_bytes convU conv1_some convU2 conv2_some
theorem withoutDash_any (l : Bs) (w : World) :
    Calls Tryd.prog 59 #[.string ⟨l.toArray⟩] w fun e w' => e = .returned (.tuple #[.string ⟨(unDash l).toArray⟩, .bool (decide (l ≠ []))]) ∧ w = w' := by
  by_cases h : l = [45]
  · subst h
    go_enter Tryd.func59, Tryd.ntmps59
    go_wp2
    exact bodyPost_ret (v := .tuple #[.string ⟨#[]⟩, .bool true]) (by simp [results, Tryd.results59, go_sem]) rfl ⟨rfl, rfl⟩
  · have HE : Go.RowKit.Hid (unDash l = l) := by show _ = _; unfold unDash; rw [if_neg h]
    have hd : decide (l = [45]) = false := by simpa using h
    clear h
    go_enter Tryd.func59, Tryd.ntmps59
    go_wp2
    exact bodyPost_ret (v := .tuple #[.string ⟨l.toArray⟩, .bool (decide (l ≠ []))]) (by simp [results, Tryd.results59, go_sem]) rfl ⟨by rw [HE.out], rfl⟩
theorem hexD_eq (l : Bs) : hexD l = if l = [] then none else unhex (unDash l) := by
  unfold hexD unDash
  by_cases h : l = [45]
  · subst h; rfl
  · rw [if_neg h, if_neg h]
def hexDRes (o : Option Bs) : Ending := .returned (.tuple #[.string ⟨(o.getD []).toArray⟩, .bool o.isSome])
theorem parseHexOrDash_any (l : Bs) (w : World) (hl : l.length ≤ 4000000) :
    Calls Tryd.prog 50 #[.string ⟨l.toArray⟩] w fun e w' => e = hexDRes (hexD l) ∧ Below w.heap.size w w' := by
  have hE := hexD_eq l
  have hu : (unDash l).length ≤ 4000000 := by
    unfold unDash
    split
    · simp
    · exact hl
  have c := fun w => parseHex_any (unDash l) w hu
  unfold hexRes at c
  by_cases h : l = []
  · rw [if_pos h] at hE
    have HE := Go.Lib.hid hE
    have hd : decide (l ≠ []) = false := by simpa using h
    clear hE h
    go_enter Tryd.func50, Tryd.ntmps50
    go_wp2_with fail
    refine (withoutDash_any _ _).mono ?_
    rintro e w1 ⟨rfl, rfl⟩
    rw [hd]
    go_wp2
    exact bodyPost_ret (v := .tuple #[.string ⟨#[]⟩, .bool false]) (by simp [results, Tryd.results50, go_sem]) rfl ⟨by rw [HE.out]; rfl, Below.refl _ _⟩
  · rw [if_neg h] at hE
    have hd : decide (l ≠ []) = true := by simpa using h
    rw [hE]
    have cd := fun w => withoutDash_any l w
    simp only [hd] at cd
    generalize unDash l = u at *
    clear hE h
    go_enter Tryd.func50, Tryd.ntmps50
    go_wp2_with fail
    refine (cd _).mono ?_
    rintro e w1 ⟨rfl, rfl⟩
    go_wp2_with fail
    refine (c _).mono ?_
    rintro e w2 ⟨rfl, hb2⟩
    go_wp2
    exact bodyPost_ret (v := .tuple #[.string ⟨((unhex u).getD []).toArray⟩, .bool (unhex u).isSome]) (by simp [results, Tryd.results50, go_sem]) rfl ⟨rfl, hb2⟩
/-- The variables of the errors hold something. -/
def ErrVars (w : World) : Prop := (∃ ev, w.cell? ⟨2, 0, none⟩ = some ev ∧ (ev = .nilIface ∨ ∃ te pe, ev = .iface te pe)) ∧ (∃ ev, w.cell? ⟨3, 0, none⟩ = some ev ∧ (ev = .nilIface ∨ ∃ te pe, ev = .iface te pe))
theorem parseNumber_any (l : Bs) (w : World) (B : Nat) (hB : B ≤ w.heap.size) (hT : HasTab B w) (hE : ErrVars w) (hl : l.length ≤ 4000000) :
    Calls Tryd.prog 49 #[.string ⟨l.toArray⟩] w fun e w' => e = numRes (numOf l) ∧ Below w.heap.size w w' := by
  have hT' := Go.Lib.hid hT
  have hsz : (⟨l.toArray⟩ : ByteArray).size ≤ 281474976710656 := by rw [size_S]; omega
  obtain ⟨⟨ev, hv, hev⟩, ⟨ev2, hv2, hev2⟩⟩ := hE
  have key : (⟨l.toArray⟩ : ByteArray).data.toList = l := by simp
  have hbytes : ∀ w' : World, (w' = w ∨ ∃ t, w' = Lib.bytesWorld w 5 t) → Below w.heap.size w w' := by
    rintro w' (rfl | ⟨t, rfl⟩)
    · exact Below.refl _ _
    · exact Lib.bytesWorld_below _ _ _
  cases ha : Lib.atoiAll l with
  | ok v =>
    have hbd := Lib.atoiAll_bounds ha
    have hN : numOf l = if Lib.itoa v = l then some v else none := by unfold numOf; rw [ha]
    have cA := Tryd.strconv_Atoi_ok ⟨l.toArray⟩ (by rw [size_S]; omega) v (by rw [key]; exact ha) w
    have CA := Go.Lib.hid cA
    have HB := Go.Lib.hid hbytes
    clear hbytes cA hT
    obtain ⟨hb0, hb1⟩ := hbd
    have hlen := Lib.itoa_length_le v hb0 hb1
    go_enter Tryd.func49, Tryd.ntmps49
    go_wp2_with fail
    refine CA.out.mono ?_
    rintro e w1 ⟨rfl, hw1⟩
    have hb1' := HB.out w1 hw1
    have hT1 : HasTab B w1 := Lib.TabBelow.on hT'.out (hb1'.mono hB)
    go_wp2_with fail
    refine (itoa_any v w1 B (by have := hb1'.size; omega) hT1 hb0 hb1).mono ?_
    rintro e w2 ⟨rfl, hb2⟩
    have g2 := hb1'.trans (hb2.mono hb1'.size)
    by_cases he : Lib.itoa v = l
    · have HN : Go.RowKit.Hid (numOf l = some v) := by show _ = _; rw [hN, if_pos he]
      have hd : decide (Lib.itoa v ≠ l) = false := by simpa using he
      clear hN he
      go_wp2
      exact bodyPost_ret (v := .tuple #[.int .i64 v, .bool true]) (by simp [results, Tryd.results49, go_sem]) rfl ⟨by rw [HN.out]; rfl, g2⟩
    · have HN : Go.RowKit.Hid (numOf l = none) := by show _ = _; rw [hN, if_neg he]
      have hd : decide (Lib.itoa v ≠ l) = true := by simpa using he
      clear hN he
      go_wp2
      exact bodyPost_ret (v := .tuple #[.int .i64 0, .bool false]) (by simp [results, Tryd.results49, go_sem]) rfl ⟨by rw [HN.out]; rfl, g2⟩
  | «syntax» =>
    have HN : Go.RowKit.Hid (numOf l = none) := by show _ = _; unfold numOf; rw [ha]
    have CA := Go.Lib.hid (Tryd.strconv_Atoi_syntax ⟨l.toArray⟩ hsz (by rw [key]; exact ha) ev w hv hev)
    clear hT hbytes
    go_enter Tryd.func49, Tryd.ntmps49
    go_wp2_with fail
    refine CA.out.mono ?_
    rintro e w1 ⟨N, rfl, hN1, hN2, hb1⟩
    go_wp2
    exact bodyPost_ret (v := .tuple #[.int .i64 0, .bool false]) (by simp [results, Tryd.results49, go_sem]) rfl ⟨by rw [HN.out]; rfl, hb1⟩
  | range =>
    have HN : Go.RowKit.Hid (numOf l = none) := by show _ = _; unfold numOf; rw [ha]
    have CA := Go.Lib.hid (Tryd.strconv_Atoi_range ⟨l.toArray⟩ hsz (by rw [key]; exact ha) ev2 w hv2 hev2)
    clear hT hbytes
    go_enter Tryd.func49, Tryd.ntmps49
    go_wp2_with fail
    refine CA.out.mono ?_
    rintro e w1 ⟨N, rfl, hN1, hN2, hb1⟩
    go_wp2
    exact bodyPost_ret (v := .tuple #[.int .i64 0, .bool false]) (by simp [results, Tryd.results49, go_sem]) rfl ⟨by rw [HN.out]; rfl, hb1⟩
def kindOf (a : Bs) : Int × Int := if a = wPut then (0, 4) else if a = wAppend then (1, 4) else if a = wReplace then (2, 6) else if a = wMerge then (3, 3) else if a = wDelete then (4, 2) else (-1, 0)
theorem l8Kind_any (a : Bs) (w : World) :
    Calls Tryd.prog 38 #[.string ⟨a.toArray⟩] w fun e w' => e = .returned (.tuple #[.int .i64 (kindOf a).1, .int .i64 (kindOf a).2]) ∧ w = w' := by
  by_cases h1 : a = wPut
  · subst h1
    go_enter Tryd.func38, Tryd.ntmps38
    go_wp2
    exact bodyPost_ret (v := .tuple #[.int .i64 0, .int .i64 4]) (by simp [results, Tryd.results38, go_sem]) rfl ⟨rfl, rfl⟩
  by_cases h2 : a = wAppend
  · subst h2
    go_enter Tryd.func38, Tryd.ntmps38
    go_wp2
    exact bodyPost_ret (v := .tuple #[.int .i64 1, .int .i64 4]) (by simp [results, Tryd.results38, go_sem]) rfl ⟨rfl, rfl⟩
  by_cases h3 : a = wReplace
  · subst h3
    go_enter Tryd.func38, Tryd.ntmps38
    go_wp2
    exact bodyPost_ret (v := .tuple #[.int .i64 2, .int .i64 6]) (by simp [results, Tryd.results38, go_sem]) rfl ⟨rfl, rfl⟩
  by_cases h4 : a = wMerge
  · subst h4
    go_enter Tryd.func38, Tryd.ntmps38
    go_wp2
    exact bodyPost_ret (v := .tuple #[.int .i64 3, .int .i64 3]) (by simp [results, Tryd.results38, go_sem]) rfl ⟨rfl, rfl⟩
  by_cases h5 : a = wDelete
  · subst h5
    go_enter Tryd.func38, Tryd.ntmps38
    go_wp2
    exact bodyPost_ret (v := .tuple #[.int .i64 4, .int .i64 2]) (by simp [results, Tryd.results38, go_sem]) rfl ⟨rfl, rfl⟩
  have HK : Go.RowKit.Hid (kindOf a = (-1, 0)) := by show _ = _; unfold kindOf; rw [if_neg h1, if_neg h2, if_neg h3, if_neg h4, if_neg h5]
  have d1 : decide (a = wPut) = false := by simpa using h1
  have d2 : decide (a = wAppend) = false := by simpa using h2
  have d3 : decide (a = wReplace) = false := by simpa using h3
  have d4 : decide (a = wMerge) = false := by simpa using h4
  have d5 : decide (a = wDelete) = false := by simpa using h5
  clear h1 h2 h3 h4 h5
  go_enter Tryd.func38, Tryd.ntmps38
  go_wp2
  exact bodyPost_ret (v := .tuple #[.int .i64 (-1), .int .i64 0]) (by simp [results, Tryd.results38, go_sem]) rfl ⟨by rw [HK.out], rfl⟩
end Go.Proofs.YtkoefklgfkhmpaaDoor
