/- Walks: operations parsed. -/
import Derived.Test.YtkoefklgfkhmpaaDoorW14
namespace Go.Proofs.YtkoefklgfkhmpaaDoor
open Go.RowKit
set_option linter.unusedVariables false
set_option maxRecDepth 100000
attribute [local go_sem high] run_index_S binOp_eql_S binOp_neq_S append_S toList_S size_S run_slice_S run_slice_from_S run_slice_to_S wrap64_byteAt wrap64_byteAt_mul bits_or_bytes convU conv1_some convU2 conv2_some
/-- The operation as a value. -/
abbrev OpR.cells (x : OpR) : Array Value := #[.int .i64 x.k, .string ⟨x.nm.toArray⟩, .int .i64 x.f, .int .i64 x.t, .int .i64 x.s, .string ⟨x.d.toArray⟩]
abbrev OpR.val (x : OpR) : Value := .agg x.cells
def opZ : OpR := ⟨0, 0, 0, 0, [], []⟩
def opRes (o : Option OpR) : Ending := .returned (.tuple #[(o.getD opZ).val, .bool o.isSome])
/-- What the first field asks for is there. -/
theorem kind_cases (a : Bs) (n : Nat) : ((kindOf a).1 < 0 ∨ (n : Int) ≠ (kindOf a).2) ∨ ((a = wPut ∨ a = wAppend) ∧ n = 4) ∨ (a = wReplace ∧ n = 6) ∨ (a = wMerge ∧ n = 3) ∨ (a = wDelete ∧ n = 2) := by
  unfold kindOf
  split
  · rename_i h; by_cases hn : n = 4
    · exact .inr (.inl ⟨.inl h, hn⟩)
    · exact .inl (.inr (by simp; omega))
  split
  · rename_i h; by_cases hn : n = 4
    · exact .inr (.inl ⟨.inr h, hn⟩)
    · exact .inl (.inr (by simp; omega))
  split
  · rename_i h; by_cases hn : n = 6
    · exact .inr (.inr (.inl ⟨h, hn⟩))
    · exact .inl (.inr (by simp; omega))
  split
  · rename_i h; by_cases hn : n = 3
    · exact .inr (.inr (.inr (.inl ⟨h, hn⟩)))
    · exact .inl (.inr (by simp; omega))
  split
  · rename_i h; by_cases hn : n = 2
    · exact .inr (.inr (.inr (.inr ⟨h, hn⟩)))
    · exact .inl (.inr (by simp; omega))
  · exact .inl (.inl (by decide))
theorem spec_none (a : Bs) (r : List Bs) (h : (kindOf a).1 < 0 ∨ ((a :: r).length : Int) ≠ (kindOf a).2) : specCand (a :: r) = none := by
  cases hs : specCand (a :: r) with
  | none => rfl
  | some x =>
    exfalso
    unfold specCand at hs
    split at hs
    · rename_i a' b c e heq
      injection heq with h1 h2
      subst h1 h2
      split at hs
      · rename_i hk
        rcases hk with rfl | rfl
        · rw [show kindOf wPut = (0, 4) from rfl] at h; simp at h
        · rw [show kindOf wAppend = (1, 4) from rfl] at h; simp at h
      · cases hs
    · rename_i a' b c e g i heq
      injection heq with h1 h2
      subst h1 h2
      split at hs
      · rename_i hk; subst hk; rw [show kindOf wReplace = (2, 6) from rfl] at h; simp at h
      · cases hs
    · rename_i a' b c heq
      injection heq with h1 h2
      subst h1 h2
      split at hs
      · rename_i hk; subst hk; rw [show kindOf wMerge = (3, 3) from rfl] at h; simp at h
      · cases hs
    · rename_i a' b heq
      injection heq with h1 h2
      subst h1 h2
      split at hs
      · rename_i hk; subst hk; rw [show kindOf wDelete = (4, 2) from rfl] at h; simp at h
      · cases hs
    · cases hs
theorem opRes_spec (t : Bs) (x : OpR) (h : specCand (cut 32 t) = some x) : opRes (parseOpR t) = if x.fmt = t then .returned (.tuple #[x.val, .bool true]) else .returned (.tuple #[opZ.val, .bool false]) := by
  rw [← op_test, h]
  simp only
  split <;> rfl
theorem opRes_none (t : Bs) (h : specCand (cut 32 t) = none) : opRes (parseOpR t) = .returned (.tuple #[opZ.val, .bool false]) := by
  rw [← op_test, h]; rfl
set_option maxHeartbeats 4000000 in
theorem sParseOp_any (t : Bs) (w : World) (hs : t.length ≤ 1500000) :
    Calls Tryd.prog 16 #[.string ⟨t.toArray⟩] w fun e w' => e = opRes (parseOpR t) ∧ Below w.heap.size w w' := by
  have HS := Go.Lib.hid (opRes_spec t)
  have HO := Go.Lib.hid (opRes_none t)
  have HM := Go.Lib.hid (cut_mem_len 32 t)
  have hne := cut_ne 32 t
  have cS := fun w => l9Cut_any 32 t w (by omega)
  generalize opRes (parseOpR t) = RES at *
  generalize hps : cut 32 t = ps at *
  clear hps
  obtain ⟨a, r, rfl⟩ : ∃ a r, ps = a :: r := by cases ps with
    | nil => exact absurd rfl hne
    | cons a r => exact ⟨a, r, rfl⟩
  have hla := HM.out a List.mem_cons_self
  go_enter Tryd.func16, Tryd.ntmps16
  go_wp2_with fail
  refine (cS _).mono ?_
  rintro e w2 ⟨⟨v, rfl, hown⟩, hb2⟩
  obtain ⟨g, cap, rfl, hg1, hg2⟩ := hown.form (by simp)
  have hsp : SlS w2 (some ⟨g, 0, none⟩) cap (a :: r) := by
    obtain ⟨A, cap', hv, h⟩ := Sl.of_own hown
    injection hv with e1 e2 e3
    subst e1; subst e3
    exact h
  have hz2 := hb2.size
  simp only [World.size_alloc] at hz2 hg1
  have hK2 : Bk w2 w.heap.size 24 opZ.cells := (Bk.new w opZ.cells 24).below hb2 (by simp)
  have X2 := hK2.cell
  have F2 := hK2.free
  have g2 : Below w.heap.size w w2 := ((Below.refl _ _).alloc (Nat.le_refl _) _).trans (hb2.mono (by simp))
  clear hb2 cS hown
  obtain ⟨_, _, hA0, _, hc0⟩ := SlS.at hsp (k := 0) (by simp)
  injection hA0 with hA0
  injection hA0 with e1 e2 _
  subst e1; subst e2
  rw [Nat.zero_add] at hc0
  go_wp2_with fail
  refine (l8Kind_any a _).mono ?_
  rintro e w3 ⟨rfl, rfl⟩
  rcases kind_cases a (a :: r).length with hk | ⟨hk, hn⟩ | ⟨hk, hn⟩ | ⟨hk, hn⟩ | ⟨hk, hn⟩
  · have HR := Go.Lib.hid (HO.out (spec_none a r hk))
    generalize kindOf a = K at *
    obtain ⟨K1, K2⟩ := K
    simp only at hk ⊢
    by_cases h1 : K1 < 0
    · go_wp2
      exact bodyPost_ret (v := .tuple #[opZ.val, .bool false]) (by simp [results, Tryd.results16, go_sem, X2, opZ]) rfl ⟨HR.out.symm, (by repeat (first | (with_reducible exact Below.refl _ _) | (with_reducible assumption) | (with_reducible refine Below.drew ?_) | (with_reducible refine Below.alloc ?_ (by first | omega | (simp <;> omega)) _) | (with_reducible refine Below.setCell ?_ (by first | omega | (simp <;> omega)) _) | (with_reducible refine belowN ?_ _)))⟩
    · have h2 : ((r.length : Int) + 1 != K2) = true := by
        rcases hk with h | h
        · exact absurd h h1
        · simpa using h
      go_wp2
      exact bodyPost_ret (v := .tuple #[opZ.val, .bool false]) (by simp [results, Tryd.results16, go_sem, X2, opZ]) rfl ⟨HR.out.symm, (by repeat (first | (with_reducible exact Below.refl _ _) | (with_reducible assumption) | (with_reducible refine Below.drew ?_) | (with_reducible refine Below.alloc ?_ (by first | omega | (simp <;> omega)) _) | (with_reducible refine Below.setCell ?_ (by first | omega | (simp <;> omega)) _) | (with_reducible refine belowN ?_ _)))⟩
  · obtain ⟨b, c, d, rfl⟩ : ∃ b c d, r = [b, c, d] := by
      match r, hn with
      | [b, c, d], _ => exact ⟨b, c, d, rfl⟩
    have hX := HS.out _ (show specCand [a, b, c, d] = some _ from by unfold specCand; simp only; rw [if_pos hk])
    obtain ⟨_, _, hA1, _, hc1⟩ := SlS.at hsp (k := 1) (by simp)
    injection hA1 with hA1
    injection hA1 with e1 e2 _
    subst e1; subst e2
    obtain ⟨_, _, hA2, _, hc2⟩ := SlS.at hsp (k := 2) (by simp)
    injection hA2 with hA2
    injection hA2 with e1 e2 _
    subst e1; subst e2
    obtain ⟨_, _, hA3, _, hc3⟩ := SlS.at hsp (k := 3) (by simp)
    injection hA3 with hA3
    injection hA3 with e1 e2 _
    subst e1; subst e2
    rw [Nat.zero_add] at hc1 hc2 hc3
    have hlb := HM.out b (by simp)
    have hlc := HM.out c (by simp)
    have hld := HM.out d (by simp)
    obtain ⟨kk, hkk, hkk0, hkk1, hkk2⟩ : ∃ kk : Int, kindOf a = (kk, 4) ∧ (if a = wAppend then (1 : Int) else 0) = kk ∧ ¬ kk < 0 ∧ (kk == 2) = false := by
      rcases hk with rfl | rfl
      · exact ⟨0, rfl, rfl, by decide, by decide⟩
      · exact ⟨1, rfl, rfl, by decide, by decide⟩
    rw [hkk0] at hX
    rw [hkk]
    clear hk hn hkk hkk0 HS HO
    have HX := Go.Lib.hid hX
    clear hX
    go_wp2_with fail
    refine (l9Num_any c _ (by omega)).mono ?_
    rintro e w3 ⟨rfl, rfl⟩
    unfold numRes
    generalize (numL c).getD 0 = Sv at *
    generalize (numL c).isSome = Sv2 at *
    go_wp2_with fail
    refine (l3None_any d _).mono ?_
    rintro e w3 ⟨rfl, rfl⟩
    have hul : (unDash d).length ≤ 4000000 := by
      unfold unDash
      split
      · simp
      · omega
    have cH := fun w => sParseHex_any (unDash d) w hul
    simp only [hexRes_eq] at cH
    have hxl := unhexD_len (unDash d)
    generalize (unhex (unDash d)).getD [] = D at *
    generalize (unhex (unDash d)).isSome = D2 at *
    generalize unDash d = ud at *
    go_wp2_with fail
    have K7 := Bk.new w2 #[.int .i64 kk, .string ⟨b.toArray⟩, .int .i64 0, .int .i64 0, .int .i64 Sv, .string ⟨#[]⟩] 24
    have K2' := hK2.alloc (.cells #[.int .i64 kk, .string ⟨b.toArray⟩, .int .i64 0, .int .i64 0, .int .i64 Sv, .string ⟨#[]⟩] 24)
    have g3 : Below w.heap.size w (w2.alloc (.cells #[.int .i64 kk, .string ⟨b.toArray⟩, .int .i64 0, .int .i64 0, .int .i64 Sv, .string ⟨#[]⟩] 24)) := (by repeat (first | (with_reducible exact Below.refl _ _) | (with_reducible assumption) | (with_reducible refine Below.drew ?_) | (with_reducible refine Below.alloc ?_ (by first | omega | (simp <;> omega)) _) | (with_reducible refine Below.setCell ?_ (by first | omega | (simp <;> omega)) _) | (with_reducible refine belowN ?_ _)))
    refine (cH _).mono ?_
    rintro e w4 ⟨rfl, hb4⟩
    have hz4 := hb4.size
    have hW2 := K2'.lt
    have hW7 := K7.lt
    have K7' := K7.below hb4 hW7
    have K2'' := K2'.below hb4 hW2
    have g4 := g3.trans (hb4.mono (by simp; omega))
    simp only [World.size_alloc] at hz4
    have X7 := K7'.cell
    have F7 := K7'.free
    clear hb4 cH K7 K2' g3 X2 F2 hK2
    go_wp2_with fail
    have K7f := K7'.set 5 (.string ⟨D.toArray⟩)
    have K2f := K2''.far (p := ⟨w2.heap.size, 5, none⟩) (by show _ ≠ _; simp; omega) (.string ⟨D.toArray⟩)
    have gf := g4.setCell (p := ⟨w2.heap.size, 5, none⟩) (by show _ ≤ _; simp; omega) (.string ⟨D.toArray⟩)
    clear X7 F7 K7' K2'' g4
    refine (sFormatOp_any kk 0 0 Sv b D _ (by omega) (by omega)).mono ?_
    rintro e w5 ⟨rfl, hb5⟩
    have hz5 := hb5.size
    have K7g := K7f.below hb5 K7f.lt
    have K2g := K2f.below hb5 K2f.lt
    have g5 := gf.trans (hb5.mono (by simp; omega))
    simp at hz5
    have X7 := K7g.cell
    have F7 := K7g.free
    have X2 := K2g.cell
    have F2 := K2g.free
    clear hb5 K7f K2f gf
    by_cases he : fmtOp kk b 0 0 Sv D = t
    · have HR : Go.RowKit.Hid (RES = .returned (.tuple #[(⟨kk, 0, 0, Sv, b, D⟩ : OpR).val, .bool true])) := by
        show _ = _
        rw [HX.out]; exact if_pos he
      have hd : decide (fmtOp kk b 0 0 Sv D ≠ t) = false := by simpa using he
      clear he HX
      generalize fmtOp kk b 0 0 Sv D = FT at *
      go_wp2
      exact bodyPost_ret (v := .tuple #[(⟨kk, 0, 0, Sv, b, D⟩ : OpR).val, .bool true]) (by simp [results, Tryd.results16, go_sem, X2]) rfl ⟨HR.out.symm, (by repeat (first | (with_reducible exact Below.refl _ _) | (with_reducible assumption) | (with_reducible refine Below.drew ?_) | (with_reducible refine Below.alloc ?_ (by first | omega | (simp <;> omega)) _) | (with_reducible refine Below.setCell ?_ (by first | omega | (simp <;> omega)) _) | (with_reducible refine belowN ?_ _)))⟩
    · have HR : Go.RowKit.Hid (RES = .returned (.tuple #[opZ.val, .bool false])) := by
        show _ = _
        rw [HX.out]; exact if_neg he
      have hd : decide (fmtOp kk b 0 0 Sv D ≠ t) = true := by simpa using he
      clear he HX
      generalize fmtOp kk b 0 0 Sv D = FT at *
      go_wp2
      exact bodyPost_ret (v := .tuple #[opZ.val, .bool false]) (by simp [results, Tryd.results16, go_sem, X2, opZ]) rfl ⟨HR.out.symm, (by repeat (first | (with_reducible exact Below.refl _ _) | (with_reducible assumption) | (with_reducible refine Below.drew ?_) | (with_reducible refine Below.alloc ?_ (by first | omega | (simp <;> omega)) _) | (with_reducible refine Below.setCell ?_ (by first | omega | (simp <;> omega)) _) | (with_reducible refine belowN ?_ _)))⟩
  · obtain ⟨b, c, d, e, i, rfl⟩ : ∃ b c d e i, r = [b, c, d, e, i] := by
      match r, hn with
      | [b, c, d, e, i], _ => exact ⟨b, c, d, e, i, rfl⟩
    have hX := HS.out _ (show specCand [a, b, c, d, e, i] = some _ from by unfold specCand; simp only; rw [if_pos hk])
    obtain ⟨_, _, hA1, _, hc1⟩ := SlS.at hsp (k := 1) (by simp)
    injection hA1 with hA1
    injection hA1 with e1 e2 _
    subst e1; subst e2
    obtain ⟨_, _, hA2, _, hc2⟩ := SlS.at hsp (k := 2) (by simp)
    injection hA2 with hA2
    injection hA2 with e1 e2 _
    subst e1; subst e2
    obtain ⟨_, _, hA3, _, hc3⟩ := SlS.at hsp (k := 3) (by simp)
    injection hA3 with hA3
    injection hA3 with e1 e2 _
    subst e1; subst e2
    obtain ⟨_, _, hA4, _, hc4⟩ := SlS.at hsp (k := 4) (by simp)
    injection hA4 with hA4
    injection hA4 with e1 e2 _
    subst e1; subst e2
    obtain ⟨_, _, hA5, _, hc5⟩ := SlS.at hsp (k := 5) (by simp)
    injection hA5 with hA5
    injection hA5 with e1 e2 _
    subst e1; subst e2
    rw [Nat.zero_add] at hc1 hc2 hc3 hc4 hc5
    have hlb := HM.out b (by simp)
    have hlc := HM.out c (by simp)
    have hld := HM.out d (by simp)
    have hle := HM.out e (by simp)
    have hli := HM.out i (by simp)
    subst hk
    rw [show kindOf wReplace = (2, 6) from rfl]
    clear hn HS HO
    have HX := Go.Lib.hid hX
    clear hX
    go_wp2_with fail
    refine (l9Num_any c _ (by omega)).mono ?_
    rintro e w3 ⟨rfl, rfl⟩
    unfold numRes
    generalize (numL c).getD 0 = Fv at *
    generalize (numL c).isSome = Fv2 at *
    go_wp2_with fail
    refine (l9Num_any d _ (by omega)).mono ?_
    rintro e w3 ⟨rfl, rfl⟩
    unfold numRes
    generalize (numL d).getD 0 = Tv at *
    generalize (numL d).isSome = Tv2 at *
    go_wp2_with fail
    refine (l9Num_any e _ (by omega)).mono ?_
    rintro e w3 ⟨rfl, rfl⟩
    unfold numRes
    generalize (numL e).getD 0 = Sv at *
    generalize (numL e).isSome = Sv2 at *
    go_wp2_with fail
    refine (l3None_any i _).mono ?_
    rintro e w3 ⟨rfl, rfl⟩
    have hul : (unDash i).length ≤ 4000000 := by
      unfold unDash
      split
      · simp
      · omega
    have cH := fun w => sParseHex_any (unDash i) w hul
    simp only [hexRes_eq] at cH
    have hxl := unhexD_len (unDash i)
    generalize (unhex (unDash i)).getD [] = D at *
    generalize (unhex (unDash i)).isSome = D2 at *
    generalize unDash i = ud at *
    go_wp2_with fail
    have K7 := Bk.new w2 #[.int .i64 2, .string ⟨b.toArray⟩, .int .i64 Fv, .int .i64 Tv, .int .i64 Sv, .string ⟨#[]⟩] 24
    have K2' := hK2.alloc (.cells #[.int .i64 2, .string ⟨b.toArray⟩, .int .i64 Fv, .int .i64 Tv, .int .i64 Sv, .string ⟨#[]⟩] 24)
    have g3 : Below w.heap.size w (w2.alloc (.cells #[.int .i64 2, .string ⟨b.toArray⟩, .int .i64 Fv, .int .i64 Tv, .int .i64 Sv, .string ⟨#[]⟩] 24)) := (by repeat (first | (with_reducible exact Below.refl _ _) | (with_reducible assumption) | (with_reducible refine Below.drew ?_) | (with_reducible refine Below.alloc ?_ (by first | omega | (simp <;> omega)) _) | (with_reducible refine Below.setCell ?_ (by first | omega | (simp <;> omega)) _) | (with_reducible refine belowN ?_ _)))
    refine (cH _).mono ?_
    rintro e w4 ⟨rfl, hb4⟩
    have hz4 := hb4.size
    have hW2 := K2'.lt
    have hW7 := K7.lt
    have K7' := K7.below hb4 hW7
    have K2'' := K2'.below hb4 hW2
    have g4 := g3.trans (hb4.mono (by simp; omega))
    simp only [World.size_alloc] at hz4
    have X7 := K7'.cell
    have F7 := K7'.free
    clear hb4 cH K7 K2' g3 X2 F2 hK2
    go_wp2_with fail
    have K7f := K7'.set 5 (.string ⟨D.toArray⟩)
    have K2f := K2''.far (p := ⟨w2.heap.size, 5, none⟩) (by show _ ≠ _; simp; omega) (.string ⟨D.toArray⟩)
    have gf := g4.setCell (p := ⟨w2.heap.size, 5, none⟩) (by show _ ≤ _; simp; omega) (.string ⟨D.toArray⟩)
    clear X7 F7 K7' K2'' g4
    refine (sFormatOp_any 2 Fv Tv Sv b D _ (by omega) (by omega)).mono ?_
    rintro e w5 ⟨rfl, hb5⟩
    have hz5 := hb5.size
    have K7g := K7f.below hb5 K7f.lt
    have K2g := K2f.below hb5 K2f.lt
    have g5 := gf.trans (hb5.mono (by simp; omega))
    simp at hz5
    have X7 := K7g.cell
    have F7 := K7g.free
    have X2 := K2g.cell
    have F2 := K2g.free
    clear hb5 K7f K2f gf
    by_cases he : fmtOp 2 b Fv Tv Sv D = t
    · have HR : Go.RowKit.Hid (RES = .returned (.tuple #[(⟨2, Fv, Tv, Sv, b, D⟩ : OpR).val, .bool true])) := by
        show _ = _
        rw [HX.out]; exact if_pos he
      have hd : decide (fmtOp 2 b Fv Tv Sv D ≠ t) = false := by simpa using he
      clear he HX
      generalize fmtOp 2 b Fv Tv Sv D = FT at *
      go_wp2
      exact bodyPost_ret (v := .tuple #[(⟨2, Fv, Tv, Sv, b, D⟩ : OpR).val, .bool true]) (by simp [results, Tryd.results16, go_sem, X2]) rfl ⟨HR.out.symm, (by repeat (first | (with_reducible exact Below.refl _ _) | (with_reducible assumption) | (with_reducible refine Below.drew ?_) | (with_reducible refine Below.alloc ?_ (by first | omega | (simp <;> omega)) _) | (with_reducible refine Below.setCell ?_ (by first | omega | (simp <;> omega)) _) | (with_reducible refine belowN ?_ _)))⟩
    · have HR : Go.RowKit.Hid (RES = .returned (.tuple #[opZ.val, .bool false])) := by
        show _ = _
        rw [HX.out]; exact if_neg he
      have hd : decide (fmtOp 2 b Fv Tv Sv D ≠ t) = true := by simpa using he
      clear he HX
      generalize fmtOp 2 b Fv Tv Sv D = FT at *
      go_wp2
      exact bodyPost_ret (v := .tuple #[opZ.val, .bool false]) (by simp [results, Tryd.results16, go_sem, X2, opZ]) rfl ⟨HR.out.symm, (by repeat (first | (with_reducible exact Below.refl _ _) | (with_reducible assumption) | (with_reducible refine Below.drew ?_) | (with_reducible refine Below.alloc ?_ (by first | omega | (simp <;> omega)) _) | (with_reducible refine Below.setCell ?_ (by first | omega | (simp <;> omega)) _) | (with_reducible refine belowN ?_ _)))⟩
  · obtain ⟨b, c, rfl⟩ : ∃ b c, r = [b, c] := by
      match r, hn with
      | [b, c], _ => exact ⟨b, c, rfl⟩
    have hX := HS.out _ (show specCand [a, b, c] = some _ from by unfold specCand; simp only; rw [if_pos hk])
    obtain ⟨_, _, hA1, _, hc1⟩ := SlS.at hsp (k := 1) (by simp)
    injection hA1 with hA1
    injection hA1 with e1 e2 _
    subst e1; subst e2
    obtain ⟨_, _, hA2, _, hc2⟩ := SlS.at hsp (k := 2) (by simp)
    injection hA2 with hA2
    injection hA2 with e1 e2 _
    subst e1; subst e2
    rw [Nat.zero_add] at hc1 hc2
    have hlb := HM.out b (by simp)
    have hlc := HM.out c (by simp)
    subst hk
    rw [show kindOf wMerge = (3, 3) from rfl]
    clear hn HS HO
    have HX := Go.Lib.hid hX
    clear hX
    go_wp2_with fail
    refine (l9Num_any c _ (by omega)).mono ?_
    rintro e w3 ⟨rfl, rfl⟩
    unfold numRes
    generalize (numL c).getD 0 = Sv at *
    generalize (numL c).isSome = Sv2 at *
    go_wp2_with fail
    have K7f := Bk.new w2 #[.int .i64 3, .string ⟨b.toArray⟩, .int .i64 0, .int .i64 0, .int .i64 Sv, .string ⟨#[]⟩] 24
    have K2f := hK2.alloc (.cells #[.int .i64 3, .string ⟨b.toArray⟩, .int .i64 0, .int .i64 0, .int .i64 Sv, .string ⟨#[]⟩] 24)
    have gf : Below w.heap.size w (w2.alloc (.cells #[.int .i64 3, .string ⟨b.toArray⟩, .int .i64 0, .int .i64 0, .int .i64 Sv, .string ⟨#[]⟩] 24)) := (by repeat (first | (with_reducible exact Below.refl _ _) | (with_reducible assumption) | (with_reducible refine Below.drew ?_) | (with_reducible refine Below.alloc ?_ (by first | omega | (simp <;> omega)) _) | (with_reducible refine Below.setCell ?_ (by first | omega | (simp <;> omega)) _) | (with_reducible refine belowN ?_ _)))
    clear X2 F2 hK2
    refine (sFormatOp_any 3 0 0 Sv b [] _ (by omega) (by simp)).mono ?_
    rintro e w5 ⟨rfl, hb5⟩
    have hz5 := hb5.size
    have K7g := K7f.below hb5 K7f.lt
    have K2g := K2f.below hb5 K2f.lt
    have g5 := gf.trans (hb5.mono (by simp; omega))
    simp at hz5
    have X7 := K7g.cell
    have F7 := K7g.free
    have X2 := K2g.cell
    have F2 := K2g.free
    clear hb5 K7f K2f gf
    by_cases he : fmtOp 3 b 0 0 Sv [] = t
    · have HR : Go.RowKit.Hid (RES = .returned (.tuple #[(⟨3, 0, 0, Sv, b, []⟩ : OpR).val, .bool true])) := by
        show _ = _
        rw [HX.out]; exact if_pos he
      have hd : decide (fmtOp 3 b 0 0 Sv [] ≠ t) = false := by simpa using he
      clear he HX
      generalize fmtOp 3 b 0 0 Sv [] = FT at *
      go_wp2
      exact bodyPost_ret (v := .tuple #[(⟨3, 0, 0, Sv, b, []⟩ : OpR).val, .bool true]) (by simp [results, Tryd.results16, go_sem, X2]) rfl ⟨HR.out.symm, (by repeat (first | (with_reducible exact Below.refl _ _) | (with_reducible assumption) | (with_reducible refine Below.drew ?_) | (with_reducible refine Below.alloc ?_ (by first | omega | (simp <;> omega)) _) | (with_reducible refine Below.setCell ?_ (by first | omega | (simp <;> omega)) _) | (with_reducible refine belowN ?_ _)))⟩
    · have HR : Go.RowKit.Hid (RES = .returned (.tuple #[opZ.val, .bool false])) := by
        show _ = _
        rw [HX.out]; exact if_neg he
      have hd : decide (fmtOp 3 b 0 0 Sv [] ≠ t) = true := by simpa using he
      clear he HX
      generalize fmtOp 3 b 0 0 Sv [] = FT at *
      go_wp2
      exact bodyPost_ret (v := .tuple #[opZ.val, .bool false]) (by simp [results, Tryd.results16, go_sem, X2, opZ]) rfl ⟨HR.out.symm, (by repeat (first | (with_reducible exact Below.refl _ _) | (with_reducible assumption) | (with_reducible refine Below.drew ?_) | (with_reducible refine Below.alloc ?_ (by first | omega | (simp <;> omega)) _) | (with_reducible refine Below.setCell ?_ (by first | omega | (simp <;> omega)) _) | (with_reducible refine belowN ?_ _)))⟩
  · obtain ⟨b, rfl⟩ : ∃ b, r = [b] := by
      match r, hn with
      | [b], _ => exact ⟨b, rfl⟩
    have hX := HS.out _ (show specCand [a, b] = some _ from by unfold specCand; simp only; rw [if_pos hk])
    obtain ⟨_, _, hA1, _, hc1⟩ := SlS.at hsp (k := 1) (by simp)
    injection hA1 with hA1
    injection hA1 with e1 e2 _
    subst e1; subst e2
    rw [Nat.zero_add] at hc1
    have hlb := HM.out b (by simp)
    subst hk
    rw [show kindOf wDelete = (4, 2) from rfl]
    clear hn HS HO
    have HX := Go.Lib.hid hX
    clear hX
    go_wp2_with fail
    have K7f := Bk.new w2 #[.int .i64 4, .string ⟨b.toArray⟩, .int .i64 0, .int .i64 0, .int .i64 0, .string ⟨#[]⟩] 24
    have K2f := hK2.alloc (.cells #[.int .i64 4, .string ⟨b.toArray⟩, .int .i64 0, .int .i64 0, .int .i64 0, .string ⟨#[]⟩] 24)
    have gf : Below w.heap.size w (w2.alloc (.cells #[.int .i64 4, .string ⟨b.toArray⟩, .int .i64 0, .int .i64 0, .int .i64 0, .string ⟨#[]⟩] 24)) := (by repeat (first | (with_reducible exact Below.refl _ _) | (with_reducible assumption) | (with_reducible refine Below.drew ?_) | (with_reducible refine Below.alloc ?_ (by first | omega | (simp <;> omega)) _) | (with_reducible refine Below.setCell ?_ (by first | omega | (simp <;> omega)) _) | (with_reducible refine belowN ?_ _)))
    clear X2 F2 hK2
    refine (sFormatOp_any 4 0 0 0 b [] _ (by omega) (by simp)).mono ?_
    rintro e w5 ⟨rfl, hb5⟩
    have hz5 := hb5.size
    have K7g := K7f.below hb5 K7f.lt
    have K2g := K2f.below hb5 K2f.lt
    have g5 := gf.trans (hb5.mono (by simp; omega))
    simp at hz5
    have X7 := K7g.cell
    have F7 := K7g.free
    have X2 := K2g.cell
    have F2 := K2g.free
    clear hb5 K7f K2f gf
    by_cases he : fmtOp 4 b 0 0 0 [] = t
    · have HR : Go.RowKit.Hid (RES = .returned (.tuple #[(⟨4, 0, 0, 0, b, []⟩ : OpR).val, .bool true])) := by
        show _ = _
        rw [HX.out]; exact if_pos he
      have hd : decide (fmtOp 4 b 0 0 0 [] ≠ t) = false := by simpa using he
      clear he HX
      generalize fmtOp 4 b 0 0 0 [] = FT at *
      go_wp2
      exact bodyPost_ret (v := .tuple #[(⟨4, 0, 0, 0, b, []⟩ : OpR).val, .bool true]) (by simp [results, Tryd.results16, go_sem, X2]) rfl ⟨HR.out.symm, (by repeat (first | (with_reducible exact Below.refl _ _) | (with_reducible assumption) | (with_reducible refine Below.drew ?_) | (with_reducible refine Below.alloc ?_ (by first | omega | (simp <;> omega)) _) | (with_reducible refine Below.setCell ?_ (by first | omega | (simp <;> omega)) _) | (with_reducible refine belowN ?_ _)))⟩
    · have HR : Go.RowKit.Hid (RES = .returned (.tuple #[opZ.val, .bool false])) := by
        show _ = _
        rw [HX.out]; exact if_neg he
      have hd : decide (fmtOp 4 b 0 0 0 [] ≠ t) = true := by simpa using he
      clear he HX
      generalize fmtOp 4 b 0 0 0 [] = FT at *
      go_wp2
      exact bodyPost_ret (v := .tuple #[opZ.val, .bool false]) (by simp [results, Tryd.results16, go_sem, X2, opZ]) rfl ⟨HR.out.symm, (by repeat (first | (with_reducible exact Below.refl _ _) | (with_reducible assumption) | (with_reducible refine Below.drew ?_) | (with_reducible refine Below.alloc ?_ (by first | omega | (simp <;> omega)) _) | (with_reducible refine Below.setCell ?_ (by first | omega | (simp <;> omega)) _) | (with_reducible refine belowN ?_ _)))⟩
end Go.Proofs.YtkoefklgfkhmpaaDoor
