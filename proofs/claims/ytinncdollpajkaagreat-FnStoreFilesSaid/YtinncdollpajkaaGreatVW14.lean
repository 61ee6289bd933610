import Derived.Test.YtinncdollpajkaaGreatVW4
import Derived.Test.YtinncdollpajkaaGreatVW9
import Derived.Test.YtinncdollpajkaaGreatVGA
import Derived.Lib.AtoiErrMem
set_option linter.unusedVariables false
set_option linter.unusedSimpArgs false
set_option maxHeartbeats 8000000
namespace Go.Proofs.YtinncdollpajkaaGreat
open Go.RowKit
set_option maxRecDepth 100000
attribute [local go_sem high] zA zu zy zO zK zX zx zk zn zq zi zo yQ zC yf zD
def kindOf (a : Bs) : Int × Int := if a = Ye then (0, 4) else if a = uh then (1, 4) else if a = vZ then (2, 6) else if a = qJ then (3, 3) else if a = uZ then (4, 2) else (-1, 0)
theorem VU (a : Bs) (w : World) :
  Calls Tryz.prog 190 #[.string ⟨a.toArray⟩] w fun e w' => e = .returned (.tuple #[.int .i64 (kindOf a).1, .int .i64 (kindOf a).2]) ∧ w = w' := by
 by_cases h1 : a = Ye
 ·subst h1
  go_enter Tryz.func190, Tryz.ntmps190
  go_wp2
  exact bodyPost_ret (v := .tuple #[.int .i64 0, .int .i64 4]) (by simp [results, Tryz.results190, go_sem]) rfl ⟨rfl, rfl⟩
 by_cases h2 : a = uh
 ·subst h2
  go_enter Tryz.func190, Tryz.ntmps190
  go_wp2
  exact bodyPost_ret (v := .tuple #[.int .i64 1, .int .i64 4]) (by simp [results, Tryz.results190, go_sem]) rfl ⟨rfl, rfl⟩
 by_cases h3 : a = vZ
 ·subst h3
  go_enter Tryz.func190, Tryz.ntmps190
  go_wp2
  exact bodyPost_ret (v := .tuple #[.int .i64 2, .int .i64 6]) (by simp [results, Tryz.results190, go_sem]) rfl ⟨rfl, rfl⟩
 by_cases h4 : a = qJ
 ·subst h4
  go_enter Tryz.func190, Tryz.ntmps190
  go_wp2
  exact bodyPost_ret (v := .tuple #[.int .i64 3, .int .i64 3]) (by simp [results, Tryz.results190, go_sem]) rfl ⟨rfl, rfl⟩
 by_cases h5 : a = uZ
 ·subst h5
  go_enter Tryz.func190, Tryz.ntmps190
  go_wp2
  exact bodyPost_ret (v := .tuple #[.int .i64 4, .int .i64 2]) (by simp [results, Tryz.results190, go_sem]) rfl ⟨rfl, rfl⟩
 have HK : Hid (kindOf a = (-1, 0)) := by show _ = _; unfold kindOf; rw [if_neg h1, if_neg h2, if_neg h3, if_neg h4, if_neg h5]
 have d1 : decide (a = Ye) = false := by simpa using h1
 have d2 : decide (a = uh) = false := by simpa using h2
 have d3 : decide (a = vZ) = false := by simpa using h3
 have d4 : decide (a = qJ) = false := by simpa using h4
 have d5 : decide (a = uZ) = false := by simpa using h5
 clear h1 h2 h3 h4 h5
 go_enter Tryz.func190, Tryz.ntmps190
 go_wp2
 exact bodyPost_ret (v := .tuple #[.int .i64 (-1), .int .i64 0]) (by simp [results, Tryz.results190, go_sem]) rfl ⟨by rw [HK.out], rfl⟩
abbrev OpR.cells (x : OpR) : Array Value := #[.int .i64 x.k, .string ⟨x.nm.toArray⟩, .int .i64 x.f, .int .i64 x.t, .int .i64 x.s, .string ⟨x.d.toArray⟩]
abbrev OpR.val (x : OpR) : Value := .agg x.cells
def opZ : OpR := ⟨0, 0, 0, 0, [], []⟩
def Y6 (o : Option OpR) : Ending := .returned (.tuple #[(o.getD opZ).val, .bool o.isSome])
theorem VI (a : Bs) (n : Nat) : ((kindOf a).1 < 0 ∨ (n : Int) ≠ (kindOf a).2) ∨ ((a = Ye ∨ a = uh) ∧ n = 4) ∨ (a = vZ ∧ n = 6) ∨ (a = qJ ∧ n = 3) ∨ (a = uZ ∧ n = 2) := by
 unfold kindOf
 split
 ·rename_i h; by_cases hn : n = 4
  ·exact .inr (.inl ⟨.inl h, hn⟩)
  ·exact .inl (.inr (by simp; omega))
 split
 ·rename_i h; by_cases hn : n = 4
  ·exact .inr (.inl ⟨.inr h, hn⟩)
  ·exact .inl (.inr (by simp; omega))
 split
 ·rename_i h; by_cases hn : n = 6
  ·exact .inr (.inr (.inl ⟨h, hn⟩))
  ·exact .inl (.inr (by simp; omega))
 split
 ·rename_i h; by_cases hn : n = 3
  ·exact .inr (.inr (.inr (.inl ⟨h, hn⟩)))
  ·exact .inl (.inr (by simp; omega))
 split
 ·rename_i h; by_cases hn : n = 2
  ·exact .inr (.inr (.inr (.inr ⟨h, hn⟩)))
  ·exact .inl (.inr (by simp; omega))
 ·exact .inl (.inl (by decide))
theorem Tj (a : Bs) (r : List Bs) (h : (kindOf a).1 < 0 ∨ ((a :: r).length : Int) ≠ (kindOf a).2) : yO (a :: r) = none := by
  cases hs : yO (a :: r) with
  | none => rfl
  | some x =>
    exfalso
    unfold yO at hs
    split at hs
    · rename_i a' b c e heq
      injection heq with h1 h2
      subst h1 h2
      split at hs
      · rename_i hk
        rcases hk with rfl | rfl
        · rw [show kindOf Ye = (0, 4) from rfl] at h; simp at h
        · rw [show kindOf uh = (1, 4) from rfl] at h; simp at h
      · cases hs
    · rename_i a' b c e g i heq
      injection heq with h1 h2
      subst h1 h2
      split at hs
      · rename_i hk; subst hk; rw [show kindOf vZ = (2, 6) from rfl] at h; simp at h
      · cases hs
    · rename_i a' b c heq
      injection heq with h1 h2
      subst h1 h2
      split at hs
      · rename_i hk; subst hk; rw [show kindOf qJ = (3, 3) from rfl] at h; simp at h
      · cases hs
    · rename_i a' b heq
      injection heq with h1 h2
      subst h1 h2
      split at hs
      · rename_i hk; subst hk; rw [show kindOf uZ = (4, 2) from rfl] at h; simp at h
      · cases hs
    · cases hs
theorem V8 (t : Bs) (x : OpR) (h : yO (cut 32 t) = some x) : Y6 (xy t) = if x.fmt = t then .returned (.tuple #[x.val, .bool true]) else .returned (.tuple #[opZ.val, .bool false]) := by
 rw [← UG, h]
 simp only
 split <;> rfl
theorem Vp (t : Bs) (h : yO (cut 32 t) = none) : Y6 (xy t) = .returned (.tuple #[opZ.val, .bool false]) := by
 rw [← UG, h]; rfl
theorem YC (t : Bs) (w : World) (hs : t.length ≤ 1500000) :
  Calls Tryz.prog 161 #[.string ⟨t.toArray⟩] w fun e w' => e = Y6 (xy t) ∧ Below w.heap.size w w' := by
 have HS := Go.Lib.hid (V8 t)
 have HO := Go.Lib.hid (Vp t)
 have HM := Go.Lib.hid (iZ 32 t)
 have hne := Rz 32 t
 have cS := fun w => Sm 32 t w (by omega)
 generalize Y6 (xy t) = RES at *
 generalize hps : cut 32 t = ps at *
 clear hps
 obtain ⟨a, r, rfl⟩ : ∃ a r, ps = a :: r := by cases ps with
  | nil => exact absurd rfl hne
  | cons a r => exact ⟨a, r, rfl⟩
 have hla := HM.out a List.mem_cons_self
 go_enter Tryz.func161, Tryz.ntmps161
 go_wp2_with fail
 refine (cS _).mono ?_
 rintro e w2 ⟨⟨v, rfl, hown⟩, hb2⟩
 obtain ⟨g, cap, rfl, hg1, hg2⟩ := hown.form (by simp)
 have hsp : SlS w2 (some ⟨g, 0, none⟩) cap (a :: r) := by
  obtain ⟨A, cap', hv, h⟩ := Sl.uU hown
  injection hv with e1 e2 e3
  subst e1; subst e3
  exact h
 have hz2 := hb2.size
 simp only [World.size_alloc] at hz2 hg1
 have hK2 : Bk w2 w.heap.size 54 opZ.cells := (Bk.new w opZ.cells 54).below hb2 (by simp)
 have X2 := hK2.cell
 have F2 := hK2.free
 have g2 : Below w.heap.size w w2 := ((Below.refl _ _).alloc (Nat.le_refl _) _).trans (hb2.mono (by simp))
 clear hb2 cS hown
 obtain ⟨_, _, hA0, _, hc0⟩ := SlS.at hsp (k := 0) (by simp)
 injection hA0 with hA0
 injection hA0 with e1 e2 _
 subst e1; subst e2
 rw [Nat.zero_add] at hc0
 go_wp2_with fail
 refine (VU a _).mono ?_
 rintro e w3 ⟨rfl, rfl⟩
 rcases VI a (a :: r).length with hk | ⟨hk, hn⟩ | ⟨hk, hn⟩ | ⟨hk, hn⟩ | ⟨hk, hn⟩
 ·have HR := Go.Lib.hid (HO.out (Tj a r hk))
  generalize kindOf a = K at *
  obtain ⟨K1, K2⟩ := K
  simp only at hk ⊢
  by_cases h1 : K1 < 0
  ·go_wp2
   exact bodyPost_ret (v := .tuple #[opZ.val, .bool false]) (by simp [results, Tryz.results161, go_sem, X2, opZ]) rfl ⟨HR.out.symm, zH⟩
  ·have h2 : ((r.length : Int) + 1 != K2) = true := by
    rcases hk with h | h
    ·exact absurd h h1
    ·simpa using h
   go_wp2
   exact bodyPost_ret (v := .tuple #[opZ.val, .bool false]) (by simp [results, Tryz.results161, go_sem, X2, opZ]) rfl ⟨HR.out.symm, zH⟩
 ·obtain ⟨b, c, d, rfl⟩ : ∃ b c d, r = [b, c, d] := by
   match r, hn with
   | [b, c, d], _ => exact ⟨b, c, d, rfl⟩
  have hX := HS.out _ (show yO [a, b, c, d] = some _ from by unfold yO; simp only; rw [if_pos hk])
  obtain ⟨_, _, hA1, _, hc1⟩ := SlS.at hsp (k := 1) (by simp)
  injection hA1 with hA1
  injection hA1 with e1 e2 _
  subst e1; subst e2
  obtain ⟨_, _, hA2, _, hc2⟩ := SlS.at hsp (k := 2) (by simp)
  injection hA2 with hA2
  injection hA2 with e1 e2 _
  subst e1; subst e2
  obtain ⟨_, _, hA3, _, hc3⟩ := SlS.at hsp (k := 3) (by simp)
  injection hA3 with hA3
  injection hA3 with e1 e2 _
  subst e1; subst e2
  rw [Nat.zero_add] at hc1 hc2 hc3
  have hlb := HM.out b (by simp)
  have hlc := HM.out c (by simp)
  have hld := HM.out d (by simp)
  obtain ⟨kk, hkk, hkk0, hkk1, hkk2⟩ : ∃ kk : Int, kindOf a = (kk, 4) ∧ (if a = uh then (1 : Int) else 0) = kk ∧ ¬ kk < 0 ∧ (kk == 2) = false := by
   rcases hk with rfl | rfl
   ·exact ⟨0, rfl, rfl, by decide, by decide⟩
   ·exact ⟨1, rfl, rfl, by decide, by decide⟩
  rw [hkk0] at hX
  rw [hkk]
  clear hk hn hkk hkk0 HS HO
  have HX := Go.Lib.hid hX
  clear hX
  go_wp2_with fail
  refine (qQ c _ (by omega)).mono ?_
  rintro e w3 ⟨rfl, rfl⟩
  unfold wJ
  generalize (qW c).getD 0 = Sv at *
  generalize (qW c).isSome = Sv2 at *
  go_wp2_with fail
  refine (dF d _).mono ?_
  rintro e w3 ⟨rfl, rfl⟩
  have hul : (wH d).length ≤ 4000000 := by
   unfold wH
   split
   ·simp
   ·omega
  have cH := fun w => lu (wH d) w hul
  simp only [ZV] at cH
  have hxl := dM (wH d)
  generalize (unhex (wH d)).getD [] = D at *
  generalize (unhex (wH d)).isSome = D2 at *
  generalize wH d = ud at *
  go_wp2_with fail
  have K7 := Bk.new w2 #[.int .i64 kk, .string ⟨b.toArray⟩, .int .i64 0, .int .i64 0, .int .i64 Sv, .string ⟨#[]⟩] 54
  have K2' := hK2.alloc (.cells #[.int .i64 kk, .string ⟨b.toArray⟩, .int .i64 0, .int .i64 0, .int .i64 Sv, .string ⟨#[]⟩] 54)
  have g3 : Below w.heap.size w (w2.alloc (.cells #[.int .i64 kk, .string ⟨b.toArray⟩, .int .i64 0, .int .i64 0, .int .i64 Sv, .string ⟨#[]⟩] 54)) := zH
  refine (cH _).mono ?_
  rintro e w4 ⟨rfl, hb4⟩
  have hz4 := hb4.size
  have hW2 := K2'.lt
  have hW7 := K7.lt
  have K7' := K7.below hb4 hW7
  have K2'' := K2'.below hb4 hW2
  have g4 := g3.trans (hb4.mono (by simp; omega))
  simp only [World.size_alloc] at hz4
  have X7 := K7'.cell
  have F7 := K7'.free
  clear hb4 cH K7 K2' g3 X2 F2 hK2
  go_wp2_with fail
  have K7f := K7'.set 5 (.string ⟨D.toArray⟩)
  have K2f := K2''.far (p := ⟨w2.heap.size, 5, none⟩) (by show _ ≠ _; simp; omega) (.string ⟨D.toArray⟩)
  have gf := g4.setCell (p := ⟨w2.heap.size, 5, none⟩) (by show _ ≤ _; simp; omega) (.string ⟨D.toArray⟩)
  clear X7 F7 K7' K2'' g4
  refine (uf kk 0 0 Sv b D _ (by omega) (by omega)).mono ?_
  rintro e w5 ⟨rfl, hb5⟩
  have hz5 := hb5.size
  have K7g := K7f.below hb5 K7f.lt
  have K2g := K2f.below hb5 K2f.lt
  have g5 := gf.trans (hb5.mono (by simp; omega))
  simp at hz5
  have X7 := K7g.cell
  have F7 := K7g.free
  have X2 := K2g.cell
  have F2 := K2g.free
  clear hb5 K7f K2f gf
  by_cases he : xA kk b 0 0 Sv D = t
  ·have HR : Hid (RES = .returned (.tuple #[(⟨kk, 0, 0, Sv, b, D⟩ : OpR).val, .bool true])) := by
    show _ = _
    rw [HX.out]; exact if_pos he
   have hd : decide (xA kk b 0 0 Sv D ≠ t) = false := by simpa using he
   clear he HX
   generalize xA kk b 0 0 Sv D = FT at *
   go_wp2
   exact bodyPost_ret (v := .tuple #[(⟨kk, 0, 0, Sv, b, D⟩ : OpR).val, .bool true]) (by simp [results, Tryz.results161, go_sem, X2]) rfl ⟨HR.out.symm, zH⟩
  ·have HR : Hid (RES = .returned (.tuple #[opZ.val, .bool false])) := by
    show _ = _
    rw [HX.out]; exact if_neg he
   have hd : decide (xA kk b 0 0 Sv D ≠ t) = true := by simpa using he
   clear he HX
   generalize xA kk b 0 0 Sv D = FT at *
   go_wp2
   exact bodyPost_ret (v := .tuple #[opZ.val, .bool false]) (by simp [results, Tryz.results161, go_sem, X2, opZ]) rfl ⟨HR.out.symm, zH⟩
 ·obtain ⟨b, c, d, e, i, rfl⟩ : ∃ b c d e i, r = [b, c, d, e, i] := by
   match r, hn with
   | [b, c, d, e, i], _ => exact ⟨b, c, d, e, i, rfl⟩
  have hX := HS.out _ (show yO [a, b, c, d, e, i] = some _ from by unfold yO; simp only; rw [if_pos hk])
  obtain ⟨_, _, hA1, _, hc1⟩ := SlS.at hsp (k := 1) (by simp)
  injection hA1 with hA1
  injection hA1 with e1 e2 _
  subst e1; subst e2
  obtain ⟨_, _, hA2, _, hc2⟩ := SlS.at hsp (k := 2) (by simp)
  injection hA2 with hA2
  injection hA2 with e1 e2 _
  subst e1; subst e2
  obtain ⟨_, _, hA3, _, hc3⟩ := SlS.at hsp (k := 3) (by simp)
  injection hA3 with hA3
  injection hA3 with e1 e2 _
  subst e1; subst e2
  obtain ⟨_, _, hA4, _, hc4⟩ := SlS.at hsp (k := 4) (by simp)
  injection hA4 with hA4
  injection hA4 with e1 e2 _
  subst e1; subst e2
  obtain ⟨_, _, hA5, _, hc5⟩ := SlS.at hsp (k := 5) (by simp)
  injection hA5 with hA5
  injection hA5 with e1 e2 _
  subst e1; subst e2
  rw [Nat.zero_add] at hc1 hc2 hc3 hc4 hc5
  have hlb := HM.out b (by simp)
  have hlc := HM.out c (by simp)
  have hld := HM.out d (by simp)
  have hle := HM.out e (by simp)
  have hli := HM.out i (by simp)
  subst hk
  rw [show kindOf vZ = (2, 6) from rfl]
  clear hn HS HO
  have HX := Go.Lib.hid hX
  clear hX
  go_wp2_with fail
  refine (qQ c _ (by omega)).mono ?_
  rintro e w3 ⟨rfl, rfl⟩
  unfold wJ
  generalize (qW c).getD 0 = Fv at *
  generalize (qW c).isSome = Fv2 at *
  go_wp2_with fail
  refine (qQ d _ (by omega)).mono ?_
  rintro e w3 ⟨rfl, rfl⟩
  unfold wJ
  generalize (qW d).getD 0 = Tv at *
  generalize (qW d).isSome = Tv2 at *
  go_wp2_with fail
  refine (qQ e _ (by omega)).mono ?_
  rintro e w3 ⟨rfl, rfl⟩
  unfold wJ
  generalize (qW e).getD 0 = Sv at *
  generalize (qW e).isSome = Sv2 at *
  go_wp2_with fail
  refine (dF i _).mono ?_
  rintro e w3 ⟨rfl, rfl⟩
  have hul : (wH i).length ≤ 4000000 := by
   unfold wH
   split
   ·simp
   ·omega
  have cH := fun w => lu (wH i) w hul
  simp only [ZV] at cH
  have hxl := dM (wH i)
  generalize (unhex (wH i)).getD [] = D at *
  generalize (unhex (wH i)).isSome = D2 at *
  generalize wH i = ud at *
  go_wp2_with fail
  have K7 := Bk.new w2 #[.int .i64 2, .string ⟨b.toArray⟩, .int .i64 Fv, .int .i64 Tv, .int .i64 Sv, .string ⟨#[]⟩] 54
  have K2' := hK2.alloc (.cells #[.int .i64 2, .string ⟨b.toArray⟩, .int .i64 Fv, .int .i64 Tv, .int .i64 Sv, .string ⟨#[]⟩] 54)
  have g3 : Below w.heap.size w (w2.alloc (.cells #[.int .i64 2, .string ⟨b.toArray⟩, .int .i64 Fv, .int .i64 Tv, .int .i64 Sv, .string ⟨#[]⟩] 54)) := zH
  refine (cH _).mono ?_
  rintro e w4 ⟨rfl, hb4⟩
  have hz4 := hb4.size
  have hW2 := K2'.lt
  have hW7 := K7.lt
  have K7' := K7.below hb4 hW7
  have K2'' := K2'.below hb4 hW2
  have g4 := g3.trans (hb4.mono (by simp; omega))
  simp only [World.size_alloc] at hz4
  have X7 := K7'.cell
  have F7 := K7'.free
  clear hb4 cH K7 K2' g3 X2 F2 hK2
  go_wp2_with fail
  have K7f := K7'.set 5 (.string ⟨D.toArray⟩)
  have K2f := K2''.far (p := ⟨w2.heap.size, 5, none⟩) (by show _ ≠ _; simp; omega) (.string ⟨D.toArray⟩)
  have gf := g4.setCell (p := ⟨w2.heap.size, 5, none⟩) (by show _ ≤ _; simp; omega) (.string ⟨D.toArray⟩)
  clear X7 F7 K7' K2'' g4
  refine (uf 2 Fv Tv Sv b D _ (by omega) (by omega)).mono ?_
  rintro e w5 ⟨rfl, hb5⟩
  have hz5 := hb5.size
  have K7g := K7f.below hb5 K7f.lt
  have K2g := K2f.below hb5 K2f.lt
  have g5 := gf.trans (hb5.mono (by simp; omega))
  simp at hz5
  have X7 := K7g.cell
  have F7 := K7g.free
  have X2 := K2g.cell
  have F2 := K2g.free
  clear hb5 K7f K2f gf
  by_cases he : xA 2 b Fv Tv Sv D = t
  ·have HR : Hid (RES = .returned (.tuple #[(⟨2, Fv, Tv, Sv, b, D⟩ : OpR).val, .bool true])) := by
    show _ = _
    rw [HX.out]; exact if_pos he
   have hd : decide (xA 2 b Fv Tv Sv D ≠ t) = false := by simpa using he
   clear he HX
   generalize xA 2 b Fv Tv Sv D = FT at *
   go_wp2
   exact bodyPost_ret (v := .tuple #[(⟨2, Fv, Tv, Sv, b, D⟩ : OpR).val, .bool true]) (by simp [results, Tryz.results161, go_sem, X2]) rfl ⟨HR.out.symm, zH⟩
  ·have HR : Hid (RES = .returned (.tuple #[opZ.val, .bool false])) := by
    show _ = _
    rw [HX.out]; exact if_neg he
   have hd : decide (xA 2 b Fv Tv Sv D ≠ t) = true := by simpa using he
   clear he HX
   generalize xA 2 b Fv Tv Sv D = FT at *
   go_wp2
   exact bodyPost_ret (v := .tuple #[opZ.val, .bool false]) (by simp [results, Tryz.results161, go_sem, X2, opZ]) rfl ⟨HR.out.symm, zH⟩
 ·obtain ⟨b, c, rfl⟩ : ∃ b c, r = [b, c] := by
   match r, hn with
   | [b, c], _ => exact ⟨b, c, rfl⟩
  have hX := HS.out _ (show yO [a, b, c] = some _ from by unfold yO; simp only; rw [if_pos hk])
  obtain ⟨_, _, hA1, _, hc1⟩ := SlS.at hsp (k := 1) (by simp)
  injection hA1 with hA1
  injection hA1 with e1 e2 _
  subst e1; subst e2
  obtain ⟨_, _, hA2, _, hc2⟩ := SlS.at hsp (k := 2) (by simp)
  injection hA2 with hA2
  injection hA2 with e1 e2 _
  subst e1; subst e2
  rw [Nat.zero_add] at hc1 hc2
  have hlb := HM.out b (by simp)
  have hlc := HM.out c (by simp)
  subst hk
  rw [show kindOf qJ = (3, 3) from rfl]
  clear hn HS HO
  have HX := Go.Lib.hid hX
  clear hX
  go_wp2_with fail
  refine (qQ c _ (by omega)).mono ?_
  rintro e w3 ⟨rfl, rfl⟩
  unfold wJ
  generalize (qW c).getD 0 = Sv at *
  generalize (qW c).isSome = Sv2 at *
  go_wp2_with fail
  have K7f := Bk.new w2 #[.int .i64 3, .string ⟨b.toArray⟩, .int .i64 0, .int .i64 0, .int .i64 Sv, .string ⟨#[]⟩] 54
  have K2f := hK2.alloc (.cells #[.int .i64 3, .string ⟨b.toArray⟩, .int .i64 0, .int .i64 0, .int .i64 Sv, .string ⟨#[]⟩] 54)
  have gf : Below w.heap.size w (w2.alloc (.cells #[.int .i64 3, .string ⟨b.toArray⟩, .int .i64 0, .int .i64 0, .int .i64 Sv, .string ⟨#[]⟩] 54)) := zH
  clear X2 F2 hK2
  refine (uf 3 0 0 Sv b [] _ (by omega) (by simp)).mono ?_
  rintro e w5 ⟨rfl, hb5⟩
  have hz5 := hb5.size
  have K7g := K7f.below hb5 K7f.lt
  have K2g := K2f.below hb5 K2f.lt
  have g5 := gf.trans (hb5.mono (by simp; omega))
  simp at hz5
  have X7 := K7g.cell
  have F7 := K7g.free
  have X2 := K2g.cell
  have F2 := K2g.free
  clear hb5 K7f K2f gf
  by_cases he : xA 3 b 0 0 Sv [] = t
  ·have HR : Hid (RES = .returned (.tuple #[(⟨3, 0, 0, Sv, b, []⟩ : OpR).val, .bool true])) := by
    show _ = _
    rw [HX.out]; exact if_pos he
   have hd : decide (xA 3 b 0 0 Sv [] ≠ t) = false := by simpa using he
   clear he HX
   generalize xA 3 b 0 0 Sv [] = FT at *
   go_wp2
   exact bodyPost_ret (v := .tuple #[(⟨3, 0, 0, Sv, b, []⟩ : OpR).val, .bool true]) (by simp [results, Tryz.results161, go_sem, X2]) rfl ⟨HR.out.symm, zH⟩
  ·have HR : Hid (RES = .returned (.tuple #[opZ.val, .bool false])) := by
    show _ = _
    rw [HX.out]; exact if_neg he
   have hd : decide (xA 3 b 0 0 Sv [] ≠ t) = true := by simpa using he
   clear he HX
   generalize xA 3 b 0 0 Sv [] = FT at *
   go_wp2
   exact bodyPost_ret (v := .tuple #[opZ.val, .bool false]) (by simp [results, Tryz.results161, go_sem, X2, opZ]) rfl ⟨HR.out.symm, zH⟩
 ·obtain ⟨b, rfl⟩ : ∃ b, r = [b] := by
   match r, hn with
   | [b], _ => exact ⟨b, rfl⟩
  have hX := HS.out _ (show yO [a, b] = some _ from by unfold yO; simp only; rw [if_pos hk])
  obtain ⟨_, _, hA1, _, hc1⟩ := SlS.at hsp (k := 1) (by simp)
  injection hA1 with hA1
  injection hA1 with e1 e2 _
  subst e1; subst e2
  rw [Nat.zero_add] at hc1
  have hlb := HM.out b (by simp)
  subst hk
  rw [show kindOf uZ = (4, 2) from rfl]
  clear hn HS HO
  have HX := Go.Lib.hid hX
  clear hX
  go_wp2_with fail
  have K7f := Bk.new w2 #[.int .i64 4, .string ⟨b.toArray⟩, .int .i64 0, .int .i64 0, .int .i64 0, .string ⟨#[]⟩] 54
  have K2f := hK2.alloc (.cells #[.int .i64 4, .string ⟨b.toArray⟩, .int .i64 0, .int .i64 0, .int .i64 0, .string ⟨#[]⟩] 54)
  have gf : Below w.heap.size w (w2.alloc (.cells #[.int .i64 4, .string ⟨b.toArray⟩, .int .i64 0, .int .i64 0, .int .i64 0, .string ⟨#[]⟩] 54)) := zH
  clear X2 F2 hK2
  refine (uf 4 0 0 0 b [] _ (by omega) (by simp)).mono ?_
  rintro e w5 ⟨rfl, hb5⟩
  have hz5 := hb5.size
  have K7g := K7f.below hb5 K7f.lt
  have K2g := K2f.below hb5 K2f.lt
  have g5 := gf.trans (hb5.mono (by simp; omega))
  simp at hz5
  have X7 := K7g.cell
  have F7 := K7g.free
  have X2 := K2g.cell
  have F2 := K2g.free
  clear hb5 K7f K2f gf
  by_cases he : xA 4 b 0 0 0 [] = t
  ·have HR : Hid (RES = .returned (.tuple #[(⟨4, 0, 0, 0, b, []⟩ : OpR).val, .bool true])) := by
    show _ = _
    rw [HX.out]; exact if_pos he
   have hd : decide (xA 4 b 0 0 0 [] ≠ t) = false := by simpa using he
   clear he HX
   generalize xA 4 b 0 0 0 [] = FT at *
   go_wp2
   exact bodyPost_ret (v := .tuple #[(⟨4, 0, 0, 0, b, []⟩ : OpR).val, .bool true]) (by simp [results, Tryz.results161, go_sem, X2]) rfl ⟨HR.out.symm, zH⟩
  ·have HR : Hid (RES = .returned (.tuple #[opZ.val, .bool false])) := by
    show _ = _
    rw [HX.out]; exact if_neg he
   have hd : decide (xA 4 b 0 0 0 [] ≠ t) = true := by simpa using he
   clear he HX
   generalize xA 4 b 0 0 0 [] = FT at *
   go_wp2
   exact bodyPost_ret (v := .tuple #[opZ.val, .bool false]) (by simp [results, Tryz.results161, go_sem, X2, opZ]) rfl ⟨HR.out.symm, zH⟩
def gy (o : Option (OpR × Int)) : Ending := .returned (.tuple #[((o.map (·.1)).getD opZ).val, .int .i64 ((o.map (·.2)).getD 0), .bool o.isSome])
theorem VB (x : OpR) (e : Int) : gy (some (x, e)) = .returned (.tuple #[x.val, .int .i64 e, .bool true]) := rfl
theorem VT (l : Bs) (w : World) (h : 2 ≤ l.length) :
  Calls Tryz.prog 130 #[.string ⟨l.toArray⟩] w fun e w' => e = .returned (.int .i64 (numAt l 0)) ∧ Below w.heap.size w w' := by
 have h0 := zM l 0
 have h1 := yg l 0
 have h2 := zM l 1
 have h3 := yg l 1
 have hl : (2 : Int) ≤ l.length := by omega
 go_enter Tryz.func130, Tryz.ntmps130
 go_wp2
 go_quiet (fail)
 go_wp2
 go_ret
 exact ⟨yG (by unfold numAt; simp; omega), zH⟩
theorem fM (l : Bs) (a : Int) (w : World) (hs : l.length ≤ 1500000) (ha0 : -9223372036854775808 ≤ a) (ha1 : a ≤ 9223372036854775807) :
  Calls Tryz.prog 127 #[.string ⟨l.toArray⟩, .int .i64 a] w fun e w' => e = gy (yL l a) ∧ Below w.heap.size w w' := by
 by_cases hg : 0 ≤ a ∧ a + 4 ≤ l.length
 ·obtain ⟨n, rfl⟩ := Int.eq_ofNat_of_zero_le hg.1
  have hn4 : n + 4 ≤ l.length := by omega
  have hi1 : ¬ (n : Int) < 0 := by omega
  have hi2 : (n : Int) ≤ l.length := by omega
  have hi3 : ¬ (l.length : Int) - n < 4 := by omega
  have hnb := xB l n
  have hx1 : (⟨l.toArray⟩ : ByteArray).extract n (n + 2) = ⟨((l.drop n).take 2).toArray⟩ := by
   rw [ByteArray.extract_mk]; simp
  have cP := fun w => VT ((l.drop n).take 2) w (by simp; omega)
  rw [XT l n (by omega)] at cP
  have hR : yL l n = if 0 ≤ (n : Int) ∧ (n : Int) + 4 ≤ l.length ∧ (n : Int) + 4 + numAt l n ≤ l.length then
   match xy (oP l n) with
   | some x => if sumOf (oP l n) = numAt l ((n : Int) + 2 + numAt l n) then some (x, (n : Int) + 4 + numAt l n) else none
   | none => none else none := rfl
  have htest := Xy l n
  have hlen := aW l n
  have hrec : oP l n = (l.drop (n + 2)).take (numAt l n).toNat := rfl
  obtain ⟨m, hm⟩ := Int.eq_ofNat_of_zero_le hnb.1
  rw [hm] at hR htest hlen hrec cP hnb
  simp only [Int.toNat_natCast] at htest hlen hrec
  have hm2 : m ≤ 65535 := by omega
  clear hg hm hnb
  have hx2 : (⟨l.toArray⟩ : ByteArray).extract (n + 2) (n + 2 + m) = ⟨(oP l n).toArray⟩ := by
   rw [ByteArray.extract_mk, hrec]; simp
  have hx3 : (⟨l.toArray⟩ : ByteArray).extract n (n + 4 + m) = ⟨((l.drop n).take (4 + m)).toArray⟩ := by
   rw [ByteArray.extract_mk]; simp; congr 1; omega
  clear hrec
  by_cases hfit : n + 4 + m ≤ l.length
  ·have hfi : ¬ (l.length : Int) - n - 4 < m := by omega
   replace htest := htest hfit
   replace hlen := hlen hfit
   rw [if_pos ⟨by omega, by omega, by omega⟩] at hR
   generalize oP l n = T at *
   have HRT := Go.Lib.hid hR
   have HTT := Go.Lib.hid htest
   clear hR htest
   have cO := fun w => YC T w (by omega)
   unfold Y6 at cO
   have cR := fun w => jU T w (by omega)
   go_enter Tryz.func127, Tryz.ntmps127
   go_wp2_with fail
   have K0 := Bk.new w opZ.cells 54
   refine (cP _).mono ?_
   rintro e w1 ⟨rfl, hb1⟩
   have K1 := K0.below hb1 K0.lt
   have hz1 := hb1.size
   simp only [World.size_alloc] at hz1
   have g1 : Below w.heap.size w w1 := ((Below.refl _ _).alloc (Nat.le_refl _) _).trans (hb1.mono (by simp))
   clear hb1 K0
   go_wp2_with fail
   refine (cO _).mono ?_
   rintro e w2 ⟨rfl, hb2⟩
   have K2 := K1.below hb2 K1.lt
   have hz2 := hb2.size
   have g2 := g1.trans (hb2.mono (by omega))
   clear hb2 K1 g1 cO cP
   have hkk : (xy T).isSome = true ∨ xy T = none := by cases xy T <;> simp
   rcases hkk with hk | hk
   ·obtain ⟨x, hx⟩ := Option.isSome_iff_exists.1 hk
    have HR2 : Hid (yL l n = if sumOf T = numAt l ((n : Int) + 2 + m) then some (x, (n : Int) + 4 + m) else none) := by
     show _ = _
     rw [HRT.out, hx]
    have e1 : (xy T).getD opZ = x := by rw [hx]; rfl
    rw [e1, hk]
    clear hk hx e1 HRT
    obtain ⟨k, f, tt, s, nm, d⟩ := x
    have X2 := (K2.alloc (.cells (⟨k, f, tt, s, nm, d⟩ : OpR).cells 54)).cell
    have F2 := (K2.alloc (.cells (⟨k, f, tt, s, nm, d⟩ : OpR).cells 54)).free
    simp only [OpR.cells] at X2 F2
    have g3 : Below w.heap.size w (w2.alloc (.cells (⟨k, f, tt, s, nm, d⟩ : OpR).cells 54)) := zH
    have K7 := Bk.new w2 (⟨k, f, tt, s, nm, d⟩ : OpR).cells 54
    have K2' := K2.alloc (.cells (⟨k, f, tt, s, nm, d⟩ : OpR).cells 54)
    by_cases hsum : sumOf T = numAt l ((n : Int) + 2 + m)
    ·have HR3 : Hid (gy (yL l n) = .returned (.tuple #[(⟨k, f, tt, s, nm, d⟩ : OpR).val, .int .i64 ((n : Int) + 4 + m), .bool true])) := by
      show _ = _
      rw [HR2.out, if_pos hsum]; rfl
     have hd : decide (vS T ≠ (l.drop n).take (4 + m)) = false := by
      have := HTT.out.2 hsum
      simpa using this
     clear hsum HTT HR2
     go_wp2_with fail
     refine wp_region_quiet_below (by kernel_rfl) (by kernel_rfl) ?_
     repeat (go_big_quiet_step ((go_at_call 162; exact Calls.regrown_of (cR _))))
     refine wpQuiet_nil ?_
     intro w3 hw2
     have hb3 : Below _ _ w3 := zh hw2
     clear hw2
     have K8 := K7.below hb3 K7.lt
     have K3 := K2'.below hb3 K2'.lt
     have hz3 := hb3.size
     simp only [World.size_alloc] at hz3
     have g4 := g3.trans (hb3.mono (by simp; omega))
     have X3 := K3.cell
     have F3 := K3.free
     have X8 := K8.cell
     clear hb3 X2 F2 K7 K2'
     go_wp2
     exact bodyPost_ret (v := .tuple #[(⟨k, f, tt, s, nm, d⟩ : OpR).val, .int .i64 ((n : Int) + 4 + m), .bool true]) (by simp [results, Tryz.results127, go_sem, X3]) rfl ⟨HR3.out.symm, zH⟩
    ·have HR3 : Hid (gy (yL l n) = .returned (.tuple #[opZ.val, .int .i64 0, .bool false])) := by
      show _ = _
      rw [HR2.out, if_neg hsum]; rfl
     have hd : decide (vS T ≠ (l.drop n).take (4 + m)) = true := by
      have := fun h => hsum (HTT.out.1 h)
      simpa using this
     clear hsum HTT HR2
     go_wp2_with fail
     refine wp_region_quiet_below (by kernel_rfl) (by kernel_rfl) ?_
     repeat (go_big_quiet_step ((go_at_call 162; exact Calls.regrown_of (cR _))))
     refine wpQuiet_nil ?_
     intro w3 hw2
     have hb3 : Below _ _ w3 := zh hw2
     clear hw2
     have K3 := K2'.below hb3 K2'.lt
     have hz3 := hb3.size
     simp only [World.size_alloc] at hz3
     have g4 := g3.trans (hb3.mono (by simp; omega))
     have X3 := K3.cell
     have F3 := K3.free
     clear hb3 X2 F2 K7 K2'
     go_wp2
     exact bodyPost_ret (v := .tuple #[opZ.val, .int .i64 0, .bool false]) (by simp [results, Tryz.results127, go_sem, opZ, X3]) rfl ⟨HR3.out.symm, zH⟩
   ·have HR2 : Hid (gy (yL l n) = .returned (.tuple #[opZ.val, .int .i64 0, .bool false])) := by
     show _ = _
     rw [HRT.out, hk]; rfl
    rw [hk]
    clear hk HRT
    have X2 := (K2.alloc (.cells opZ.cells 54)).cell
    have F2 := (K2.alloc (.cells opZ.cells 54)).free
    simp only [OpR.cells] at X2 F2
    go_wp2_with fail
    go_quiet (fail)
    go_wp2
    simp only [opZ] at X2
    exact bodyPost_ret (v := .tuple #[opZ.val, .int .i64 0, .bool false]) (by simp [results, Tryz.results127, go_sem, opZ, X2]) rfl ⟨HR2.out.symm, zH⟩
  ·have hfi : (l.length : Int) - n - 4 < m := by omega
   have HR : Hid (gy (yL l n) = .returned (.tuple #[opZ.val, .int .i64 0, .bool false])) := by
    show _ = _
    rw [hR, if_neg (fun h => hfit (by have := h.2.2; omega))]; rfl
   clear hR htest hlen
   go_enter Tryz.func127, Tryz.ntmps127
   go_wp2_with fail
   have K0 := Bk.new w opZ.cells 54
   refine (cP _).mono ?_
   rintro e w1 ⟨rfl, hb1⟩
   have K1 := K0.below hb1 K0.lt
   have hz1 := hb1.size
   simp only [World.size_alloc] at hz1
   have g1 : Below w.heap.size w w1 := ((Below.refl _ _).alloc (Nat.le_refl _) _).trans (hb1.mono (by simp))
   have X1 := K1.cell
   have F1 := K1.free
   go_wp2
   exact bodyPost_ret (v := .tuple #[opZ.val, .int .i64 0, .bool false]) (by simp [results, Tryz.results127, go_sem, opZ, X1]) rfl ⟨HR.out.symm, zH⟩
 ·have HR : Hid (gy (yL l a) = .returned (.tuple #[opZ.val, .int .i64 0, .bool false])) := by
   show _ = _
   unfold yL
   rw [if_neg (fun h => hg ⟨h.1, h.2.1⟩)]; rfl
  by_cases h1 : a < 0
  ·go_enter Tryz.func127, Tryz.ntmps127
   go_wp2
   exact bodyPost_ret (v := .tuple #[opZ.val, .int .i64 0, .bool false]) (by simp [results, Tryz.results127, go_sem, opZ]) rfl ⟨HR.out.symm, zH⟩
  ·have h2 : ¬ a + 4 ≤ l.length := fun h => hg ⟨by omega, h⟩
   by_cases h3 : (l.length : Int) < a
   ·go_enter Tryz.func127, Tryz.ntmps127
    go_wp2
    exact bodyPost_ret (v := .tuple #[opZ.val, .int .i64 0, .bool false]) (by simp [results, Tryz.results127, go_sem, opZ]) rfl ⟨HR.out.symm, zH⟩
   ·have h4 : (l.length : Int) - a < 4 := by omega
    go_enter Tryz.func127, Tryz.ntmps127
    go_wp2
    exact bodyPost_ret (v := .tuple #[opZ.val, .int .i64 0, .bool false]) (by simp [results, Tryz.results127, go_sem, opZ]) rfl ⟨HR.out.symm, zH⟩
end Go.Proofs.YtinncdollpajkaaGreat
