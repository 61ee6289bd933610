/-
The program's ReadFile returns what the reference's returns, for all arguments, and its arguments read as they did.
-/
import Derived.Test.YtoogaalbnnlloaaGreatGL
import Derived.Test.YtoogaalbnnlloaaGreatR12
namespace Go.Proofs.YtoogaalbnnlloaaGreat.cExactReadFile
open Go.ChangeShapes Go.WideShapes Go.ChangeAt Go.RowKit

set_option maxRecDepth 100000 in
theorem contract (H : Type) (enc : TypeId × Value → H) (W : World) (base : Nat) (args : Array Value) (ds gs : List (DataW H)) (before : List MemPlace)
    (hval : ∀ (j : Nat) t v, Tryz.f9.params[j]? = some t → args[j]? = some v → Value.okWide Tryz.prog W .any base t v)
    (hW : DataW.Whole enc Tryz.prog Tryz.f9.params.toList Rows.fnExactReadFileSpec.vars false W args.toList ds gs before) :
    Calls Tryz.prog 9 args W fun e W' => ∃ v, e = .returned v ∧ Rows.fnExactReadFileSpec.post enc Tryz.prog Tryz.f9 false true false false W args v W' := by
  have hW' := hW
  obtain ⟨p, q, hA0, hV, rfl, hfz, hnd⟩ := hW
  have hA : DataW.TrodAll enc Tryz.prog W 0 (fun _ => true) true Tryz.f9.params.toList args.toList ds p := hA0
  rw [Tryz.params9] at hA hval
  obtain ⟨v0, vs0, d0, ds0, p0, q0, hargs, rfl, rfl, h0, r0⟩ := trodAll_cons hA
  obtain ⟨v1, vs1, d1, ds1, p1, q1, rfl, rfl, rfl, h1, r1⟩ := trodAll_cons r0
  obtain ⟨v2, vs2, d2, ds2, p2, q2, rfl, rfl, rfl, h2, r2⟩ := trodAll_cons r1
  obtain ⟨v3, vs3, d3, ds3, p3, q3, rfl, rfl, rfl, h3, r3⟩ := trodAll_cons r2
  obtain ⟨rfl, rfl, rfl⟩ := trodAll_nil r3
  obtain rfl : args = #[v0, v1, v2, v3] := by cases args; simp_all
  obtain ⟨rfl, rfl⟩ := trodVars_none hV
  have hv0 : Value.okWide Tryz.prog W .any base 45 v0 := by
    apply hval 0
    · rfl
    · rfl
  obtain ⟨S0, A0, ca0, e0, s0, b0, c0⟩ := open_Store hv0 h0
  subst e0
  have hv1 : Value.okWide Tryz.prog W .any base 9 v1 := by
    apply hval 1
    · rfl
    · rfl
  obtain ⟨l1, e1, b1⟩ := open_S hv1 h1
  subst e1
  have hv2 : Value.okWide Tryz.prog W .any base 3 v2 := by
    apply hval 2
    · rfl
    · rfl
  obtain ⟨n2, e2, b2, c2⟩ := open_I hv2 h2
  subst e2
  have hv3 : Value.okWide Tryz.prog W .any base 3 v3 := by
    apply hval 3
    · rfl
    · rfl
  obtain ⟨n3, e3, b3, c3⟩ := open_I hv3 h3
  subst e3
  refine (law_ExactReadFile S0 l1 n2 n3 A0 ca0 W s0 b0 c0).mono fun e W' ⟨he, hb⟩ => ⟨_, he, ?_⟩
  exact law_post rfl rfl (by kernel_rfl) ⟨rfl, rfl, rfl⟩ hW' hb

set_option maxRecDepth 100000 in
theorem lifted (os : Os) (started : os.Started) (H : Type) (enc : TypeId × Value → H) :
    ReturnsInHanded {} Tryz.checked os 9 .any (Rows.fnExactReadFileSpec.pre6 enc Tryz.prog Tryz.f9 Rows.fnExactReadFileRow.domain false) (Rows.fnExactReadFileSpec.post enc Tryz.prog Tryz.f9 false true false false) := by
  refine returnsInHanded_of_change (C := Tryz.checked) (s := Rows.fnExactReadFileSpec) own_knob started (by kernel_rfl) Tryz.func9
    (ChangeSpec.witness6 (enc := enc) (C := Tryz.checked) (s := Rows.fnExactReadFileSpec) false ⟨#[], #[.agg #[.int .i64 0, .int .i64 0, .int .i64 0, .string ⟨#[]⟩, .slice none 0 0], .string ⟨#[]⟩, .int .i64 0, .int .i64 0], []⟩ 8 (by kernel_rfl) (by kernel_rfl) (by kernel_rfl) (by kernel_rfl)) ?_
  intro W base args ds gs before hval hW _ _
  exact contract H enc W base args ds gs before hval hW

/-- It comes to a function that calls itself. -/
theorem rec_of {P : Program} {f g h : FuncId} (h1 : (P.closure f).contains g = true) (h2 : ((P.funcs[g]?).elim [] P.leadsTo).contains h = true) (h3 : (P.closure h).contains g = true) : P.recurses f = true := by
  unfold Program.recurses
  rw [Bool.or_eq_true, List.any_eq_true]
  refine .inr ⟨g, List.contains_iff_mem.1 h1, ?_⟩
  rw [List.any_eq_true]
  exact ⟨h, List.contains_iff_mem.1 h2, h3⟩
theorem hrec : Tryz.pinned.checked.prog.recurses 9 = true := rec_of (g := 209) (h := 209) (by kernel_rfl) (by kernel_rfl) (by kernel_rfl)
theorem hlaid : laidOutB Tryz.pinned.checked.prog = true := by kernel_rfl
theorem hmay : Tryz.pinned.checked.prog.mayEnter = true := by kernel_rfl
theorem hlift : (Rows.fnExactReadFileRow.lifted == Tryz.pinned.checked.prog.liftsFinal) = true := by kernel_rfl
theorem hinp : (Rows.fnExactReadFileRow.inPlace == Tryz.pinned.checked.prog.inPlace 9) = true := by kernel_rfl
theorem hunf : (Rows.fnExactReadFileRow.unfollowed == Tryz.pinned.checked.prog.unfollowed 9) = true := by kernel_rfl
theorem hnam : (Rows.fnExactReadFileRow.named == Tryz.pinned.checked.prog.varsNamed 9) = true := by kernel_rfl
theorem holds : Rows.FnExactReadFileSaid :=
  OpenClaim.holds_of_wide 9 Tryz.f9 rfl rfl rfl rfl rfl rfl rfl ⟨rfl, rfl, rfl, rfl, rfl⟩ rfl rfl rfl rfl rfl (by kernel_rfl) Tryz.func9 (by unfold joinedFacts; rw [hrec, hlaid, hmay, hlift, hinp, hunf, hnam]; kernel_rfl)
    (of_decide_eq_true (by kernel_rfl)) (by unfold Func.isWrapper; first | (rw [if_pos (by decide +kernel)]; kernel_rfl) | (rw [if_neg (by decide +kernel)]; exact ⟨rfl, rfl⟩))
    (fun os started H enc _ => lifted os started H enc)
end Go.Proofs.YtoogaalbnnlloaaGreat.cExactReadFile
