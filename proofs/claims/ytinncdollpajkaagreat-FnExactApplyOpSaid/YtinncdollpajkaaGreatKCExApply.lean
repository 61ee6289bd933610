import Derived.Test.YtinncdollpajkaaGreatKGL
import Derived.Test.YtinncdollpajkaaGreatKR19
set_option linter.unusedVariables false
set_option linter.unusedSimpArgs false
namespace Go.Proofs.YtinncdollpajkaaGreat.cExactApplyOp
open Go.ChangeShapes Go.WideShapes Go.ChangeAt Go.RowKit
set_option maxRecDepth 100000 in
theorem contract (H : Type) (enc : TypeId × Value → H) (W : World) (base : Nat) (args : Array Value) (ds gs : List (DataW H)) (before : List MemPlace)
  (hval : ∀ (j : Nat) t v, Tryz.f5.params[j]? = some t → args[j]? = some v → Value.okWide Tryz.prog W .any base t v)
  (hW : DataW.Whole enc Tryz.prog Tryz.f5.params.toList Rows.fnExactApplyOpSpec.vars false W args.toList ds gs before) :
  Calls Tryz.prog 5 args W fun e W' => ∃ v, e = .returned v ∧ Rows.fnExactApplyOpSpec.post enc Tryz.prog Tryz.f5 false true false false W args v W' := by
 have hW' := hW
 obtain ⟨p, q, hA0, hV, rfl, hfz, hnd⟩ := hW
 have hA : DataW.TrodAll enc Tryz.prog W 0 (fun _ => true) true Tryz.f5.params.toList args.toList ds p := hA0
 rw [Tryz.params5] at hA hval
 obtain ⟨v0, vs0, d0, ds0, p0, q0, hargs, rfl, rfl, h0, r0⟩ := trodAll_cons hA
 obtain ⟨v1, vs1, d1, ds1, p1, q1, rfl, rfl, rfl, h1, r1⟩ := trodAll_cons r0
 obtain ⟨rfl, rfl, rfl⟩ := trodAll_nil r1
 obtain rfl : args = #[v0, v1] := by cases args; simp_all
 obtain ⟨rfl, rfl⟩ := trodVars_none hV
 have hv0 : Value.okWide Tryz.prog W .any base 46 v0 := by
  apply hval 0
  ·rfl
  ·rfl
 obtain ⟨S0, A0, ca0, e0, s0, b0, c0⟩ := Xx hv0 h0
 subst e0
 have hv1 : Value.okWide Tryz.prog W .any base 48 v1 := by
  apply hval 1
  ·rfl
  ·rfl
 obtain ⟨k1, f1, t1, s1, nm1, dd1, e1, b1, c1⟩ := RI hv1 h1
 subst e1
 refine (jW S0 k1 f1 t1 s1 nm1 dd1 A0 ca0 W s0 b0 c0 b1 c1).mono fun e W' ⟨he, hb⟩ => ⟨_, he, ?_⟩
 exact Tn rfl rfl (by kernel_rfl) ⟨rfl, rfl, rfl⟩ hW' hb
set_option maxRecDepth 100000 in
theorem lifted (os : Os) (started : os.Started) (H : Type) (enc : TypeId × Value → H) :
  ReturnsInHanded {} Tryz.checked os 5 .any (Rows.fnExactApplyOpSpec.pre6 enc Tryz.prog Tryz.f5 Rows.fnExactApplyOpRow.domain false) (Rows.fnExactApplyOpSpec.post enc Tryz.prog Tryz.f5 false true false false) := by
 refine returnsInHanded_of_change (C := Tryz.checked) (s := Rows.fnExactApplyOpSpec) TZ started (by kernel_rfl) Tryz.func5
  (ChangeSpec.witness6 (enc := enc) (C := Tryz.checked) (s := Rows.fnExactApplyOpSpec) false ⟨#[], #[.agg #[.int .i64 0, .int .i64 0, .int .i64 0, .string ⟨#[]⟩, .slice none 0 0], .agg #[.int .i64 0, .string ⟨#[]⟩, .int .i64 0, .int .i64 0, .int .i64 0, .string ⟨#[]⟩]], []⟩ 8 (by kernel_rfl) (by kernel_rfl) (by kernel_rfl) (by kernel_rfl)) ?_
 intro W base args ds gs before hval hW _ _
 exact contract H enc W base args ds gs before hval hW
theorem rec_of {P : Program} {f g h : FuncId} (h1 : (P.closure f).contains g = true) (h2 : ((P.funcs[g]?).elim [] P.leadsTo).contains h = true) (h3 : (P.closure h).contains g = true) : P.recurses f = true := by
 unfold Program.recurses
 rw [Bool.or_eq_true, List.any_eq_true]
 refine .inr ⟨g, List.contains_iff_mem.1 h1, ?_⟩
 rw [List.any_eq_true]
 exact ⟨h, List.contains_iff_mem.1 h2, h3⟩
theorem hrec : Tryz.pinned.checked.prog.recurses 5 = true := rec_of (g := 216) (h := 216) (by kernel_rfl) (by kernel_rfl) (by kernel_rfl)
theorem hlaid : laidOutB Tryz.pinned.checked.prog = true := by kernel_rfl
theorem hmay : Tryz.pinned.checked.prog.mayEnter = true := by kernel_rfl
theorem QA : (Rows.fnExactApplyOpRow.lifted == Tryz.pinned.checked.prog.liftsFinal) = true := by kernel_rfl
theorem QC : (Rows.fnExactApplyOpRow.inPlace == Tryz.pinned.checked.prog.inPlace 5) = true := by kernel_rfl
theorem QD : (Rows.fnExactApplyOpRow.unfollowed == Tryz.pinned.checked.prog.unfollowed 5) = true := by kernel_rfl
theorem QB : (Rows.fnExactApplyOpRow.named == Tryz.pinned.checked.prog.varsNamed 5) = true := by kernel_rfl
theorem holds : Rows.FnExactApplyOpSaid :=
 OpenClaim.holds_of_wide 5 Tryz.f5 rfl rfl rfl rfl rfl rfl rfl ⟨rfl, rfl, rfl, rfl, rfl⟩ rfl rfl rfl rfl rfl (by kernel_rfl) Tryz.func5 (by unfold joinedFacts; rw [hrec, hlaid, hmay, QA, QC, QD, QB]; kernel_rfl)
  (of_decide_eq_true (by kernel_rfl)) (by unfold Func.isWrapper; first | (rw [if_pos (by decide +kernel)]; kernel_rfl) | (rw [if_neg (by decide +kernel)]; exact ⟨rfl, rfl⟩))
  (fun os started H enc _ => lifted os started H enc)
end Go.Proofs.YtinncdollpajkaaGreat.cExactApplyOp
