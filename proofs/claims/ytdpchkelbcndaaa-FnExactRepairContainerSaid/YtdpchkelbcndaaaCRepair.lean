/-
The program's RepairContainer returns what the reference's returns, for all arguments, and its arguments read as they did.
-/
import Derived.Test.YtdpchkelbcndaaaOpen
import Derived.Test.YtdpchkelbcndaaaP14
namespace Go.Proofs.Ytdpchkelbcndaaa.cExactRepairContainer
open Go.ChangeShapes Go.WideShapes Go.ChangeAt Go.RowKit

set_option maxRecDepth 100000 in
theorem contract (H : Type) (enc : TypeId × Value → H) (W : World) (base : Nat) (args : Array Value) (ds gs : List (DataW H)) (before : List MemPlace)
    (hval : ∀ (j : Nat) t v, Try.f5.params[j]? = some t → args[j]? = some v → Value.okWide Try.prog W .any base t v)
    (hW : DataW.Whole enc Try.prog Try.f5.params.toList Rows.fnExactRepairContainerSpec.vars false W args.toList ds gs before) :
    Calls Try.prog 5 args W fun e W' => ∃ v, e = .returned v ∧ Rows.fnExactRepairContainerSpec.post enc Try.prog Try.f5 false true false false W args v W' := by
  have hW' := hW
  obtain ⟨p, q, hA0, hV, rfl, hfz, hnd⟩ := hW
  have hA : DataW.TrodAll enc Try.prog W 0 (fun _ => true) true Try.f5.params.toList args.toList ds p := hA0
  rw [Try.params5] at hA hval
  obtain ⟨v0, vs0, d0, ds0, p0, q0, hargs, rfl, rfl, h0, r0⟩ := trodAll_cons hA
  obtain ⟨v1, vs1, d1, ds1, p1, q1, rfl, rfl, rfl, h1, r1⟩ := trodAll_cons r0
  obtain ⟨v2, vs2, d2, ds2, p2, q2, rfl, rfl, rfl, h2, r2⟩ := trodAll_cons r1
  obtain ⟨v3, vs3, d3, ds3, p3, q3, rfl, rfl, rfl, h3, r3⟩ := trodAll_cons r2
  obtain ⟨rfl, rfl, rfl⟩ := trodAll_nil r3
  obtain rfl : args = #[v0, v1, v2, v3] := by cases args; simp_all
  obtain ⟨rfl, rfl⟩ := trodVars_none hV
  have hv0 : Value.okWide Try.prog W .any base 9 v0 := by
    apply hval 0
    · rfl
    · rfl
  obtain ⟨l0, e0, b0⟩ := open_S hv0 h0
  subst e0
  have hv1 : Value.okWide Try.prog W .any base 28 v1 := by
    apply hval 1
    · rfl
    · rfl
  obtain ⟨A1, ca1, l1, e1, b1, c1⟩ := open_SS hv1 h1
  subst e1
  have hv2 : Value.okWide Try.prog W .any base 3 v2 := by
    apply hval 2
    · rfl
    · rfl
  obtain ⟨n2, e2, b2, c2⟩ := open_I hv2 h2
  subst e2
  have hv3 : Value.okWide Try.prog W .any base 3 v3 := by
    apply hval 3
    · rfl
    · rfl
  obtain ⟨n3, e3, b3, c3⟩ := open_I hv3 h3
  subst e3
  refine (law_ExactRepairContainer l0 l1 A1 ca1 n2 n3 W b0 b1 c1 b2 c2 b3 c3).mono fun e W' ⟨he, hb⟩ => ⟨_, he, ?_⟩
  exact law_post rfl rfl (by kernel_rfl) ⟨rfl, rfl, rfl⟩ hW' hb

set_option maxRecDepth 100000 in
theorem lifted (os : Os) (started : os.Started) (H : Type) (enc : TypeId × Value → H) :
    ReturnsInHanded {} Try.checked os 5 .any (Rows.fnExactRepairContainerSpec.pre6 enc Try.prog Try.f5 Rows.fnExactRepairContainerRow.domain false) (Rows.fnExactRepairContainerSpec.post enc Try.prog Try.f5 false true false false) := by
  refine returnsInHanded_of_change (C := Try.checked) (s := Rows.fnExactRepairContainerSpec) own_knob started (by kernel_rfl) Try.func5
    (ChangeSpec.witness6 (enc := enc) (C := Try.checked) (s := Rows.fnExactRepairContainerSpec) false ⟨#[], #[.string ⟨#[]⟩, .slice none 0 0, .int .i64 0, .int .i64 0], []⟩ 8 (by kernel_rfl) (by kernel_rfl) (by kernel_rfl) (by kernel_rfl)) ?_
  intro W base args ds gs before hval hW _ _
  exact contract H enc W base args ds gs before hval hW

theorem holds : Rows.FnExactRepairContainerSaid :=
  OpenClaim.holds_of_wide 5 Try.f5 rfl rfl rfl rfl rfl rfl rfl ⟨rfl, rfl, rfl, rfl, rfl⟩ rfl rfl rfl rfl rfl (by kernel_rfl) Try.func5 (by kernel_rfl)
    (of_decide_eq_true (by kernel_rfl)) (by unfold Func.isWrapper; first | (rw [if_pos (by decide +kernel)]; kernel_rfl) | (rw [if_neg (by decide +kernel)]; exact ⟨rfl, rfl⟩))
    (fun os started H enc _ => lifted os started H enc)
end Go.Proofs.Ytdpchkelbcndaaa.cExactRepairContainer
