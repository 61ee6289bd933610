import Derived.Test.YtinncdollpajkaaGreatVGL
import Derived.Test.YtinncdollpajkaaGreatVD11
set_option linter.unusedVariables false
set_option linter.unusedSimpArgs false
namespace Go.Proofs.YtinncdollpajkaaGreat.cStoreFiles
open Go.ChangeShapes Go.WideShapes Go.ChangeAt Go.RowKit
set_option maxRecDepth 100000 in
theorem contract (H : Type) (enc : TypeId × Value → H) (W : World) (base : Nat) (args : Array Value) (ds gs : List (DataW H)) (before : List MemPlace)
  (hval : ∀ (j : Nat) t v, Tryz.f4.params[j]? = some t → args[j]? = some v → Value.okWide Tryz.prog W .any base t v)
  (hW : DataW.Whole enc Tryz.prog Tryz.f4.params.toList Rows.fnStoreFilesSpec.vars false W args.toList ds gs before) :
  Calls Tryz.prog 4 args W fun e W' => ∃ v, e = .returned v ∧ Rows.fnStoreFilesSpec.post enc Tryz.prog Tryz.f4 false true false false W args v W' := by
 have hW' := hW
 obtain ⟨p, q, hA0, hV, rfl, hfz, hnd⟩ := hW
 have hA : DataW.TrodAll enc Tryz.prog W 0 (fun _ => true) true Tryz.f4.params.toList args.toList ds p := hA0
 rw [Tryz.params4] at hA hval
 obtain ⟨v0, vs0, d0, ds0, p0, q0, hargs, rfl, rfl, h0, r0⟩ := trodAll_cons hA
 obtain ⟨rfl, rfl, rfl⟩ := trodAll_nil r0
 obtain rfl : args = #[v0] := by cases args; simp_all
 obtain ⟨rfl, rfl⟩ := trodVars_none hV
 have hv0 : Value.okWide Tryz.prog W .any base 22 v0 := by
  apply hval 0
  ·rfl
  ·rfl
 obtain ⟨A0, ca0, l0, e0, b0⟩ := OY hv0 h0
 subst e0
 refine (aC l0 A0 ca0 W b0).mono fun e W' ⟨he, hb⟩ => ⟨_, he, ?_⟩
 exact Qk rfl rfl (by kernel_rfl) ⟨rfl, rfl, rfl⟩ hW' hb
set_option maxRecDepth 100000 in
theorem lifted (os : Os) (started : os.Started) (H : Type) (enc : TypeId × Value → H) :
  ReturnsInHanded {} Tryz.checked os 4 .any (Rows.fnStoreFilesSpec.pre6 enc Tryz.prog Tryz.f4 Rows.fnStoreFilesRow.domain false) (Rows.fnStoreFilesSpec.post enc Tryz.prog Tryz.f4 false true false false) := by
 refine returnsInHanded_of_change (C := Tryz.checked) (s := Rows.fnStoreFilesSpec) QH started (by kernel_rfl) Tryz.func4
  (ChangeSpec.witness6 (enc := enc) (C := Tryz.checked) (s := Rows.fnStoreFilesSpec) false ⟨#[], #[.slice none 0 0], []⟩ 8 (by kernel_rfl) (by kernel_rfl) (by kernel_rfl) (by kernel_rfl)) ?_
 intro W base args ds gs before hval hW _ _
 exact contract H enc W base args ds gs before hval hW
theorem rec_of {P : Program} {f g h : FuncId} (h1 : (P.closure f).contains g = true) (h2 : ((P.funcs[g]?).elim [] P.leadsTo).contains h = true) (h3 : (P.closure h).contains g = true) : P.recurses f = true := by
 unfold Program.recurses
 rw [Bool.or_eq_true, List.any_eq_true]
 refine .inr ⟨g, List.contains_iff_mem.1 h1, ?_⟩
 rw [List.any_eq_true]
 exact ⟨h, List.contains_iff_mem.1 h2, h3⟩
theorem hrec : Tryz.pinned.checked.prog.recurses 4 = true := rec_of (g := 216) (h := 216) (by kernel_rfl) (by kernel_rfl) (by kernel_rfl)
theorem hlaid : laidOutB Tryz.pinned.checked.prog = true := by kernel_rfl
theorem hmay : Tryz.pinned.checked.prog.mayEnter = true := by kernel_rfl
theorem O8 : (Rows.fnStoreFilesRow.lifted == Tryz.pinned.checked.prog.liftsFinal) = true := by kernel_rfl
theorem Nc : (Rows.fnStoreFilesRow.inPlace == Tryz.pinned.checked.prog.inPlace 4) = true := by kernel_rfl
theorem Nh : (Rows.fnStoreFilesRow.unfollowed == Tryz.pinned.checked.prog.unfollowed 4) = true := by kernel_rfl
theorem Nj : (Rows.fnStoreFilesRow.named == Tryz.pinned.checked.prog.varsNamed 4) = true := by kernel_rfl
theorem holds : Rows.FnStoreFilesSaid :=
 OpenClaim.holds_of_wide 4 Tryz.f4 rfl rfl rfl rfl rfl rfl rfl ⟨rfl, rfl, rfl, rfl, rfl⟩ rfl rfl rfl rfl rfl (by kernel_rfl) Tryz.func4 (by unfold joinedFacts; rw [hrec, hlaid, hmay, O8, Nc, Nh, Nj]; kernel_rfl)
  (of_decide_eq_true (by kernel_rfl)) (by unfold Func.isWrapper; first | (rw [if_pos (by decide +kernel)]; kernel_rfl) | (rw [if_neg (by decide +kernel)]; exact ⟨rfl, rfl⟩))
  (fun os started H enc _ => lifted os started H enc)
end Go.Proofs.YtinncdollpajkaaGreat.cStoreFiles
