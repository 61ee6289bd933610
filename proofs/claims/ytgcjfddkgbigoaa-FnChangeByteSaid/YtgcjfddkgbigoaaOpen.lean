/- Opening the structs that a law takes by value: the value as it is written out. -/
import Derived.Test.YtgcjfddkgbigoaaLaw
import Derived.ChangeArms
namespace Go.Proofs.Ytgcjfddkgbigoaa
open Go.RowKit Go.WideShapes Go.ChangeShapes Go.ChangeAt
section
variable {H : Type} {enc : TypeId × Value → H} {W : World}

theorem field_int {n : Nat} {t : TypeId} {k : IntKind} {c : Value} {x : Option (DataW H × List MemPlace)} (ht : Try.prog.underlying t = some (.int k)) (hx : ∃ y, x = some y)
    (h : DataW.trod enc Try.prog W 0 (fun _ => true) true n t [c] = x) : ∃ a, c = .int k a ∧ (Lit.int k a).wf = true := by
  obtain ⟨y, rfl⟩ := hx
  obtain ⟨a, e, _, hw⟩ := DataW.trod_int ht h
  injection e with e _
  exact ⟨a, e, hw⟩
theorem field_string {n : Nat} {t : TypeId} {c : Value} {x : Option (DataW H × List MemPlace)} (ht : Try.prog.underlying t = some .string) (hx : ∃ y, x = some y)
    (h : DataW.trod enc Try.prog W 0 (fun _ => true) true n t [c] = x) : ∃ l : List UInt8, c = .string ⟨l.toArray⟩ ∧ l.length ≤ 9223372036854775807 := by
  obtain ⟨y, rfl⟩ := hx
  obtain ⟨s, e, _, hw⟩ := DataW.trod_string ht h
  injection e with e _
  refine ⟨s.data.toList, by rw [e], ?_⟩
  unfold maxLen at hw
  simpa using hw
theorem some_of_lt {α : Type} {xs : List α} {i n : Nat} (h : xs.length = n) (hi : i < n) : ∃ y, xs[i]? = some y := ⟨xs[i], List.getElem?_eq_getElem (by omega)⟩
end
set_option maxRecDepth 100000 in
theorem open_I {H : Type} {enc : TypeId × Value → H} {W : World} {b : Nat} {v : Value} {d : DataW H} {p : List MemPlace} (hv : Value.okWide Try.prog W .any b 3 v) (h : DataW.Trod enc Try.prog W 0 (fun _ => true) true 3 v d p) :
    ∃ n : Int, v = .int .i64 n ∧ -9223372036854775808 ≤ n ∧ n ≤ 9223372036854775807 := by
  obtain ⟨n, rfl, _, _, hw⟩ := open_int Try.underlying3 hv h
  have e1 : IntKind.i64.min = -9223372036854775808 := rfl
  have e2 : IntKind.i64.max = 9223372036854775807 := rfl
  simp [Lit.wf, e1, e2] at hw
  exact ⟨n, rfl, by omega, by omega⟩
set_option maxRecDepth 100000 in
theorem open_S {H : Type} {enc : TypeId × Value → H} {W : World} {b : Nat} {v : Value} {d : DataW H} {p : List MemPlace} (hv : Value.okWide Try.prog W .any b 9 v) (h : DataW.Trod enc Try.prog W 0 (fun _ => true) true 9 v d p) :
    ∃ l : List UInt8, v = .string ⟨l.toArray⟩ ∧ l.length ≤ 9223372036854775807 := by
  obtain ⟨s, rfl, _, _, hw⟩ := Go.ChangeMaps.open_string Try.underlying9 hv h
  unfold maxLen at hw
  exact ⟨s.data.toList, rfl, by simpa using hw⟩
end Go.Proofs.Ytgcjfddkgbigoaa
