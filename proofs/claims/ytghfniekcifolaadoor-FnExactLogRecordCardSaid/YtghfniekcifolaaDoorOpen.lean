/- Opening the structs that a law takes by value: the value as it is written out. -/
import Derived.Test.YtghfniekcifolaaDoorLaw
import Derived.ChangeArms
namespace Go.Proofs.YtghfniekcifolaaDoor
open Go.RowKit Go.WideShapes Go.ChangeShapes Go.ChangeAt
section
variable {H : Type} {enc : TypeId × Value → H} {W : World}

theorem field_int {n : Nat} {t : TypeId} {k : IntKind} {c : Value} {x : Option (DataW H × List MemPlace)} (ht : Tryd.prog.underlying t = some (.int k)) (hx : ∃ y, x = some y)
    (h : DataW.trod enc Tryd.prog W 0 (fun _ => true) true n t [c] = x) : ∃ a, c = .int k a ∧ (Lit.int k a).wf = true := by
  obtain ⟨y, rfl⟩ := hx
  obtain ⟨a, e, _, hw⟩ := DataW.trod_int ht h
  injection e with e _
  exact ⟨a, e, hw⟩
theorem field_string {n : Nat} {t : TypeId} {c : Value} {x : Option (DataW H × List MemPlace)} (ht : Tryd.prog.underlying t = some .string) (hx : ∃ y, x = some y)
    (h : DataW.trod enc Tryd.prog W 0 (fun _ => true) true n t [c] = x) : ∃ l : List UInt8, c = .string ⟨l.toArray⟩ ∧ l.length ≤ 9223372036854775807 := by
  obtain ⟨y, rfl⟩ := hx
  obtain ⟨s, e, _, hw⟩ := DataW.trod_string ht h
  injection e with e _
  refine ⟨s.data.toList, by rw [e], ?_⟩
  unfold maxLen at hw
  simpa using hw
theorem some_of_lt {α : Type} {xs : List α} {i n : Nat} (h : xs.length = n) (hi : i < n) : ∃ y, xs[i]? = some y := ⟨xs[i], List.getElem?_eq_getElem (by omega)⟩
end
theorem open_S {H : Type} {enc : TypeId × Value → H} {W : World} {b : Nat} {v : Value} {d : DataW H} {p : List MemPlace} (hv : Value.okWide Tryd.prog W .any b 9 v) (h : DataW.Trod enc Tryd.prog W 0 (fun _ => true) true 9 v d p) :
    ∃ l : List UInt8, v = .string ⟨l.toArray⟩ ∧ l.length ≤ 9223372036854775807 := by
  obtain ⟨s, rfl, _, _, hw⟩ := Go.ChangeMaps.open_string Tryd.underlying9 hv h
  unfold maxLen at hw
  exact ⟨s.data.toList, rfl, by simpa using hw⟩
set_option maxRecDepth 100000 in
theorem open_Op {H : Type} {enc : TypeId × Value → H} {W : World} {b : Nat} {v : Value} {d : DataW H} {p : List MemPlace} (hv : Value.okWide Tryd.prog W .any b 23 v) (h : DataW.Trod enc Tryd.prog W 0 (fun _ => true) true 23 v d p) :
    ∃ (k f t s : Int) (nm dd : List UInt8), v = .agg #[.int .i64 k, .string ⟨nm.toArray⟩, .int .i64 f, .int .i64 t, .int .i64 s, .string ⟨dd.toArray⟩] ∧ nm.length ≤ 9223372036854775807 ∧ dd.length ≤ 9223372036854775807 := by
  obtain ⟨cs, rfl, hsz⟩ := okWide_struct Tryd.underlying23 hv
  obtain ⟨fuel, hf⟩ := h
  obtain ⟨xs, n, _, _, _, hlen, hg⟩ := DataW.trod_struct Tryd.underlying23 hf
  obtain ⟨l⟩ := cs
  have hC : Tryd.prog.cellsOf 23 = 6 := by kernel_rfl
  match l, hsz.trans hC with
  | [c0, c1, c2, c3, c4, c5], _ =>
    have h0 := hg 0 _ rfl
    have h1 := hg 1 _ rfl
    have h2 := hg 2 _ rfl
    have h3 := hg 3 _ rfl
    have h4 := hg 4 _ rfl
    have h5 := hg 5 _ rfl
    obtain ⟨k, rfl, _⟩ := field_int Tryd.underlying3 (some_of_lt hlen (by decide)) h0
    obtain ⟨nm, rfl, e1⟩ := field_string Tryd.underlying9 (some_of_lt hlen (by decide)) h1
    obtain ⟨f, rfl, _⟩ := field_int Tryd.underlying3 (some_of_lt hlen (by decide)) h2
    obtain ⟨t, rfl, _⟩ := field_int Tryd.underlying3 (some_of_lt hlen (by decide)) h3
    obtain ⟨s, rfl, _⟩ := field_int Tryd.underlying3 (some_of_lt hlen (by decide)) h4
    obtain ⟨dd, rfl, e5⟩ := field_string Tryd.underlying9 (some_of_lt hlen (by decide)) h5
    exact ⟨k, f, t, s, nm, dd, rfl, e1, e5⟩
end Go.Proofs.YtghfniekcifolaaDoor
