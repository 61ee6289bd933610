/- Slices of bytes that a law is given. -/
import Derived.Test.YtgcjfddkgbigoaaOpen
import Derived.Test.YtgcjfddkgbigoaaSl
import Derived.OpenShut
import Derived.ChangeSlices
namespace Go.Proofs.Ytgcjfddkgbigoaa
open Go.RowKit Go.WideShapes Go.ChangeShapes Go.ChangeAt
set_option maxRecDepth 100000
theorem open_B {H : Type} {enc : TypeId × Value → H} {W : World} {b : Nat} {v : Value} {d : DataW H} {p : List MemPlace} (hv : Value.okWide Try.prog W .any b 22 v) (h : DataW.Trod enc Try.prog W 0 (fun _ => true) true 22 v d p) :
    ∃ (A : Option Addr) (cap : Nat) (bs : Bs), v = .slice A bs.length cap ∧ Sl W A bs.length cap 1 (bs.map u8v) := by
  obtain ⟨a, len, cap, rfl⟩ := okWide_slice Try.underlying22 hv
  obtain ⟨fuel, hf⟩ := h
  have hc : Try.prog.cellsOf 5 = 1 := by kernel_rfl
  rcases open_ints Try.underlying22 Try.underlying5 hc hf with ⟨hcs, _⟩ | ⟨a', len', cap', zs, hcs, _, hl, hm, hzl, _, hcell, hwf⟩
  · simp [Value.cells] at hcs
    obtain ⟨rfl, rfl, rfl⟩ := hcs
    exact ⟨none, 0, [], rfl, Sl.nil _ _⟩
  · simp [Value.cells] at hcs
    obtain ⟨rfl, rfl, rfl⟩ := hcs
    simp only [if_true] at hzl
    have hbl : ((zs.take len).map fun n => UInt8.ofNat n.toNat).length = len := by simp; omega
    refine ⟨some a', cap, (zs.take len).map fun n => UInt8.ofNat n.toNat, by rw [hbl], ?_⟩
    rw [hbl]
    refine ⟨hl, by unfold maxLen at hm; omega, by simp; omega, fun h0 => ?_⟩
    obtain ⟨g, off, rfl, hat⟩ := ints_at hcell (by omega)
    have h1 := hat 0 (by omega)
    refine ⟨g, off, rfl, lt_of_cell h1, fun j u hu => ?_⟩
    simp only [List.getElem?_map] at hu
    by_cases hj : j < len
    · have hjz : j < zs.length := by omega
      rw [List.getElem?_take, if_pos hj, List.getElem?_eq_getElem hjz] at hu
      simp at hu
      rw [hat j hjz, ← hu]
      have hb := bounds_u8 (hwf zs[j] (List.getElem_mem hjz))
      rw [List.getD_eq_getElem?_getD, List.getElem?_eq_getElem hjz]
      simp only [Option.getD_some, u8v, UInt8.toNat_ofNat']
      congr 2
      omega
    · rw [List.getElem?_take, if_neg hj] at hu
      simp at hu
end Go.Proofs.Ytgcjfddkgbigoaa
