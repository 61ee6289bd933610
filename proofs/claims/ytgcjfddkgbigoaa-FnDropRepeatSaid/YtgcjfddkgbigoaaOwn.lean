/- Slices of bytes that a call makes and appends to. -/
import Derived.Test.YtgcjfddkgbigoaaPlain
import Derived.OwnWalk
import Derived.StillTailTactics
import Derived.Laws.AppendOwn
import Derived.Laws.MakeOwn
import Derived.Deep.RegionHeld3
import Derived.Deep.AppendLies
import Derived.Laws.BytesArg
namespace Go.Proofs.Ytgcjfddkgbigoaa
open Go.RowKit
theorem info_u8 : (Try.prog.info? 5).map (fun i => (i.zero, i.size, i.bytes)) = some (some (.int .u8 0), 1, 1) := by kernel_rfl
abbrev u8v (c : UInt8) : Value := .int .u8 (c.toNat : Int)
/-- The slice value v holds the bytes l in a block of the call's own. -/
def OwnB (w : World) (B : Nat) (v : Value) (l : Bs) : Prop := w.ownsRow B 5 1 v l.length (l.map u8v)
/-- string(b) of a slice of the call's own. -/
theorem conv_own {w : World} {B : Nat} {v : Value} {l : Bs} (h : w.ownsRow B 5 1 v l.length (l.map u8v)) :
    (convert 22 9 v).run Try.prog w = .ok (.string ⟨l.toArray⟩) w := by
  have hcs := fun g hg => h.cells (g := g) hg
  rcases h.2 with ⟨rfl, h0⟩ | ⟨g, cap, cur, rfl, _⟩
  · have : l = [] := List.eq_nil_of_length_eq_zero h0
    subst this
    exact run_convert_bytes_nil (P := Try.prog) w 22 5 Try.underlying22 Try.underlying5 0 0 9 Try.underlying9
  · refine run_convert_bytes_back w _ _ 5 _ cap l Try.underlying22 Try.underlying5 Try.underlying9 (fun j hj => hcs g rfl j _ ?_)
    simp [List.getElem?_eq_getElem hj]
theorem bits_and15 (l : Bs) (i : Int) : bits .and .u8 (byteAt l i) 15 = byteAt l i % 16 := by
  unfold byteAt
  have h : (l[i.toNat]?.getD 0).toNat < 256 := UInt8.toNat_lt _
  generalize (l[i.toNat]?.getD 0).toNat = x at h ⊢
  have key : ∀ y : Fin 256, bits .and .u8 ((y.val : Nat) : Int) 15 = ((y.val : Nat) : Int) % 16 := by decide +kernel
  exact key ⟨x, h⟩
end Go.Proofs.Ytgcjfddkgbigoaa
