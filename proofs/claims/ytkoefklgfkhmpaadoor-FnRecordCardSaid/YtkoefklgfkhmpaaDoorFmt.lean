/- Plain: the text of an operation. No program. -/
import Derived.Test.YtkoefklgfkhmpaaDoorHex
import Derived.Lib.ItoaNum
namespace Go.Proofs.YtkoefklgfkhmpaaDoor
def fmtOp (k : Int) (nm : Bs) (f t s : Int) (d : Bs) : Bs :=
  if opOk k nm f t s d then
    (if k = 0 then [112, 117, 116, 32] ++ nm ++ [32] ++ Lib.itoa s ++ [32] ++ orDash (fmtHex d)
     else if k = 1 then [97, 112, 112, 101, 110, 100, 32] ++ nm ++ [32] ++ Lib.itoa s ++ [32] ++ orDash (fmtHex d)
     else if k = 2 then [114, 101, 112, 108, 97, 99, 101, 32] ++ nm ++ [32] ++ Lib.itoa f ++ [32] ++ Lib.itoa t ++ [32] ++ Lib.itoa s ++ [32] ++ orDash (fmtHex d)
     else if k = 3 then [109, 101, 114, 103, 101, 32] ++ nm ++ [32] ++ Lib.itoa s
     else [100, 101, 108, 101, 116, 101, 32] ++ nm)
  else []
theorem nameV_len {l : Bs} (h : nameV l = true) : 1 ≤ l.length ∧ l.length ≤ 8 := by
  rw [nameV, Bool.and_eq_true, decide_eq_true_eq] at h; exact h.1
theorem fmtHex_len (d : Bs) : (fmtHex d).length ≤ 8000 := by
  unfold fmtHex; split
  · rw [hexOf_length]; omega
  · simp
theorem orDash_len (d : Bs) : (orDash d).length ≤ d.length + 1 := by
  unfold orDash; split <;> simp
end Go.Proofs.YtkoefklgfkhmpaaDoor
