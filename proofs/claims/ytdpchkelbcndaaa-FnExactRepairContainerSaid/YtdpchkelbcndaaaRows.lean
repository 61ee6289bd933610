/-
  No cell of these rows narrows 'for every input' (looked for: loops, veiled, ifaces, maps, wideKeys, modest, calm, conditions, laid).
  DERIVED. THE GIVEN ROWS OF THIS SEAT. 3 by the template 'for every input the law returns true; each argument reads behind the call as it read before'; 0 by the template 'total and deterministic' (their statements: YtdpchkelbcndaaaTotals.lean).
  GIVEN WITH THE SEED: the statements are not yours to turn. If you find one false, say at which input.
  Laid BY PROGRAM, IN A SANDBOX (cutbox-rows.mjs): the forced cells as the released guide's own fill.sh prints them over the translation 22c1579b615d3a0a… (all of the seat's roots in one cut). By AI agents, Wed Nov 11 2026. No macro, syntax, notation, axiom, sorry.
-/
import Derived.Test.YtdpchkelbcndaaaChecked
import GoSem.Claim
import GoSem.ClaimJoined
import GoSem.ClaimMapViews
import Derived.JoinedTies
import Derived.KernelRfl
namespace Go.Proofs.Ytdpchkelbcndaaa
/- THE CELL 'sum', in the pinned program and in every row, IS THE sha256 OF THE DUMP (.gsa) THAT YtdpchkelbcndaaaProg.lean LOADS. Nothing in Lean hashes anything: it is a label: what it is worth is what the hold of that sum in a sandbox is worth. -/
noncomputable def Try.pinned : Pinned := { name := "ytdpchkelbcndaaa", sum := "22c1579b615d3a0a677a78b397889a716fe8d7e0c578b1a9cc9ca01536c6a3b0", checked := Try.checked }
namespace Rows
def none {H : Type} : Left H := { results := [], args := [] }

/-- 'laws.FnChangeByte': WHATEVER THE INPUT: true; the input reads as it did. -/
def fnChangeByteSpec : ChangeSpec := { name := "fnChangeByte", fn := fun _ => fun
  | [d] => { results := [.lit (.bool true)], args := [d] }
  | _ => none }
def fnChangeByteRow : OpenClaim := { program := "ytdpchkelbcndaaa", sum := "22c1579b615d3a0a677a78b397889a716fe8d7e0c578b1a9cc9ca01536c6a3b0", func := "loop.example/soughtstreams/laws.FnChangeByte", spec := "fnChangeByte", apart := false }
def FnChangeByteSaid : Prop := fnChangeByteRow.holds Try.pinned (OpenSpec.ofChange fnChangeByteSpec)

/-- ITS FALSE NEIGHBOUR: 'it returns false'. Refute it at one input. -/
def fnChangeByteWrong : ChangeSpec := { name := "fnChangeByte", fn := fun _ => fun
  | [d] => { results := [.lit (.bool false)], args := [d] }
  | _ => none }
def FnChangeByteWrongFalsely : Prop := fnChangeByteRow.holds Try.pinned (OpenSpec.ofChange fnChangeByteWrong)

/-- 'laws.FnDropRepeat': WHATEVER THE INPUT: true; the input reads as it did. -/
def fnDropRepeatSpec : ChangeSpec := { name := "fnDropRepeat", fn := fun _ => fun
  | [d] => { results := [.lit (.bool true)], args := [d] }
  | _ => none }
def fnDropRepeatRow : OpenClaim := { program := "ytdpchkelbcndaaa", sum := "22c1579b615d3a0a677a78b397889a716fe8d7e0c578b1a9cc9ca01536c6a3b0", func := "loop.example/soughtstreams/laws.FnDropRepeat", spec := "fnDropRepeat", apart := false }
def FnDropRepeatSaid : Prop := fnDropRepeatRow.holds Try.pinned (OpenSpec.ofChange fnDropRepeatSpec)

/-- ITS FALSE NEIGHBOUR: 'it returns false'. Refute it at one input. -/
def fnDropRepeatWrong : ChangeSpec := { name := "fnDropRepeat", fn := fun _ => fun
  | [d] => { results := [.lit (.bool false)], args := [d] }
  | _ => none }
def FnDropRepeatWrongFalsely : Prop := fnDropRepeatRow.holds Try.pinned (OpenSpec.ofChange fnDropRepeatWrong)

/-- 'laws.FnExactRepairContainer': WHATEVER THE INPUT: true; the input reads as it did. -/
def fnExactRepairContainerSpec : ChangeSpec := { name := "fnExactRepairContainer", fn := fun _ => fun
  | [d1, d2, d3, d4] => { results := [.lit (.bool true)], args := [d1, d2, d3, d4] }
  | _ => none }
def fnExactRepairContainerRow : OpenClaim := { program := "ytdpchkelbcndaaa", sum := "22c1579b615d3a0a677a78b397889a716fe8d7e0c578b1a9cc9ca01536c6a3b0", func := "loop.example/soughtstreams/laws.FnExactRepairContainer", spec := "fnExactRepairContainer", inPlace := ["internal/abi.NoEscape"], apart := false }
def FnExactRepairContainerSaid : Prop := fnExactRepairContainerRow.holds Try.pinned (OpenSpec.ofChange fnExactRepairContainerSpec)

/-- ITS FALSE NEIGHBOUR: 'it returns false'. Refute it at one input. -/
def fnExactRepairContainerWrong : ChangeSpec := { name := "fnExactRepairContainer", fn := fun _ => fun
  | [d1, d2, d3, d4] => { results := [.lit (.bool false)], args := [d1, d2, d3, d4] }
  | _ => none }
def FnExactRepairContainerWrongFalsely : Prop := fnExactRepairContainerRow.holds Try.pinned (OpenSpec.ofChange fnExactRepairContainerWrong)

/- THE SECOND FORM. 'bulk': how many values and letters a reading holds, each counted each time it is reached (what is shared counts as often as it is met; a slice's spare places count too). A statement '..UptoSaid' is the law's where the arguments, and the package variables that the reading takes, are together of bulk at most 1048576: NARROWER than '..Said'. Prove '..Said' where nothing that the law and all that it calls make is longer than what came in: it says more and counts as full. Else prove '..UptoSaid'. A law counts once. -/
mutual
def uptoBulk {H : Type} : DataW H → Nat
  | .lit (.string bytes) => bytes.length + 1
  | .lit _ => 1
  | .nil => 1
  | .ptr d => uptoBulk d + 1
  | .slice elems spare => uptoBulkAll elems + uptoBulkAll spare + 1
  | .agg parts => uptoBulkAll parts + 1
  | .iface _ d => uptoBulk d + 1
  | .map entries => uptoBulkEntries entries + 1
  | .held _ => 1
def uptoBulkAll {H : Type} : List (DataW H) → Nat
  | [] => 0
  | d :: r => uptoBulk d + uptoBulkAll r
def uptoBulkEntries {H : Type} : List (Lit × DataW H) → Nat
  | [] => 0
  | x :: r => uptoBulkEntry x + uptoBulkEntries r
def uptoBulkEntry {H : Type} : Lit × DataW H → Nat
  | (.string bytes, d) => bytes.length + uptoBulk d + 1
  | (_, d) => uptoBulk d + 1
 end
def uptoSmall : (H : Type) → List (DataW H) → Bool := fun _ ds => decide (uptoBulkAll ds ≤ 1048576)
def OpenSpec.upto (s : _root_.Go.ChangeSpec) : _root_.Go.OpenSpec := { _root_.Go.OpenSpec.ofChange s with cond := some uptoSmall }

/-- 'laws.FnChangeByte', WHERE WHAT IT READS IS OF BULK AT MOST 1048576: true; the input reads as it did. -/
def fnChangeByteUptoRow : OpenClaim := { program := "ytdpchkelbcndaaa", sum := "22c1579b615d3a0a677a78b397889a716fe8d7e0c578b1a9cc9ca01536c6a3b0", func := "loop.example/soughtstreams/laws.FnChangeByte", spec := "fnChangeByte", apart := false, narrowed := true }
def FnChangeByteUptoSaid : Prop := fnChangeByteUptoRow.holds Try.pinned (OpenSpec.upto fnChangeByteSpec)

/-- 'laws.FnDropRepeat', WHERE WHAT IT READS IS OF BULK AT MOST 1048576: true; the input reads as it did. -/
def fnDropRepeatUptoRow : OpenClaim := { program := "ytdpchkelbcndaaa", sum := "22c1579b615d3a0a677a78b397889a716fe8d7e0c578b1a9cc9ca01536c6a3b0", func := "loop.example/soughtstreams/laws.FnDropRepeat", spec := "fnDropRepeat", apart := false, narrowed := true }
def FnDropRepeatUptoSaid : Prop := fnDropRepeatUptoRow.holds Try.pinned (OpenSpec.upto fnDropRepeatSpec)

/-- 'laws.FnExactRepairContainer', WHERE WHAT IT READS IS OF BULK AT MOST 1048576: true; the input reads as it did. -/
def fnExactRepairContainerUptoRow : OpenClaim := { program := "ytdpchkelbcndaaa", sum := "22c1579b615d3a0a677a78b397889a716fe8d7e0c578b1a9cc9ca01536c6a3b0", func := "loop.example/soughtstreams/laws.FnExactRepairContainer", spec := "fnExactRepairContainer", inPlace := ["internal/abi.NoEscape"], apart := false, narrowed := true }
def FnExactRepairContainerUptoSaid : Prop := fnExactRepairContainerUptoRow.holds Try.pinned (OpenSpec.upto fnExactRepairContainerSpec)

end Rows
end Go.Proofs.Ytdpchkelbcndaaa
