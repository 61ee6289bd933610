/-
  No cell of these rows narrows 'for every input' (looked for: loops, veiled, ifaces, maps, wideKeys, modest, calm, conditions, laid).
  DERIVED. THE GIVEN ROWS OF THIS SEAT. 6 by the template 'for every input the law returns true; each argument reads behind the call as it read before'; 0 by the template 'total and deterministic' (their statements: YtinncdollpajkaaGreatTotals.lean).
  GIVEN WITH THE SEED: the statements are not yours to turn. If you find one false, say at which input.
  Laid BY PROGRAM, IN A SANDBOX (cutbox-rows.mjs): the forced cells as the released guide's own fill.sh prints them over the translation 1b3beb73fc786205… (all of the seat's roots in one cut). By AI agents, Wed Nov 11 2026. No macro, syntax, notation, axiom, sorry.
-/
import Derived.Test.YtinncdollpajkaaGreatChecked
import GoSem.Claim
import GoSem.ClaimJoined
import GoSem.ClaimMapViews
import Derived.JoinedTies
import Derived.KernelRfl
namespace Go.Proofs.YtinncdollpajkaaGreat
/- THE CELL 'sum', in the pinned program and in every row, IS THE sha256 OF THE DUMP (.gsa) THAT YtinncdollpajkaaGreatProg.lean LOADS. Nothing in Lean hashes anything: it is a label: what it is worth is what the hold of that sum in a sandbox is worth. -/
noncomputable def Tryz.pinned : Pinned := { name := "ytinncdollpajkaagreat", sum := "1b3beb73fc7862050e7370593ef8ce33491490799ef56ee2386fb8c42005405d", checked := Tryz.checked }
namespace Rows
def none {H : Type} : Left H := { results := [], args := [] }

/-- 'laws.FnReadFile': WHATEVER THE INPUT: true; the input reads as it did. -/
def fnReadFileSpec : ChangeSpec := { name := "fnReadFile", fn := fun _ => fun
  | [d] => { results := [.lit (.bool true)], args := [d] }
  | _ => none }
def fnReadFileRow : OpenClaim := { program := "ytinncdollpajkaagreat", sum := "1b3beb73fc7862050e7370593ef8ce33491490799ef56ee2386fb8c42005405d", func := "loop.example/soughtstreams/laws.FnReadFile", spec := "fnReadFile", inPlace := ["internal/abi.NoEscape"], recurses := true, apart := false }
def FnReadFileSaid : Prop := fnReadFileRow.holds Tryz.pinned (OpenSpec.ofChange fnReadFileSpec)

/-- ITS FALSE NEIGHBOUR: 'it returns false'. Refute it at one input. -/
def fnReadFileWrong : ChangeSpec := { name := "fnReadFile", fn := fun _ => fun
  | [d] => { results := [.lit (.bool false)], args := [d] }
  | _ => none }
def FnReadFileWrongFalsely : Prop := fnReadFileRow.holds Tryz.pinned (OpenSpec.ofChange fnReadFileWrong)

/-- 'laws.FnStoreFiles': WHATEVER THE INPUT: true; the input reads as it did. -/
def fnStoreFilesSpec : ChangeSpec := { name := "fnStoreFiles", fn := fun _ => fun
  | [d] => { results := [.lit (.bool true)], args := [d] }
  | _ => none }
def fnStoreFilesRow : OpenClaim := { program := "ytinncdollpajkaagreat", sum := "1b3beb73fc7862050e7370593ef8ce33491490799ef56ee2386fb8c42005405d", func := "loop.example/soughtstreams/laws.FnStoreFiles", spec := "fnStoreFiles", inPlace := ["internal/abi.NoEscape", "internal/bytealg.MakeNoZero"], recurses := true, apart := false }
def FnStoreFilesSaid : Prop := fnStoreFilesRow.holds Tryz.pinned (OpenSpec.ofChange fnStoreFilesSpec)

/-- ITS FALSE NEIGHBOUR: 'it returns false'. Refute it at one input. -/
def fnStoreFilesWrong : ChangeSpec := { name := "fnStoreFiles", fn := fun _ => fun
  | [d] => { results := [.lit (.bool false)], args := [d] }
  | _ => none }
def FnStoreFilesWrongFalsely : Prop := fnStoreFilesRow.holds Tryz.pinned (OpenSpec.ofChange fnStoreFilesWrong)

/-- 'laws.FnExactApplyOp': WHATEVER THE INPUT: true; the input reads as it did. -/
def fnExactApplyOpSpec : ChangeSpec := { name := "fnExactApplyOp", fn := fun _ => fun
  | [d1, d2] => { results := [.lit (.bool true)], args := [d1, d2] }
  | _ => none }
def fnExactApplyOpRow : OpenClaim := { program := "ytinncdollpajkaagreat", sum := "1b3beb73fc7862050e7370593ef8ce33491490799ef56ee2386fb8c42005405d", func := "loop.example/soughtstreams/laws.FnExactApplyOp", spec := "fnExactApplyOp", inPlace := ["internal/abi.NoEscape", "slices.overlaps[loop.example/soughtstreams/impl.File]"], recurses := true, apart := false }
def FnExactApplyOpSaid : Prop := fnExactApplyOpRow.holds Tryz.pinned (OpenSpec.ofChange fnExactApplyOpSpec)

/-- ITS FALSE NEIGHBOUR: 'it returns false'. Refute it at one input. -/
def fnExactApplyOpWrong : ChangeSpec := { name := "fnExactApplyOp", fn := fun _ => fun
  | [d1, d2] => { results := [.lit (.bool false)], args := [d1, d2] }
  | _ => none }
def FnExactApplyOpWrongFalsely : Prop := fnExactApplyOpRow.holds Tryz.pinned (OpenSpec.ofChange fnExactApplyOpWrong)

/-- 'laws.FnApplyOthers': WHATEVER THE INPUT: true; the input reads as it did. -/
def fnApplyOthersSpec : ChangeSpec := { name := "fnApplyOthers", fn := fun _ => fun
  | [d] => { results := [.lit (.bool true)], args := [d] }
  | _ => none }
def fnApplyOthersRow : OpenClaim := { program := "ytinncdollpajkaagreat", sum := "1b3beb73fc7862050e7370593ef8ce33491490799ef56ee2386fb8c42005405d", func := "loop.example/soughtstreams/laws.FnApplyOthers", spec := "fnApplyOthers", inPlace := ["internal/abi.NoEscape", "slices.overlaps[loop.example/soughtstreams/impl.File]"], recurses := true, apart := false }
def FnApplyOthersSaid : Prop := fnApplyOthersRow.holds Tryz.pinned (OpenSpec.ofChange fnApplyOthersSpec)

/-- ITS FALSE NEIGHBOUR: 'it returns false'. Refute it at one input. -/
def fnApplyOthersWrong : ChangeSpec := { name := "fnApplyOthers", fn := fun _ => fun
  | [d] => { results := [.lit (.bool false)], args := [d] }
  | _ => none }
def FnApplyOthersWrongFalsely : Prop := fnApplyOthersRow.holds Tryz.pinned (OpenSpec.ofChange fnApplyOthersWrong)

/-- 'laws.FnApplyValid': WHATEVER THE INPUT: true; the input reads as it did. -/
def fnApplyValidSpec : ChangeSpec := { name := "fnApplyValid", fn := fun _ => fun
  | [d] => { results := [.lit (.bool true)], args := [d] }
  | _ => none }
def fnApplyValidRow : OpenClaim := { program := "ytinncdollpajkaagreat", sum := "1b3beb73fc7862050e7370593ef8ce33491490799ef56ee2386fb8c42005405d", func := "loop.example/soughtstreams/laws.FnApplyValid", spec := "fnApplyValid", inPlace := ["internal/abi.NoEscape", "slices.overlaps[loop.example/soughtstreams/impl.File]"], recurses := true, apart := false }
def FnApplyValidSaid : Prop := fnApplyValidRow.holds Tryz.pinned (OpenSpec.ofChange fnApplyValidSpec)

/-- ITS FALSE NEIGHBOUR: 'it returns false'. Refute it at one input. -/
def fnApplyValidWrong : ChangeSpec := { name := "fnApplyValid", fn := fun _ => fun
  | [d] => { results := [.lit (.bool false)], args := [d] }
  | _ => none }
def FnApplyValidWrongFalsely : Prop := fnApplyValidRow.holds Tryz.pinned (OpenSpec.ofChange fnApplyValidWrong)

/-- 'laws.FnApplyData': WHATEVER THE INPUT: true; the input reads as it did. -/
def fnApplyDataSpec : ChangeSpec := { name := "fnApplyData", fn := fun _ => fun
  | [d] => { results := [.lit (.bool true)], args := [d] }
  | _ => none }
def fnApplyDataRow : OpenClaim := { program := "ytinncdollpajkaagreat", sum := "1b3beb73fc7862050e7370593ef8ce33491490799ef56ee2386fb8c42005405d", func := "loop.example/soughtstreams/laws.FnApplyData", spec := "fnApplyData", inPlace := ["internal/abi.NoEscape", "slices.overlaps[loop.example/soughtstreams/impl.File]"], recurses := true, apart := false }
def FnApplyDataSaid : Prop := fnApplyDataRow.holds Tryz.pinned (OpenSpec.ofChange fnApplyDataSpec)

/-- ITS FALSE NEIGHBOUR: 'it returns false'. Refute it at one input. -/
def fnApplyDataWrong : ChangeSpec := { name := "fnApplyData", fn := fun _ => fun
  | [d] => { results := [.lit (.bool false)], args := [d] }
  | _ => none }
def FnApplyDataWrongFalsely : Prop := fnApplyDataRow.holds Tryz.pinned (OpenSpec.ofChange fnApplyDataWrong)

/- THE SECOND FORM. 'bulk': how many values and letters a reading holds, each counted each time it is reached (what is shared counts as often as it is met; a slice's spare places count too). A statement '..UptoSaid' is the law's where the arguments, and the package variables that the reading takes, are together of bulk at most 1048576: NARROWER than '..Said'. Prove '..Said' where nothing that the law and all that it calls make is longer than what came in: it says more and counts as full. Else prove '..UptoSaid'. A law counts once. -/
mutual
def uptoBulk {H : Type} : DataW H → Nat
  | .lit (.string bytes) => bytes.length + 1
  | .lit _ => 1
  | .nil => 1
  | .ptr d => uptoBulk d + 1
  | .slice elems spare => uptoBulkAll elems + uptoBulkAll spare + 1
  | .agg parts => uptoBulkAll parts + 1
  | .iface _ d => uptoBulk d + 1
  | .map entries => uptoBulkEntries entries + 1
  | .held _ => 1
def uptoBulkAll {H : Type} : List (DataW H) → Nat
  | [] => 0
  | d :: r => uptoBulk d + uptoBulkAll r
def uptoBulkEntries {H : Type} : List (Lit × DataW H) → Nat
  | [] => 0
  | x :: r => uptoBulkEntry x + uptoBulkEntries r
def uptoBulkEntry {H : Type} : Lit × DataW H → Nat
  | (.string bytes, d) => bytes.length + uptoBulk d + 1
  | (_, d) => uptoBulk d + 1
 end
def uptoSmall : (H : Type) → List (DataW H) → Bool := fun _ ds => decide (uptoBulkAll ds ≤ 1048576)
def OpenSpec.upto (s : _root_.Go.ChangeSpec) : _root_.Go.OpenSpec := { _root_.Go.OpenSpec.ofChange s with cond := some uptoSmall }

/-- 'laws.FnReadFile', WHERE WHAT IT READS IS OF BULK AT MOST 1048576: true; the input reads as it did. -/
def fnReadFileUptoRow : OpenClaim := { program := "ytinncdollpajkaagreat", sum := "1b3beb73fc7862050e7370593ef8ce33491490799ef56ee2386fb8c42005405d", func := "loop.example/soughtstreams/laws.FnReadFile", spec := "fnReadFile", inPlace := ["internal/abi.NoEscape"], recurses := true, apart := false, narrowed := true }
def FnReadFileUptoSaid : Prop := fnReadFileUptoRow.holds Tryz.pinned (OpenSpec.upto fnReadFileSpec)

/-- 'laws.FnStoreFiles', WHERE WHAT IT READS IS OF BULK AT MOST 1048576: true; the input reads as it did. -/
def fnStoreFilesUptoRow : OpenClaim := { program := "ytinncdollpajkaagreat", sum := "1b3beb73fc7862050e7370593ef8ce33491490799ef56ee2386fb8c42005405d", func := "loop.example/soughtstreams/laws.FnStoreFiles", spec := "fnStoreFiles", inPlace := ["internal/abi.NoEscape", "internal/bytealg.MakeNoZero"], recurses := true, apart := false, narrowed := true }
def FnStoreFilesUptoSaid : Prop := fnStoreFilesUptoRow.holds Tryz.pinned (OpenSpec.upto fnStoreFilesSpec)

/-- 'laws.FnExactApplyOp', WHERE WHAT IT READS IS OF BULK AT MOST 1048576: true; the input reads as it did. -/
def fnExactApplyOpUptoRow : OpenClaim := { program := "ytinncdollpajkaagreat", sum := "1b3beb73fc7862050e7370593ef8ce33491490799ef56ee2386fb8c42005405d", func := "loop.example/soughtstreams/laws.FnExactApplyOp", spec := "fnExactApplyOp", inPlace := ["internal/abi.NoEscape", "slices.overlaps[loop.example/soughtstreams/impl.File]"], recurses := true, apart := false, narrowed := true }
def FnExactApplyOpUptoSaid : Prop := fnExactApplyOpUptoRow.holds Tryz.pinned (OpenSpec.upto fnExactApplyOpSpec)

/-- 'laws.FnApplyOthers', WHERE WHAT IT READS IS OF BULK AT MOST 1048576: true; the input reads as it did. -/
def fnApplyOthersUptoRow : OpenClaim := { program := "ytinncdollpajkaagreat", sum := "1b3beb73fc7862050e7370593ef8ce33491490799ef56ee2386fb8c42005405d", func := "loop.example/soughtstreams/laws.FnApplyOthers", spec := "fnApplyOthers", inPlace := ["internal/abi.NoEscape", "slices.overlaps[loop.example/soughtstreams/impl.File]"], recurses := true, apart := false, narrowed := true }
def FnApplyOthersUptoSaid : Prop := fnApplyOthersUptoRow.holds Tryz.pinned (OpenSpec.upto fnApplyOthersSpec)

/-- 'laws.FnApplyValid', WHERE WHAT IT READS IS OF BULK AT MOST 1048576: true; the input reads as it did. -/
def fnApplyValidUptoRow : OpenClaim := { program := "ytinncdollpajkaagreat", sum := "1b3beb73fc7862050e7370593ef8ce33491490799ef56ee2386fb8c42005405d", func := "loop.example/soughtstreams/laws.FnApplyValid", spec := "fnApplyValid", inPlace := ["internal/abi.NoEscape", "slices.overlaps[loop.example/soughtstreams/impl.File]"], recurses := true, apart := false, narrowed := true }
def FnApplyValidUptoSaid : Prop := fnApplyValidUptoRow.holds Tryz.pinned (OpenSpec.upto fnApplyValidSpec)

/-- 'laws.FnApplyData', WHERE WHAT IT READS IS OF BULK AT MOST 1048576: true; the input reads as it did. -/
def fnApplyDataUptoRow : OpenClaim := { program := "ytinncdollpajkaagreat", sum := "1b3beb73fc7862050e7370593ef8ce33491490799ef56ee2386fb8c42005405d", func := "loop.example/soughtstreams/laws.FnApplyData", spec := "fnApplyData", inPlace := ["internal/abi.NoEscape", "slices.overlaps[loop.example/soughtstreams/impl.File]"], recurses := true, apart := false, narrowed := true }
def FnApplyDataUptoSaid : Prop := fnApplyDataUptoRow.holds Tryz.pinned (OpenSpec.upto fnApplyDataSpec)

end Rows
end Go.Proofs.YtinncdollpajkaaGreat
