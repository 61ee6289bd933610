/-
  No cell of these rows narrows 'for every input' (looked for: loops, veiled, ifaces, maps, wideKeys, modest, calm, conditions, laid).
  DERIVED. THE GIVEN ROWS OF THIS SEAT. 11 by the template 'for every input the law returns true; each argument reads behind the call as it read before'; 0 by the template 'total and deterministic' (their statements: YtoogaalbnnlloaaGreatTotals.lean).
  GIVEN WITH THE SEED: the statements are not yours to turn. If you find one false, say at which input.
  Laid BY PROGRAM, IN A SANDBOX (cutbox-rows.mjs): the forced cells as the released guide's own fill.sh prints them over the translation e51280fa50f111b7… (all of the seat's roots in one cut). By AI agents, Wed Nov 11 2026. No macro, syntax, notation, axiom, sorry.
-/
import Derived.Test.YtoogaalbnnlloaaGreatChecked
import GoSem.Claim
import GoSem.ClaimJoined
import GoSem.ClaimMapViews
import Derived.JoinedTies
import Derived.KernelRfl
namespace Go.Proofs.YtoogaalbnnlloaaGreat
/- THE CELL 'sum', in the pinned program and in every row, IS THE sha256 OF THE DUMP (.gsa) THAT YtoogaalbnnlloaaGreatProg.lean LOADS. Nothing in Lean hashes anything: it is a label: what it is worth is what the hold of that sum in a sandbox is worth. -/
noncomputable def Tryz.pinned : Pinned := { name := "ytoogaalbnnlloaagreat", sum := "e51280fa50f111b7d483a4fc3dd99b34617e78920188812219b7e49337c2af94", checked := Tryz.checked }
namespace Rows
def none {H : Type} : Left H := { results := [], args := [] }

/-- 'laws.FnLost': WHATEVER THE INPUT: true; the input reads as it did. -/
def fnLostSpec : ChangeSpec := { name := "fnLost", fn := fun _ => fun
  | [d] => { results := [.lit (.bool true)], args := [d] }
  | _ => none }
def fnLostRow : OpenClaim := { program := "ytoogaalbnnlloaagreat", sum := "e51280fa50f111b7d483a4fc3dd99b34617e78920188812219b7e49337c2af94", func := "loop.example/soughtstreams/laws.FnLost", spec := "fnLost", inPlace := ["internal/abi.NoEscape", "internal/bytealg.MakeNoZero"], apart := false }
def FnLostSaid : Prop := fnLostRow.holds Tryz.pinned (OpenSpec.ofChange fnLostSpec)

/-- ITS FALSE NEIGHBOUR: 'it returns false'. Refute it at one input. -/
def fnLostWrong : ChangeSpec := { name := "fnLost", fn := fun _ => fun
  | [d] => { results := [.lit (.bool false)], args := [d] }
  | _ => none }
def FnLostWrongFalsely : Prop := fnLostRow.holds Tryz.pinned (OpenSpec.ofChange fnLostWrong)

/-- 'laws.FnExactSalvage': WHATEVER THE INPUT: true; the input reads as it did. -/
def fnExactSalvageSpec : ChangeSpec := { name := "fnExactSalvage", fn := fun _ => fun
  | [d1, d2, d3] => { results := [.lit (.bool true)], args := [d1, d2, d3] }
  | _ => none }
def fnExactSalvageRow : OpenClaim := { program := "ytoogaalbnnlloaagreat", sum := "e51280fa50f111b7d483a4fc3dd99b34617e78920188812219b7e49337c2af94", func := "loop.example/soughtstreams/laws.FnExactSalvage", spec := "fnExactSalvage", recurses := true, apart := false }
def FnExactSalvageSaid : Prop := fnExactSalvageRow.holds Tryz.pinned (OpenSpec.ofChange fnExactSalvageSpec)

/-- ITS FALSE NEIGHBOUR: 'it returns false'. Refute it at one input. -/
def fnExactSalvageWrong : ChangeSpec := { name := "fnExactSalvage", fn := fun _ => fun
  | [d1, d2, d3] => { results := [.lit (.bool false)], args := [d1, d2, d3] }
  | _ => none }
def FnExactSalvageWrongFalsely : Prop := fnExactSalvageRow.holds Tryz.pinned (OpenSpec.ofChange fnExactSalvageWrong)

/-- 'laws.FnExactStoreValid': WHATEVER THE INPUT: true; the input reads as it did. -/
def fnExactStoreValidSpec : ChangeSpec := { name := "fnExactStoreValid", fn := fun _ => fun
  | [d] => { results := [.lit (.bool true)], args := [d] }
  | _ => none }
def fnExactStoreValidRow : OpenClaim := { program := "ytoogaalbnnlloaagreat", sum := "e51280fa50f111b7d483a4fc3dd99b34617e78920188812219b7e49337c2af94", func := "loop.example/soughtstreams/laws.FnExactStoreValid", spec := "fnExactStoreValid", inPlace := ["internal/abi.NoEscape"], recurses := true, apart := false }
def FnExactStoreValidSaid : Prop := fnExactStoreValidRow.holds Tryz.pinned (OpenSpec.ofChange fnExactStoreValidSpec)

/-- ITS FALSE NEIGHBOUR: 'it returns false'. Refute it at one input. -/
def fnExactStoreValidWrong : ChangeSpec := { name := "fnExactStoreValid", fn := fun _ => fun
  | [d] => { results := [.lit (.bool false)], args := [d] }
  | _ => none }
def FnExactStoreValidWrongFalsely : Prop := fnExactStoreValidRow.holds Tryz.pinned (OpenSpec.ofChange fnExactStoreValidWrong)

/-- 'laws.FnExactStoreSize': WHATEVER THE INPUT: true; the input reads as it did. -/
def fnExactStoreSizeSpec : ChangeSpec := { name := "fnExactStoreSize", fn := fun _ => fun
  | [d] => { results := [.lit (.bool true)], args := [d] }
  | _ => none }
def fnExactStoreSizeRow : OpenClaim := { program := "ytoogaalbnnlloaagreat", sum := "e51280fa50f111b7d483a4fc3dd99b34617e78920188812219b7e49337c2af94", func := "loop.example/soughtstreams/laws.FnExactStoreSize", spec := "fnExactStoreSize", inPlace := ["internal/abi.NoEscape"], recurses := true, apart := false }
def FnExactStoreSizeSaid : Prop := fnExactStoreSizeRow.holds Tryz.pinned (OpenSpec.ofChange fnExactStoreSizeSpec)

/-- ITS FALSE NEIGHBOUR: 'it returns false'. Refute it at one input. -/
def fnExactStoreSizeWrong : ChangeSpec := { name := "fnExactStoreSize", fn := fun _ => fun
  | [d] => { results := [.lit (.bool false)], args := [d] }
  | _ => none }
def FnExactStoreSizeWrongFalsely : Prop := fnExactStoreSizeRow.holds Tryz.pinned (OpenSpec.ofChange fnExactStoreSizeWrong)

/-- 'laws.FnFindJunk': WHATEVER THE INPUT: true; the input reads as it did. -/
def fnFindJunkSpec : ChangeSpec := { name := "fnFindJunk", fn := fun _ => fun
  | [d1, d2] => { results := [.lit (.bool true)], args := [d1, d2] }
  | _ => none }
def fnFindJunkRow : OpenClaim := { program := "ytoogaalbnnlloaagreat", sum := "e51280fa50f111b7d483a4fc3dd99b34617e78920188812219b7e49337c2af94", func := "loop.example/soughtstreams/laws.FnFindJunk", spec := "fnFindJunk", recurses := true, apart := false }
def FnFindJunkSaid : Prop := fnFindJunkRow.holds Tryz.pinned (OpenSpec.ofChange fnFindJunkSpec)

/-- ITS FALSE NEIGHBOUR: 'it returns false'. Refute it at one input. -/
def fnFindJunkWrong : ChangeSpec := { name := "fnFindJunk", fn := fun _ => fun
  | [d1, d2] => { results := [.lit (.bool false)], args := [d1, d2] }
  | _ => none }
def FnFindJunkWrongFalsely : Prop := fnFindJunkRow.holds Tryz.pinned (OpenSpec.ofChange fnFindJunkWrong)

/-- 'laws.FnExactFileOf': WHATEVER THE INPUT: true; the input reads as it did. -/
def fnExactFileOfSpec : ChangeSpec := { name := "fnExactFileOf", fn := fun _ => fun
  | [d1, d2] => { results := [.lit (.bool true)], args := [d1, d2] }
  | _ => none }
def fnExactFileOfRow : OpenClaim := { program := "ytoogaalbnnlloaagreat", sum := "e51280fa50f111b7d483a4fc3dd99b34617e78920188812219b7e49337c2af94", func := "loop.example/soughtstreams/laws.FnExactFileOf", spec := "fnExactFileOf", inPlace := ["internal/abi.NoEscape"], recurses := true, apart := false }
def FnExactFileOfSaid : Prop := fnExactFileOfRow.holds Tryz.pinned (OpenSpec.ofChange fnExactFileOfSpec)

/-- ITS FALSE NEIGHBOUR: 'it returns false'. Refute it at one input. -/
def fnExactFileOfWrong : ChangeSpec := { name := "fnExactFileOf", fn := fun _ => fun
  | [d1, d2] => { results := [.lit (.bool false)], args := [d1, d2] }
  | _ => none }
def FnExactFileOfWrongFalsely : Prop := fnExactFileOfRow.holds Tryz.pinned (OpenSpec.ofChange fnExactFileOfWrong)

/-- 'laws.FnExactReadFile': WHATEVER THE INPUT: true; the input reads as it did. -/
def fnExactReadFileSpec : ChangeSpec := { name := "fnExactReadFile", fn := fun _ => fun
  | [d1, d2, d3, d4] => { results := [.lit (.bool true)], args := [d1, d2, d3, d4] }
  | _ => none }
def fnExactReadFileRow : OpenClaim := { program := "ytoogaalbnnlloaagreat", sum := "e51280fa50f111b7d483a4fc3dd99b34617e78920188812219b7e49337c2af94", func := "loop.example/soughtstreams/laws.FnExactReadFile", spec := "fnExactReadFile", inPlace := ["internal/abi.NoEscape"], recurses := true, apart := false }
def FnExactReadFileSaid : Prop := fnExactReadFileRow.holds Tryz.pinned (OpenSpec.ofChange fnExactReadFileSpec)

/-- ITS FALSE NEIGHBOUR: 'it returns false'. Refute it at one input. -/
def fnExactReadFileWrong : ChangeSpec := { name := "fnExactReadFile", fn := fun _ => fun
  | [d1, d2, d3, d4] => { results := [.lit (.bool false)], args := [d1, d2, d3, d4] }
  | _ => none }
def FnExactReadFileWrongFalsely : Prop := fnExactReadFileRow.holds Tryz.pinned (OpenSpec.ofChange fnExactReadFileWrong)

/-- 'laws.FnExactFormatStore': WHATEVER THE INPUT: true; the input reads as it did. -/
def fnExactFormatStoreSpec : ChangeSpec := { name := "fnExactFormatStore", fn := fun _ => fun
  | [d] => { results := [.lit (.bool true)], args := [d] }
  | _ => none }
def fnExactFormatStoreRow : OpenClaim := { program := "ytoogaalbnnlloaagreat", sum := "e51280fa50f111b7d483a4fc3dd99b34617e78920188812219b7e49337c2af94", func := "loop.example/soughtstreams/laws.FnExactFormatStore", spec := "fnExactFormatStore", inPlace := ["internal/abi.NoEscape", "internal/bytealg.MakeNoZero"], recurses := true, apart := false }
def FnExactFormatStoreSaid : Prop := fnExactFormatStoreRow.holds Tryz.pinned (OpenSpec.ofChange fnExactFormatStoreSpec)

/-- ITS FALSE NEIGHBOUR: 'it returns false'. Refute it at one input. -/
def fnExactFormatStoreWrong : ChangeSpec := { name := "fnExactFormatStore", fn := fun _ => fun
  | [d] => { results := [.lit (.bool false)], args := [d] }
  | _ => none }
def FnExactFormatStoreWrongFalsely : Prop := fnExactFormatStoreRow.holds Tryz.pinned (OpenSpec.ofChange fnExactFormatStoreWrong)

/-- 'laws.FnRepairWhole': WHATEVER THE INPUT: true; the input reads as it did. -/
def fnRepairWholeSpec : ChangeSpec := { name := "fnRepairWhole", fn := fun _ => fun
  | [d1, d2] => { results := [.lit (.bool true)], args := [d1, d2] }
  | _ => none }
def fnRepairWholeRow : OpenClaim := { program := "ytoogaalbnnlloaagreat", sum := "e51280fa50f111b7d483a4fc3dd99b34617e78920188812219b7e49337c2af94", func := "loop.example/soughtstreams/laws.FnRepairWhole", spec := "fnRepairWhole", inPlace := ["internal/abi.NoEscape"], recurses := true, apart := false }
def FnRepairWholeSaid : Prop := fnRepairWholeRow.holds Tryz.pinned (OpenSpec.ofChange fnRepairWholeSpec)

/-- ITS FALSE NEIGHBOUR: 'it returns false'. Refute it at one input. -/
def fnRepairWholeWrong : ChangeSpec := { name := "fnRepairWhole", fn := fun _ => fun
  | [d1, d2] => { results := [.lit (.bool false)], args := [d1, d2] }
  | _ => none }
def FnRepairWholeWrongFalsely : Prop := fnRepairWholeRow.holds Tryz.pinned (OpenSpec.ofChange fnRepairWholeWrong)

/-- 'laws.FnSalvageTrue': WHATEVER THE INPUT: true; the input reads as it did. -/
def fnSalvageTrueSpec : ChangeSpec := { name := "fnSalvageTrue", fn := fun _ => fun
  | [d] => { results := [.lit (.bool true)], args := [d] }
  | _ => none }
def fnSalvageTrueRow : OpenClaim := { program := "ytoogaalbnnlloaagreat", sum := "e51280fa50f111b7d483a4fc3dd99b34617e78920188812219b7e49337c2af94", func := "loop.example/soughtstreams/laws.FnSalvageTrue", spec := "fnSalvageTrue", recurses := true, apart := false }
def FnSalvageTrueSaid : Prop := fnSalvageTrueRow.holds Tryz.pinned (OpenSpec.ofChange fnSalvageTrueSpec)

/-- ITS FALSE NEIGHBOUR: 'it returns false'. Refute it at one input. -/
def fnSalvageTrueWrong : ChangeSpec := { name := "fnSalvageTrue", fn := fun _ => fun
  | [d] => { results := [.lit (.bool false)], args := [d] }
  | _ => none }
def FnSalvageTrueWrongFalsely : Prop := fnSalvageTrueRow.holds Tryz.pinned (OpenSpec.ofChange fnSalvageTrueWrong)

/-- 'laws.FnFindAll': WHATEVER THE INPUT: true; the input reads as it did. -/
def fnFindAllSpec : ChangeSpec := { name := "fnFindAll", fn := fun _ => fun
  | [d] => { results := [.lit (.bool true)], args := [d] }
  | _ => none }
def fnFindAllRow : OpenClaim := { program := "ytoogaalbnnlloaagreat", sum := "e51280fa50f111b7d483a4fc3dd99b34617e78920188812219b7e49337c2af94", func := "loop.example/soughtstreams/laws.FnFindAll", spec := "fnFindAll", inPlace := ["internal/abi.NoEscape", "internal/bytealg.MakeNoZero"], recurses := true, apart := false }
def FnFindAllSaid : Prop := fnFindAllRow.holds Tryz.pinned (OpenSpec.ofChange fnFindAllSpec)

/-- ITS FALSE NEIGHBOUR: 'it returns false'. Refute it at one input. -/
def fnFindAllWrong : ChangeSpec := { name := "fnFindAll", fn := fun _ => fun
  | [d] => { results := [.lit (.bool false)], args := [d] }
  | _ => none }
def FnFindAllWrongFalsely : Prop := fnFindAllRow.holds Tryz.pinned (OpenSpec.ofChange fnFindAllWrong)

/- THE SECOND FORM. 'bulk': how many values and letters a reading holds, each counted each time it is reached (what is shared counts as often as it is met; a slice's spare places count too). A statement '..UptoSaid' is the law's where the arguments, and the package variables that the reading takes, are together of bulk at most 1048576: NARROWER than '..Said'. Prove '..Said' where nothing that the law and all that it calls make is longer than what came in: it says more and counts as full. Else prove '..UptoSaid'. A law counts once. -/
mutual
def uptoBulk {H : Type} : DataW H → Nat
  | .lit (.string bytes) => bytes.length + 1
  | .lit _ => 1
  | .nil => 1
  | .ptr d => uptoBulk d + 1
  | .slice elems spare => uptoBulkAll elems + uptoBulkAll spare + 1
  | .agg parts => uptoBulkAll parts + 1
  | .iface _ d => uptoBulk d + 1
  | .map entries => uptoBulkEntries entries + 1
  | .held _ => 1
def uptoBulkAll {H : Type} : List (DataW H) → Nat
  | [] => 0
  | d :: r => uptoBulk d + uptoBulkAll r
def uptoBulkEntries {H : Type} : List (Lit × DataW H) → Nat
  | [] => 0
  | x :: r => uptoBulkEntry x + uptoBulkEntries r
def uptoBulkEntry {H : Type} : Lit × DataW H → Nat
  | (.string bytes, d) => bytes.length + uptoBulk d + 1
  | (_, d) => uptoBulk d + 1
 end
def uptoSmall : (H : Type) → List (DataW H) → Bool := fun _ ds => decide (uptoBulkAll ds ≤ 1048576)
def OpenSpec.upto (s : _root_.Go.ChangeSpec) : _root_.Go.OpenSpec := { _root_.Go.OpenSpec.ofChange s with cond := some uptoSmall }

/-- 'laws.FnLost', WHERE WHAT IT READS IS OF BULK AT MOST 1048576: true; the input reads as it did. -/
def fnLostUptoRow : OpenClaim := { program := "ytoogaalbnnlloaagreat", sum := "e51280fa50f111b7d483a4fc3dd99b34617e78920188812219b7e49337c2af94", func := "loop.example/soughtstreams/laws.FnLost", spec := "fnLost", inPlace := ["internal/abi.NoEscape", "internal/bytealg.MakeNoZero"], apart := false, narrowed := true }
def FnLostUptoSaid : Prop := fnLostUptoRow.holds Tryz.pinned (OpenSpec.upto fnLostSpec)

/-- 'laws.FnExactSalvage', WHERE WHAT IT READS IS OF BULK AT MOST 1048576: true; the input reads as it did. -/
def fnExactSalvageUptoRow : OpenClaim := { program := "ytoogaalbnnlloaagreat", sum := "e51280fa50f111b7d483a4fc3dd99b34617e78920188812219b7e49337c2af94", func := "loop.example/soughtstreams/laws.FnExactSalvage", spec := "fnExactSalvage", recurses := true, apart := false, narrowed := true }
def FnExactSalvageUptoSaid : Prop := fnExactSalvageUptoRow.holds Tryz.pinned (OpenSpec.upto fnExactSalvageSpec)

/-- 'laws.FnExactStoreValid', WHERE WHAT IT READS IS OF BULK AT MOST 1048576: true; the input reads as it did. -/
def fnExactStoreValidUptoRow : OpenClaim := { program := "ytoogaalbnnlloaagreat", sum := "e51280fa50f111b7d483a4fc3dd99b34617e78920188812219b7e49337c2af94", func := "loop.example/soughtstreams/laws.FnExactStoreValid", spec := "fnExactStoreValid", inPlace := ["internal/abi.NoEscape"], recurses := true, apart := false, narrowed := true }
def FnExactStoreValidUptoSaid : Prop := fnExactStoreValidUptoRow.holds Tryz.pinned (OpenSpec.upto fnExactStoreValidSpec)

/-- 'laws.FnExactStoreSize', WHERE WHAT IT READS IS OF BULK AT MOST 1048576: true; the input reads as it did. -/
def fnExactStoreSizeUptoRow : OpenClaim := { program := "ytoogaalbnnlloaagreat", sum := "e51280fa50f111b7d483a4fc3dd99b34617e78920188812219b7e49337c2af94", func := "loop.example/soughtstreams/laws.FnExactStoreSize", spec := "fnExactStoreSize", inPlace := ["internal/abi.NoEscape"], recurses := true, apart := false, narrowed := true }
def FnExactStoreSizeUptoSaid : Prop := fnExactStoreSizeUptoRow.holds Tryz.pinned (OpenSpec.upto fnExactStoreSizeSpec)

/-- 'laws.FnFindJunk', WHERE WHAT IT READS IS OF BULK AT MOST 1048576: true; the input reads as it did. -/
def fnFindJunkUptoRow : OpenClaim := { program := "ytoogaalbnnlloaagreat", sum := "e51280fa50f111b7d483a4fc3dd99b34617e78920188812219b7e49337c2af94", func := "loop.example/soughtstreams/laws.FnFindJunk", spec := "fnFindJunk", recurses := true, apart := false, narrowed := true }
def FnFindJunkUptoSaid : Prop := fnFindJunkUptoRow.holds Tryz.pinned (OpenSpec.upto fnFindJunkSpec)

/-- 'laws.FnExactFileOf', WHERE WHAT IT READS IS OF BULK AT MOST 1048576: true; the input reads as it did. -/
def fnExactFileOfUptoRow : OpenClaim := { program := "ytoogaalbnnlloaagreat", sum := "e51280fa50f111b7d483a4fc3dd99b34617e78920188812219b7e49337c2af94", func := "loop.example/soughtstreams/laws.FnExactFileOf", spec := "fnExactFileOf", inPlace := ["internal/abi.NoEscape"], recurses := true, apart := false, narrowed := true }
def FnExactFileOfUptoSaid : Prop := fnExactFileOfUptoRow.holds Tryz.pinned (OpenSpec.upto fnExactFileOfSpec)

/-- 'laws.FnExactReadFile', WHERE WHAT IT READS IS OF BULK AT MOST 1048576: true; the input reads as it did. -/
def fnExactReadFileUptoRow : OpenClaim := { program := "ytoogaalbnnlloaagreat", sum := "e51280fa50f111b7d483a4fc3dd99b34617e78920188812219b7e49337c2af94", func := "loop.example/soughtstreams/laws.FnExactReadFile", spec := "fnExactReadFile", inPlace := ["internal/abi.NoEscape"], recurses := true, apart := false, narrowed := true }
def FnExactReadFileUptoSaid : Prop := fnExactReadFileUptoRow.holds Tryz.pinned (OpenSpec.upto fnExactReadFileSpec)

/-- 'laws.FnExactFormatStore', WHERE WHAT IT READS IS OF BULK AT MOST 1048576: true; the input reads as it did. -/
def fnExactFormatStoreUptoRow : OpenClaim := { program := "ytoogaalbnnlloaagreat", sum := "e51280fa50f111b7d483a4fc3dd99b34617e78920188812219b7e49337c2af94", func := "loop.example/soughtstreams/laws.FnExactFormatStore", spec := "fnExactFormatStore", inPlace := ["internal/abi.NoEscape", "internal/bytealg.MakeNoZero"], recurses := true, apart := false, narrowed := true }
def FnExactFormatStoreUptoSaid : Prop := fnExactFormatStoreUptoRow.holds Tryz.pinned (OpenSpec.upto fnExactFormatStoreSpec)

/-- 'laws.FnRepairWhole', WHERE WHAT IT READS IS OF BULK AT MOST 1048576: true; the input reads as it did. -/
def fnRepairWholeUptoRow : OpenClaim := { program := "ytoogaalbnnlloaagreat", sum := "e51280fa50f111b7d483a4fc3dd99b34617e78920188812219b7e49337c2af94", func := "loop.example/soughtstreams/laws.FnRepairWhole", spec := "fnRepairWhole", inPlace := ["internal/abi.NoEscape"], recurses := true, apart := false, narrowed := true }
def FnRepairWholeUptoSaid : Prop := fnRepairWholeUptoRow.holds Tryz.pinned (OpenSpec.upto fnRepairWholeSpec)

/-- 'laws.FnSalvageTrue', WHERE WHAT IT READS IS OF BULK AT MOST 1048576: true; the input reads as it did. -/
def fnSalvageTrueUptoRow : OpenClaim := { program := "ytoogaalbnnlloaagreat", sum := "e51280fa50f111b7d483a4fc3dd99b34617e78920188812219b7e49337c2af94", func := "loop.example/soughtstreams/laws.FnSalvageTrue", spec := "fnSalvageTrue", recurses := true, apart := false, narrowed := true }
def FnSalvageTrueUptoSaid : Prop := fnSalvageTrueUptoRow.holds Tryz.pinned (OpenSpec.upto fnSalvageTrueSpec)

/-- 'laws.FnFindAll', WHERE WHAT IT READS IS OF BULK AT MOST 1048576: true; the input reads as it did. -/
def fnFindAllUptoRow : OpenClaim := { program := "ytoogaalbnnlloaagreat", sum := "e51280fa50f111b7d483a4fc3dd99b34617e78920188812219b7e49337c2af94", func := "loop.example/soughtstreams/laws.FnFindAll", spec := "fnFindAll", inPlace := ["internal/abi.NoEscape", "internal/bytealg.MakeNoZero"], recurses := true, apart := false, narrowed := true }
def FnFindAllUptoSaid : Prop := fnFindAllUptoRow.holds Tryz.pinned (OpenSpec.upto fnFindAllSpec)

end Rows
end Go.Proofs.YtoogaalbnnlloaaGreat
