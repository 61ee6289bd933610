/-
  No cell of these rows narrows 'for every input' (looked for: loops, veiled, ifaces, maps, wideKeys, modest, calm, conditions, laid).
  DERIVED. THE GIVEN ROWS OF THIS SEAT. 8 by the template 'for every input the law returns true; each argument reads behind the call as it read before'; 0 by the template 'total and deterministic' (their statements: YtgcjfddkgbigoaaTotals.lean).
  GIVEN WITH THE SEED: the statements are not yours to turn. If you find one false, say at which input.
  Laid BY PROGRAM, IN A SANDBOX (cutbox-rows.mjs): the forced cells as the released guide's own fill.sh prints them over the translation 67ccdad6ff5ef430… (all of the seat's roots in one cut). By AI agents, Wed Nov 11 2026. No macro, syntax, notation, axiom, sorry.
-/
import Derived.Test.YtgcjfddkgbigoaaChecked
import GoSem.Claim
import GoSem.ClaimJoined
import GoSem.ClaimMapViews
import Derived.JoinedTies
import Derived.KernelRfl
namespace Go.Proofs.Ytgcjfddkgbigoaa
/- THE CELL 'sum', in the pinned program and in every row, IS THE sha256 OF THE DUMP (.gsa) THAT YtgcjfddkgbigoaaProg.lean LOADS. Nothing in Lean hashes anything: it is a label: what it is worth is what the hold of that sum in a sandbox is worth. -/
noncomputable def Try.pinned : Pinned := { name := "ytgcjfddkgbigoaa", sum := "67ccdad6ff5ef4307d31247699f0b965bfcdc446d807eadc7c11158bded15672", checked := Try.checked }
namespace Rows
def none {H : Type} : Left H := { results := [], args := [] }

/-- 'laws.FnChangeByte': WHATEVER THE INPUT: true; the input reads as it did. -/
def fnChangeByteSpec : ChangeSpec := { name := "fnChangeByte", fn := fun _ => fun
  | [d] => { results := [.lit (.bool true)], args := [d] }
  | _ => none }
def fnChangeByteRow : OpenClaim := { program := "ytgcjfddkgbigoaa", sum := "67ccdad6ff5ef4307d31247699f0b965bfcdc446d807eadc7c11158bded15672", func := "loop.example/soughtstreams/laws.FnChangeByte", spec := "fnChangeByte", apart := false }
def FnChangeByteSaid : Prop := fnChangeByteRow.holds Try.pinned (OpenSpec.ofChange fnChangeByteSpec)

/-- ITS FALSE NEIGHBOUR: 'it returns false'. Refute it at one input. -/
def fnChangeByteWrong : ChangeSpec := { name := "fnChangeByte", fn := fun _ => fun
  | [d] => { results := [.lit (.bool false)], args := [d] }
  | _ => none }
def FnChangeByteWrongFalsely : Prop := fnChangeByteRow.holds Try.pinned (OpenSpec.ofChange fnChangeByteWrong)

/-- 'laws.FnDropRepeat': WHATEVER THE INPUT: true; the input reads as it did. -/
def fnDropRepeatSpec : ChangeSpec := { name := "fnDropRepeat", fn := fun _ => fun
  | [d] => { results := [.lit (.bool true)], args := [d] }
  | _ => none }
def fnDropRepeatRow : OpenClaim := { program := "ytgcjfddkgbigoaa", sum := "67ccdad6ff5ef4307d31247699f0b965bfcdc446d807eadc7c11158bded15672", func := "loop.example/soughtstreams/laws.FnDropRepeat", spec := "fnDropRepeat", apart := false }
def FnDropRepeatSaid : Prop := fnDropRepeatRow.holds Try.pinned (OpenSpec.ofChange fnDropRepeatSpec)

/-- ITS FALSE NEIGHBOUR: 'it returns false'. Refute it at one input. -/
def fnDropRepeatWrong : ChangeSpec := { name := "fnDropRepeat", fn := fun _ => fun
  | [d] => { results := [.lit (.bool false)], args := [d] }
  | _ => none }
def FnDropRepeatWrongFalsely : Prop := fnDropRepeatRow.holds Try.pinned (OpenSpec.ofChange fnDropRepeatWrong)

/-- 'laws.FnNextBlock': WHATEVER THE INPUT: true; the input reads as it did. -/
def fnNextBlockSpec : ChangeSpec := { name := "fnNextBlock", fn := fun _ => fun
  | [d] => { results := [.lit (.bool true)], args := [d] }
  | _ => none }
def fnNextBlockRow : OpenClaim := { program := "ytgcjfddkgbigoaa", sum := "67ccdad6ff5ef4307d31247699f0b965bfcdc446d807eadc7c11158bded15672", func := "loop.example/soughtstreams/laws.FnNextBlock", spec := "fnNextBlock", apart := false }
def FnNextBlockSaid : Prop := fnNextBlockRow.holds Try.pinned (OpenSpec.ofChange fnNextBlockSpec)

/-- ITS FALSE NEIGHBOUR: 'it returns false'. Refute it at one input. -/
def fnNextBlockWrong : ChangeSpec := { name := "fnNextBlock", fn := fun _ => fun
  | [d] => { results := [.lit (.bool false)], args := [d] }
  | _ => none }
def FnNextBlockWrongFalsely : Prop := fnNextBlockRow.holds Try.pinned (OpenSpec.ofChange fnNextBlockWrong)

/-- 'laws.FnFindBlocks': WHATEVER THE INPUT: true; the input reads as it did. -/
def fnFindBlocksSpec : ChangeSpec := { name := "fnFindBlocks", fn := fun _ => fun
  | [d] => { results := [.lit (.bool true)], args := [d] }
  | _ => none }
def fnFindBlocksRow : OpenClaim := { program := "ytgcjfddkgbigoaa", sum := "67ccdad6ff5ef4307d31247699f0b965bfcdc446d807eadc7c11158bded15672", func := "loop.example/soughtstreams/laws.FnFindBlocks", spec := "fnFindBlocks", apart := false }
def FnFindBlocksSaid : Prop := fnFindBlocksRow.holds Try.pinned (OpenSpec.ofChange fnFindBlocksSpec)

/-- ITS FALSE NEIGHBOUR: 'it returns false'. Refute it at one input. -/
def fnFindBlocksWrong : ChangeSpec := { name := "fnFindBlocks", fn := fun _ => fun
  | [d] => { results := [.lit (.bool false)], args := [d] }
  | _ => none }
def FnFindBlocksWrongFalsely : Prop := fnFindBlocksRow.holds Try.pinned (OpenSpec.ofChange fnFindBlocksWrong)

/-- 'laws.FnChangeLocal': WHATEVER THE INPUT: true; the input reads as it did. -/
def fnChangeLocalSpec : ChangeSpec := { name := "fnChangeLocal", fn := fun _ => fun
  | [d] => { results := [.lit (.bool true)], args := [d] }
  | _ => none }
def fnChangeLocalRow : OpenClaim := { program := "ytgcjfddkgbigoaa", sum := "67ccdad6ff5ef4307d31247699f0b965bfcdc446d807eadc7c11158bded15672", func := "loop.example/soughtstreams/laws.FnChangeLocal", spec := "fnChangeLocal", apart := false }
def FnChangeLocalSaid : Prop := fnChangeLocalRow.holds Try.pinned (OpenSpec.ofChange fnChangeLocalSpec)

/-- ITS FALSE NEIGHBOUR: 'it returns false'. Refute it at one input. -/
def fnChangeLocalWrong : ChangeSpec := { name := "fnChangeLocal", fn := fun _ => fun
  | [d] => { results := [.lit (.bool false)], args := [d] }
  | _ => none }
def FnChangeLocalWrongFalsely : Prop := fnChangeLocalRow.holds Try.pinned (OpenSpec.ofChange fnChangeLocalWrong)

/-- 'laws.FnCheck': WHATEVER THE INPUT: true; the input reads as it did. -/
def fnCheckSpec : ChangeSpec := { name := "fnCheck", fn := fun _ => fun
  | [d] => { results := [.lit (.bool true)], args := [d] }
  | _ => none }
def fnCheckRow : OpenClaim := { program := "ytgcjfddkgbigoaa", sum := "67ccdad6ff5ef4307d31247699f0b965bfcdc446d807eadc7c11158bded15672", func := "loop.example/soughtstreams/laws.FnCheck", spec := "fnCheck", apart := false }
def FnCheckSaid : Prop := fnCheckRow.holds Try.pinned (OpenSpec.ofChange fnCheckSpec)

/-- ITS FALSE NEIGHBOUR: 'it returns false'. Refute it at one input. -/
def fnCheckWrong : ChangeSpec := { name := "fnCheck", fn := fun _ => fun
  | [d] => { results := [.lit (.bool false)], args := [d] }
  | _ => none }
def FnCheckWrongFalsely : Prop := fnCheckRow.holds Try.pinned (OpenSpec.ofChange fnCheckWrong)

/-- 'laws.FnShuffle': WHATEVER THE INPUT: true; the input reads as it did. -/
def fnShuffleSpec : ChangeSpec := { name := "fnShuffle", fn := fun _ => fun
  | [d] => { results := [.lit (.bool true)], args := [d] }
  | _ => none }
def fnShuffleRow : OpenClaim := { program := "ytgcjfddkgbigoaa", sum := "67ccdad6ff5ef4307d31247699f0b965bfcdc446d807eadc7c11158bded15672", func := "loop.example/soughtstreams/laws.FnShuffle", spec := "fnShuffle", inPlace := ["internal/abi.NoEscape"], apart := false }
def FnShuffleSaid : Prop := fnShuffleRow.holds Try.pinned (OpenSpec.ofChange fnShuffleSpec)

/-- ITS FALSE NEIGHBOUR: 'it returns false'. Refute it at one input. -/
def fnShuffleWrong : ChangeSpec := { name := "fnShuffle", fn := fun _ => fun
  | [d] => { results := [.lit (.bool false)], args := [d] }
  | _ => none }
def FnShuffleWrongFalsely : Prop := fnShuffleRow.holds Try.pinned (OpenSpec.ofChange fnShuffleWrong)

/-- 'laws.FnRebuild': WHATEVER THE INPUT: true; the input reads as it did. -/
def fnRebuildSpec : ChangeSpec := { name := "fnRebuild", fn := fun _ => fun
  | [d] => { results := [.lit (.bool true)], args := [d] }
  | _ => none }
def fnRebuildRow : OpenClaim := { program := "ytgcjfddkgbigoaa", sum := "67ccdad6ff5ef4307d31247699f0b965bfcdc446d807eadc7c11158bded15672", func := "loop.example/soughtstreams/laws.FnRebuild", spec := "fnRebuild", inPlace := ["internal/abi.NoEscape", "internal/bytealg.MakeNoZero"], apart := false }
def FnRebuildSaid : Prop := fnRebuildRow.holds Try.pinned (OpenSpec.ofChange fnRebuildSpec)

/-- ITS FALSE NEIGHBOUR: 'it returns false'. Refute it at one input. -/
def fnRebuildWrong : ChangeSpec := { name := "fnRebuild", fn := fun _ => fun
  | [d] => { results := [.lit (.bool false)], args := [d] }
  | _ => none }
def FnRebuildWrongFalsely : Prop := fnRebuildRow.holds Try.pinned (OpenSpec.ofChange fnRebuildWrong)

/- THE SECOND FORM. 'bulk': how many values and letters a reading holds, each counted each time it is reached (what is shared counts as often as it is met; a slice's spare places count too). A statement '..UptoSaid' is the law's where the arguments, and the package variables that the reading takes, are together of bulk at most 1048576: NARROWER than '..Said'. Prove '..Said' where nothing that the law and all that it calls make is longer than what came in: it says more and counts as full. Else prove '..UptoSaid'. A law counts once. -/
mutual
def uptoBulk {H : Type} : DataW H → Nat
  | .lit (.string bytes) => bytes.length + 1
  | .lit _ => 1
  | .nil => 1
  | .ptr d => uptoBulk d + 1
  | .slice elems spare => uptoBulkAll elems + uptoBulkAll spare + 1
  | .agg parts => uptoBulkAll parts + 1
  | .iface _ d => uptoBulk d + 1
  | .map entries => uptoBulkEntries entries + 1
  | .held _ => 1
def uptoBulkAll {H : Type} : List (DataW H) → Nat
  | [] => 0
  | d :: r => uptoBulk d + uptoBulkAll r
def uptoBulkEntries {H : Type} : List (Lit × DataW H) → Nat
  | [] => 0
  | x :: r => uptoBulkEntry x + uptoBulkEntries r
def uptoBulkEntry {H : Type} : Lit × DataW H → Nat
  | (.string bytes, d) => bytes.length + uptoBulk d + 1
  | (_, d) => uptoBulk d + 1
 end
def uptoSmall : (H : Type) → List (DataW H) → Bool := fun _ ds => decide (uptoBulkAll ds ≤ 1048576)
def OpenSpec.upto (s : _root_.Go.ChangeSpec) : _root_.Go.OpenSpec := { _root_.Go.OpenSpec.ofChange s with cond := some uptoSmall }

/-- 'laws.FnChangeByte', WHERE WHAT IT READS IS OF BULK AT MOST 1048576: true; the input reads as it did. -/
def fnChangeByteUptoRow : OpenClaim := { program := "ytgcjfddkgbigoaa", sum := "67ccdad6ff5ef4307d31247699f0b965bfcdc446d807eadc7c11158bded15672", func := "loop.example/soughtstreams/laws.FnChangeByte", spec := "fnChangeByte", apart := false, narrowed := true }
def FnChangeByteUptoSaid : Prop := fnChangeByteUptoRow.holds Try.pinned (OpenSpec.upto fnChangeByteSpec)

/-- 'laws.FnDropRepeat', WHERE WHAT IT READS IS OF BULK AT MOST 1048576: true; the input reads as it did. -/
def fnDropRepeatUptoRow : OpenClaim := { program := "ytgcjfddkgbigoaa", sum := "67ccdad6ff5ef4307d31247699f0b965bfcdc446d807eadc7c11158bded15672", func := "loop.example/soughtstreams/laws.FnDropRepeat", spec := "fnDropRepeat", apart := false, narrowed := true }
def FnDropRepeatUptoSaid : Prop := fnDropRepeatUptoRow.holds Try.pinned (OpenSpec.upto fnDropRepeatSpec)

/-- 'laws.FnNextBlock', WHERE WHAT IT READS IS OF BULK AT MOST 1048576: true; the input reads as it did. -/
def fnNextBlockUptoRow : OpenClaim := { program := "ytgcjfddkgbigoaa", sum := "67ccdad6ff5ef4307d31247699f0b965bfcdc446d807eadc7c11158bded15672", func := "loop.example/soughtstreams/laws.FnNextBlock", spec := "fnNextBlock", apart := false, narrowed := true }
def FnNextBlockUptoSaid : Prop := fnNextBlockUptoRow.holds Try.pinned (OpenSpec.upto fnNextBlockSpec)

/-- 'laws.FnFindBlocks', WHERE WHAT IT READS IS OF BULK AT MOST 1048576: true; the input reads as it did. -/
def fnFindBlocksUptoRow : OpenClaim := { program := "ytgcjfddkgbigoaa", sum := "67ccdad6ff5ef4307d31247699f0b965bfcdc446d807eadc7c11158bded15672", func := "loop.example/soughtstreams/laws.FnFindBlocks", spec := "fnFindBlocks", apart := false, narrowed := true }
def FnFindBlocksUptoSaid : Prop := fnFindBlocksUptoRow.holds Try.pinned (OpenSpec.upto fnFindBlocksSpec)

/-- 'laws.FnChangeLocal', WHERE WHAT IT READS IS OF BULK AT MOST 1048576: true; the input reads as it did. -/
def fnChangeLocalUptoRow : OpenClaim := { program := "ytgcjfddkgbigoaa", sum := "67ccdad6ff5ef4307d31247699f0b965bfcdc446d807eadc7c11158bded15672", func := "loop.example/soughtstreams/laws.FnChangeLocal", spec := "fnChangeLocal", apart := false, narrowed := true }
def FnChangeLocalUptoSaid : Prop := fnChangeLocalUptoRow.holds Try.pinned (OpenSpec.upto fnChangeLocalSpec)

/-- 'laws.FnCheck', WHERE WHAT IT READS IS OF BULK AT MOST 1048576: true; the input reads as it did. -/
def fnCheckUptoRow : OpenClaim := { program := "ytgcjfddkgbigoaa", sum := "67ccdad6ff5ef4307d31247699f0b965bfcdc446d807eadc7c11158bded15672", func := "loop.example/soughtstreams/laws.FnCheck", spec := "fnCheck", apart := false, narrowed := true }
def FnCheckUptoSaid : Prop := fnCheckUptoRow.holds Try.pinned (OpenSpec.upto fnCheckSpec)

/-- 'laws.FnShuffle', WHERE WHAT IT READS IS OF BULK AT MOST 1048576: true; the input reads as it did. -/
def fnShuffleUptoRow : OpenClaim := { program := "ytgcjfddkgbigoaa", sum := "67ccdad6ff5ef4307d31247699f0b965bfcdc446d807eadc7c11158bded15672", func := "loop.example/soughtstreams/laws.FnShuffle", spec := "fnShuffle", inPlace := ["internal/abi.NoEscape"], apart := false, narrowed := true }
def FnShuffleUptoSaid : Prop := fnShuffleUptoRow.holds Try.pinned (OpenSpec.upto fnShuffleSpec)

/-- 'laws.FnRebuild', WHERE WHAT IT READS IS OF BULK AT MOST 1048576: true; the input reads as it did. -/
def fnRebuildUptoRow : OpenClaim := { program := "ytgcjfddkgbigoaa", sum := "67ccdad6ff5ef4307d31247699f0b965bfcdc446d807eadc7c11158bded15672", func := "loop.example/soughtstreams/laws.FnRebuild", spec := "fnRebuild", inPlace := ["internal/abi.NoEscape", "internal/bytealg.MakeNoZero"], apart := false, narrowed := true }
def FnRebuildUptoSaid : Prop := fnRebuildUptoRow.holds Try.pinned (OpenSpec.upto fnRebuildSpec)

end Rows
end Go.Proofs.Ytgcjfddkgbigoaa
