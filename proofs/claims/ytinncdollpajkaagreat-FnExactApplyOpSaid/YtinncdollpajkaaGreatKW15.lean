import Derived.Test.YtinncdollpajkaaGreatKW9
import Derived.Test.YtinncdollpajkaaGreatKW3
import Derived.Test.YtinncdollpajkaaGreatKGW
import Derived.Test.YtinncdollpajkaaGreatKShelf
import Derived.Test.YtinncdollpajkaaGreatKGR
import Derived.Lib.AppendIntMem
import Derived.Test.YtinncdollpajkaaGreatKGA
import Derived.Lib.AtoiErrMem
set_option linter.unusedVariables false
set_option linter.unusedSimpArgs false
namespace Go.Proofs.YtinncdollpajkaaGreat
open Go.RowKit
set_option maxRecDepth 100000
attribute [local go_sem high] zy zx zu zS zK yc zA zk zl zq zi zo yO zF yl zD
abbrev OpR.cells (x : OpR) : Array Value := #[.int .i64 x.k, .string ⟨x.nm.toArray⟩, .int .i64 x.f, .int .i64 x.t, .int .i64 x.s, .string ⟨x.d.toArray⟩]
abbrev OpR.val (x : OpR) : Value := .agg x.cells
end Go.Proofs.YtinncdollpajkaaGreat
