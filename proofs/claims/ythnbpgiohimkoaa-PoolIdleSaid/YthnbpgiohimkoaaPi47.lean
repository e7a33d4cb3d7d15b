import Derived.Test.YthnbpgiohimkoaaPi46
import Derived.Test.YthnbpgiohimkoaaPi30
import Derived.Test.YthnbpgiohimkoaaPi45
import Derived.Laws.BitsLemmas
set_option linter.unusedVariables false
namespace Go.Proofs.Gv
open Go.Proofs
theorem wrapOf (x : Int) (h0 : -9223372036854775808 ≤ x) (h1 : x ≤ 9223372036854775807) : IntKind.i64.wrap x = x := by
 rw [IntKind.wrap_i64]; omega
def bA (s : List UInt8) (i : Nat) : Int := ((s.getD i 0).toNat : Int)
def numA (s : List UInt8) (n : Nat) : Int :=
 match n with
 | 0 => 0
 | n + 1 => 256 * numA s n + bA s n
end Go.Proofs.Gv
