import Derived.Test.YthnbpgiohimkoaaPi45
set_option linter.unusedVariables false
namespace Go.Proofs.Gv
def fs (P : Nat → Bool) (s N : Nat) : Nat := s + (List.range (N - s)).findIdx (fun j => P (s + j))
def hasF (P : Nat → Bool) (s N : Nat) : Bool := decide (fs P s N < N)
variable {P Q : Nat → Bool} {s N i j k : Nat}
def at0 (es : List (List AV)) (i : Nat) : Int := intOf ((es.getD i []).getD 0 .junk)
def inn (es : List (List AV)) (n : Int) : Bool := hasF (fun i => at0 es i == n) 0 es.length
end Go.Proofs.Gv
