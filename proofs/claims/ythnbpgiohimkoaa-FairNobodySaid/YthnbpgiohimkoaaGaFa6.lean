import Derived.Test.YthnbpgiohimkoaaGt
import Derived.KernelRfl
import Derived.Test.YthnbpgiohimkoaaGwF
import Derived.Test.YthnbpgiohimkoaaGaFb
namespace Go.Proofs.Gv
open Go.Proofs
set_option linter.unusedVariables false
theorem ev6 (k : Int) (c : Int) (i : Int) (n : Int) (s : Int) : evFun (cfg Try.prog tab 100000 (gk k26 30) noLsp 6 ([] : List Blk).length Try.f6.ntmps) Try.f6 [.agg [.int .u8 k, .int .i64 c, .int .i64 i, .int .i64 n, .int .i64 s]] [] = some (AV.bool (bif true then true else false), []) := by kernel_rfl
-- spec true ;; (AV.bool (bif true then true else false), [])
-- law 6: loops (fun c _ => LoopsOK.none (fun _ _ => rfl) c) gam k26
end Go.Proofs.Gv
