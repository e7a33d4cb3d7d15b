import Derived.Test.YthnbpgiohimkoaaGaFa6
namespace Go.Proofs.Gv
open Go.Proofs
theorem law6 (k c i n s : Int) : FnOK Try.prog 6 [.agg [.int .u8 k, .int .i64 c, .int .i64 i, .int .i64 n, .int .i64 s]] [] (.bool true) [] :=
  (fn_ok mixed plain (gk_ok k26_ok 30) Try.func6 (fun c _ => LoopsOK.none (fun _ _ => rfl) c) (ev6 k c i n s)).2
end Go.Proofs.Gv
