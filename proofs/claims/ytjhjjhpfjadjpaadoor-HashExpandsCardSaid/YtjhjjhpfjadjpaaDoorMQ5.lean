/- Square roots, by computation. -/
import Derived.Test.YtjhjjhpfjadjpaaDoorMQ
namespace Go.Proofs.YtjhjjhpfjadjpaaDoor
set_option linter.all false
open Go
theorem sq0 : (pl0.take 8).map (fun p => fracW p 2) = h512 := by kernel_rfl
theorem sq1 : ((pl0.drop 8).take 8).map (fun p => fracW p 2) = h384 := by kernel_rfl
end Go.Proofs.YtjhjjhpfjadjpaaDoor
