import Derived.Test.YtdoejdmpmpgmiaaTab
import Derived.KernelRfl
namespace Go.Proofs.Ytdoejdmpmpgmiaa
open Go.Ab Go.Proofs
theorem k2 : evF E 60 7 [] = some (.bool true) := by kernel_rfl
end Go.Proofs.Ytdoejdmpmpgmiaa
