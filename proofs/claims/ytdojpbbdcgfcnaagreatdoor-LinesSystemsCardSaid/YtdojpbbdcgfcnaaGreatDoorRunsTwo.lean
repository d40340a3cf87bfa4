import Derived.Test.YtdojpbbdcgfcnaaGreatDoorRunsOne
set_option linter.all false
set_option maxRecDepth 100000
namespace Go.Proofs.YtdojpbbdcgfcnaaGreatDoor.AI.T
open Go Go.Proofs.YtdojpbbdcgfcnaaGreatDoor.AI
theorem runAwake : runB prg1 100000 100000 ng nd2 18 ([], .bool true) = true := by kernel_rfl
end Go.Proofs.YtdojpbbdcgfcnaaGreatDoor.AI.T
