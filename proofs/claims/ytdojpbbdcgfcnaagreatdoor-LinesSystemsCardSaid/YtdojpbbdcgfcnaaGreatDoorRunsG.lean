import Derived.Test.YtdojpbbdcgfcnaaGreatDoorRunsF
set_option linter.all false
set_option maxRecDepth 100000
namespace Go.Proofs.YtdojpbbdcgfcnaaGreatDoor.AI.T
open Go Go.Proofs.YtdojpbbdcgfcnaaGreatDoor.AI
theorem uCu6 : syssB prgI 100000 100000 ng nd2 78 tCu6 = true := by kernel_rfl
end Go.Proofs.YtdojpbbdcgfcnaaGreatDoor.AI.T
