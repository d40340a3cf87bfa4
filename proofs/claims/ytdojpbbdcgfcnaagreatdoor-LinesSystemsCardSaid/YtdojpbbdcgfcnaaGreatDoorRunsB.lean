import Derived.Test.YtdojpbbdcgfcnaaGreatDoorRunsA
set_option linter.all false
set_option maxRecDepth 100000
namespace Go.Proofs.YtdojpbbdcgfcnaaGreatDoor.AI.T
open Go Go.Proofs.YtdojpbbdcgfcnaaGreatDoor.AI
theorem vSq0 : syssB prg0 100000 100000 ng nd2 80 tSq0 = true := by kernel_rfl
theorem vSq1 : syssB prg0 100000 100000 ng nd2 80 tSq1 = true := by kernel_rfl
theorem vSq2 : syssB prg0 100000 100000 ng nd2 80 tSq2 = true := by kernel_rfl
theorem uSt : syssB prg0 100000 100000 ng nd2 79 tSt = true := by kernel_rfl
theorem vSt : syssB prg0 100000 100000 ng nd2 83 tSt = true := by kernel_rfl
end Go.Proofs.YtdojpbbdcgfcnaaGreatDoor.AI.T
