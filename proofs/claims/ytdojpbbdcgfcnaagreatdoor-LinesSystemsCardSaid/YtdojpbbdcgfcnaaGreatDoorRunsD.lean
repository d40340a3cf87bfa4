import Derived.Test.YtdojpbbdcgfcnaaGreatDoorRunsC
set_option linter.all false
set_option maxRecDepth 100000
namespace Go.Proofs.YtdojpbbdcgfcnaaGreatDoor.AI.T
open Go Go.Proofs.YtdojpbbdcgfcnaaGreatDoor.AI
theorem uRc1 : syssB prg0 100000 100000 ng nd2 77 tRc1 = true := by kernel_rfl
theorem uRc2 : syssB prg0 100000 100000 ng nd2 77 tRc2 = true := by kernel_rfl
theorem uRc3 : syssB prg0 100000 100000 ng nd2 77 tRc3 = true := by kernel_rfl
theorem uRc4 : syssB prg0 100000 100000 ng nd2 77 tRc4 = true := by kernel_rfl
theorem uRc5 : syssB prg0 100000 100000 ng nd2 77 tRc5 = true := by kernel_rfl
theorem uRc6 : syssB prg0 100000 100000 ng nd2 77 tRc6 = true := by kernel_rfl
end Go.Proofs.YtdojpbbdcgfcnaaGreatDoor.AI.T
