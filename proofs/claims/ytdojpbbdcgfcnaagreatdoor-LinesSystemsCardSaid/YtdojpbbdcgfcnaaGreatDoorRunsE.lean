import Derived.Test.YtdojpbbdcgfcnaaGreatDoorRunsD
set_option linter.all false
set_option maxRecDepth 100000
namespace Go.Proofs.YtdojpbbdcgfcnaaGreatDoor.AI.T
open Go Go.Proofs.YtdojpbbdcgfcnaaGreatDoor.AI
theorem vRr1 : syssB prg0 100000 100000 ng nd2 81 tRr1 = true := by kernel_rfl
theorem vRr2 : syssB prg0 100000 100000 ng nd2 81 tRr2 = true := by kernel_rfl
theorem vRr3 : syssB prg0 100000 100000 ng nd2 81 tRr3 = true := by kernel_rfl
theorem vRr4 : syssB prg0 100000 100000 ng nd2 81 tRr4 = true := by kernel_rfl
theorem vRr5 : syssB prg0 100000 100000 ng nd2 81 tRr5 = true := by kernel_rfl
theorem vRr6 : syssB prg0 100000 100000 ng nd2 81 tRr6 = true := by kernel_rfl
theorem vRc1 : syssB prg0 100000 100000 ng nd2 82 tRc1 = true := by kernel_rfl
theorem vRc2 : syssB prg0 100000 100000 ng nd2 82 tRc2 = true := by kernel_rfl
theorem vRc3 : syssB prg0 100000 100000 ng nd2 82 tRc3 = true := by kernel_rfl
theorem vRc4 : syssB prg0 100000 100000 ng nd2 82 tRc4 = true := by kernel_rfl
theorem vRc5 : syssB prg0 100000 100000 ng nd2 82 tRc5 = true := by kernel_rfl
theorem vRc6 : syssB prg0 100000 100000 ng nd2 82 tRc6 = true := by kernel_rfl
theorem vCu1 : syssB prg0 100000 100000 ng nd2 85 tCu1 = true := by kernel_rfl
theorem vCu2 : syssB prg0 100000 100000 ng nd2 85 tCu2 = true := by kernel_rfl
theorem vCu3 : syssB prg0 100000 100000 ng nd2 85 tCu3 = true := by kernel_rfl
end Go.Proofs.YtdojpbbdcgfcnaaGreatDoor.AI.T
