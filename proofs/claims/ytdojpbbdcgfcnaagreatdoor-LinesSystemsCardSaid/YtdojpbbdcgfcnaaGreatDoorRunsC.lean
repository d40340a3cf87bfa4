import Derived.Test.YtdojpbbdcgfcnaaGreatDoorRunsB
set_option linter.all false
set_option maxRecDepth 100000
namespace Go.Proofs.YtdojpbbdcgfcnaaGreatDoor.AI.T
open Go Go.Proofs.YtdojpbbdcgfcnaaGreatDoor.AI
theorem uRr1 : syssB prg0 100000 100000 ng nd2 76 tRr1 = true := by kernel_rfl
theorem uRr2 : syssB prg0 100000 100000 ng nd2 76 tRr2 = true := by kernel_rfl
theorem uRr3 : syssB prg0 100000 100000 ng nd2 76 tRr3 = true := by kernel_rfl
theorem uRr4 : syssB prg0 100000 100000 ng nd2 76 tRr4 = true := by kernel_rfl
theorem uRr5 : syssB prg0 100000 100000 ng nd2 76 tRr5 = true := by kernel_rfl
theorem uRr6 : syssB prg0 100000 100000 ng nd2 76 tRr6 = true := by kernel_rfl
end Go.Proofs.YtdojpbbdcgfcnaaGreatDoor.AI.T
