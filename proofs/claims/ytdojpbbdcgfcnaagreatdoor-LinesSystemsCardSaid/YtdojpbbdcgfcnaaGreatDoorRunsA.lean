import Derived.Test.YtdojpbbdcgfcnaaGreatDoorTables
set_option linter.all false
set_option maxRecDepth 100000
namespace Go.Proofs.YtdojpbbdcgfcnaaGreatDoor.AI.T
open Go Go.Proofs.YtdojpbbdcgfcnaaGreatDoor.AI
theorem uSq0 : syssB prg0 100000 100000 ng nd2 58 tSq0 = true := by kernel_rfl
theorem uSq1 : syssB prg0 100000 100000 ng nd2 58 tSq1 = true := by kernel_rfl
theorem uSq2 : syssB prg0 100000 100000 ng nd2 58 tSq2 = true := by kernel_rfl
end Go.Proofs.YtdojpbbdcgfcnaaGreatDoor.AI.T
