import Derived.Test.YtdojpbbdcgfcnaaGreatDoorRunsE
set_option linter.all false
set_option maxRecDepth 100000
namespace Go.Proofs.YtdojpbbdcgfcnaaGreatDoor.AI.T
open Go Go.Proofs.YtdojpbbdcgfcnaaGreatDoor.AI
theorem runItoa : runsB prg0 100000 100000 ng nd2 277 mItoa = true := by kernel_rfl
noncomputable def natsI : BT (List V → H → Option (V × H)) := .node .leaf 277 (natRuns nd2 mItoa) (.node (.node .leaf 339 natAdd .leaf) 340 natSub (.node .leaf 378 natSame (.node .leaf 395 (natMake 5) .leaf)))
noncomputable def prgI : Prg := { prg0 with nat := fun i => natsI.get i }
theorem uCu1 : syssB prgI 100000 100000 ng nd2 78 tCu1 = true := by kernel_rfl
theorem uCu2 : syssB prgI 100000 100000 ng nd2 78 tCu2 = true := by kernel_rfl
theorem uCu3 : syssB prgI 100000 100000 ng nd2 78 tCu3 = true := by kernel_rfl
theorem uCu4 : syssB prgI 100000 100000 ng nd2 78 tCu4 = true := by kernel_rfl
theorem uCu5 : syssB prgI 100000 100000 ng nd2 78 tCu5 = true := by kernel_rfl
end Go.Proofs.YtdojpbbdcgfcnaaGreatDoor.AI.T
