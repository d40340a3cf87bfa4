/- LinesSystems: whatever its three arguments are read as, the call returns true and each argument reads afterwards as it read before; the three tables of numbers start as the row lays them; nothing else is asked. -/
import Derived.Test.YtdojpbbdcgfcnaaGreatDoorCards
import Derived.Test.YtdojpbbdcgfcnaaGreatDoorTie
import Derived.SevenTiedAt
import Derived.Test.YtdojpbbdcgfcnaaGreatDoorRowAll
set_option linter.all false
/- LinesSystems: the row and the card. -/
set_option maxRecDepth 100000
set_option maxHeartbeats 100000000
namespace Go.Proofs.YtdojpbbdcgfcnaaGreatDoor.AI.T
open Go Go.Proofs.YtdojpbbdcgfcnaaGreatDoor.AI Go.Proofs Go.Proofs.YtdojpbbdcgfcnaaGreatDoor
open Go.ChangeShapes Go.WideShapes Go.ChangeAt Go.WideMaps Go.WideElems Go.RowKit

theorem reads_str {P : Program} {h : H} {k : Nat} {t : TypeId} {vs : List V} (ht : P.underlying t = some .string) (hr : Reads P h (k + 1) t vs) : ∃ s, vs = [.str s] := by
  unfold Reads at hr; rw [ht] at hr; exact hr
theorem str_arg {h : H} {k : Nat} {u : V} (hu : ArgAt PP h (k + 1) 9 u) : ∃ s, u = .str s := by
  unfold ArgAt at hu
  rw [Tryz.underlying9] at hu
  obtain ⟨s, hs⟩ := reads_str Tryz.underlying9 hu
  exact ⟨s, by simpa using hs⟩
theorem int_arg {h : H} {k : Nat} {u : V} (hu : ArgAt PP h (k + 1) 3 u) : ∃ n, u = vi n := by
  unfold ArgAt at hu
  rw [Tryz.underlying3] at hu
  obtain ⟨n, hn⟩ := reads_int Tryz.underlying3 hu
  exact ⟨n, by simpa using hn⟩
theorem linesSystems_answers : Answers prgS 16 8 [9, 3, 3] := by
  intro h us hu hk ho
  match us, hu with
  | [a, b, d], ⟨h1, h2, h3, _⟩ =>
    obtain ⟨s, rfl⟩ := str_arg (k := 7) h1
    obtain ⟨n, rfl⟩ := int_arg (k := 7) h2
    obtain ⟨c, rfl⟩ := int_arg (k := 7) h3
    obtain ⟨h', hh⟩ := run16 (m := 3000) (s := s) (n := n) (c := c) hk ho (by omega)
    exact ⟨3000, 3000, f16, h', rfl, hh⟩

/-- one input that fits: no kind, 0, 0 -/
noncomputable abbrev wit16 : Array Value := #[.string ⟨#[]⟩, .int .i64 0, .int .i64 0]

theorem linesSystems_lifted (os : Os) (started : os.Started) (H : Type) (enc : TypeId × Value → H) :
    ReturnsInHanded {} Tryz.checked os 16 .any (fun w args => (Rows.linesSystemsSpec.pre enc Tryz.prog Tryz.f16 [] false w args ∧ laidMetH Tryz.prog laid3 w) ∧ sizedMet enc Tryz.prog Tryz.f16 (OpenSpec.ofChange Rows.linesSystemsSpec) false w args)
      (Rows.linesSystemsSpec.post enc Tryz.prog Tryz.f16 false true false false) := by
  refine law_lifted (k := 8) (b := 4) prgS_ok Tryz.func16 (by kernel_rfl) (by rw [Tryz.params16]; exact linesSystems_answers) (by kernel_rfl) (by kernel_rfl) rfl Tryz.underlying4 rfl ?_ os started H enc
    (ChangeSpec.witness_shaped (enc := enc) (C := Tryz.checked) (os := os) (X := fun w _ => laidMetH Tryz.prog laid3 w) false (World.doorLaid Tryz.prog 400 os) wit16 8 rfl (World.shaped_of_RefB (by kernel_rfl) (by kernel_rfl)) (by kernel_rfl) (by kernel_rfl) (by kernel_rfl) (door_met os _))
  intro α ds hd
  rw [Tryz.params16] at hd
  match ds, hd with
  | [d1, d2, d3], _ => rfl
end Go.Proofs.YtdojpbbdcgfcnaaGreatDoor.AI.T

namespace Go.Proofs.YtdojpbbdcgfcnaaGreatDoor
open Go Go.Proofs.YtdojpbbdcgfcnaaGreatDoor.AI.T
open Go.ChangeShapes Go.WideShapes Go.ChangeAt Go.WideMaps Go.WideElems Go.RowKit
theorem linesSystems_facts : joinedFacts Tryz.prog 16 Tryz.f16 Rows.linesSystemsSpec Rows.linesSystemsRow = true := by
  unfold joinedFacts
  repeat' (with_reducible refine and2 ?_ ?_)
  all_goals (as_aux_lemma => kernel_rfl)
theorem linesSystems_num : Tryz.prog.funcNamed "talisman/talismanlaw02.LinesSystems" = some 16 := by kernel_rfl
theorem linesSystems_inst : Tryz.f16.isInstance Tryz.prog Rows.linesSystemsRow.origin Rows.linesSystemsRow.targs := of_decide_eq_true (by kernel_rfl)
theorem linesSystems_wrap : Tryz.f16.isWrapper Tryz.prog Rows.linesSystemsRow.wrapper Rows.linesSystemsRow.mainSum := by
  unfold Func.isWrapper; first | (rw [if_pos (by decide +kernel)]; kernel_rfl) | (rw [if_neg (by decide +kernel)]; exact ⟨rfl, rfl⟩)
theorem linesSystems_said : Rows.LinesSystemsSaid :=
  OpenClaim.holds_of_wide 16 Tryz.f16 rfl rfl rfl rfl rfl rfl rfl ⟨rfl, rfl, rfl, rfl, rfl⟩ rfl rfl rfl rfl rfl linesSystems_num Tryz.func16 linesSystems_facts
    linesSystems_inst linesSystems_wrap (fun os started H enc _ => linesSystems_lifted os started H enc)
theorem linesSystems_holds : Rows.LinesSystemsCardSaid :=
  Claim7.holds_tied_plain_at .later [] [.data, .data, .data] true (true, "a7580111780c6e854e6bee10a52b74153d4d5916351b6f67e3c9b68731351a51") false
    linesSystems_said (fun _ h => by cases h) (by as_aux_lemma => kernel_rfl) (fun _ h => by cases h) linesSystems_row_tie rfl ⟨rfl, rfl⟩ (by as_aux_lemma => kernel_rfl) rfl
    (fun f fn hf hfn => by
      obtain rfl : f = 16 := Option.some.inj (linesSystems_num.symm.trans hf) |>.symm
      obtain rfl : fn = Tryz.f16 := (Option.some.inj (Tryz.func16.symm.trans hfn)).symm
      exact ⟨by as_aux_lemma => kernel_rfl, fun j t ht => by
        rw [Tryz.params16] at ht
        have hm : t ∈ [9, 3, 3] := by simpa using Array.mem_of_getElem? ht
        have hall : ([9, 3, 3].all fun u => !Tryz.prog.wantsStandIn u) = true := by as_aux_lemma => kernel_rfl
        exact (show Tryz.prog.wantsStandIn t = false by simpa using List.all_eq_true.1 hall t hm)⟩)
    (by as_aux_lemma => kernel_rfl)
end Go.Proofs.YtdojpbbdcgfcnaaGreatDoor
