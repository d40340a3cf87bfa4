/- LinesSums: whatever its two arguments are read as, the call returns true and each argument reads afterwards as it read before; the three tables of numbers start as the row lays them; nothing else is asked. -/
import Derived.Test.YtdojpbbdcgfcnaaGreatDoorCards
import Derived.Test.YtdojpbbdcgfcnaaGreatDoorTie
import Derived.SevenTiedAt
import Derived.Test.YtdojpbbdcgfcnaaGreatDoorRowAll
set_option linter.all false
/- LinesSums: the row and the card. -/
set_option maxRecDepth 100000
set_option maxHeartbeats 100000000
namespace Go.Proofs.YtdojpbbdcgfcnaaGreatDoor.AI.T
open Go Go.Proofs.YtdojpbbdcgfcnaaGreatDoor.AI Go.Proofs Go.Proofs.YtdojpbbdcgfcnaaGreatDoor
open Go.ChangeShapes Go.WideShapes Go.ChangeAt Go.WideMaps Go.WideElems Go.RowKit

/-- a system of lines, as an argument -/
theorem sys_at {h : H} {k : Nat} {u : V} (hu : ArgAt PP h (k + 4) 24 u) : ∃ (c : Int) (v : V) (ls : List (List Int)), u = .agg [vi c, v] ∧ LinesAt h v ls ∧ ls.length ≤ maxLen ∧ ∀ l ∈ ls, l.length ≤ maxLen := by
  unfold ArgAt at hu
  rw [Tryz.underlying24] at hu
  obtain ⟨vs, rfl, hr⟩ := hu
  obtain ⟨hl, hf⟩ := reads_struct Tryz.underlying24 hr
  have c24 : PP.cellsOf 24 = 2 := by kernel_rfl
  have c3 : PP.cellsOf 3 = 1 := by kernel_rfl
  have c22 : PP.cellsOf 22 = 1 := by kernel_rfl
  have c36 : PP.cellsOf 36 = 1 := by kernel_rfl
  rw [c24] at hl
  match vs, hl with
  | [a, b], _ =>
    have h1 := hf ⟨ "Cells", 3, 0, false, "", "", 0⟩ (by simp)
    have h2 := hf ⟨ "Lines", 22, 1, false, "", "", 8⟩ (by simp)
    simp only [c3, c22] at h1 h2
    obtain ⟨c, hc⟩ := reads_int Tryz.underlying3 h1
    obtain ⟨v, ls, e1, e2, e3, e4⟩ := lines_at Tryz.underlying22 Tryz.underlying36 Tryz.underlying3 c36 c3 h2
    simp at hc e1
    subst hc; subst e1
    exact ⟨c, b, ls, rfl, e2, e3, e4⟩
theorem ints_arg {h : H} {k : Nat} {u : V} (hu : ArgAt PP h (k + 2) 36 u) : ∃ (xs : List Int), SlcAt h u (xs.map vi) ∧ xs.length ≤ maxLen := by
  unfold ArgAt at hu
  rw [Tryz.underlying36] at hu
  have c3 : PP.cellsOf 3 = 1 := by kernel_rfl
  obtain ⟨v, xs, e1, e2, e3⟩ := ints_at Tryz.underlying36 Tryz.underlying3 c3 hu
  cases e1
  exact ⟨xs, e2, e3⟩
theorem linesSums_answers : Answers prgD 14 8 [24, 36] := by
  intro h us hu hk ho
  match us, hu with
  | [a, b], ⟨h1, h2, _⟩ =>
    obtain ⟨c, v, ls, rfl, e1, e2, _⟩ := sys_at (k := 4) h1
    obtain ⟨xs, e3, e4⟩ := ints_arg (k := 6) h2
    obtain ⟨h', hh⟩ := run14 (m := 2000) (c := c) prgD_sys e1 e3.rd hk ho (by have : maxLen = 9223372036854775807 := rfl; omega) (by omega)
    exact ⟨2000, 2000, f14, h', rfl, hh⟩

/-- one input that fits: no lines, no numbers -/
noncomputable abbrev wit14 : Array Value := #[.agg #[.int .i64 0, .slice none 0 0], .slice none 0 0]

theorem linesSums_lifted (os : Os) (started : os.Started) (H : Type) (enc : TypeId × Value → H) :
    ReturnsInHanded {} Tryz.checked os 14 .any (fun w args => (Rows.linesSumsSpec.pre enc Tryz.prog Tryz.f14 [] false w args ∧ laidMetH Tryz.prog laid3 w) ∧ sizedMet enc Tryz.prog Tryz.f14 (OpenSpec.ofChange Rows.linesSumsSpec) false w args)
      (Rows.linesSumsSpec.post enc Tryz.prog Tryz.f14 false true false false) := by
  refine law_lifted (k := 8) (b := 4) prgD_ok Tryz.func14 (by kernel_rfl) (by rw [Tryz.params14]; exact linesSums_answers) (by kernel_rfl) (by kernel_rfl) rfl Tryz.underlying4 rfl ?_ os started H enc
    (ChangeSpec.witness_shaped (enc := enc) (C := Tryz.checked) (os := os) (X := fun w _ => laidMetH Tryz.prog laid3 w) false (World.doorLaid Tryz.prog 400 os) wit14 8 rfl (World.shaped_of_RefB (by kernel_rfl) (by kernel_rfl)) (by kernel_rfl) (by kernel_rfl) (by kernel_rfl) (door_met os _))
  intro α ds hd
  rw [Tryz.params14] at hd
  match ds, hd with
  | [d1, d2], _ => rfl
end Go.Proofs.YtdojpbbdcgfcnaaGreatDoor.AI.T

namespace Go.Proofs.YtdojpbbdcgfcnaaGreatDoor
open Go Go.Proofs.YtdojpbbdcgfcnaaGreatDoor.AI.T
open Go.ChangeShapes Go.WideShapes Go.ChangeAt Go.WideMaps Go.WideElems Go.RowKit
theorem linesSums_facts : joinedFacts Tryz.prog 14 Tryz.f14 Rows.linesSumsSpec Rows.linesSumsRow = true := by
  unfold joinedFacts
  repeat' (with_reducible refine and2 ?_ ?_)
  all_goals (as_aux_lemma => kernel_rfl)
theorem linesSums_num : Tryz.prog.funcNamed "talisman/talismanlaw02.LinesSums" = some 14 := by kernel_rfl
theorem linesSums_inst : Tryz.f14.isInstance Tryz.prog Rows.linesSumsRow.origin Rows.linesSumsRow.targs := of_decide_eq_true (by kernel_rfl)
theorem linesSums_wrap : Tryz.f14.isWrapper Tryz.prog Rows.linesSumsRow.wrapper Rows.linesSumsRow.mainSum := by
  unfold Func.isWrapper; first | (rw [if_pos (by decide +kernel)]; kernel_rfl) | (rw [if_neg (by decide +kernel)]; exact ⟨rfl, rfl⟩)
theorem linesSums_said : Rows.LinesSumsSaid :=
  OpenClaim.holds_of_wide 14 Tryz.f14 rfl rfl rfl rfl rfl rfl rfl ⟨rfl, rfl, rfl, rfl, rfl⟩ rfl rfl rfl rfl rfl linesSums_num Tryz.func14 linesSums_facts
    linesSums_inst linesSums_wrap (fun os started H enc _ => linesSums_lifted os started H enc)
theorem linesSums_holds : Rows.LinesSumsCardSaid :=
  Claim7.holds_tied_plain_at .later [] [.data, .data, .data] true (true, "a7580111780c6e854e6bee10a52b74153d4d5916351b6f67e3c9b68731351a51") false
    linesSums_said (fun _ h => by cases h) (by as_aux_lemma => kernel_rfl) (fun _ h => by cases h) linesSums_row_tie rfl ⟨rfl, rfl⟩ (by as_aux_lemma => kernel_rfl) rfl
    (fun f fn hf hfn => by
      obtain rfl : f = 14 := Option.some.inj (linesSums_num.symm.trans hf) |>.symm
      obtain rfl : fn = Tryz.f14 := (Option.some.inj (Tryz.func14.symm.trans hfn)).symm
      exact ⟨by as_aux_lemma => kernel_rfl, fun j t ht => by
        rw [Tryz.params14] at ht
        have hm : t ∈ [24, 36] := by simpa using Array.mem_of_getElem? ht
        have hall : ([24, 36].all fun u => !Tryz.prog.wantsStandIn u) = true := by as_aux_lemma => kernel_rfl
        exact (show Tryz.prog.wantsStandIn t = false by simpa using List.all_eq_true.1 hall t hm)⟩)
    (by as_aux_lemma => kernel_rfl)
end Go.Proofs.YtdojpbbdcgfcnaaGreatDoor
