/- LinesChecks: whatever its two arguments are read as, the call returns true and each argument reads afterwards as it read before; the three tables of numbers start as the row lays them; nothing else is asked. -/
import Derived.Test.YtdojpbbdcgfcnaaGreatDoorCards
import Derived.Test.YtdojpbbdcgfcnaaGreatDoorTie
import Derived.SevenTiedAt
import Derived.Test.YtdojpbbdcgfcnaaGreatDoorRowAll
set_option linter.all false
/- LinesChecks: the row and the card. -/
set_option maxRecDepth 100000
set_option maxHeartbeats 100000000
namespace Go.Proofs.YtdojpbbdcgfcnaaGreatDoor.AI.T
open Go Go.Proofs.YtdojpbbdcgfcnaaGreatDoor.AI Go.Proofs Go.Proofs.YtdojpbbdcgfcnaaGreatDoor
open Go.ChangeShapes Go.WideShapes Go.ChangeAt Go.WideMaps Go.WideElems Go.RowKit

/-- a system of lines, as an argument -/
theorem sys_at {h : H} {k : Nat} {u : V} (hu : ArgAt PP h (k + 4) 24 u) : ∃ (c : Int) (v : V) (ls : List (List Int)), u = .agg [vi c, v] ∧ LinesAt h v ls ∧ ls.length ≤ maxLen ∧ ∀ l ∈ ls, l.length ≤ maxLen := by
  unfold ArgAt at hu
  rw [Tryz.underlying24] at hu
  obtain ⟨vs, rfl, hr⟩ := hu
  obtain ⟨hl, hf⟩ := reads_struct Tryz.underlying24 hr
  have c24 : PP.cellsOf 24 = 2 := by kernel_rfl
  have c3 : PP.cellsOf 3 = 1 := by kernel_rfl
  have c22 : PP.cellsOf 22 = 1 := by kernel_rfl
  have c36 : PP.cellsOf 36 = 1 := by kernel_rfl
  rw [c24] at hl
  match vs, hl with
  | [a, b], _ =>
    have h1 := hf ⟨ "Cells", 3, 0, false, "", "", 0⟩ (by simp)
    have h2 := hf ⟨ "Lines", 22, 1, false, "", "", 8⟩ (by simp)
    simp only [c3, c22] at h1 h2
    obtain ⟨c, hc⟩ := reads_int Tryz.underlying3 h1
    obtain ⟨v, ls, e1, e2, e3, e4⟩ := lines_at Tryz.underlying22 Tryz.underlying36 Tryz.underlying3 c36 c3 h2
    simp at hc e1
    subst hc; subst e1
    exact ⟨c, b, ls, rfl, e2, e3, e4⟩
/-- a graph -/
theorem graph_at {h : H} {k : Nat} {u : V} (hu : ArgAt PP h (k + 4) 27 u) : ∃ (c : Int) (v : V) (es : List (Int × Int)), u = .agg [vi c, v] ∧ EdgesAt h v es ∧ es.length ≤ maxLen := by
  unfold ArgAt at hu
  rw [Tryz.underlying27] at hu
  obtain ⟨vs, rfl, hr⟩ := hu
  obtain ⟨hl, hf⟩ := reads_struct Tryz.underlying27 hr
  have c27 : PP.cellsOf 27 = 2 := by kernel_rfl
  have c3 : PP.cellsOf 3 = 1 := by kernel_rfl
  have c25 : PP.cellsOf 25 = 1 := by kernel_rfl
  have c122 : PP.cellsOf 122 = 2 := by kernel_rfl
  rw [c27] at hl
  match vs, hl with
  | [a, b], _ =>
    have h1 := hf ⟨ "Vertices", 3, 0, false, "", "", 0⟩ (by simp)
    have h2 := hf ⟨ "Edges", 25, 1, false, "", "", 8⟩ (by simp)
    simp only [c3, c25] at h1 h2
    obtain ⟨c, hc⟩ := reads_int Tryz.underlying3 h1
    obtain ⟨v, es, e1, e2, e3⟩ := edges_at Tryz.underlying25 Tryz.underlying122 Tryz.underlying3 c122 c3 h2
    simp at hc e1
    subst hc; subst e1
    exact ⟨c, b, es, rfl, e2, e3⟩

theorem linesChecks_answers : Answers prgD 3 8 [24, 27] := by
  intro h us hu hk ho
  match us, hu with
  | [a, b], ⟨h1, h2, _⟩ =>
    obtain ⟨c, v, ls, rfl, e1, e2, _⟩ := sys_at (k := 4) h1
    obtain ⟨d, w, es, rfl, e3, e4⟩ := graph_at (k := 4) h2
    obtain ⟨h', hh⟩ := linesChecks_run (c := c) (nv := d) e1 e3 hk ho (by have : maxLen = 9223372036854775807 := rfl; omega)
    exact ⟨2000, 2000, f3, h', rfl, by rw [← go_body (p := prgD) (f := 3) (fk := f3) rfl rfl]; exact hh⟩

/-- one input that fits: no lines, no edges -/
noncomputable abbrev wit3 : Array Value := #[.agg #[.int .i64 0, .slice none 0 0], .agg #[.int .i64 0, .slice none 0 0]]

theorem linesChecks_lifted (os : Os) (started : os.Started) (H : Type) (enc : TypeId × Value → H) :
    ReturnsInHanded {} Tryz.checked os 3 .any (fun w args => (Rows.linesChecksSpec.pre enc Tryz.prog Tryz.f3 [] false w args ∧ laidMetH Tryz.prog laid3 w) ∧ sizedMet enc Tryz.prog Tryz.f3 (OpenSpec.ofChange Rows.linesChecksSpec) false w args)
      (Rows.linesChecksSpec.post enc Tryz.prog Tryz.f3 false true false false) := by
  refine law_lifted (k := 8) (b := 4) prgD_ok Tryz.func3 (by kernel_rfl) (by rw [Tryz.params3]; exact linesChecks_answers) (by kernel_rfl) (by kernel_rfl) rfl Tryz.underlying4 rfl ?_ os started H enc
    (ChangeSpec.witness_shaped (enc := enc) (C := Tryz.checked) (os := os) (X := fun w _ => laidMetH Tryz.prog laid3 w) false (World.doorLaid Tryz.prog 400 os) wit3 8 rfl (World.shaped_of_RefB (by kernel_rfl) (by kernel_rfl)) (by kernel_rfl) (by kernel_rfl) (by kernel_rfl) (door_met os _))
  intro α ds hd
  rw [Tryz.params3] at hd
  match ds, hd with
  | [d1, d2], _ => rfl
end Go.Proofs.YtdojpbbdcgfcnaaGreatDoor.AI.T

namespace Go.Proofs.YtdojpbbdcgfcnaaGreatDoor
open Go Go.Proofs.YtdojpbbdcgfcnaaGreatDoor.AI.T
open Go.ChangeShapes Go.WideShapes Go.ChangeAt Go.WideMaps Go.WideElems Go.RowKit
theorem linesChecks_facts : joinedFacts Tryz.prog 3 Tryz.f3 Rows.linesChecksSpec Rows.linesChecksRow = true := by
  unfold joinedFacts
  repeat' (with_reducible refine and2 ?_ ?_)
  all_goals (as_aux_lemma => kernel_rfl)
theorem linesChecks_num : Tryz.prog.funcNamed "talisman/talismanlaw02.LinesChecks" = some 3 := by kernel_rfl
theorem linesChecks_inst : Tryz.f3.isInstance Tryz.prog Rows.linesChecksRow.origin Rows.linesChecksRow.targs := of_decide_eq_true (by kernel_rfl)
theorem linesChecks_wrap : Tryz.f3.isWrapper Tryz.prog Rows.linesChecksRow.wrapper Rows.linesChecksRow.mainSum := by
  unfold Func.isWrapper; first | (rw [if_pos (by decide +kernel)]; kernel_rfl) | (rw [if_neg (by decide +kernel)]; exact ⟨rfl, rfl⟩)
theorem linesChecks_said : Rows.LinesChecksSaid :=
  OpenClaim.holds_of_wide 3 Tryz.f3 rfl rfl rfl rfl rfl rfl rfl ⟨rfl, rfl, rfl, rfl, rfl⟩ rfl rfl rfl rfl rfl linesChecks_num Tryz.func3 linesChecks_facts
    linesChecks_inst linesChecks_wrap (fun os started H enc _ => linesChecks_lifted os started H enc)
theorem linesChecks_holds : Rows.LinesChecksCardSaid :=
  Claim7.holds_tied_plain_at .later [] [.data, .data, .data] true (true, "a7580111780c6e854e6bee10a52b74153d4d5916351b6f67e3c9b68731351a51") false
    linesChecks_said (fun _ h => by cases h) (by as_aux_lemma => kernel_rfl) (fun _ h => by cases h) linesChecks_row_tie rfl ⟨rfl, rfl⟩ (by as_aux_lemma => kernel_rfl) rfl
    (fun f fn hf hfn => by
      obtain rfl : f = 3 := Option.some.inj (linesChecks_num.symm.trans hf) |>.symm
      obtain rfl : fn = Tryz.f3 := (Option.some.inj (Tryz.func3.symm.trans hfn)).symm
      exact ⟨by as_aux_lemma => kernel_rfl, fun j t ht => by
        rw [Tryz.params3] at ht
        have hm : t ∈ [24, 27] := by simpa using Array.mem_of_getElem? ht
        have hall : ([24, 27].all fun u => !Tryz.prog.wantsStandIn u) = true := by as_aux_lemma => kernel_rfl
        exact (show Tryz.prog.wantsStandIn t = false by simpa using List.all_eq_true.1 hall t hm)⟩)
    (by as_aux_lemma => kernel_rfl)
end Go.Proofs.YtdojpbbdcgfcnaaGreatDoor
