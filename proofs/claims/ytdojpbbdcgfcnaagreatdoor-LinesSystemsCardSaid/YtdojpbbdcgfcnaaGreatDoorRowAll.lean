import Derived.JoinedOf
import Derived.Test.YtdojpbbdcgfcnaaGreatDoorLaw
set_option linter.all false
/- WHAT ALL ROWS HAVE IN COMMON. -/
set_option maxRecDepth 100000
set_option maxHeartbeats 100000000
namespace Go.Proofs.YtdojpbbdcgfcnaaGreatDoor.AI.T
open Go Go.Proofs.YtdojpbbdcgfcnaaGreatDoor.AI Go.Proofs Go.Proofs.YtdojpbbdcgfcnaaGreatDoor
open Go.ChangeShapes Go.WideShapes Go.ChangeAt Go.WideMaps Go.WideElems Go.RowKit

theorem ownKnob_none : ownKnob Tryz.prog.godebug = none := by kernel_rfl
theorem laidOut_ok : laidOutB Tryz.prog = true := by kernel_rfl
/-- The door's own heap meets the condition. -/
theorem door_met (os : Os) (args : Array Value) : laidMetH Tryz.prog laid3 ((World.doorLaid Tryz.prog 400 os).forCall (fun _ _ => 0) ⟨#[], args, []⟩).memory :=
  laidMetH_of_parts3 (fuel := 8) (laidMet_of_run' 8 (by kernel_rfl) (by kernel_rfl)) (by kernel_rfl) (by kernel_rfl)

/-- a law's answer, out of the abstract interpreter's: whatever the arguments are read as, it answers true -/
def Answers (p : Prg) (f : Nat) (k : Nat) (ts : List TypeId) : Prop :=
  ∀ (h : H) (us : List V), ArgsAt PP h k ts us → hasK h nd2 = true → (∀ p l, (p, l) ∈ nd2 → Old h p) → ∃ (m n : Nat) (fk : FK) (h' : H), p.fs f = some fk ∧ bodyK (callK p m) n fk us h = some (.bool true, h')

theorem Answers.calls {p : Prg} (hp : PrgOk PP RS p) {f k : Nat} {ts : List TypeId} (ha : Answers p f k ts) (hf : (ts.all fun t => flat PP k t) = true) {W : World} (hL : laidMetH PP laid3 W) {α : Type} {enc : TypeId × Value → α} {args : Array Value} {ds : List (DataW α)} {ps : List MemPlace} {base : Nat}
    (hd : DataW.TrodAll enc PP W 0 (fun _ => true) true ts args.toList ds ps) (hv : ∀ (j : Nat) t v, ts[j]? = some t → args.toList[j]? = some v → Value.okWide PP W .any base t v) :
    Calls PP f args W fun e w2 => e = .returned (.bool true) ∧ Below W.heap.size W w2 := by
  obtain ⟨g', h', us, a1, a2, a3, a4, a5⟩ := absorb_args (rs := RS) (ng := PP.globals.size) (fun t ht => List.all_eq_true.1 hf t ht) hd hv (start hL)
  obtain ⟨m, n, fk, h2, hfk, hr⟩ := ha h' us a5 (ext_hasK a2.ext bare_has bare_old) fun p l hm => a2.ext.old (bare_old p l hm)
  have := law_calls hp a1 a4 hfk hr
  rw [a3] at this
  exact this

/-- the cells of the specification of a law -/
theorem law_lifted {f : Nat} {fn : Func} {s : ChangeSpec} {k : Nat} {p : Prg} (hp : PrgOk PP RS p) (hfn : Tryz.prog.funcs[f]? = some fn) (noInit : Tryz.checked.prog.inits.idxOf? f = none) (ha : Answers p f k fn.params.toList) (hf : (fn.params.toList.all fun t => flat PP k t) = true)
    (hread : (fn.params.toList.all fun t => PP.readableRec t && decide (t < PP.types.size)) = true) {b : TypeId} (hres : fn.resultTypes = #[b]) (hb : PP.underlying b = some .bool) (hvars : s.vars = [])
    (hspec : ∀ (α : Type) (ds : List (DataW α)), ds.length = fn.params.size → s.fn α ds = { results := [.lit (.bool true)], args := ds })
    (os : Os) (started : os.Started) (H : Type) (enc : TypeId × Value → H)
    (wit : ∃ (w : World) (tape : Tape) (i : Input), w.os = os ∧ (w.forCall tape i).Shaped Tryz.checked.prog ∧ i.vars = [] ∧ Input.okWide Tryz.checked.prog (w.forCall tape i) .any w.heap.size f i ∧
      ((s.pre enc Tryz.checked.prog fn [] false (w.forCall tape i).memory i.args ∧ laidMetH Tryz.prog laid3 (w.forCall tape i).memory) ∧ sizedMet enc Tryz.checked.prog fn (OpenSpec.ofChange s) false (w.forCall tape i).memory i.args) ∧ ({} : Assume).holds Tryz.checked.prog (lone (Frame.enter Tryz.checked.prog f i.args .normal) [] (w.forCall tape i))) :
    ReturnsInHanded {} Tryz.checked os f .any (fun w args => (s.pre enc Tryz.prog fn [] false w args ∧ laidMetH Tryz.prog laid3 w) ∧ sizedMet enc Tryz.prog fn (OpenSpec.ofChange s) false w args)
      (s.post enc Tryz.prog fn false true false false) := by
  refine returnsInHanded_of_change_and (C := Tryz.checked) (X := fun w _ => laidMetH Tryz.prog laid3 w) (fun _ _ _ hh h => h.of_heap hh) ownKnob_none started noInit hfn wit ?_
  intro W base args ds gs before hval0 hW _ _ hL _
  have hW' := hW
  obtain ⟨p0, q0, hA, hV, rfl, hfz, hnd⟩ := hW
  have hV' : DataW.TrodVars enc PP W (fun _ => true) [] gs q0 := by rw [← hvars]; exact hV
  obtain ⟨rfl, rfl⟩ := trodVars_none hV'
  have hlen : ds.length = fn.params.size := by
    have key : ∀ (ts : List TypeId) (vs : List Value) (ds : List (DataW H)) (p : List MemPlace), DataW.TrodAll enc PP W 0 (fun _ => true) true ts vs ds p → ds.length = ts.length := by
      intro ts
      induction ts with
      | nil => intro vs ds p h; cases vs <;> cases ds <;> first | rfl | exact h.elim
      | cons t ts ih =>
        intro vs ds p h
        cases vs with
        | nil => exact h.elim
        | cons v vs =>
          cases ds with
          | nil => exact h.elim
          | cons d ds => obtain ⟨_, _, _, h2, _⟩ := h; simp [ih _ _ _ h2]
    have := key _ _ _ _ hA
    simpa using this
  refine (ha.calls hp hf hL hA (fun j t v ht hv => hval0 j t v (by rw [← Array.getElem?_toList]; exact ht) (by rw [← Array.getElem?_toList]; exact hv))).mono fun e W' ⟨he, hb'⟩ => ?_
  subst he
  exact ⟨_, rfl, law_post laidOut_ok hread hres hb hvars (by rw [List.append_nil]; exact hspec _ _ hlen) hW' hb'⟩
theorem and2 {a b : Bool} (h1 : a = true) (h2 : b = true) : (a && b) = true := by rw [h1, h2]; rfl
end Go.Proofs.YtdojpbbdcgfcnaaGreatDoor.AI.T
