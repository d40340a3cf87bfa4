import Derived.ProofKit
import Derived.LaidMore
import Derived.Test.YtdojpbbdcgfcnaaGreatDoorRows
import Derived.OpenShut
import Derived.Test.YtdojpbbdcgfcnaaGreatDoorRunsG
set_option linter.all false
set_option maxRecDepth 100000
namespace Go.Proofs.YtdojpbbdcgfcnaaGreatDoor.AI.T
open Go Go.Proofs.YtdojpbbdcgfcnaaGreatDoor.AI
noncomputable abbrev PP : Program := Go.Proofs.Tryz.prog
noncomputable def RS : Rnds := rsOf PP X
theorem ng_ok : ng.toNat = PP.globals.size := by kernel_rfl
theorem nat339 : NatOk PP RS 339 natAdd := natAdd_ok (fn := Go.Proofs.Tryz.f339) (by kernel_rfl) (by kernel_rfl) (by kernel_rfl) (by kernel_rfl) (by kernel_rfl)
theorem nat340 : NatOk PP RS 340 natSub := natSub_ok (fn := Go.Proofs.Tryz.f340) (by kernel_rfl) (by kernel_rfl) (by kernel_rfl) (by kernel_rfl) (by kernel_rfl)
theorem nat378 : NatOk PP RS 378 natSame := natSame_ok (fn := Go.Proofs.Tryz.f378) (by kernel_rfl) (by kernel_rfl) (by kernel_rfl) (by kernel_rfl) (by kernel_rfl)
theorem nat395 : NatOk PP RS 395 (natMake 5) := natMake_ok (fn := Go.Proofs.Tryz.f395) (sl := 297) (by kernel_rfl) (by kernel_rfl) (by kernel_rfl) (by kernel_rfl) (by kernel_rfl) (by kernel_rfl) (by kernel_rfl)
theorem nats0_ok : nats0.All (NatOk PP RS) := ⟨⟨trivial, nat339, trivial⟩, nat340, ⟨trivial, nat378, ⟨trivial, nat395, trivial⟩⟩⟩
theorem prg0_ok : PrgOk PP RS prg0 := ⟨fun f fk h => BT.all_get tab tab_ok h, fun f nt h => BT.all_get nats0 nats0_ok h, fun t v m f r h => (by cases h), fun r x h => BT.all_get rtab rtab_ok h⟩
theorem nd2_c : needB nd2 = true := by kernel_rfl
theorem nd2_l : needLt ng nd2 = true := by kernel_rfl
theorem nat98 : NatOk PP RS 98 (natRuns [] m98) := natRuns_ok prg0_ok ng_ok rfl rfl run98
theorem nat108 : NatOk PP RS 108 (natRuns [] m108) := natRuns_ok prg0_ok ng_ok rfl rfl run108
theorem nat111 : NatOk PP RS 111 (natRuns [] m111) := natRuns_ok prg0_ok ng_ok rfl rfl run111
theorem nat115 : NatOk PP RS 115 (natRuns [] m115) := natRuns_ok prg0_ok ng_ok rfl rfl run115
theorem nat120 : NatOk PP RS 120 (natRuns [] m120) := natRuns_ok prg0_ok ng_ok rfl rfl run120
theorem nat123 : NatOk PP RS 123 (natRuns [] m123) := natRuns_ok prg0_ok ng_ok rfl rfl run123
theorem nat199 : NatOk PP RS 199 (natRuns [] m199) := natRuns_ok prg0_ok ng_ok rfl rfl run199
theorem nat210 : NatOk PP RS 210 (natRuns [] m210) := natRuns_ok prg0_ok ng_ok rfl rfl run210
theorem nat213 : NatOk PP RS 213 (natRuns [] m213) := natRuns_ok prg0_ok ng_ok rfl rfl run213
theorem nat277 : NatOk PP RS 277 (natRuns nd2 m277) := natRuns_ok prg0_ok ng_ok nd2_c nd2_l run277
theorem nat163 : NatOk PP RS 163 (natMakes nd2 m163) := natMakes_ok prg0_ok ng_ok nd2_c nd2_l run163
theorem nats1_ok : nats1.All (NatOk PP RS) := (BT.all_node (BT.all_node (BT.all_node (BT.all_node BT.all_leaf nat98 BT.all_leaf) nat108 (BT.all_node BT.all_leaf nat111 BT.all_leaf)) nat115 (BT.all_node (BT.all_node BT.all_leaf nat120 BT.all_leaf) nat123 (BT.all_node (BT.all_node BT.all_leaf nat163 BT.all_leaf) nat199 BT.all_leaf))) nat210 (BT.all_node (BT.all_node (BT.all_node BT.all_leaf nat213 BT.all_leaf) nat277 (BT.all_node BT.all_leaf nat339 BT.all_leaf)) nat340 (BT.all_node (BT.all_node BT.all_leaf nat378 BT.all_leaf) nat395 BT.all_leaf)))
theorem prg1_ok : PrgOk PP RS prg1 := ⟨prg0_ok.fs, fun f nt h => BT.all_get nats1 nats1_ok h, prg0_ok.meth, prg0_ok.rnd⟩
/-- awake answers true -/
theorem awake_ok : NatOk PP RS 18 (natConst nd2 (.bool true)) := natConst_ok prg1_ok ng_ok nd2_c nd2_l runAwake
end Go.Proofs.YtdojpbbdcgfcnaaGreatDoor.AI.T
/- FROM A RUN OF THE ABSTRACT INTERPRETER TO A LAW'S ROW. -/
namespace Go.Proofs.YtdojpbbdcgfcnaaGreatDoor.AI
open Go.ChangeShapes Go.WideShapes Go.ChangeAt Go.RowKit

section
variable {P : Program} {rs : Rnds} {ng : Nat} {W : World}

/-- an argument, as it is read -/
def ArgAt (P : Program) (h : H) (k : Nat) (t : TypeId) (v : V) : Prop :=
  match P.underlying t with
  | some (.struct _) | some (.array _ _) => ∃ vs, v = .agg vs ∧ Reads P h k t vs
  | _ => Reads P h k t [v]
def ArgsAt (P : Program) (h : H) (k : Nat) : List TypeId → List V → Prop
  | [], [] => True
  | t :: ts, v :: vs => ArgAt P h k t v ∧ ArgsAt P h k ts vs
  | _, _ => False

theorem ArgAt.ext {h h' : H} (hh : Ext h h') {k : Nat} {t : TypeId} {v : V} (ha : ArgAt P h k t v) : ArgAt P h' k t v := by
  unfold ArgAt at ha ⊢
  split at ha
  · obtain ⟨vs, rfl, h1⟩ := ha; exact ⟨vs, rfl, h1.ext hh⟩
  · obtain ⟨vs, rfl, h1⟩ := ha; exact ⟨vs, rfl, h1.ext hh⟩
  · exact Reads.ext hh _ _ _ ha
theorem ArgsAt.ext {h h' : H} (hh : Ext h h') {k : Nat} : ∀ {ts : List TypeId} {vs : List V}, ArgsAt P h k ts vs → ArgsAt P h' k ts vs
  | [], [], _ => trivial
  | _ :: _, _ :: _, ⟨a, b⟩ => ⟨a.ext hh, b.ext hh⟩

theorem absorb_arg {α : Type} {enc : TypeId × Value → α} {held : Bool} {k : Nat} {t : TypeId} (hf : flat P k t = true) {v : Value} {d : DataW α} {ps : List MemPlace} {base : Nat} {g : G} {h : H}
    (hd : DataW.Trod enc P W 0 (fun _ => true) held t v d ps) (hv : Value.okWide P W .any base t v) (hs : St P rs ng W g h) :
    ∃ g' h' u, St P rs ng W g' h' ∧ Grow g h g' h' ∧ conc g' u = v ∧ u.bd h'.next.toNat ∧ ArgAt P h' k t u := by
  obtain ⟨fuel, hd⟩ := hd
  obtain ⟨g', h', vs, a1, a2, a3, a4, a5⟩ := absorb enc held k t hf fuel _ _ g h hd hs
  have agg : ∀ cs : Array Value, v = .agg cs → conc g' (.agg vs) = v := fun cs e => by
    subst e
    simp only [conc, a3, Value.cells]
  have sing : v.cells = #[v] → ∃ u, vs = [u] ∧ conc g' u = v := fun e => by
    rw [e] at a3
    cases vs with
    | nil => simp [concs] at a3
    | cons u us =>
      cases us with
      | nil => simp [concs] at a3; exact ⟨u, rfl, a3⟩
      | cons u' us => simp [concs] at a3
  unfold Value.okWide at hv
  unfold ArgAt
  split at hv
  · rename_i fs hu
    obtain ⟨cs, rfl, _⟩ := hv
    rw [hu]
    exact ⟨g', h', .agg vs, a1, a2, agg cs rfl, a4, vs, rfl, a5⟩
  · rename_i n e hu
    obtain ⟨cs, rfl, _⟩ := hv
    rw [hu]
    exact ⟨g', h', .agg vs, a1, a2, agg cs rfl, a4, vs, rfl, a5⟩
  · rename_i hn1 hn2
    have hcell : v.cells = #[v] := by
      cases v with
      | agg cs =>
        exfalso
        cases k with
        | zero => simp [flat] at hf
        | succ k =>
          unfold flat at hf
          unfold Cell.okWide Cell.ok at hv
          cases hu : P.underlying t with
          | none => simp [hu] at hf
          | some u => cases u <;> simp_all
      | _ => rfl
    obtain ⟨u, rfl, hc⟩ := sing hcell
    refine ⟨g', h', u, a1, a2, hc, by simpa [ons] using a4, ?_⟩
    split
    · rename_i hu; exact absurd hu (hn1 _)
    · rename_i hu; exact absurd hu (hn2 _ _)
    · exact a5

theorem absorb_args {α : Type} {enc : TypeId × Value → α} {held : Bool} {k : Nat} {base : Nat} : ∀ {ts : List TypeId} {vs : List Value} {ds : List (DataW α)} {ps : List MemPlace} {g : G} {h : H}, (∀ t ∈ ts, flat P k t = true) →
    DataW.TrodAll enc P W 0 (fun _ => true) held ts vs ds ps → (∀ (j : Nat) t v, ts[j]? = some t → vs[j]? = some v → Value.okWide P W .any base t v) → St P rs ng W g h →
    ∃ g' h' us, St P rs ng W g' h' ∧ Grow g h g' h' ∧ concs g' us = vs ∧ bds h'.next.toNat us ∧ ArgsAt P h' k ts us
  | [], [], [], _, g, h, _, _, _, hs => ⟨g, h, [], hs, Grow.refl g h, rfl, by simp [ons], trivial⟩
  | [], [], _ :: _, _, _, _, _, hd, _, _ => hd.elim
  | [], _ :: _, _, _, _, _, _, hd, _, _ => hd.elim
  | _ :: _, [], _, _, _, _, _, hd, _, _ => hd.elim
  | _ :: _, _ :: _, [], _, _, _, _, hd, _, _ => hd.elim
  | t :: ts, v :: vs, d :: ds, ps, g, h, hf, hd, hv, hs => by
    obtain ⟨p, q, h1, h2, _⟩ := hd
    obtain ⟨g1, e1, u, a1, a2, a3, a4, a5⟩ := absorb_arg (hf t (by simp)) h1 (hv 0 t v rfl rfl) hs
    obtain ⟨g2, e2, us, b1, b2, b3, b4, b5⟩ := absorb_args (fun t ht => hf t (List.mem_cons_of_mem _ ht)) h2 (fun j t v ht hvv => hv (j + 1) t v ht hvv) a1
    refine ⟨g2, e2, u :: us, b1, a2.trans b2, ?_, ⟨V.on_mono (fun b hb => Nat.lt_of_lt_of_le hb b2.ext.next) u a4, b4⟩, a5.ext b2.ext, b5⟩
    simp only [concs, b3, conc_ext b2.agree u a4, a3]

/-- what a call of the abstract interpreter says of the model's, where nothing of the heap may be written -/
theorem law_calls {p : Prg} (hp : PrgOk P rs p) {f m n : Nat} {fk : FK} {args : List V} {g : G} {h h' : H} (hs : St P rs P.globals.size W g h) (ha : bds h.next.toNat args) (hfs : p.fs f = some fk)
    (hr : bodyK (callK p m) n fk args h = some (.bool true, h')) : Calls P f (concs g args).toArray W fun e w2 => e = .returned (.bool true) ∧ Below W.heap.size W w2 := by
  obtain ⟨g', w', a1, a2, a3, a4, a5⟩ := body_ok (call_ok hp m) (hp.fs f fk hfs) hr hs.1 ha
  refine a5.mono fun e w2 ⟨h1, h2⟩ => ?_
  subst h1; subst h2
  refine ⟨by simp [conc], a2.os, a2.tape, a2.output, a2.size, fun k hk => a2.keep k hk fun b x hb hx => ?_⟩
  have := hs.2 b x hb
  rw [this] at hx; cases hx

/-- a law that answers true and writes nothing that was there -/
theorem law_post {α : Type} {enc : TypeId × Value → α} {f : Func} {s : ChangeSpec} {apart fresh handsOn again : Bool} {args : Array Value} {W' : World} {ds gs : List (DataW α)} {before : List MemPlace} {b : TypeId}
    (hl : laidOutB P = true) (hread : (f.params.toList.all fun t => P.readableRec t && decide (t < P.types.size)) = true) (hres : f.resultTypes = #[b]) (hb : P.underlying b = some .bool) (hvars : s.vars = [])
    (hfn : s.fn α (ds ++ gs) = { results := [.lit (.bool true)], args := ds })
    (hW : DataW.Whole enc P f.params.toList s.vars apart W args.toList ds gs before) (hbl : Below W.heap.size W W') : s.post enc P f apart fresh handsOn again W args (.bool true) W' := by
  have hW0 := hW
  obtain ⟨p, q, hA, hV, rfl, hz, hn⟩ := hW
  have hV' : DataW.TrodVars enc P W (fun _ => true) [] gs q := by rw [← hvars]; exact hV
  obtain ⟨rfl, rfl⟩ := trodVars_none hV'
  simp only [List.append_nil] at hz hn hW0 ⊢
  have hlt := hA.lt
  have key : ∀ (ts : List TypeId) (vs : List Value) (ds : List (DataW α)) (p : List MemPlace), (ts.all fun t => P.readableRec t && decide (t < P.types.size)) = true → DataW.TrodAll enc P W 0 (fun _ => true) true ts vs ds p → (∀ x ∈ p, x.block < W.heap.size) →
      DataW.TrodAll enc P W' 0 (fun b => decide (b < W.heap.size)) true ts vs ds p ∧ DataW.TrodAll enc P W' 0 (fun _ => true) true ts vs ds p := by
    intro ts
    induction ts with
    | nil => intro vs ds p _ h _; cases vs <;> cases ds <;> first | exact ⟨h, h⟩ | exact h.elim
    | cons t ts ih =>
      intro vs ds p ht h hlt
      cases vs with
      | nil => exact h.elim
      | cons v vs =>
        cases ds with
        | nil => exact h.elim
        | cons d ds =>
          obtain ⟨p1, q1, k1, k2, rfl⟩ := h
          simp only [List.all_cons, Bool.and_eq_true, decide_eq_true_eq] at ht
          obtain ⟨j1, j2⟩ := ih vs ds q1 ht.2 k2 fun x hx => hlt x (List.mem_append_right _ hx)
          exact ⟨⟨p1, q1, Below.trod hl ht.1.1 ht.1.2 k1 hbl fun x hx => hlt x (List.mem_append_left _ hx), j1, rfl⟩,
            ⟨p1, q1, WideElems.Trod_stays hl ht.1.1 ht.1.2 k1 (fun x hx => hbl.same (hlt x (List.mem_append_left _ hx))) (fun x hx => rfl), j2, rfl⟩⟩
  obtain ⟨k1, k2⟩ := key _ _ _ _ hread hA hlt
  have hr : ∀ (n : Nat) (sp : Nat → Bool) (hd : Bool), DataW.TrodAll enc P W' n sp hd f.resultTypes.toList ((Value.bool true).resultList f.resultTypes.size) [.lit (.bool true)] [] := fun n sp hd => by
    rw [hres]; exact trodAll_mk1 (shut_bool hb _)
  refine ⟨ds, [], p, [], p, [], hW0, by rw [hfn]; exact hr _ _ _, by rw [hfn]; exact k1, by rw [hfn, hvars]; rfl, hbl.frame _, fun _ => ⟨ok_one hres rfl (okWide_bool_mk hb _), [.lit (.bool true)] ++ ds, [], [] ++ p, ⟨[] ++ p, [], trodAll_append k2 (hr _ _ _), by rw [hvars]; rfl, by simp, ?_, fun ha => hn ha⟩, fun x hx _ => hx⟩⟩
  intro b off hp
  have hp' : MemPlace.cell b off ∈ p := hp
  rw [hbl.frozen (show (⟨b, off, none⟩ : Addr).block < W.heap.size from hlt _ hp')]
  exact hz b off hp'
end
end Go.Proofs.YtdojpbbdcgfcnaaGreatDoor.AI
/- THE HEAP A LAW STARTS WITH: the table of powers of ten, as the row lays it. -/
set_option maxRecDepth 100000
namespace Go.Proofs.YtdojpbbdcgfcnaaGreatDoor.AI.T
open Go Go.Proofs.YtdojpbbdcgfcnaaGreatDoor.AI Go.Proofs Go.Proofs.YtdojpbbdcgfcnaaGreatDoor

/-- rows of integers, read off the datum -/
theorem lits_row {α : Type} {enc : TypeId × Value → α} {P : Program} {w : World} {base : Nat} {sp : Nat → Bool} {held : Bool} {fuel : Nat} {t e : TypeId} {n : Nat} {kd : IntKind} {cs : List Value} {ns : List Int} {q : List MemPlace}
    (ht : P.underlying t = some (.array n e)) (he : P.underlying e = some (.int kd)) (hc : P.cellsOf e = 1) (hn : P.cellsOf t = n) (h : DataW.trod enc P w base sp held fuel t cs = some (.agg (ns.map fun i => .lit (.int kd i)), q)) :
    cs = ns.map fun i => Value.int kd i := by
  obtain ⟨xs, m, rfl, hx, hlen, hxl, hel⟩ := DataW.trod_array ht h
  simp only [Prod.mk.injEq, DataW.agg.injEq] at hx
  obtain ⟨hx, _⟩ := hx
  have hnl : ns.length = n := by have := congrArg List.length hx; simp at this; omega
  refine List.ext_getElem? fun i => ?_
  by_cases hi : i < n
  · have h1 := hel i hi
    rw [hc, Nat.mul_one] at h1
    have hxi : xs[i]? = some xs[i] := List.getElem?_eq_getElem (by omega)
    rw [hxi] at h1
    obtain ⟨k, e1, e2, _⟩ := DataW.trod_int he h1
    have e3 : (xs.map (·.1))[i]? = some (DataW.lit (.int kd k)) := by rw [List.getElem?_map, hxi, e2]; rfl
    rw [← hx, List.getElem?_map] at e3
    have hni : ns[i]? = some (ns[i]'(by omega)) := List.getElem?_eq_getElem (by omega)
    rw [hni] at e3
    simp at e3
    have e4 : cs[i]? = ((cs.drop i).take 1)[0]? := by rw [List.getElem?_take, if_pos (by omega), List.getElem?_drop]; simp
    rw [e4, e1, List.getElem?_map, hni]
    simp [e3]
  · rw [List.getElem?_eq_none (by omega), List.getElem?_eq_none (by simp; omega)]

noncomputable abbrev laid3 : List (String × DataW Unit) := [("math/bits.deBruijn32tab", Rows.laid_math_bits_deBruijn32tab), ("math/bits.deBruijn64tab", Rows.laid_math_bits_deBruijn64tab), ("internal/strconv.uint64pow10", Rows.laid_internal_strconv_uint64pow10)]

def powNs : List Int := [1, 10, 100, 1000, 10000, 100000, 1000000, 10000000, 100000000, 1000000000, 10000000000, 100000000000, 1000000000000, 10000000000000, 100000000000000, 1000000000000000, 10000000000000000, 100000000000000000, 1000000000000000000, 10000000000000000000]
theorem gPow : PP.globalNamed "internal/strconv.uint64pow10" = some 2 := by kernel_rfl
theorem tPow : (PP.globals[2]?).map (·.type) = some 387 := by kernel_rfl
theorem cPow : PP.cellsOf 387 = 20 := by kernel_rfl
theorem cU64 : PP.cellsOf 291 = 1 := by kernel_rfl
theorem pow10_eq : pow10 = powNs.map fun i => V.int .u64 i := by kernel_rfl
theorem laidPow {α : Type} : (Rows.laid_internal_strconv_uint64pow10 : DataW α) = .agg (powNs.map fun i => .lit (.int .u64 i)) := by kernel_rfl

/-- the reading of the world in which each block stands for itself -/
def gId : G := ⟨fun b => b.toNat, fun _ => 0, fun _ => 0⟩

/-- THE HEAP A LAW STARTS WITH -/
theorem start {W : World} (h : laidMetH PP laid3 W) : St PP RS PP.globals.size W gId (H.bare ng nd2) := by
  rw [MakeChecks.laidMetH_plain _ _ _ (by kernel_rfl)] at h
  obtain ⟨ps, ⟨g0, t0, cs0, f0, p0, q0, hg0, ht0, hv0, hd0, ⟨g1, t1, cs1, f1, p1, q1, hg1, ht1, hv1, hd1, ⟨g2, t2, cs2, f2, p2, q2, hg2, ht2, hv2, hd2, _, _⟩, _⟩, _⟩, _, _⟩ := h
  obtain rfl := Option.some.inj (gPow.symm.trans hg2)
  obtain rfl := Option.some.inj (tPow.symm.trans ht2)
  rw [laidPow] at hd2
  have hcs := lits_row Tryz.underlying387 Tryz.underlying291 cU64 cPow hd2
  have hheap : ∃ el fz, W.heap[2]? = some (.cells cs2 el fz) := by
    unfold World.var? at hv2
    rw [gPow] at hv2
    simp only [Option.bind_some] at hv2
    split at hv2
    · rename_i cs el fz hh; cases hv2; exact ⟨el, fz, hh⟩
    · cases hv2
  obtain ⟨el, fz, hh⟩ := hheap
  refine ⟨⟨fun b x hb => ?_, fun b b' x x' hb _ hx => ?_, ⟨by show _ ≤ ng.toNat; rw [ng_ok]; exact Nat.le_refl _, fun i _ => ⟨Pos.toNat_ofNat i, rfl⟩⟩, fun m hm => by cases hm⟩, fun b y hb => ?_⟩
  · obtain ⟨l, hm, rfl⟩ := baseT_get hb
    simp only [nd2, List.mem_singleton, Prod.mk.injEq] at hm
    obtain ⟨rfl, rfl⟩ := hm
    have h2 : (Pos.i Pos.h).toNat = 2 := rfl
    refine ⟨by show (Pos.i Pos.h).toNat < ng.toNat; decide, (Array.getElem?_eq_some_iff.1 hh).1, cs2, el, fz, hh, fun j v hv => ?_, (closed_ok _ 1000).2 _ (by kernel_rfl), fun hq => absurd rfl hq, trivial⟩
    rw [pow10_eq, List.getElem?_map] at hv
    cases hn : powNs[j]? with
    | none => rw [hn] at hv; cases hv
    | some n =>
      rw [hn] at hv; cases hv
      show CellRel gId (.int .u64 n) cs2[0 + j]?
      unfold CellRel
      have : cs2[j]? = some (Value.int .u64 n) := by
        rw [← Array.getElem?_toList, hcs, List.getElem?_map, hn]; rfl
      rw [Nat.zero_add, this]
      rfl
  · obtain ⟨l, _, rfl⟩ := baseT_get hb; cases hx
  · obtain ⟨l, _, rfl⟩ := baseT_get hb; rfl

theorem bare_has : hasK (H.bare ng nd2) nd2 = true := by kernel_rfl
theorem bare_old (p : Pos) (l : List V) (h : (p, l) ∈ nd2) : Old (H.bare ng nd2) p := by
  simp only [nd2, List.mem_singleton, Prod.mk.injEq] at h
  obtain ⟨rfl, rfl⟩ := h
  show (Pos.i Pos.h).toNat < ng.toNat
  decide
end Go.Proofs.YtdojpbbdcgfcnaaGreatDoor.AI.T
/- LinesChecks: the row. -/
set_option maxRecDepth 100000
namespace Go.Proofs.YtdojpbbdcgfcnaaGreatDoor.AI.T
open Go Go.Proofs.YtdojpbbdcgfcnaaGreatDoor.AI Go.Proofs Go.Proofs.YtdojpbbdcgfcnaaGreatDoor

section
variable {P : Program} {h : H}
theorem reads_int {k : Nat} {t : TypeId} {kd : IntKind} {vs : List V} (ht : P.underlying t = some (.int kd)) (hr : Reads P h (k + 1) t vs) : ∃ n, vs = [.int kd n] := by
  unfold Reads at hr; rw [ht] at hr; exact hr





end
end Go.Proofs.YtdojpbbdcgfcnaaGreatDoor.AI.T
/- Functions of the law LinesSums, whatever their inputs, 1. -/
set_option maxRecDepth 100000
namespace Go.Proofs.YtdojpbbdcgfcnaaGreatDoor.AI.T
open Go Go.Proofs.YtdojpbbdcgfcnaaGreatDoor.AI

/-- functions that may be known without their bodies -/
def natList : List Nat := [17, 18, 19, 20, 21, 22, 58, 76, 77, 78, 79, 80, 81, 82, 83, 85, 261, 277, 339, 340, 378, 395]
structure Plain (p : Prg) : Prop where
  fs : ∀ f, p.fs f = tab.get f
  nat : ∀ f, natList.contains f = false → p.nat f = none
theorem Plain.call {p : Prg} (P : Plain p) {f m : Nat} {fk : FK} {args cap : List V} {h : H} (hf : tab.get f = some fk) (hn : natList.contains f = false) : callK p (m + 1) (.fn (.func f) [] cap) args h = bodyK (callK p m) m fk (args ++ cap) h := by
  rw [call_go, go_body (P.nat f hn) ((P.fs f).trans hf)]
theorem Plain.callAt {p : Prg} (P : Plain p) {f m : Nat} {fk : FK} {args cap : List V} {h : H} (hf : tab.get f = some fk) (hn : p.nat f = none) : callK p (m + 1) (.fn (.func f) [] cap) args h = bodyK (callK p m) m fk (args ++ cap) h := by
  rw [call_go, go_body hn ((P.fs f).trans hf)]

abbrev w64 (i : Int) : Int := IntKind.wrap .i64 i
/-- a + the numbers of f at the places l -/
def sumAt (f : List Int) : Int → List Int → Int
  | a, [] => a
  | a, x :: l => sumAt f (w64 (a + f.getD x.toNat 0)) l
def sumUp (f : List Int) (l : List Int) : Int := sumAt f 0 l


section
variable {p : Prg} {m : Nat} {h : H}


/-- lines whose cells are places of a filling, not many and not long -/
structure Fit (ls : List (List Int)) (n : Nat) : Prop where
  len : ls.length ≤ 1000
  lens : ∀ l ∈ ls, l.length ≤ 1000
  rng : ∀ l ∈ ls, ∀ x ∈ l, 0 ≤ x ∧ x < n
def sumsOf (f : List Int) (ls : List (List Int)) : List Int := ls.map (sumUp f)



/-- the place of the first that is not the first -/
def firstOther (l : List Int) : Int := idxOf (fun x => !decide (x = l.headD 0)) l 0
theorem c203 (P : Plain p) {v f : V} {xs : List Int} {Q : Int → Bool} (hs : RdAt h v (xs.map vi)) (hm : xs.length + 2 ≤ m) (hx : xs.length < 9223372036854775807)
    (hc : ∀ x ∈ xs, ∀ k, m = k + 1 → callK p k f [vi x] ⟨h.next, h.t, []⟩ = some (.bool (Q x), ⟨h.next, h.t, []⟩)) : callK p m (.fn (.func 203) [] []) [v, f] h = some (vi (idxOf Q xs 0), h) := by
  obtain ⟨m, rfl⟩ : ∃ k, m = k + 1 := ⟨m - 1, by omega⟩
  rw [P.call (fk := f203) rfl rfl]
  refine body_tmp rfl ?_
  simp [k203, ↓hs.len]
  refine Ends.looped (fun n fr' h' => h' = ⟨h.next, h.t, []⟩ ∧ ∃ i, n + i = xs.length ∧ Tr.get (Pos.ofNat 8) fr' = some (vi i) ∧ Tr.get (Pos.ofNat 7) fr' = some (vi xs.length) ∧ Tr.get (Pos.ofNat 0) fr' = some v ∧ Tr.get (Pos.ofNat 1) fr' = some f ∧ idxOf Q xs 0 = idxOf Q (xs.drop i) i)
    (fun j fr' h' => h' = ⟨h.next, h.t, []⟩ ∧ ((j = .exit 0 ∧ idxOf Q xs 0 = -1) ∨ (j = .ret ∧ Tr.get (Pos.ofNat 4) fr' = some (vi (idxOf Q xs 0))))) xs.length ⟨rfl, 0, by simp⟩ (show xs.length < m by omega) ?_ ?_
  · rintro n fr' h' ⟨rfl, i, h1, h2, h3, h4, h4', h5⟩
    by_cases hi : i < xs.length
    · obtain ⟨b, o, a1, a2, a3⟩ := hs.bare.at (i := i) (u := vi xs[i]) (by simp [hi])
      have hf := idxOf_drop (P := Q) (List.getElem?_eq_getElem hi)
      have hw := wrap_succ hi hx
      have hcc := hc xs[i] (List.getElem_mem hi) m rfl
      by_cases h0 : Q xs[i] = true
      · simp [h2, h3, h4, h4', hi, ↓a2, ↓a3, h0, hcc]
        rw [h5, hf, if_pos h0]
      · simp [h2, h3, h4, h4', hi, ↓a2, ↓a3, h0, hcc, hw]
        refine ⟨n - 1, by omega, i + 1, by omega, by simp, ?_⟩
        rw [h5, hf, if_neg h0]
    · simp [h2, h3, hi]
      rw [h5, List.drop_eq_nil_of_le (by omega)]; rfl
  · rintro j fr' h' ⟨rfl, ⟨rfl, h1⟩ | ⟨rfl, h1⟩⟩
    · simp [h1]
    · simp [h1]
end
end Go.Proofs.YtdojpbbdcgfcnaaGreatDoor.AI.T
/- Functions of the law LinesSums, whatever their inputs, 2. -/
set_option maxRecDepth 100000
namespace Go.Proofs.YtdojpbbdcgfcnaaGreatDoor.AI.T
open Go Go.Proofs.YtdojpbbdcgfcnaaGreatDoor.AI

structure Sys (p : Prg) : Prop extends Plain p where
  c17 : ∀ (m : Nat) (h : H) (c cells lines : Int) (v : V) (ls : List (List Int)), LinesAt h v ls → ls.length ≤ 9223372036854775807 → callK p (m + 1) (.fn (.func 17) [] []) [.agg [vi c, v], vi cells, vi lines] h = some (.bool (Short cells lines ls), h)
  c18 : ∀ (m : Nat) (h : H), hasK h nd2 = true → callK p (m + 1) (.fn (.func 18) [] []) [] h = some (.bool true, h)
  c19 : ∀ (m : Nat) (h : H) (c : Int) (v : V) (ls : List (List Int)), LinesAt h v ls → ls.length ≤ 1000 → (∀ l ∈ ls, l.length ≤ 1000) → callK p (m + 1) (.fn (.func 19) [] []) [.agg [vi c, v]] h = some (vi (sysErr c ls), h)
  c20 : ∀ (m : Nat) (h : H) (c : Int) (v : V) (ls : List (List Int)), LinesAt h v ls → ls.length ≤ 1000 → (∀ l ∈ ls, l.length ≤ 1000) → callK p (m + 1) (.fn (.func 20) [] []) [.agg [vi c, v]] h = some (vi (sysErr c ls), h)

section
variable {p : Prg} {m : Nat} {h : H}
theorem c90 (P : Plain p) {b : Bool} {e : Int} (hm : 1 ≤ m) : callK p m (.fn (.func 90) [] []) [.bool b, vi e] h = some (vi (if b = true then e else 0), h) := by
  obtain ⟨m, rfl⟩ : ∃ k, m = k + 1 := ⟨m - 1, by omega⟩
  rw [P.call (fk := f90) rfl rfl]
  exact fn90 _ _ _ _ _
theorem c88 (P : Plain p) {v : V} {xs : List Int} (hs : RdAt h v (xs.map vi)) (hm : xs.length + 2 ≤ m) (hx : xs.length < 9223372036854775807) : callK p m (.fn (.func 88) [] []) [v] h = some (vi (firstOf xs), h) := by
  obtain ⟨m, rfl⟩ : ∃ k, m = k + 1 := ⟨m - 1, by omega⟩
  rw [P.call (fk := f88) rfl rfl]
  refine body_tmp rfl ?_
  simp [k88, hs.len]
  refine Ends.looped (fun n fr' h' => h' = ⟨h.next, h.t, []⟩ ∧ ∃ i, n + i = xs.length ∧ Tr.get (Pos.ofNat 7) fr' = some (vi i) ∧ Tr.get (Pos.ofNat 6) fr' = some (vi xs.length) ∧ Tr.get (Pos.ofNat 5) fr' = some v ∧ firstOf xs = firstOf (xs.drop i))
    (fun j fr' h' => h' = ⟨h.next, h.t, []⟩ ∧ ((j = .exit 0 ∧ firstOf xs = 0) ∨ (j = .ret ∧ Tr.get (Pos.ofNat 2) fr' = some (vi (firstOf xs))))) xs.length ⟨rfl, 0, by simp⟩ (show xs.length < m by omega) ?_ ?_
  · rintro n fr' h' ⟨rfl, i, h1, h2, h3, h4, h5⟩
    by_cases hi : i < xs.length
    · obtain ⟨b, o, a1, a2, a3⟩ := hs.bare.at (i := i) (u := vi xs[i]) (by simp [hi])
      have hf := firstOf_drop (List.getElem?_eq_getElem hi)
      have hw := wrap_succ hi hx
      by_cases h0 : xs[i] = 0
      · simp [h2, h3, h4, hi, a2, a3, h0, hw]
        refine ⟨n - 1, by omega, i + 1, by omega, by simp, ?_⟩
        rw [h5, hf, if_pos h0]
      · simp [h2, h3, h4, hi, a2, a3, h0]
        rw [h5, hf, if_neg h0]
    · simp [h2, h3, hi]
      rw [h5, List.drop_eq_nil_of_le (by omega)]; rfl
  · rintro j fr' h' ⟨rfl, ⟨rfl, h1⟩ | ⟨rfl, h1⟩⟩
    · simp [h1]
    · simp [h1]
theorem c193 (P : Plain p) {x lo hi : Int} {b1 b2 : Pos} (h1 : ∀ f, h.loadK none b1 0 f = f (vi lo)) (h2 : ∀ f, h.loadK none b2 0 f = f (vi hi)) (hm : 1 ≤ m) :
    callK p m (.fn (.func 193) [] [.ptr b1 0, .ptr b2 0]) [vi x] h = some (.bool (decide (x < lo) || decide (hi < x)), h) := by
  obtain ⟨m, rfl⟩ : ∃ k, m = k + 1 := ⟨m - 1, by omega⟩
  rw [P.call (fk := f193) rfl rfl]
  exact fn193 _ _ _ _ _ _ _ _ h1 h2
theorem c160 (P : Plain p) {v : V} {xs : List Int} {lo hi : Int} {b1 b2 : Pos} (hs : RdAt h v (xs.map vi)) (h1 : ∀ f, h.loadK none b1 0 f = f (vi lo)) (h2 : ∀ f, h.loadK none b2 0 f = f (vi hi)) (hm : xs.length + 4 ≤ m) (hx : xs.length < 9223372036854775807) :
    callK p m (.fn (.func 160) [] []) [v, .fn (.func 193) [] [.ptr b1 0, .ptr b2 0]] h = some (.bool (outside lo hi xs), h) := by
  obtain ⟨m, rfl⟩ : ∃ k, m = k + 1 := ⟨m - 1, by omega⟩
  rw [P.call (fk := f160) rfl rfl]
  refine fn160 _ _ _ _ xs (fun x => decide (x < lo) || decide (hi < x)) _ ?_
  exact c203 P hs.bare (by omega) hx fun x _ k hk => c193 P (h := ⟨h.next, h.t, []⟩) h1 h2 (by omega)
theorem c89 (P : Plain p) {lo hi : Int} {v : V} {xs : List Int} (hs : RdAt h v (xs.map vi)) (hm : xs.length + 5 ≤ m) (hx : xs.length < 9223372036854775807) :
    Ret1 h (fun u _ => u = vi (if outside lo hi xs = true then 3 else 0)) (callK p m (.fn (.func 89) [] []) [vi lo, vi hi, v] h) := by
  obtain ⟨m, rfl⟩ : ∃ k, m = k + 1 := ⟨m - 1, by omega⟩
  rw [P.call (fk := f89) rfl rfl]
  refine body_ret1 rfl ?_
  generalize hH0 : (⟨h.next, h.t, []⟩ : H) = H0
  have hs0 : RdAt H0 v (xs.map vi) := by rw [← hH0]; exact hs
  have x1 : Ext H0 (H0.new (.cells [vi lo] .own 3)) := (Ext.refl _).new
  have x2 : Ext H0 ((H0.new (.cells [vi lo] .own 3)).new (.cells [vi hi] .own 3)) := x1.new
  have e := c160 (m := m) P (hs0.ext x2) (b1 := H0.next) (b2 := (H0.new (.cells [vi lo] .own 3)).next) (lo := lo) (hi := hi) (fun f => load1 (l := [vi lo]) (kd := .own) (ty := 3) (by simp) rfl rfl) (fun f => load1 (l := [vi hi]) (kd := .own) (ty := 3) (by simp) rfl rfl) (by omega) hx
  have e2 := c90 (m := m) (h := (H0.new (.cells [vi lo] .own 3)).new (.cells [vi hi] .own 3)) P (b := outside lo hi xs) (e := 3) (by omega)
  simp [k89, e, e2, x2]

/-- the error of the numbers of a filling -/
def numErr (f : List Int) : Int := if outside (-999999999) 999999999 f = true then 3 else 0

/-- the first error of a system and of a filling -/
def sysFillErr (c : Int) (ls : List (List Int)) (f : List Int) : Int := firstOf [sysErr c ls, if (f.length : Int) = c then 0 else 2, numErr f]
theorem rd_box {ty : TypeId} (es : List Int) {n : Nat} (hn : es.length = n) : RdAt (h.new (.cells (es.map vi) .own ty)) (.slc h.next 0 n (.known n)) (es.map vi) := (built es hn).rd

end
end Go.Proofs.YtdojpbbdcgfcnaaGreatDoor.AI.T
/- Functions of the law LinesSums, whatever their inputs, 3. -/
set_option maxRecDepth 100000
namespace Go.Proofs.YtdojpbbdcgfcnaaGreatDoor.AI.T
open Go Go.Proofs.YtdojpbbdcgfcnaaGreatDoor.AI

/-! what a system without errors is -/

section
variable {p : Prg} {m : Nat} {h : H}


/-! the reference -/
theorem c50 (P : Plain p) {v w : V} {xs ys : List Int} (hs : RdAt h v (xs.map vi)) (ht : RdAt h w (ys.map vi)) (hm : xs.length + 2 ≤ m) (hx : xs.length < 9223372036854775807) :
    callK p m (.fn (.func 50) [] []) [v, w] h = some (.bool (decide (xs = ys)), h) := by
  obtain ⟨m, rfl⟩ : ∃ k, m = k + 1 := ⟨m - 1, by omega⟩
  rw [P.call (fk := f50) rfl rfl]
  refine body_tmp rfl ?_
  by_cases hl : xs.length = ys.length
  · simp [k50, hs.len, ht.len, hl]
    refine Ends.looped (fun m fr' h' => h' = ⟨h.next, h.t, []⟩ ∧ ∃ i, m + i = xs.length ∧ Tr.get (Pos.ofNat 5) fr' = some (vi i) ∧ Tr.get (Pos.ofNat 0) fr' = some v ∧ Tr.get (Pos.ofNat 1) fr' = some w ∧ (xs = ys ↔ xs.drop i = ys.drop i))
      (fun j fr' h' => h' = ⟨h.next, h.t, []⟩ ∧ ((j = .exit 0 ∧ xs = ys) ∨ (j = .ret ∧ xs ≠ ys ∧ Tr.get (Pos.ofNat 4) fr' = some (.bool false)))) xs.length ⟨rfl, 0, by simp⟩ (show xs.length < m by omega) ?_ ?_
    · rintro n fr' h' ⟨rfl, i, h1, h2, h3, h4, h5⟩
      have hlx := hs.bare.len
      have hly := ht.bare.len
      by_cases hi : i < xs.length
      · obtain ⟨b, o, a1, a2, a3⟩ := hs.bare.at (i := i) (u := vi xs[i]) (by simp [hi])
        obtain ⟨b', o', a1', a2', a3'⟩ := ht.bare.at (i := i) (u := vi (ys[i]'(by omega))) (by simp [hl ▸ hi])
        have hf := eqFrom hl hi
        have hw := wrap_succ hi hx
        have hi' : i < ys.length := by omega
        by_cases h0 : xs[i] = ys[i]
        · simp [↓hlx, ↓hly, h2, h3, h4, hi, ↓a2, ↓a3, ↓a2', ↓a3', h0, hw, hi']
          refine ⟨n - 1, by omega, i + 1, by omega, by simp, ?_⟩
          rw [h5, hf]; simp [h0]
        · simp [↓hlx, h2, h3, h4, hi, ↓a2, ↓a3, ↓a2', ↓a3', h0]
          rw [h5, hf]; simp [h0]
      · simp [↓hlx, h2, h3, hi]
        rw [h5, List.drop_eq_nil_of_le (by omega), List.drop_eq_nil_of_le (by omega)]
    · rintro j fr' h' ⟨rfl, ⟨rfl, h1⟩ | ⟨rfl, h1, h2⟩⟩
      · simp [h1]
      · simp [h1, h2]
  · have hne : xs ≠ ys := fun he => hl (by rw [he])
    have hl' : ¬ ((xs.length : Int) = (ys.length : Int)) := by omega
    simp [k50, hs.len, ht.len, hl, hl', hne]
end
end Go.Proofs.YtdojpbbdcgfcnaaGreatDoor.AI.T
/- Functions of the law LinesSystems, whatever their inputs: errors. -/
set_option maxRecDepth 100000
namespace Go.Proofs.YtdojpbbdcgfcnaaGreatDoor.AI.T
open Go Go.Proofs.YtdojpbbdcgfcnaaGreatDoor.AI

abbrev sSemi : List UInt8 := [115, 101, 109, 105, 109, 97, 103, 105, 99]
abbrev sMagic : List UInt8 := [109, 97, 103, 105, 99]
abbrev sPan : List UInt8 := [112, 97, 110, 100, 105, 97, 103, 111, 110, 97, 108]
/-- no system, and an error -/
abbrev zeroSys (e : Int) : V := .tup [.agg [vi 0, .nils], vi e]

section
variable {p : Prg} {m : Nat} {h : H}
/-- results: a variable of two cells, and a slot -/
theorem body_cell {call : Call} {n : Nat} {ps : List Pos} {r s : Pos} {K : K} {args : List V} {Post : V → V → V → H → Prop} (hl : ps.length = args.length)
    (hh : Ends (K ⟨call, n, false⟩ (setAll .leaf ps args) ⟨h.next, h.t, []⟩) fun x fr' h' => x = .jump .ret ∧ h'.marks = [] ∧ ∃ b kd ty v w u, Tr.get r fr' = some (.ptr b 0) ∧ h'.get b = some (.cells [v, w] kd ty) ∧ v.isJunk = false ∧ w.isJunk = false ∧ Tr.get s fr' = some u ∧ Post v w u ⟨h'.next, h'.t, h.marks⟩) :
    ∃ v w u h', bodyK call n ⟨ps, [.cell r (some 2), .tmp s], K⟩ args h = some (.tup [.agg [v, w], u], h') ∧ Post v w u h' := by
  obtain ⟨x, fr', h', h1, rfl, hm, b, kd, ty, v, w, u, h2, h3, h4, h5, h6, h7⟩ := hh
  refine ⟨v, w, u, _, ?_, h7⟩
  show enterK ps args .leaf (fun fr => resK (K ⟨call, n, false⟩ fr ⟨h.next, h.t, []⟩) (fun fr h' => leaveK h.marks [.cell r (some 2), .tmp s] fr h') (fun j fr h' => (Jump.casesOn j (fun _ => none) (leaveK h.marks [.cell r (some 2), .tmp s] fr h') : Option (V × H))) none) none = _
  rw [enterK_all _ _ _ _ hl, h1]
  obtain ⟨nx, t, ms⟩ := h'
  simp only at hm
  subst hm
  have hg : Tr.get b t = some (.cells [v, w] kd ty) := h3
  have hd : takeK 2 [v, w] (fun l => (Option.casesOn (Tr.get s fr') none fun v => some (resOf [.agg l, v], (⟨nx, t, h.marks⟩ : H)) : Option (V × H))) none = some (.tup [.agg [v, w], u], ⟨nx, t, h.marks⟩) := by
    rw [takeK_eq, if_pos ⟨by simp, by simp [h4, h5]⟩, h6]; rfl
  show (Option.casesOn (Tr.get r fr') none fun a => a.onPtr (fun b off => H.getK ⟨nx, t, h.marks⟩ b (fun b => b.onCells (fun l _ _ => dropK off l (fun l => takeK 2 l (fun l => (Option.casesOn (Tr.get s fr') none fun v => some (resOf [.agg l, v], (⟨nx, t, h.marks⟩ : H)) : Option (V × H))) none) none) none) none) none : Option (V × H)) = _
  rw [h2]
  show H.getK ⟨nx, t, h.marks⟩ b _ none = _
  rw [H.getK_eq]
  have hg' : H.get ⟨nx, t, h.marks⟩ b = some (.cells [v, w] kd ty) := hg
  rw [hg']
  refine Eq.trans (b := dropK 0 [v, w] (fun l => takeK 2 l (fun l => (Option.casesOn (Tr.get s fr') none fun v => some (resOf [.agg l, v], (⟨nx, t, h.marks⟩ : H)) : Option (V × H))) none) none) rfl ?_
  rw [dropK_eq, if_pos (Nat.zero_le _)]
  exact hd

@[simp, simp ↓] theorem int2K_str {β : Type} {a : List UInt8} {w : V} {f : IntKind → Int → Int → β} {z : β} : int2K (.str a) w f z = z := Eq.trans rfl rfl
@[simp, simp ↓] theorem onStr_s {β : Type} {a : List UInt8} {f : List UInt8 → β} {z : β} : (V.str a).onStr f z = f a := Eq.trans rfl rfl
@[simp, simp ↓] theorem eqV_str {a b : List UInt8} : eqV (.s .s) (.str a) (.str b) = some (decide (a = b)) := by
  show eqS .s (.str a) (.str b) = _
  show some (bytesEq a b) = _
  rw [bytesEq_eq]
  congr 1
  rw [Bool.eq_iff_iff]; simp
@[simp, simp ↓] theorem sBuild_s {cx : Cx} {e : List V} {fr : Fr} {zero : List V} {ps : List (Nat × Nat × O)} {k : V → H → Res} : sBuild zero ps cx e fr h k = fillK e fr ps zero fun l => k (.agg l) h := Eq.trans rfl rfl
@[simp] theorem cells_str {a : List UInt8} : (V.str a).cells = [.str a] := Eq.trans rfl rfl
@[simp] theorem junk_str {a : List UInt8} : (V.str a).isJunk = false := Eq.trans rfl rfl

theorem c257 (P : Plain p) {v : V} {ss : List (List UInt8)} {x : List UInt8} (hs : RdAt h v (ss.map .str)) (hm : ss.length + 2 ≤ m) (hx : ss.length < 9223372036854775807) :
    callK p m (.fn (.func 257) [] []) [v, .str x] h = some (vi (idxOf (fun y => decide (x = y)) ss 0), h) := by
  obtain ⟨m, rfl⟩ : ∃ k, m = k + 1 := ⟨m - 1, by omega⟩
  rw [P.call (fk := f257) rfl rfl]
  refine body_tmp rfl ?_
  simp [k257, hs.len]
  generalize hQ : (fun y => decide (x = y)) = Q
  refine Ends.looped (fun n fr' h' => h' = ⟨h.next, h.t, []⟩ ∧ ∃ i, n + i = ss.length ∧ Tr.get (Pos.ofNat 8) fr' = some (vi i) ∧ Tr.get (Pos.ofNat 7) fr' = some (vi ss.length) ∧ Tr.get (Pos.ofNat 0) fr' = some v ∧ Tr.get (Pos.ofNat 1) fr' = some (.str x) ∧ idxOf Q ss 0 = idxOf Q (ss.drop i) i)
    (fun j fr' h' => h' = ⟨h.next, h.t, []⟩ ∧ ((j = .exit 0 ∧ idxOf Q ss 0 = -1) ∨ (j = .ret ∧ Tr.get (Pos.ofNat 4) fr' = some (vi (idxOf Q ss 0))))) ss.length ⟨rfl, 0, by simp⟩ (show ss.length < m by omega) ?_ ?_
  · rintro n fr' h' ⟨rfl, i, h1, h2, h3, h4, h4', h5⟩
    by_cases hi : i < ss.length
    · obtain ⟨b, o, a1, a2, a3⟩ := hs.bare.at (i := i) (u := .str ss[i]) (by simp [hi])
      have hf := idxOf_drop (P := Q) (List.getElem?_eq_getElem hi)
      have hw := wrap_succ hi hx
      by_cases h0 : x = ss[i]
      · have hq : Q ss[i] = true := by rw [← hQ]; simp [h0]
        simp [h2, h3, h4, h4', hi, ↓a2, ↓a3, ← h0]
        rw [h5, hf, if_pos hq]
      · have hq : ¬ Q ss[i] = true := by rw [← hQ]; simp [h0]
        simp [h2, h3, h4, h4', hi, ↓a2, ↓a3, h0, hw]
        refine ⟨n - 1, by omega, i + 1, by omega, by simp, ?_⟩
        rw [h5, hf, if_neg hq]
    · simp [h2, h3, hi]
      rw [h5, List.drop_eq_nil_of_le (by omega)]; rfl
  · rintro j fr' h' ⟨rfl, ⟨rfl, h1⟩ | ⟨rfl, h1⟩⟩
    · simp [h1]
    · simp [h1]
theorem c162 (P : Plain p) {v : V} {ss : List (List UInt8)} {x : List UInt8} (hs : RdAt h v (ss.map .str)) (hm : ss.length + 3 ≤ m) (hx : ss.length < 9223372036854775807) :
    callK p m (.fn (.func 162) [] []) [v, .str x] h = some (.bool (ss.any fun y => decide (x = y)), h) := by
  obtain ⟨m, rfl⟩ : ∃ k, m = k + 1 := ⟨m - 1, by omega⟩
  rw [P.call (fk := f162) rfl rfl]
  refine body_tmp rfl ?_
  have e := c257 (m := m) (x := x) P hs.bare (by omega) hx
  have := idxOf_nonneg (P := fun y => decide (x = y)) ss 0
  simp [k162, e]
  simpa using this

def knownB (s : List UInt8) : Bool := [sSemi, sMagic, sPan].any fun y => decide (s = y)
/-- the error of a kind of squares, and of an order -/
def sqErr (s : List UInt8) (n : Int) : Int := firstOf [if (!knownB s) = true then 13 else 0, if outside 1 16 [n] = true then 3 else 0]
theorem rd_strs {ty : TypeId} (ss : List (List UInt8)) {n : Nat} (hn : ss.length = n) : RdAt (h.new (.cells (ss.map V.str) .own ty)) (.slc h.next 0 n (.known n)) (ss.map V.str) := by
  subst hn
  refine .inr ⟨h.next, 0, _, _, .own, ty, by rw [List.length_map], get_new_next, old_next, fun i u hu => ⟨by rw [Nat.zero_add]; exact hu, ?_⟩⟩
  rw [List.getElem?_map] at hu
  cases hl : ss[i]? with
  | none => rw [hl] at hu; cases hu
  | some l => rw [hl] at hu; cases hu; rfl
/-- a variable of a system is given the zero value -/
theorem store_zero {b : Pos} {a c : V} {f : H → Res} (hb : h.get b = some (.cells [vi 0, .nils] .own 24)) (ha : a.isOne = true) (hc : c.isOne = true) : h.storeK b 0 [a, c] f = f (h.put b (some (.cells [a, c] .own 24))) := by
  rw [storeK_box hb rfl (by show (Bool.casesOn a.isOne false (Bool.casesOn c.isOne false true) : Bool) = true; rw [ha, hc]) (by simp)]; rfl

theorem err58 (P : Plain p) (hn : p.nat 58 = none) {s : List UInt8} {n : Int} (he : sqErr s n ≠ 0) (hm : 100 ≤ m) : ∃ h', callK p m (.fn (.func 58) [] []) [.str s, vi n] h = some (zeroSys (sqErr s n), h') := by
  obtain ⟨m, rfl⟩ : ∃ k, m = k + 1 := ⟨m - 1, by omega⟩
  rw [P.callAt (fk := f58) rfl hn]
  suffices hh : ∃ a b c h', bodyK (callK p m) m f58 ([.str s, vi n] ++ []) h = some (.tup [.agg [a, b], c], h') ∧ (a = vi 0 ∧ b = .nils ∧ c = vi (sqErr s n)) by
    obtain ⟨a, b, c, h', e, rfl, rfl, rfl⟩ := hh
    exact ⟨h', e⟩
  refine body_cell rfl ?_
  generalize hH0 : (⟨h.next, h.t, []⟩ : H) = H0
  have hm0 : H0.marks = [] := by rw [← hH0]
  generalize hH1 : H0.new (.cells [vi 0, .nils] .own 24) = H1
  have x01 : Ext H0 H1 := by rw [← hH1]; exact (Ext.refl _).new
  have q1 : H1.get H0.next = some (.cells [vi 0, .nils] .own 24) := by rw [← hH1]; simp
  have qo : Old H1 H0.next := by rw [← hH1]; exact old_next
  have r2 := rd_strs (h := H1) (ty := 9) [sSemi, sMagic, sPan] (n := 3) rfl
  simp at r2
  have e162 := c162 (m := m) (x := s) P (ss := [sSemi, sMagic, sPan]) r2 (by simp; omega) (by simp)
  have e162' : callK p m (.fn (.func 162) [] []) [.slc H1.next 0 3 (.known 3), .str s] (H1.new (.cells [.str sSemi, .str sMagic, .str sPan] .own 9)) = some (.bool (knownB s), H1.new (.cells [.str sSemi, .str sMagic, .str sPan] .own 9)) := e162
  generalize hH2 : H1.new (.cells [.str sSemi, .str sMagic, .str sPan] .own 9) = H2 at e162'
  have x12 : Ext H1 H2 := by rw [← hH2]; exact (Ext.refl _).new
  have e90 := c90 (m := m) (h := H2) P (b := !knownB s) (e := 13) (by omega)
  have bu := rd_box (h := H2) (ty := 3) [n] (n := 1) rfl
  obtain ⟨u, H4, e89, x34, rfl⟩ := c89 (m := m) (lo := 1) (hi := 16) P bu (by simp; omega) (by simp)
  generalize hH3 : H2.new (.cells ([n].map vi) .own 3) = H3 at e89 x34
  have hH3' : H2.new (.cells [vi n] .own 3) = H3 := hH3
  have x23 : Ext H2 H3 := by rw [← hH3]; exact (Ext.refl _).new
  have bu2 := rd_box (h := H4) (ty := 30) [if (!knownB s) = true then 13 else 0, if outside 1 16 [n] = true then 3 else 0] (n := 2) rfl
  have e88 := c88 (m := m) P bu2 (by simp; omega) (by simp)
  generalize hH5 : H4.new (.cells (([if (!knownB s) = true then 13 else 0, if outside 1 16 [n] = true then 3 else 0] : List Int).map vi) .own 30) = H5 at e88
  have hH5' : H4.new (.cells [vi (if (!knownB s) = true then 13 else 0), vi (if outside 1 16 [n] = true then 3 else 0)] .own 30) = H5 := hH5
  have x45 : Ext H4 H5 := by rw [← hH5]; exact (Ext.refl _).new
  have x15 := ((x12.trans x23).trans x34).trans x45
  have e88' : callK p m (.fn (.func 88) [] []) [.slc H4.next 0 2 (.known 2)] H5 = some (vi (sqErr s n), H5) := e88
  have q5 : H5.get H0.next = some (.cells [vi 0, .nils] .own 24) := (x15.get _ qo).trans q1
  have st : ∀ f, H5.storeK H0.next 0 [vi 0, .nils] f = f (H5.put H0.next (some (.cells [vi 0, .nils] .own 24))) := fun f => store_zero q5 rfl rfl
  have hm5 : H5.marks = [] := (x01.trans x15).marks.trans hm0
  generalize hE : sqErr s n = E at *
  generalize (if (!knownB s) = true then (13 : Int) else 0) = A at *
  generalize (if outside 1 16 [n] = true then (3 : Int) else 0) = B at *
  simp only [sSemi, sMagic, sPan] at hH2
  simp [k58, hH1, repL, setAt, hH2, e162', e90, hH3', e89, hH5', e88', he, ↓st, hm5]
  exact ⟨_, _, _, _, ⟨⟨rfl, rfl⟩, rfl, rfl⟩, rfl, rfl, rfl, rfl⟩

theorem err76 (P : Plain p) (hn : p.nat 76 = none) {r c : Int} (ho : outside 1 16 [r, c] = true) (hm : 100 ≤ m) : ∃ h', callK p m (.fn (.func 76) [] []) [vi r, vi c] h = some (zeroSys 3, h') := by
  obtain ⟨m, rfl⟩ : ∃ k, m = k + 1 := ⟨m - 1, by omega⟩
  rw [P.callAt (fk := f76) rfl hn]
  suffices hh : ∃ a b d h', bodyK (callK p m) m f76 ([vi r, vi c] ++ []) h = some (.tup [.agg [a, b], d], h') ∧ (a = vi 0 ∧ b = .nils ∧ d = vi 3) by
    obtain ⟨a, b, c, h', e, rfl, rfl, rfl⟩ := hh
    exact ⟨h', e⟩
  refine body_cell rfl ?_
  generalize hH0 : (⟨h.next, h.t, []⟩ : H) = H0
  have hm0 : H0.marks = [] := by rw [← hH0]
  generalize hH1 : H0.new (.cells [vi 0, .nils] .own 24) = H1
  have x01 : Ext H0 H1 := by rw [← hH1]; exact (Ext.refl _).new
  have q1 : H1.get H0.next = some (.cells [vi 0, .nils] .own 24) := by rw [← hH1]; simp
  have qo : Old H1 H0.next := by rw [← hH1]; exact old_next
  have bu := rd_box (h := H1) (ty := 3) [r, c] (n := 2) rfl
  obtain ⟨u, H4, e89, x34, rfl⟩ := c89 (m := m) (lo := 1) (hi := 16) P bu (by simp; omega) (by simp)
  have x14 : Ext H1 H4 := Ext.trans (h' := H1.new (.cells ([r, c].map vi) .own 3)) (Ext.refl _).new x34
  have e89' : callK p m (.fn (.func 89) [] []) [vi 1, vi 16, .slc H1.next 0 2 (.known 2)] (H1.new (.cells [vi r, vi c] .own 3)) = some (vi (if outside 1 16 [r, c] = true then 3 else 0), H4) := e89
  rw [ho] at e89'
  have q4 : H4.get H0.next = some (.cells [vi 0, .nils] .own 24) := (x14.get _ qo).trans q1
  have st : ∀ f, H4.storeK H0.next 0 [vi 0, .nils] f = f (H4.put H0.next (some (.cells [vi 0, .nils] .own 24))) := fun f => store_zero q4 rfl rfl
  have hm4 : H4.marks = [] := (x01.trans x14).marks.trans hm0
  simp [k76, hH1, repL, setAt, e89', ↓st, hm4]
  exact ⟨_, _, _, _, ⟨⟨rfl, rfl⟩, rfl, rfl⟩, rfl, rfl, rfl, rfl⟩

theorem err77 (P : Plain p) (hn : p.nat 77 = none) {r c : Int} (ho : outside 1 16 [r, c] = true) (hm : 100 ≤ m) : ∃ h', callK p m (.fn (.func 77) [] []) [vi r, vi c] h = some (zeroSys 3, h') := by
  obtain ⟨m, rfl⟩ : ∃ k, m = k + 1 := ⟨m - 1, by omega⟩
  rw [P.callAt (fk := f77) rfl hn]
  suffices hh : ∃ a b d h', bodyK (callK p m) m f77 ([vi r, vi c] ++ []) h = some (.tup [.agg [a, b], d], h') ∧ (a = vi 0 ∧ b = .nils ∧ d = vi 3) by
    obtain ⟨a, b, c, h', e, rfl, rfl, rfl⟩ := hh
    exact ⟨h', e⟩
  refine body_cell rfl ?_
  generalize hH0 : (⟨h.next, h.t, []⟩ : H) = H0
  have hm0 : H0.marks = [] := by rw [← hH0]
  generalize hH1 : H0.new (.cells [vi 0, .nils] .own 24) = H1
  have x01 : Ext H0 H1 := by rw [← hH1]; exact (Ext.refl _).new
  have q1 : H1.get H0.next = some (.cells [vi 0, .nils] .own 24) := by rw [← hH1]; simp
  have qo : Old H1 H0.next := by rw [← hH1]; exact old_next
  have bu := rd_box (h := H1) (ty := 3) [r, c] (n := 2) rfl
  obtain ⟨u, H4, e89, x34, rfl⟩ := c89 (m := m) (lo := 1) (hi := 16) P bu (by simp; omega) (by simp)
  have x14 : Ext H1 H4 := Ext.trans (h' := H1.new (.cells ([r, c].map vi) .own 3)) (Ext.refl _).new x34
  have e89' : callK p m (.fn (.func 89) [] []) [vi 1, vi 16, .slc H1.next 0 2 (.known 2)] (H1.new (.cells [vi r, vi c] .own 3)) = some (vi (if outside 1 16 [r, c] = true then 3 else 0), H4) := e89
  rw [ho] at e89'
  have q4 : H4.get H0.next = some (.cells [vi 0, .nils] .own 24) := (x14.get _ qo).trans q1
  have st : ∀ f, H4.storeK H0.next 0 [vi 0, .nils] f = f (H4.put H0.next (some (.cells [vi 0, .nils] .own 24))) := fun f => store_zero q4 rfl rfl
  have hm4 : H4.marks = [] := (x01.trans x14).marks.trans hm0
  simp [k77, hH1, repL, setAt, e89', ↓st, hm4]
  exact ⟨_, _, _, _, ⟨⟨rfl, rfl⟩, rfl, rfl⟩, rfl, rfl, rfl, rfl⟩

theorem err79 (P : Plain p) (hn : p.nat 79 = none) {r : Int} (ho : outside 5 16 [r] = true) (hm : 100 ≤ m) : ∃ h', callK p m (.fn (.func 79) [] []) [vi r] h = some (zeroSys 3, h') := by
  obtain ⟨m, rfl⟩ : ∃ k, m = k + 1 := ⟨m - 1, by omega⟩
  rw [P.callAt (fk := f79) rfl hn]
  suffices hh : ∃ a b d h', bodyK (callK p m) m f79 ([vi r] ++ []) h = some (.tup [.agg [a, b], d], h') ∧ (a = vi 0 ∧ b = .nils ∧ d = vi 3) by
    obtain ⟨a, b, c, h', e, rfl, rfl, rfl⟩ := hh
    exact ⟨h', e⟩
  refine body_cell rfl ?_
  generalize hH0 : (⟨h.next, h.t, []⟩ : H) = H0
  have hm0 : H0.marks = [] := by rw [← hH0]
  generalize hH1 : H0.new (.cells [vi 0, .nils] .own 24) = H1
  have x01 : Ext H0 H1 := by rw [← hH1]; exact (Ext.refl _).new
  have q1 : H1.get H0.next = some (.cells [vi 0, .nils] .own 24) := by rw [← hH1]; simp
  have qo : Old H1 H0.next := by rw [← hH1]; exact old_next
  have bu := rd_box (h := H1) (ty := 3) [r] (n := 1) rfl
  obtain ⟨u, H4, e89, x34, rfl⟩ := c89 (m := m) (lo := 5) (hi := 16) P bu (by simp; omega) (by simp)
  have x14 : Ext H1 H4 := Ext.trans (h' := H1.new (.cells ([r].map vi) .own 3)) (Ext.refl _).new x34
  have e89' : callK p m (.fn (.func 89) [] []) [vi 5, vi 16, .slc H1.next 0 1 (.known 1)] (H1.new (.cells [vi r] .own 3)) = some (vi (if outside 5 16 [r] = true then 3 else 0), H4) := e89
  rw [ho] at e89'
  have q4 : H4.get H0.next = some (.cells [vi 0, .nils] .own 24) := (x14.get _ qo).trans q1
  have st : ∀ f, H4.storeK H0.next 0 [vi 0, .nils] f = f (H4.put H0.next (some (.cells [vi 0, .nils] .own 24))) := fun f => store_zero q4 rfl rfl
  have hm4 : H4.marks = [] := (x01.trans x14).marks.trans hm0
  simp [k79, hH1, repL, setAt, e89', ↓st, hm4]
  exact ⟨_, _, _, _, ⟨⟨rfl, rfl⟩, rfl, rfl⟩, rfl, rfl, rfl, rfl⟩

theorem err78 (P : Plain p) (hn : p.nat 78 = none) {r : Int} (ho : outside 1 6 [r] = true) (hm : 100 ≤ m) : ∃ h', callK p m (.fn (.func 78) [] []) [vi r] h = some (zeroSys 3, h') := by
  obtain ⟨m, rfl⟩ : ∃ k, m = k + 1 := ⟨m - 1, by omega⟩
  rw [P.callAt (fk := f78) rfl hn]
  suffices hh : ∃ a b d h', bodyK (callK p m) m f78 ([vi r] ++ []) h = some (.tup [.agg [a, b], d], h') ∧ (a = vi 0 ∧ b = .nils ∧ d = vi 3) by
    obtain ⟨a, b, c, h', e, rfl, rfl, rfl⟩ := hh
    exact ⟨h', e⟩
  refine body_cell rfl ?_
  generalize hH0 : (⟨h.next, h.t, []⟩ : H) = H0
  have hm0 : H0.marks = [] := by rw [← hH0]
  generalize hHa : H0.new (.cells [vi r] .own 3) = Ha
  have x0a : Ext H0 Ha := by rw [← hHa]; exact (Ext.refl _).new
  have oa : Old Ha H0.next := by rw [← hHa]; exact old_next
  have la : Ha.get H0.next = some (.cells [vi r] .own 3) := by rw [← hHa]; simp
  generalize hH1 : Ha.new (.cells [vi 0, .nils] .own 24) = H1
  have xa1 : Ext Ha H1 := by rw [← hH1]; exact (Ext.refl _).new
  have x01 := x0a.trans xa1
  have ld : ∀ f, H1.loadK none H0.next 0 f = f (vi r) := fun f => load1 (l := [vi r]) (kd := .own) (ty := 3) ((xa1.get _ oa).trans la) rfl rfl
  have q1 : H1.get Ha.next = some (.cells [vi 0, .nils] .own 24) := by rw [← hH1]; simp
  have qo : Old H1 Ha.next := by rw [← hH1]; exact old_next
  have bu := rd_box (h := H1) (ty := 3) [r] (n := 1) rfl
  obtain ⟨u, H4, e89, x34, rfl⟩ := c89 (m := m) (lo := 1) (hi := 6) P bu (by simp; omega) (by simp)
  have x14 : Ext H1 H4 := Ext.trans (h' := H1.new (.cells ([r].map vi) .own 3)) (Ext.refl _).new x34
  have e89' : callK p m (.fn (.func 89) [] []) [vi 1, vi 6, .slc H1.next 0 1 (.known 1)] (H1.new (.cells [vi r] .own 3)) = some (vi (if outside 1 6 [r] = true then 3 else 0), H4) := e89
  rw [ho] at e89'
  have q4 : H4.get Ha.next = some (.cells [vi 0, .nils] .own 24) := (x14.get _ qo).trans q1
  have st : ∀ f, H4.storeK Ha.next 0 [vi 0, .nils] f = f (H4.put Ha.next (some (.cells [vi 0, .nils] .own 24))) := fun f => store_zero q4 rfl rfl
  have hm4 : H4.marks = [] := (x01.trans x14).marks.trans hm0
  simp [k78, hHa, hH1, ↓ld, repL, setAt, e89', ↓st, hm4]
  exact ⟨_, _, _, _, ⟨⟨rfl, rfl⟩, rfl, rfl⟩, rfl, rfl, rfl, rfl⟩

/-! the reference -/
theorem err81 (P : Plain p) (hn : p.nat 81 = none) {r c : Int} (ho : outside 1 16 [r, c] = true) (hm : 100 ≤ m) : ∃ h', callK p m (.fn (.func 81) [] []) [vi r, vi c] h = some (zeroSys 3, h') := by
  obtain ⟨m, rfl⟩ : ∃ k, m = k + 1 := ⟨m - 1, by omega⟩
  rw [P.callAt (fk := f81) rfl hn]
  suffices hh : ∃ a b d h', bodyK (callK p m) m f81 ([vi r, vi c] ++ []) h = some (.tup [.agg [a, b], d], h') ∧ (a = vi 0 ∧ b = .nils ∧ d = vi 3) by
    obtain ⟨a, b, c, h', e, rfl, rfl, rfl⟩ := hh
    exact ⟨h', e⟩
  refine body_cell rfl ?_
  generalize hH0 : (⟨h.next, h.t, []⟩ : H) = H0
  have hm0 : H0.marks = [] := by rw [← hH0]
  generalize hH1 : H0.new (.cells [vi 0, .nils] .own 24) = H1
  have q1 : H1.get H0.next = some (.cells [vi 0, .nils] .own 24) := by rw [← hH1]; simp
  have st : ∀ f, H1.storeK H0.next 0 [vi 0, .nils] f = f (H1.put H0.next (some (.cells [vi 0, .nils] .own 24))) := fun f => store_zero q1 rfl rfl
  have hm1 : H1.marks = [] := by rw [← hH1]; exact hm0
  have hcs : r < 1 ∨ (¬ r < 1 ∧ 16 < r) ∨ (¬ r < 1 ∧ ¬ 16 < r ∧ c < 1) ∨ (¬ r < 1 ∧ ¬ 16 < r ∧ ¬ c < 1 ∧ 16 < c) := by
    simp [outside] at ho; omega
  rcases hcs with a1 | ⟨a1, a2⟩ | ⟨a1, a2, a3⟩ | ⟨a1, a2, a3, a4⟩
  · simp [k81, hH1, a1, ↓st, hm1]
    exact ⟨_, _, _, _, ⟨⟨rfl, rfl⟩, rfl, rfl⟩, rfl, rfl, rfl, rfl⟩
  · simp [k81, hH1, a1, a2, ↓st, hm1]
    exact ⟨_, _, _, _, ⟨⟨rfl, rfl⟩, rfl, rfl⟩, rfl, rfl, rfl, rfl⟩
  · simp [k81, hH1, a1, a2, a3, ↓st, hm1]
    exact ⟨_, _, _, _, ⟨⟨rfl, rfl⟩, rfl, rfl⟩, rfl, rfl, rfl, rfl⟩
  · simp [k81, hH1, a1, a2, a3, a4, ↓st, hm1]
    exact ⟨_, _, _, _, ⟨⟨rfl, rfl⟩, rfl, rfl⟩, rfl, rfl, rfl, rfl⟩

theorem err82 (P : Plain p) (hn : p.nat 82 = none) {r c : Int} (ho : outside 1 16 [r, c] = true) (hm : 100 ≤ m) : ∃ h', callK p m (.fn (.func 82) [] []) [vi r, vi c] h = some (zeroSys 3, h') := by
  obtain ⟨m, rfl⟩ : ∃ k, m = k + 1 := ⟨m - 1, by omega⟩
  rw [P.callAt (fk := f82) rfl hn]
  suffices hh : ∃ a b d h', bodyK (callK p m) m f82 ([vi r, vi c] ++ []) h = some (.tup [.agg [a, b], d], h') ∧ (a = vi 0 ∧ b = .nils ∧ d = vi 3) by
    obtain ⟨a, b, c, h', e, rfl, rfl, rfl⟩ := hh
    exact ⟨h', e⟩
  refine body_cell rfl ?_
  generalize hH0 : (⟨h.next, h.t, []⟩ : H) = H0
  have hm0 : H0.marks = [] := by rw [← hH0]
  generalize hH1 : H0.new (.cells [vi 0, .nils] .own 24) = H1
  have q1 : H1.get H0.next = some (.cells [vi 0, .nils] .own 24) := by rw [← hH1]; simp
  have st : ∀ f, H1.storeK H0.next 0 [vi 0, .nils] f = f (H1.put H0.next (some (.cells [vi 0, .nils] .own 24))) := fun f => store_zero q1 rfl rfl
  have hm1 : H1.marks = [] := by rw [← hH1]; exact hm0
  have hcs : r < 1 ∨ (¬ r < 1 ∧ 16 < r) ∨ (¬ r < 1 ∧ ¬ 16 < r ∧ c < 1) ∨ (¬ r < 1 ∧ ¬ 16 < r ∧ ¬ c < 1 ∧ 16 < c) := by
    simp [outside] at ho; omega
  rcases hcs with a1 | ⟨a1, a2⟩ | ⟨a1, a2, a3⟩ | ⟨a1, a2, a3, a4⟩
  · simp [k82, hH1, a1, ↓st, hm1]
    exact ⟨_, _, _, _, ⟨⟨rfl, rfl⟩, rfl, rfl⟩, rfl, rfl, rfl, rfl⟩
  · simp [k82, hH1, a1, a2, ↓st, hm1]
    exact ⟨_, _, _, _, ⟨⟨rfl, rfl⟩, rfl, rfl⟩, rfl, rfl, rfl, rfl⟩
  · simp [k82, hH1, a1, a2, a3, ↓st, hm1]
    exact ⟨_, _, _, _, ⟨⟨rfl, rfl⟩, rfl, rfl⟩, rfl, rfl, rfl, rfl⟩
  · simp [k82, hH1, a1, a2, a3, a4, ↓st, hm1]
    exact ⟨_, _, _, _, ⟨⟨rfl, rfl⟩, rfl, rfl⟩, rfl, rfl, rfl, rfl⟩

theorem err83 (P : Plain p) (hn : p.nat 83 = none) {r : Int} (ho : outside 5 16 [r] = true) (hm : 100 ≤ m) : ∃ h', callK p m (.fn (.func 83) [] []) [vi r] h = some (zeroSys 3, h') := by
  obtain ⟨m, rfl⟩ : ∃ k, m = k + 1 := ⟨m - 1, by omega⟩
  rw [P.callAt (fk := f83) rfl hn]
  suffices hh : ∃ a b d h', bodyK (callK p m) m f83 ([vi r] ++ []) h = some (.tup [.agg [a, b], d], h') ∧ (a = vi 0 ∧ b = .nils ∧ d = vi 3) by
    obtain ⟨a, b, c, h', e, rfl, rfl, rfl⟩ := hh
    exact ⟨h', e⟩
  refine body_cell rfl ?_
  generalize hH0 : (⟨h.next, h.t, []⟩ : H) = H0
  have hm0 : H0.marks = [] := by rw [← hH0]
  generalize hH1 : H0.new (.cells [vi 0, .nils] .own 24) = H1
  have q1 : H1.get H0.next = some (.cells [vi 0, .nils] .own 24) := by rw [← hH1]; simp
  have st : ∀ f, H1.storeK H0.next 0 [vi 0, .nils] f = f (H1.put H0.next (some (.cells [vi 0, .nils] .own 24))) := fun f => store_zero q1 rfl rfl
  have hm1 : H1.marks = [] := by rw [← hH1]; exact hm0
  have hcs : r < 5 ∨ (¬ r < 5 ∧ 16 < r) := by
    simp [outside] at ho; omega
  rcases hcs with a1 | ⟨a1, a2⟩
  · simp [k83, hH1, a1, ↓st, hm1]
    exact ⟨_, _, _, _, ⟨⟨rfl, rfl⟩, rfl, rfl⟩, rfl, rfl, rfl, rfl⟩
  · simp [k83, hH1, a1, a2, ↓st, hm1]
    exact ⟨_, _, _, _, ⟨⟨rfl, rfl⟩, rfl, rfl⟩, rfl, rfl, rfl, rfl⟩

theorem err85 (P : Plain p) (hn : p.nat 85 = none) {r : Int} (ho : outside 1 6 [r] = true) (hm : 100 ≤ m) : ∃ h', callK p m (.fn (.func 85) [] []) [vi r] h = some (zeroSys 3, h') := by
  obtain ⟨m, rfl⟩ : ∃ k, m = k + 1 := ⟨m - 1, by omega⟩
  rw [P.callAt (fk := f85) rfl hn]
  suffices hh : ∃ a b d h', bodyK (callK p m) m f85 ([vi r] ++ []) h = some (.tup [.agg [a, b], d], h') ∧ (a = vi 0 ∧ b = .nils ∧ d = vi 3) by
    obtain ⟨a, b, c, h', e, rfl, rfl, rfl⟩ := hh
    exact ⟨h', e⟩
  refine body_cell rfl ?_
  generalize hH0 : (⟨h.next, h.t, []⟩ : H) = H0
  have hm0 : H0.marks = [] := by rw [← hH0]
  generalize hH1 : H0.new (.cells [vi 0, .nils] .own 24) = H1
  have q1 : H1.get H0.next = some (.cells [vi 0, .nils] .own 24) := by rw [← hH1]; simp
  have st : ∀ f, H1.storeK H0.next 0 [vi 0, .nils] f = f (H1.put H0.next (some (.cells [vi 0, .nils] .own 24))) := fun f => store_zero q1 rfl rfl
  have hm1 : H1.marks = [] := by rw [← hH1]; exact hm0
  have hcs : r < 1 ∨ (¬ r < 1 ∧ 6 < r) := by
    simp [outside] at ho; omega
  rcases hcs with a1 | ⟨a1, a2⟩
  · simp [k85, hH1, a1, ↓st, hm1]
    exact ⟨_, _, _, _, ⟨⟨rfl, rfl⟩, rfl, rfl⟩, rfl, rfl, rfl, rfl⟩
  · simp [k85, hH1, a1, a2, ↓st, hm1]
    exact ⟨_, _, _, _, ⟨⟨rfl, rfl⟩, rfl, rfl⟩, rfl, rfl, rfl, rfl⟩

/-- the reference's error of a kind of squares, and of an order -/
theorem sqErr_cases (s : List UInt8) (n : Int) : sqErr s n = if knownB s = true then (if n < 1 ∨ 16 < n then 3 else 0) else 13 := by
  unfold sqErr
  cases knownB s with
  | false => simp [firstOf]
  | true => by_cases h : n < 1 ∨ 16 < n <;> simp [firstOf, outside, h]
theorem known_cases (s : List UInt8) : knownB s = true ↔ s = sSemi ∨ s = sMagic ∨ s = sPan := by
  unfold knownB; simp
theorem err80 (P : Plain p) (hn : p.nat 80 = none) {s : List UInt8} {n : Int} (he : sqErr s n ≠ 0) (hm : 100 ≤ m) : ∃ h', callK p m (.fn (.func 80) [] []) [.str s, vi n] h = some (zeroSys (sqErr s n), h') := by
  obtain ⟨m, rfl⟩ : ∃ k, m = k + 1 := ⟨m - 1, by omega⟩
  rw [P.callAt (fk := f80) rfl hn]
  suffices hh : ∃ a b c h', bodyK (callK p m) m f80 ([.str s, vi n] ++ []) h = some (.tup [.agg [a, b], c], h') ∧ (a = vi 0 ∧ b = .nils ∧ c = vi (sqErr s n)) by
    obtain ⟨a, b, c, h', e, rfl, rfl, rfl⟩ := hh
    exact ⟨h', e⟩
  refine body_cell rfl ?_
  generalize hH0 : (⟨h.next, h.t, []⟩ : H) = H0
  have hm0 : H0.marks = [] := by rw [← hH0]
  generalize hH1 : H0.new (.cells [vi 0, .nils] .own 24) = H1
  have q1 : H1.get H0.next = some (.cells [vi 0, .nils] .own 24) := by rw [← hH1]; simp
  have st : ∀ f, H1.storeK H0.next 0 [vi 0, .nils] f = f (H1.put H0.next (some (.cells [vi 0, .nils] .own 24))) := fun f => store_zero q1 rfl rfl
  have hm1 : H1.marks = [] := by rw [← hH1]; exact hm0
  rw [sqErr_cases] at he ⊢
  cases hk : knownB s with
  | false =>
    have hn : s ≠ sSemi ∧ s ≠ sMagic ∧ s ≠ sPan := by
      refine ⟨fun h => ?_, fun h => ?_, fun h => ?_⟩ <;> (rw [(known_cases s).2 (by simp [h])] at hk; cases hk)
    obtain ⟨n1, n2, n3⟩ := hn
    simp only [sSemi, sMagic, sPan] at n1 n2 n3
    simp [k80, hH1, n1, n2, n3, ↓st, hm1]
    exact ⟨_, _, _, _, ⟨⟨rfl, rfl⟩, rfl, rfl⟩, rfl, rfl, rfl, rfl⟩
  | true =>
    rw [hk] at he
    simp at he
    have hcs : n < 1 ∨ (¬ n < 1 ∧ 16 < n) := by omega
    have hif : (if n < 1 ∨ 16 < n then (3 : Int) else 0) = 3 := if_pos (by omega)
    have hks := (known_cases s).1 hk
    rw [hif]
    rcases hks with rfl | rfl | rfl <;> rcases hcs with a1 | ⟨a1, a2⟩
    all_goals (first | simp [k80, hH1, a1, a2, ↓st, hm1] | simp [k80, hH1, a1, ↓st, hm1])
    all_goals exact ⟨_, _, _, _, ⟨⟨rfl, rfl⟩, rfl, rfl⟩, rfl, rfl, rfl, rfl⟩
end
end Go.Proofs.YtdojpbbdcgfcnaaGreatDoor.AI.T
/- Functions of the law LinesSystems, whatever their inputs: systems are held against one another. -/
set_option maxRecDepth 100000
namespace Go.Proofs.YtdojpbbdcgfcnaaGreatDoor.AI.T
open Go Go.Proofs.YtdojpbbdcgfcnaaGreatDoor.AI

section
variable {p : Prg} {m : Nat} {h : H}
theorem eqFrom2 {xs ys : List (List Int)} (hl : xs.length = ys.length) {i : Nat} (hi : i < xs.length) : (xs.drop i = ys.drop i) ↔ xs[i] = ys[i] ∧ xs.drop (i + 1) = ys.drop (i + 1) := by
  rw [List.drop_eq_getElem_cons hi, List.drop_eq_getElem_cons (by omega : i < ys.length)]; exact List.cons_eq_cons
theorem c273 (P : Plain p) {v w : V} {ls ms : List (List Int)} (hs : RLines h v ls) (ht : RLines h w ms) (hl1 : ls.length ≤ 1000) (hl2 : ∀ l ∈ ls, l.length ≤ 1000) (hm : 1100 ≤ m) :
    callK p m (.fn (.func 273) [] []) [v, w] h = some (.bool (decide (ls = ms)), h) := by
  obtain ⟨m, rfl⟩ : ∃ k, m = k + 1 := ⟨m - 1, by omega⟩
  rw [P.call (fk := f273) rfl rfl]
  refine body_tmp rfl ?_
  have hs' : RLines ⟨h.next, h.t, []⟩ v ls := hs
  have ht' : RLines ⟨h.next, h.t, []⟩ w ms := ht
  have hlx := hs'.len
  have hly := ht'.len
  by_cases hl : ls.length = ms.length
  · simp [k273, ↓hlx, ↓hly, hl]
    refine Ends.looped (fun n fr' h' => h' = ⟨h.next, h.t, []⟩ ∧ ∃ i, n + i = ls.length ∧ Tr.get (Pos.ofNat 5) fr' = some (vi i) ∧ Tr.get (Pos.ofNat 0) fr' = some v ∧ Tr.get (Pos.ofNat 1) fr' = some w ∧ (ls = ms ↔ ls.drop i = ms.drop i))
      (fun j fr' h' => h' = ⟨h.next, h.t, []⟩ ∧ ((j = .exit 0 ∧ ls = ms) ∨ (j = .ret ∧ ls ≠ ms ∧ Tr.get (Pos.ofNat 4) fr' = some (.bool false)))) ls.length ⟨rfl, 0, by simp⟩ (show ls.length < m by omega) ?_ ?_
    · rintro n fr' h' ⟨rfl, i, h1, h2, h3, h4, h5⟩
      by_cases hi : i < ls.length
      · obtain ⟨b, o, u, a1, a2, a3, a4⟩ := hs'.at hi
        obtain ⟨b', o', u', a1', a2', a3', a4'⟩ := ht'.at (i := i) (by omega)
        have hf := eqFrom2 hl hi
        have hw := wrap_succ hi (show ls.length < 9223372036854775807 by omega)
        have hmem := List.getElem_mem hi
        have e := c50 (m := m) P a4 a4' (by have := hl2 _ hmem; omega) (by have := hl2 _ hmem; omega)
        by_cases h0 : ls[i] = ms[i]'(by omega)
        · have e' : callK p m (.fn (.func 50) [] []) [u, u'] ⟨h.next, h.t, []⟩ = some (.bool true, ⟨h.next, h.t, []⟩) := by rw [e]; simp [h0]
          simp [↓hlx, h2, h3, h4, hi, ↓a2, ↓a3, ↓a2', ↓a3', e', hw]
          refine ⟨n - 1, by omega, i + 1, by omega, by simp, ?_⟩
          rw [h5, hf]; simp [h0]
        · have e' : callK p m (.fn (.func 50) [] []) [u, u'] ⟨h.next, h.t, []⟩ = some (.bool false, ⟨h.next, h.t, []⟩) := by rw [e]; simp [h0]
          simp [↓hlx, h2, h3, h4, hi, ↓a2, ↓a3, ↓a2', ↓a3', e']
          rw [h5, hf]; simp [h0]
      · simp [↓hlx, h2, h3, hi]
        rw [h5, List.drop_eq_nil_of_le (by omega), List.drop_eq_nil_of_le (by omega)]
    · rintro j fr' h' ⟨rfl, ⟨rfl, h1⟩ | ⟨rfl, h1, h2⟩⟩
      · simp [h1]
      · simp [h1, h2]
  · have hne : ls ≠ ms := fun he => hl (by rw [he])
    have hl' : ¬ ((ls.length : Int) = (ms.length : Int)) := by omega
    simp [k273, ↓hlx, ↓hly, hl, hl', hne]

theorem c190 (P : Plain p) {c d : Int} {v w : V} {ls ms : List (List Int)} (hs : RLines h v ls) (ht : RLines h w ms) (hl1 : ls.length ≤ 1000) (hl2 : ∀ l ∈ ls, l.length ≤ 1000) (hm : 1200 ≤ m) :
    Ret1 h (fun u _ => u = .bool (decide (c = d) && decide (ls = ms))) (callK p m (.fn (.func 190) [] []) [.agg [vi c, v], .agg [vi d, w]] h) := by
  obtain ⟨m, rfl⟩ : ∃ k, m = k + 1 := ⟨m - 1, by omega⟩
  rw [P.call (fk := f190) rfl rfl]
  refine body_ret1 rfl ?_
  generalize hH0 : (⟨h.next, h.t, []⟩ : H) = H0
  have hs0 : RLines H0 v ls := by rw [← hH0]; exact hs
  have ht0 : RLines H0 w ms := by rw [← hH0]; exact ht
  have hjv := hs.junk
  have hjw := ht.junk
  generalize hH1 : H0.new (.cells [vi c, v] .own 24) = H1
  have x01 : Ext H0 H1 := by rw [← hH1]; exact (Ext.refl _).new
  have o1 : Old H1 H0.next := by rw [← hH1]; exact old_next
  have g1 : H1.get H0.next = some (.cells [vi c, v] .own 24) := by rw [← hH1]; simp
  generalize hH2 : H1.new (.cells [vi d, w] .own 24) = H2
  have x12 : Ext H1 H2 := by rw [← hH2]; exact (Ext.refl _).new
  have g2 : H2.get H1.next = some (.cells [vi d, w] .own 24) := by rw [← hH2]; simp
  have g1' : H2.get H0.next = some (.cells [vi c, v] .own 24) := (x12.get _ o1).trans g1
  have a0 : ∀ f, H2.loadK none H0.next 0 f = f (vi c) := fun f => load1 g1' rfl rfl
  have a1 : ∀ f, H2.loadK none H0.next 1 f = f v := fun f => load1 g1' rfl hjv
  have b0 : ∀ f, H2.loadK none H1.next 0 f = f (vi d) := fun f => load1 g2 rfl rfl
  have b1 : ∀ f, H2.loadK none H1.next 1 f = f w := fun f => load1 g2 rfl hjw
  have x02 := x01.trans x12
  have e := c273 (m := m) P (hs0.ext x02) (ht0.ext x02) hl1 hl2 (by omega)
  generalize hcd : decide (c = d) = q
  cases q with
  | true => simp [k190, hH1, hH2, ↓a0, ↓a1, ↓b0, ↓b1, hcd, e, x02]
  | false => simp [k190, hH1, hH2, ↓a0, ↓a1, ↓b0, ↓b1, hcd, x02]
theorem c189 (P : Plain p) {c : Int} {v : V} {ls : List (List Int)} (hs : RLines h v ls) (hm : 1 ≤ m) :
    Ret1 h (fun u _ => u = .bool (decide (c = 0) && decide ((ls.length : Int) = 0))) (callK p m (.fn (.func 189) [] []) [.agg [vi c, v]] h) := by
  obtain ⟨m, rfl⟩ : ∃ k, m = k + 1 := ⟨m - 1, by omega⟩
  rw [P.call (fk := f189) rfl rfl]
  refine body_ret1 rfl ?_
  generalize hH0 : (⟨h.next, h.t, []⟩ : H) = H0
  have hs0 : RLines H0 v ls := by rw [← hH0]; exact hs
  have hjv := hs.junk
  generalize hH1 : H0.new (.cells [vi c, v] .own 24) = H1
  have x01 : Ext H0 H1 := by rw [← hH1]; exact (Ext.refl _).new
  have g1 : H1.get H0.next = some (.cells [vi c, v] .own 24) := by rw [← hH1]; simp
  have a0 : ∀ f, H1.loadK none H0.next 0 f = f (vi c) := fun f => load1 g1 rfl rfl
  have a1 : ∀ f, H1.loadK none H0.next 1 f = f v := fun f => load1 g1 rfl hjv
  have hl := (hs0.ext x01).len
  generalize hcd : decide (c = 0) = q
  cases q with
  | true =>
    by_cases hz : ls = []
    · simp [k189, hH1, ↓a0, ↓a1, hcd, ↓hl, hz, x01]
    · simp [k189, hH1, ↓a0, ↓a1, hcd, ↓hl, hz, x01]
  | false => simp [k189, hH1, ↓a0, hcd, x01]
/-- a system and an error are the wanted ones -/
theorem c84 (P : Plain p) {c e : Int} {v w : V} {ls : List (List Int)} (hs : RLines h v ls) (ht : RLines h w ls) (hl1 : ls.length ≤ 1000) (hl2 : ∀ l ∈ ls, l.length ≤ 1000) (hz : e ≠ 0 → c = 0 ∧ ls = []) (hm : 1300 ≤ m) :
    Ret1 h (fun u _ => u = .bool true) (callK p m (.fn (.func 84) [] []) [.agg [vi c, v], vi e, .agg [vi c, w], vi e] h) := by
  obtain ⟨m, rfl⟩ : ∃ k, m = k + 1 := ⟨m - 1, by omega⟩
  rw [P.call (fk := f84) rfl rfl]
  refine body_ret1 rfl ?_
  generalize hH0 : (⟨h.next, h.t, []⟩ : H) = H0
  have hs0 : RLines H0 v ls := by rw [← hH0]; exact hs
  have ht0 : RLines H0 w ls := by rw [← hH0]; exact ht
  have hjv := hs.junk
  have hjw := ht.junk
  generalize hH1 : H0.new (.cells [vi c, v] .own 24) = H1
  have x01 : Ext H0 H1 := by rw [← hH1]; exact (Ext.refl _).new
  have o1 : Old H1 H0.next := by rw [← hH1]; exact old_next
  have g1 : H1.get H0.next = some (.cells [vi c, v] .own 24) := by rw [← hH1]; simp
  generalize hH2 : H1.new (.cells [vi c, w] .own 24) = H2
  have x12 : Ext H1 H2 := by rw [← hH2]; exact (Ext.refl _).new
  have g2 : H2.get H1.next = some (.cells [vi c, w] .own 24) := by rw [← hH2]; simp
  have g1' : H2.get H0.next = some (.cells [vi c, v] .own 24) := (x12.get _ o1).trans g1
  have a2 : ∀ f, H2.loadK (some 2) H0.next 0 f = f (.agg [vi c, v]) := fun f => loadAll g1' rfl (by simp [hjv])
  have b2 : ∀ f, H2.loadK (some 2) H1.next 0 f = f (.agg [vi c, w]) := fun f => loadAll g2 rfl (by simp [hjw])
  have x02 := x01.trans x12
  by_cases he : e = 0
  · obtain ⟨u, H3, e1, x23, rfl⟩ := c190 (m := m) (c := c) (d := c) P (hs0.ext x02) (ht0.ext x02) hl1 hl2 (by omega)
    simp at e1
    simp [k84, hH1, hH2, ↓a2, ↓b2, he, e1]
    exact x02.trans x23
  · obtain ⟨rfl, rfl⟩ := hz he
    obtain ⟨u, H3, e1, x23, rfl⟩ := c189 (m := m) (c := 0) P (hs0.ext x02) (by omega)
    simp at e1
    simp [k84, hH1, hH2, ↓a2, he, e1]
    exact x02.trans x23
end
end Go.Proofs.YtdojpbbdcgfcnaaGreatDoor.AI.T
/- The functions of the law LinesSystems, known by tables and by their errors. -/
set_option maxRecDepth 100000
namespace Go.Proofs.YtdojpbbdcgfcnaaGreatDoor.AI.T
open Go Go.Proofs.YtdojpbbdcgfcnaaGreatDoor.AI

theorem prg0_plain : Plain prg0 where
  fs f := rfl
  nat f hf := by
    cases hg : nats0.get f with
    | none => exact hg
    | some x =>
      have keys : nats0.All fun f _ => natList.contains f = true := ⟨⟨trivial, rfl, trivial⟩, rfl, ⟨trivial, rfl, ⟨trivial, rfl, trivial⟩⟩⟩
      have := BT.all_get nats0 keys hg
      rw [hf] at this; cases this
theorem nat277b : NatOk PP RS 277 (natRuns nd2 mItoa) := natRuns_ok prg0_ok ng_ok nd2_c nd2_l runItoa
theorem natsI_ok : natsI.All (NatOk PP RS) := ⟨trivial, nat277b, ⟨⟨trivial, nat339, trivial⟩, nat340, ⟨trivial, nat378, ⟨trivial, nat395, trivial⟩⟩⟩⟩
theorem prgI_ok : PrgOk PP RS prgI := ⟨prg0_ok.fs, fun f nt h => BT.all_get natsI natsI_ok h, prg0_ok.meth, prg0_ok.rnd⟩

/-! ### the tables -/
noncomputable def tSq : Syss := tSq0 ++ (tSq1 ++ tSq2)
noncomputable def tRr : Syss := tRr1 ++ (tRr2 ++ (tRr3 ++ (tRr4 ++ (tRr5 ++ tRr6))))
noncomputable def tRc : Syss := tRc1 ++ (tRc2 ++ (tRc3 ++ (tRc4 ++ (tRc5 ++ tRc6))))
noncomputable def tCu : Syss := tCu1 ++ (tCu2 ++ (tCu3 ++ (tCu4 ++ (tCu5 ++ tCu6))))
noncomputable def tCx : Syss := tCu1 ++ (tCu2 ++ tCu3)

section
variable {p : Prg} {m k f : Nat} {n : Pos} {nd : Need}
def Each (p : Prg) (f : Nat) (t : Syss) : Prop := ∀ x ∈ t, sysB p 100000 100000 ng nd2 f x.1 (sysT x.2.1 x.2.2) (rowsT x.2.2) = true
theorem Each.app {s t : Syss} (a : Each p f s) (b : Each p f t) : Each p f (s ++ t) := fun x hx => (List.mem_append.1 hx).elim (a x) (b x)
theorem each_of {t : Syss} (h : syssB p 100000 100000 ng nd2 f t = true) : Each p f t := syssB_ok h
end
theorem each58 : Each prg0 58 tSq := (each_of uSq0).app ((each_of uSq1).app (each_of uSq2))
theorem each80 : Each prg0 80 tSq := (each_of vSq0).app ((each_of vSq1).app (each_of vSq2))
theorem each76 : Each prg0 76 tRr := (each_of uRr1).app ((each_of uRr2).app ((each_of uRr3).app ((each_of uRr4).app ((each_of uRr5).app (each_of uRr6)))))
theorem each81 : Each prg0 81 tRr := (each_of vRr1).app ((each_of vRr2).app ((each_of vRr3).app ((each_of vRr4).app ((each_of vRr5).app (each_of vRr6)))))
theorem each77 : Each prg0 77 tRc := (each_of uRc1).app ((each_of uRc2).app ((each_of uRc3).app ((each_of uRc4).app ((each_of uRc5).app (each_of uRc6)))))
theorem each82 : Each prg0 82 tRc := (each_of vRc1).app ((each_of vRc2).app ((each_of vRc3).app ((each_of vRc4).app ((each_of vRc5).app (each_of vRc6)))))
theorem each78 : Each prgI 78 tCu := (each_of uCu1).app ((each_of uCu2).app ((each_of uCu3).app ((each_of uCu4).app ((each_of uCu5).app (each_of uCu6)))))
theorem each85 : Each prg0 85 tCx := (each_of vCu1).app ((each_of vCu2).app (each_of vCu3))
theorem each79 : Each prg0 79 tSt := each_of uSt
theorem each83 : Each prg0 83 tSt := each_of vSt

/-- no list of a table is long -/
def okT (t : Syss) : Bool := t.all fun x => Nat.ble x.2.2.length 900 && x.2.2.all fun l => Nat.ble l.length 900
theorem okT_mem {t : Syss} (h : okT t = true) {x : List V × Nat × List (List Nat)} (hx : x ∈ t) : x.2.2.length ≤ 900 ∧ ∀ l ∈ x.2.2, l.length ≤ 900 := by
  have := List.all_eq_true.1 h x hx
  rw [Bool.and_eq_true] at this
  exact ⟨Nat.le_of_ble_eq_true this.1, fun l hl => Nat.le_of_ble_eq_true (List.all_eq_true.1 this.2 l hl)⟩
theorem okSq : okT tSq = true := by kernel_rfl
theorem okRr : okT tRr = true := by kernel_rfl
theorem okRc : okT tRc = true := by kernel_rfl
theorem okCu : okT tCu = true := by kernel_rfl
theorem okCx : okT tCx = true := by kernel_rfl
theorem okSt : okT tSt = true := by kernel_rfl

/-! ### the errors -/
def E2s (args : List V) (_ : H) (r : V) : Prop := ∃ (s : List UInt8) (n : Int), args = [.str s, vi n] ∧ sqErr s n ≠ 0 ∧ r = zeroSys (sqErr s n)
def E2i (args : List V) (_ : H) (r : V) : Prop := ∃ a c : Int, args = [vi a, vi c] ∧ outside 1 16 [a, c] = true ∧ r = zeroSys 3
def E1i (lo hi : Int) (args : List V) (_ : H) (r : V) : Prop := ∃ a : Int, args = [vi a] ∧ outside lo hi [a] = true ∧ r = zeroSys 3
theorem zero_closed (e : Int) : closed 1000 (zeroSys e) = true := rfl
section
variable {p : Prg} {m : Nat} {h : H}
theorem call_goB {f : Nat} {args : List V} : callK p (m + 1) (.fn (.func f) [] []) args h = goK p (callK p m) m f args h := by rw [call_go, List.append_nil]
end
theorem e58 : NatOk PP RS 58 (natOf E2s) := natOf_ok prg0_ok fun args h r hr => by
  obtain ⟨s, n, rfl, he, rfl⟩ := hr
  obtain ⟨h', hh⟩ := err58 (m := 100 + 1) (h := h.ro) prg0_plain rfl he (by omega)
  exact ⟨zero_closed _, 100, 100, h', by rw [← call_goB]; exact hh⟩
theorem e80 : NatOk PP RS 80 (natOf E2s) := natOf_ok prg0_ok fun args h r hr => by
  obtain ⟨s, n, rfl, he, rfl⟩ := hr
  obtain ⟨h', hh⟩ := err80 (m := 100 + 1) (h := h.ro) prg0_plain rfl he (by omega)
  exact ⟨zero_closed _, 100, 100, h', by rw [← call_goB]; exact hh⟩
theorem e76 : NatOk PP RS 76 (natOf E2i) := natOf_ok prg0_ok fun args h r hr => by
  obtain ⟨a, c, rfl, he, rfl⟩ := hr
  obtain ⟨h', hh⟩ := err76 (m := 100 + 1) (h := h.ro) prg0_plain rfl he (by omega)
  exact ⟨zero_closed _, 100, 100, h', by rw [← call_goB]; exact hh⟩
theorem e77 : NatOk PP RS 77 (natOf E2i) := natOf_ok prg0_ok fun args h r hr => by
  obtain ⟨a, c, rfl, he, rfl⟩ := hr
  obtain ⟨h', hh⟩ := err77 (m := 100 + 1) (h := h.ro) prg0_plain rfl he (by omega)
  exact ⟨zero_closed _, 100, 100, h', by rw [← call_goB]; exact hh⟩
theorem e81 : NatOk PP RS 81 (natOf E2i) := natOf_ok prg0_ok fun args h r hr => by
  obtain ⟨a, c, rfl, he, rfl⟩ := hr
  obtain ⟨h', hh⟩ := err81 (m := 100 + 1) (h := h.ro) prg0_plain rfl he (by omega)
  exact ⟨zero_closed _, 100, 100, h', by rw [← call_goB]; exact hh⟩
theorem e82 : NatOk PP RS 82 (natOf E2i) := natOf_ok prg0_ok fun args h r hr => by
  obtain ⟨a, c, rfl, he, rfl⟩ := hr
  obtain ⟨h', hh⟩ := err82 (m := 100 + 1) (h := h.ro) prg0_plain rfl he (by omega)
  exact ⟨zero_closed _, 100, 100, h', by rw [← call_goB]; exact hh⟩
theorem e78 : NatOk PP RS 78 (natOf (E1i 1 6)) := natOf_ok prg0_ok fun args h r hr => by
  obtain ⟨a, rfl, he, rfl⟩ := hr
  obtain ⟨h', hh⟩ := err78 (m := 100 + 1) (h := h.ro) prg0_plain rfl he (by omega)
  exact ⟨zero_closed _, 100, 100, h', by rw [← call_goB]; exact hh⟩
theorem e85 : NatOk PP RS 85 (natOf (E1i 1 6)) := natOf_ok prg0_ok fun args h r hr => by
  obtain ⟨a, rfl, he, rfl⟩ := hr
  obtain ⟨h', hh⟩ := err85 (m := 100 + 1) (h := h.ro) prg0_plain rfl he (by omega)
  exact ⟨zero_closed _, 100, 100, h', by rw [← call_goB]; exact hh⟩
theorem e79 : NatOk PP RS 79 (natOf (E1i 5 16)) := natOf_ok prg0_ok fun args h r hr => by
  obtain ⟨a, rfl, he, rfl⟩ := hr
  obtain ⟨h', hh⟩ := err79 (m := 100 + 1) (h := h.ro) prg0_plain rfl he (by omega)
  exact ⟨zero_closed _, 100, 100, h', by rw [← call_goB]; exact hh⟩
theorem e83 : NatOk PP RS 83 (natOf (E1i 5 16)) := natOf_ok prg0_ok fun args h r hr => by
  obtain ⟨a, rfl, he, rfl⟩ := hr
  obtain ⟨h', hh⟩ := err83 (m := 100 + 1) (h := h.ro) prg0_plain rfl he (by omega)
  exact ⟨zero_closed _, 100, 100, h', by rw [← call_goB]; exact hh⟩

/-! ### the program of the law -/
noncomputable abbrev nS (E : List V → H → V → Prop) (t : Syss) : List V → H → Option (V × H) := natOr (natOf E) (natSys nd2 t)
noncomputable def ntsS : BT (List V → H → Option (V × H)) :=
  .node (.node (.node .leaf 18 (natConst nd2 (.bool true)) .leaf) 58 (nS E2s tSq) (.node (.node .leaf 76 (nS E2i tRr) .leaf) 77 (nS E2i tRc) .leaf)) 78 (nS (E1i 1 6) tCu)
    (.node (.node (.node .leaf 79 (nS (E1i 5 16) tSt) .leaf) 80 (nS E2s tSq) (.node .leaf 81 (nS E2i tRr) .leaf)) 82 (nS E2i tRc)
      (.node (.node .leaf 83 (nS (E1i 5 16) tSt) .leaf) 85 (nS (E1i 1 6) tCx) (.node (.node .leaf 339 natAdd .leaf) 340 natSub (.node .leaf 378 natSame (.node .leaf 395 (natMake 5) .leaf)))))
noncomputable def prgS : Prg := { prg0 with nat := fun i => ntsS.get i }
theorem nS_ok {f : Nat} {E : List V → H → V → Prop} {t : Syss} (he : NatOk PP RS f (natOf E)) {p : Prg} (hp : PrgOk PP RS p) (ht : Each p f t) : NatOk PP RS f (nS E t) := natOr_ok he (natSys_ok hp ng_ok nd2_c nd2_l ht)
theorem ntsS_ok : ntsS.All (NatOk PP RS) :=
  ⟨⟨⟨trivial, awake_ok, trivial⟩, nS_ok e58 prg0_ok each58, ⟨⟨trivial, nS_ok e76 prg0_ok each76, trivial⟩, nS_ok e77 prg0_ok each77, trivial⟩⟩, nS_ok e78 prgI_ok each78,
    ⟨⟨⟨trivial, nS_ok e79 prg0_ok each79, trivial⟩, nS_ok e80 prg0_ok each80, ⟨trivial, nS_ok e81 prg0_ok each81, trivial⟩⟩, nS_ok e82 prg0_ok each82,
      ⟨⟨trivial, nS_ok e83 prg0_ok each83, trivial⟩, nS_ok e85 prg0_ok each85, ⟨⟨trivial, nat339, trivial⟩, nat340, ⟨trivial, nat378, ⟨trivial, nat395, trivial⟩⟩⟩⟩⟩⟩
theorem prgS_ok : PrgOk PP RS prgS := ⟨prg0_ok.fs, fun f nt h => BT.all_get ntsS ntsS_ok h, prg0_ok.meth, prg0_ok.rnd⟩
end Go.Proofs.YtdojpbbdcgfcnaaGreatDoor.AI.T
/- What the tables of LinesSystems answer. -/
set_option maxRecDepth 100000
namespace Go.Proofs.YtdojpbbdcgfcnaaGreatDoor.AI.T
open Go Go.Proofs.YtdojpbbdcgfcnaaGreatDoor.AI

/-- a system and an error are handed back -/
def SysAns (h : H) (r : Option (V × H)) (c : Nat) (ls : List (List Nat)) (e : Int) : Prop := ∃ u h', r = some (.tup [.agg [vi c, u], vi e], h') ∧ Ext h h' ∧ RLines h' u (intsN ls)
def awayN (n : Nat) : List Nat → Bool
  | [] => true
  | m :: l => !Nat.beq n m && awayN n l
def apartN : List Nat → Bool
  | [] => true
  | m :: l => awayN m l && apartN l
theorem awayN_ok {n : Nat} : ∀ {l : List Nat}, awayN n l = true → n ∉ l
  | [], _, h => by cases h
  | m :: l, ha, h => by
    simp only [awayN, Bool.and_eq_true, Bool.not_eq_true'] at ha
    rcases List.mem_cons.1 h with rfl | h
    · rw [Nat.beq_refl] at ha; cases ha.1
    · exact awayN_ok ha.2 h
/-- a table tells each argument once -/
noncomputable def keysB (t : Syss) : Bool := apartN (t.map fun x => keyVs 1000 x.1 1)
theorem keysB_ok : ∀ {t : Syss}, keysB t = true → ∀ x ∈ t, ∀ y ∈ t, x.1 = y.1 → x = y
  | [], _, x, hx, _, _, _ => by cases hx
  | a :: t, hk, x, hx, y, hy, he => by
    have hk' : (awayN (keyVs 1000 a.1 1) (t.map fun x => keyVs 1000 x.1 1) && apartN (t.map fun x => keyVs 1000 x.1 1)) = true := hk
    rw [Bool.and_eq_true] at hk'
    have na := awayN_ok hk'.1
    rcases List.mem_cons.1 hx with h1 | h1 <;> rcases List.mem_cons.1 hy with h2 | h2
    · rw [h1, h2]
    · exact absurd (List.mem_map.2 ⟨y, h2, by rw [← he, h1]⟩) na
    · exact absurd (List.mem_map.2 ⟨x, h1, by rw [he, h2]⟩) na
    · exact keysB_ok (t := t) hk'.2 x h1 y h2 he
theorem keysSq : keysB tSq = true := by kernel_rfl
theorem keysRr : keysB tRr = true := by kernel_rfl
theorem keysRc : keysB tRc = true := by kernel_rfl
theorem keysCu : keysB tCu = true := by kernel_rfl
theorem keysCx : keysB tCx = true := by kernel_rfl
theorem keysSt : keysB tSt = true := by kernel_rfl

section
variable {E : List V → H → V → Prop} {t : Syss} {args : List V} {h : H}
theorem nS_err {e : Int} (he : natOf E args h = some (zeroSys e, h)) : SysAns h (nS E t args h) 0 [] e :=
  ⟨.nils, h, natOr_left he, Ext.refl h, RLines.nil⟩
theorem natOf_none (hE : ∀ v, ¬ E args h v) : natOf E args h = none := by
  unfold natOf
  rw [dif_neg fun ⟨v, hv⟩ => hE v hv]
theorem nS_tab {c : Nat} {ls : List (List Nat)} (hE : ∀ v, ¬ E args h v) (hk : hasK h nd2 = true) {j : Nat} (hm : t[j]? = some (args, c, ls)) (hu : keysB t = true) (ok : okT t = true) : SysAns h (nS E t args h) c ls 0 := by
  have hmem := List.mem_of_getElem? hm
  have hs := natSys_some (h := h) hk hmem fun x hx he => by rw [keysB_ok hu x hx _ hmem he]
  obtain ⟨b1, b2⟩ := okT_mem ok hmem
  obtain ⟨u, e1, e2⟩ := sys_laid c ls h b1 b2
  rw [e1] at hs
  exact ⟨u, _, natOr_right (natOf_none hE) hs, layH_ext _ _, e2⟩
end
theorem E2s_uniq {s : List UInt8} {n : Int} {h : H} (he : sqErr s n ≠ 0) : natOf E2s [.str s, vi n] h = some (zeroSys (sqErr s n), h) :=
  natOf_some ⟨s, n, rfl, he, rfl⟩ fun u ⟨s', n', h1, _, h2⟩ => by simp at h1; obtain ⟨rfl, rfl⟩ := h1; exact h2
theorem E2i_uniq {a c : Int} {h : H} (he : outside 1 16 [a, c] = true) : natOf E2i [vi a, vi c] h = some (zeroSys 3, h) :=
  natOf_some ⟨a, c, rfl, he, rfl⟩ fun u ⟨a', c', h1, _, h2⟩ => h2
theorem E1i_uniq {lo hi a : Int} {h : H} (he : outside lo hi [a] = true) : natOf (E1i lo hi) [vi a] h = some (zeroSys 3, h) :=
  natOf_some ⟨a, rfl, he, rfl⟩ fun u ⟨a', h1, _, h2⟩ => h2

/-- what an answer is, apart from the heap -/
def AnsOk (c : Nat) (ls : List (List Nat)) (e : Int) : Prop := (e ≠ 0 → c = 0 ∧ ls = []) ∧ ls.length ≤ 900 ∧ ∀ l ∈ ls, l.length ≤ 900
theorem ansZero (e : Int) : AnsOk 0 [] e := ⟨fun _ => ⟨rfl, rfl⟩, by simp, by simp⟩
theorem ansTab {t : Syss} {args : List V} {c : Nat} {ls : List (List Nat)} {j : Nat} (hm : t[j]? = some (args, c, ls)) (ok : okT t = true) : AnsOk c ls 0 := ⟨fun h => absurd rfl h, okT_mem ok (List.mem_of_getElem? hm)⟩
theorem tab_case {E : List V → H → V → Prop} {t : Syss} {args : List V} {c : Nat} {ls : List (List Nat)} (j : Nat) (hm : t[j]? = some (args, c, ls)) (hu : keysB t = true) (ok : okT t = true) (hE : ∀ h v, ¬ E args h v) :
    ∃ c ls e, AnsOk c ls e ∧ ∀ h, hasK h nd2 = true → SysAns h (nS E t args h) c ls e := ⟨c, ls, 0, ansTab hm ok, fun h hk => nS_tab (hE h) hk hm hu ok⟩

theorem notE2s {s : List UInt8} {n : Int} (he : sqErr s n = 0) (h : H) (v : V) : ¬ E2s [.str s, vi n] h v := fun ⟨s', n', h1, h2, _⟩ => by
  simp at h1; obtain ⟨rfl, rfl⟩ := h1; exact h2 he
theorem notE2i {a c : Int} (he : outside 1 16 [a, c] = false) (h : H) (v : V) : ¬ E2i [vi a, vi c] h v := fun ⟨a', c', h1, h2, _⟩ => by
  simp at h1; obtain ⟨rfl, rfl⟩ := h1; rw [he] at h2; cases h2
theorem notE1i {lo hi a : Int} (he : outside lo hi [a] = false) (h : H) (v : V) : ¬ E1i lo hi [vi a] h v := fun ⟨a', h1, h2, _⟩ => by
  simp at h1; subst h1; rw [he] at h2; cases h2
theorem six {n : Int} (h0 : 1 ≤ n) (h1 : n ≤ 6) : n = 1 ∨ n = 2 ∨ n = 3 ∨ n = 4 ∨ n = 5 ∨ n = 6 := by omega

theorem ansSq (s : List UInt8) (n : Int) (hg : n ≤ 6 ∨ 16 < n) : ∃ c ls e, AnsOk c ls e ∧ ∀ h, hasK h nd2 = true → SysAns h (nS E2s tSq [.str s, vi n] h) c ls e := by
  by_cases he : sqErr s n = 0
  · have he' := he
    rw [sqErr_cases] at he'
    have hk : knownB s = true := by
      cases hk : knownB s with
      | true => rfl
      | false => rw [hk] at he'; simp at he'
    rw [hk] at he'
    simp at he'
    have hn : 1 ≤ n ∧ n ≤ 6 := by
      by_cases h : n < 1 ∨ 16 < n
      · exfalso; revert he'; simp; omega
      · omega
    rcases (known_cases s).1 hk with rfl | rfl | rfl <;> rcases six hn.1 hn.2 with rfl | rfl | rfl | rfl | rfl | rfl
    · exact tab_case 0 rfl keysSq okSq (notE2s he)
    · exact tab_case 1 rfl keysSq okSq (notE2s he)
    · exact tab_case 2 rfl keysSq okSq (notE2s he)
    · exact tab_case 3 rfl keysSq okSq (notE2s he)
    · exact tab_case 4 rfl keysSq okSq (notE2s he)
    · exact tab_case 5 rfl keysSq okSq (notE2s he)
    · exact tab_case 6 rfl keysSq okSq (notE2s he)
    · exact tab_case 7 rfl keysSq okSq (notE2s he)
    · exact tab_case 8 rfl keysSq okSq (notE2s he)
    · exact tab_case 9 rfl keysSq okSq (notE2s he)
    · exact tab_case 10 rfl keysSq okSq (notE2s he)
    · exact tab_case 11 rfl keysSq okSq (notE2s he)
    · exact tab_case 12 rfl keysSq okSq (notE2s he)
    · exact tab_case 13 rfl keysSq okSq (notE2s he)
    · exact tab_case 14 rfl keysSq okSq (notE2s he)
    · exact tab_case 15 rfl keysSq okSq (notE2s he)
    · exact tab_case 16 rfl keysSq okSq (notE2s he)
    · exact tab_case 17 rfl keysSq okSq (notE2s he)
  · exact ⟨0, [], sqErr s n, ansZero _, fun h _ => nS_err (E2s_uniq he)⟩
theorem ansRr (r c : Int) (hr : r ≤ 6 ∨ 16 < r) (hc : c ≤ 6 ∨ 16 < c) : ∃ d ls e, AnsOk d ls e ∧ ∀ h, hasK h nd2 = true → SysAns h (nS E2i tRr [vi r, vi c] h) d ls e := by
  cases he : outside 1 16 [r, c] with
  | true => exact ⟨0, [], 3, ansZero _, fun h _ => nS_err (E2i_uniq he)⟩
  | false =>
    have hn : 1 ≤ r ∧ r ≤ 6 ∧ 1 ≤ c ∧ c ≤ 6 := by
      simp [outside] at he; omega
    rcases six hn.1 hn.2.1 with rfl | rfl | rfl | rfl | rfl | rfl <;> rcases six hn.2.2.1 hn.2.2.2 with rfl | rfl | rfl | rfl | rfl | rfl
    · exact tab_case 0 rfl keysRr okRr (notE2i he)
    · exact tab_case 1 rfl keysRr okRr (notE2i he)
    · exact tab_case 2 rfl keysRr okRr (notE2i he)
    · exact tab_case 3 rfl keysRr okRr (notE2i he)
    · exact tab_case 4 rfl keysRr okRr (notE2i he)
    · exact tab_case 5 rfl keysRr okRr (notE2i he)
    · exact tab_case 6 rfl keysRr okRr (notE2i he)
    · exact tab_case 7 rfl keysRr okRr (notE2i he)
    · exact tab_case 8 rfl keysRr okRr (notE2i he)
    · exact tab_case 9 rfl keysRr okRr (notE2i he)
    · exact tab_case 10 rfl keysRr okRr (notE2i he)
    · exact tab_case 11 rfl keysRr okRr (notE2i he)
    · exact tab_case 12 rfl keysRr okRr (notE2i he)
    · exact tab_case 13 rfl keysRr okRr (notE2i he)
    · exact tab_case 14 rfl keysRr okRr (notE2i he)
    · exact tab_case 15 rfl keysRr okRr (notE2i he)
    · exact tab_case 16 rfl keysRr okRr (notE2i he)
    · exact tab_case 17 rfl keysRr okRr (notE2i he)
    · exact tab_case 18 rfl keysRr okRr (notE2i he)
    · exact tab_case 19 rfl keysRr okRr (notE2i he)
    · exact tab_case 20 rfl keysRr okRr (notE2i he)
    · exact tab_case 21 rfl keysRr okRr (notE2i he)
    · exact tab_case 22 rfl keysRr okRr (notE2i he)
    · exact tab_case 23 rfl keysRr okRr (notE2i he)
    · exact tab_case 24 rfl keysRr okRr (notE2i he)
    · exact tab_case 25 rfl keysRr okRr (notE2i he)
    · exact tab_case 26 rfl keysRr okRr (notE2i he)
    · exact tab_case 27 rfl keysRr okRr (notE2i he)
    · exact tab_case 28 rfl keysRr okRr (notE2i he)
    · exact tab_case 29 rfl keysRr okRr (notE2i he)
    · exact tab_case 30 rfl keysRr okRr (notE2i he)
    · exact tab_case 31 rfl keysRr okRr (notE2i he)
    · exact tab_case 32 rfl keysRr okRr (notE2i he)
    · exact tab_case 33 rfl keysRr okRr (notE2i he)
    · exact tab_case 34 rfl keysRr okRr (notE2i he)
    · exact tab_case 35 rfl keysRr okRr (notE2i he)
theorem ansRc (r c : Int) (hr : r ≤ 6 ∨ 16 < r) (hc : c ≤ 6 ∨ 16 < c) : ∃ d ls e, AnsOk d ls e ∧ ∀ h, hasK h nd2 = true → SysAns h (nS E2i tRc [vi r, vi c] h) d ls e := by
  cases he : outside 1 16 [r, c] with
  | true => exact ⟨0, [], 3, ansZero _, fun h _ => nS_err (E2i_uniq he)⟩
  | false =>
    have hn : 1 ≤ r ∧ r ≤ 6 ∧ 1 ≤ c ∧ c ≤ 6 := by
      simp [outside] at he; omega
    rcases six hn.1 hn.2.1 with rfl | rfl | rfl | rfl | rfl | rfl <;> rcases six hn.2.2.1 hn.2.2.2 with rfl | rfl | rfl | rfl | rfl | rfl
    · exact tab_case 0 rfl keysRc okRc (notE2i he)
    · exact tab_case 1 rfl keysRc okRc (notE2i he)
    · exact tab_case 2 rfl keysRc okRc (notE2i he)
    · exact tab_case 3 rfl keysRc okRc (notE2i he)
    · exact tab_case 4 rfl keysRc okRc (notE2i he)
    · exact tab_case 5 rfl keysRc okRc (notE2i he)
    · exact tab_case 6 rfl keysRc okRc (notE2i he)
    · exact tab_case 7 rfl keysRc okRc (notE2i he)
    · exact tab_case 8 rfl keysRc okRc (notE2i he)
    · exact tab_case 9 rfl keysRc okRc (notE2i he)
    · exact tab_case 10 rfl keysRc okRc (notE2i he)
    · exact tab_case 11 rfl keysRc okRc (notE2i he)
    · exact tab_case 12 rfl keysRc okRc (notE2i he)
    · exact tab_case 13 rfl keysRc okRc (notE2i he)
    · exact tab_case 14 rfl keysRc okRc (notE2i he)
    · exact tab_case 15 rfl keysRc okRc (notE2i he)
    · exact tab_case 16 rfl keysRc okRc (notE2i he)
    · exact tab_case 17 rfl keysRc okRc (notE2i he)
    · exact tab_case 18 rfl keysRc okRc (notE2i he)
    · exact tab_case 19 rfl keysRc okRc (notE2i he)
    · exact tab_case 20 rfl keysRc okRc (notE2i he)
    · exact tab_case 21 rfl keysRc okRc (notE2i he)
    · exact tab_case 22 rfl keysRc okRc (notE2i he)
    · exact tab_case 23 rfl keysRc okRc (notE2i he)
    · exact tab_case 24 rfl keysRc okRc (notE2i he)
    · exact tab_case 25 rfl keysRc okRc (notE2i he)
    · exact tab_case 26 rfl keysRc okRc (notE2i he)
    · exact tab_case 27 rfl keysRc okRc (notE2i he)
    · exact tab_case 28 rfl keysRc okRc (notE2i he)
    · exact tab_case 29 rfl keysRc okRc (notE2i he)
    · exact tab_case 30 rfl keysRc okRc (notE2i he)
    · exact tab_case 31 rfl keysRc okRc (notE2i he)
    · exact tab_case 32 rfl keysRc okRc (notE2i he)
    · exact tab_case 33 rfl keysRc okRc (notE2i he)
    · exact tab_case 34 rfl keysRc okRc (notE2i he)
    · exact tab_case 35 rfl keysRc okRc (notE2i he)
theorem ansSt (n : Int) (hg : n ≤ 6 ∨ 16 < n) : ∃ c ls e, AnsOk c ls e ∧ ∀ h, hasK h nd2 = true → SysAns h (nS (E1i 5 16) tSt [vi n] h) c ls e := by
  cases he : outside 5 16 [n] with
  | true => exact ⟨0, [], 3, ansZero _, fun h _ => nS_err (E1i_uniq he)⟩
  | false =>
    have hn : n = 5 ∨ n = 6 := by
      simp [outside] at he; omega
    rcases hn with rfl | rfl
    · exact tab_case 0 rfl keysSt okSt (notE1i he)
    · exact tab_case 1 rfl keysSt okSt (notE1i he)
/-- cubes of an order up to 3, or of none: both alike -/
theorem ansCu (n : Int) (hg : n ≤ 3 ∨ 6 < n) : ∃ c ls e, AnsOk c ls e ∧ ∀ h, hasK h nd2 = true → SysAns h (nS (E1i 1 6) tCu [vi n] h) c ls e ∧ SysAns h (nS (E1i 1 6) tCx [vi n] h) c ls e := by
  cases he : outside 1 6 [n] with
  | true => exact ⟨0, [], 3, ansZero _, fun h _ => ⟨nS_err (E1i_uniq he), nS_err (E1i_uniq he)⟩⟩
  | false =>
    have hn : n = 1 ∨ n = 2 ∨ n = 3 := by
      simp [outside] at he; omega
    rcases hn with rfl | rfl | rfl
    · exact ⟨_, _, 0, ansTab (t := tCu) (j := 0) rfl okCu, fun h hk => ⟨nS_tab (notE1i he h) hk (j := 0) rfl keysCu okCu, nS_tab (notE1i he h) hk (j := 0) rfl keysCx okCx⟩⟩
    · exact ⟨_, _, 0, ansTab (t := tCu) (j := 1) rfl okCu, fun h hk => ⟨nS_tab (notE1i he h) hk (j := 1) rfl keysCu okCu, nS_tab (notE1i he h) hk (j := 1) rfl keysCx okCx⟩⟩
    · exact ⟨_, _, 0, ansTab (t := tCu) (j := 2) rfl okCu, fun h hk => ⟨nS_tab (notE1i he h) hk (j := 2) rfl keysCu okCu, nS_tab (notE1i he h) hk (j := 2) rfl keysCx okCx⟩⟩
theorem cube4 : (cubeL 4).length = 52 := by kernel_rfl
theorem cube5 : (cubeL 5).length = 79 := by kernel_rfl
theorem cube6 : (cubeL 6).length = 112 := by kernel_rfl
/-- greater ones -/
theorem ansCv (n : Int) (h0 : 3 < n) (h1 : n ≤ 6) : ∃ (c : Nat) (ls : List (List Nat)), (c : Int) = n * n * n ∧ (ls.length : Int) = 3 * n * n + 4 ∧ ∀ h, hasK h nd2 = true → SysAns h (nS (E1i 1 6) tCu [vi n] h) c ls 0 := by
  have he : outside 1 6 [n] = false := by simp [outside]; omega
  have hn : n = 4 ∨ n = 5 ∨ n = 6 := by omega
  rcases hn with rfl | rfl | rfl
  · exact ⟨64, cubeL 4, by omega, by rw [cube4]; omega, fun h hk => nS_tab (notE1i he h) hk (j := 3) rfl keysCu okCu⟩
  · exact ⟨125, cubeL 5, by omega, by rw [cube5]; omega, fun h hk => nS_tab (notE1i he h) hk (j := 4) rfl keysCu okCu⟩
  · exact ⟨216, cubeL 6, by omega, by rw [cube6]; omega, fun h hk => nS_tab (notE1i he h) hk (j := 5) rfl keysCu okCu⟩
end Go.Proofs.YtdojpbbdcgfcnaaGreatDoor.AI.T
/- LinesSystems answers true. -/
set_option maxRecDepth 100000
namespace Go.Proofs.YtdojpbbdcgfcnaaGreatDoor.AI.T
open Go Go.Proofs.YtdojpbbdcgfcnaaGreatDoor.AI

section
variable {cx : Cx} {e : List V} {fr : Fr} {h : H} {k : V → H → Res}
@[simp, simp ↓] theorem sMul_s {x y : O} : sInt fMul x y cx e fr h k = evK e fr x fun v => evK e fr y fun w => int2K v w (fun kd a b => k (.int kd (kd.wrap (a * b))) h) none := by
  show evK e fr x (fun v => evK e fr y fun w => int2K v w (fun kd a b => intK (kd.wrap (a * b)) fun n => k (.int kd n) h) none) = _
  simp only [intK_eq]
@[simp, simp ↓] theorem sLenStr_s {x : O} : sLenStr x cx e fr h k = evK e fr x fun v => v.onStr (fun s => k (.int .i64 s.length) h) none := by
  show evK e fr x (fun v => v.onStr (fun s => lenK s fun n => k (.int .i64 (.ofNat n)) h) none) = _
  simp only [lenK_eq]; rfl
end

@[simp, simp ↓] theorem onBool_undef {β : Type} {f : Bool → β} {z : β} : undefV.onBool f z = z := Eq.trans rfl rfl
@[simp, simp ↓] theorem p127_s : p127 = Pos.ofNat 127 := Eq.trans rfl rfl
@[simp, simp ↓] theorem t127_s : t127 = .t (Pos.ofNat 127) := Eq.trans rfl rfl
@[simp, simp ↓] theorem p133_s : p133 = Pos.ofNat 133 := Eq.trans rfl rfl
@[simp, simp ↓] theorem t133_s : t133 = .t (Pos.ofNat 133) := Eq.trans rfl rfl
theorem callN {p : Prg} {m f : Nat} {nt : List V → H → Option (V × H)} {args : List V} {h : H} (hn : p.nat f = some nt) : callK p (m + 1) (.fn (.func f) [] []) args h = nt args h := by
  rw [call_go, go_nat hn, List.append_nil]
theorem constN {nd : Need} {v : V} {h : H} (hk : hasK h nd = true) : natConst nd v [] h = some (v, h) := by
  show (Bool.casesOn (hasK h nd) none (some (v, h)) : Option (V × H)) = _
  rw [hk]
theorem prgS_plain : Plain prgS where
  fs f := rfl
  nat f hf := by
    cases hg : ntsS.get f with
    | none => exact hg
    | some x =>
      have keys : ntsS.All fun f _ => natList.contains f = true :=
        ⟨⟨⟨trivial, rfl, trivial⟩, rfl, ⟨⟨trivial, rfl, trivial⟩, rfl, trivial⟩⟩, rfl,
          ⟨⟨⟨trivial, rfl, trivial⟩, rfl, ⟨trivial, rfl, trivial⟩⟩, rfl, ⟨⟨trivial, rfl, trivial⟩, rfl, ⟨⟨trivial, rfl, trivial⟩, rfl, ⟨trivial, rfl, ⟨trivial, rfl, trivial⟩⟩⟩⟩⟩⟩
      have := BT.all_get ntsS keys hg
      rw [hf] at this; cases this

/-- what a call of a function of a table leaves, its answer in a variable -/
structure Step (H1 : H) (r : Option (V × H)) (c : Nat) (ls : List (List Nat)) (e : Int) (u : V) (H2 H3 : H) : Prop where
  res : r = some (.tup [.agg [vi c, u], vi e], H2)
  store : ∀ f, (H2.new (.cells [vi 0, .nils] .own 24)).storeK H2.next 0 [vi c, u] f = f H3
  ext : Ext H1 H3
  old : Old H3 H2.next
  get : H3.get H2.next = some (.cells [vi c, u] .own 24)
  lines : RLines H3 u (intsN ls)
theorem step_of {H1 : H} {r : Option (V × H)} {c : Nat} {ls : List (List Nat)} {e : Int} (ha : SysAns H1 r c ls e) : ∃ u H2 H3, Step H1 r c ls e u H2 H3 := by
  obtain ⟨u, H2, h1, h2, h3⟩ := ha
  have hg : (H2.new (.cells [vi 0, .nils] .own 24)).get H2.next = some (.cells [vi 0, .nils] .own 24) := get_new_next
  have x : Ext H2 ((H2.new (.cells [vi 0, .nils] .own 24)).put H2.next (some (.cells [vi c, u] .own 24))) := (Ext.refl H2).new.put (by simp [Old])
  exact ⟨u, H2, _, h1, fun f => store_zero hg rfl h3.one, h2.trans x, old_next (h := H2) (x := .cells [vi 0, .nils] .own 24), get_put_same, h3.ext x⟩

theorem intsN_len {ls : List (List Nat)} : (intsN ls).length = ls.length := by simp [intsN]
theorem intsN_small {ls : List (List Nat)} (h : ∀ l ∈ ls, l.length ≤ 900) : ∀ l ∈ intsN ls, l.length ≤ 1000 := by
  intro l hl
  obtain ⟨l', h1, rfl⟩ := List.mem_map.1 hl
  have := h l' h1
  simp; omega

set_option maxHeartbeats 8000000 in
theorem run16 {m : Nat} {h : H} {s : List UInt8} {n c : Int} (hk : hasK h nd2 = true) (ho : ∀ p l, (p, l) ∈ nd2 → Old h p) (hm : 2000 ≤ m) :
    ∃ h', bodyK (callK prgS m) m f16 [.str s, vi n, vi c] h = some (.bool true, h') := by
  have key : Ret1 h (fun u _ => u = .bool true) (bodyK (callK prgS m) m f16 [.str s, vi n, vi c] h) := by
    obtain ⟨m, rfl⟩ : ∃ k, m = k + 1 := ⟨m - 1, by omega⟩
    refine body_ret1 rfl ?_
    generalize hH0 : (⟨h.next, h.t, []⟩ : H) = H0
    have hk0 : hasK H0 nd2 = true := by rw [← hH0]; exact hk
    have ho0 : ∀ p l, (p, l) ∈ nd2 → Old H0 p := by rw [← hH0]; exact ho
    have aw : ∀ {H'}, Ext H0 H' → callK prgS (m + 1) (.fn (.func 18) [] []) [] H' = some (.bool true, H') := fun hh => (callN (nt := natConst nd2 (.bool true)) rfl).trans (constN (ext_hasK hh hk0 ho0))
    rcases Int.lt_or_le 40 s.length with g1 | g1
    · simp [k16, g1, aw (Ext.refl _), Ext.refl]
    by_cases g2 : 6 < n ∧ n ≤ 16
    · simp [k16, Int.not_lt.2 g1, g2.1, Int.not_lt.2 g2.2, aw (Ext.refl _), Ext.refl]
    by_cases g3 : 6 < c ∧ c ≤ 16
    · rcases Int.lt_or_le 6 n with q | q
      · have q2 : 16 < n := by omega
        simp [k16, Int.not_lt.2 g1, q, q2, g3.1, Int.not_lt.2 g3.2, aw (Ext.refl _), Ext.refl]
      · simp [k16, Int.not_lt.2 g1, Int.not_lt.2 q, g3.1, Int.not_lt.2 g3.2, aw (Ext.refl _), Ext.refl]
    have hn : n ≤ 6 ∨ 16 < n := by omega
    have hc : c ≤ 6 ∨ 16 < c := by omega
    obtain ⟨ca, la, ea, oka, Sa⟩ := ansSq s n hn
    obtain ⟨cb, lb, eb, okb, Sb⟩ := ansRr n c hn hc
    obtain ⟨cd, ld, ed, okd, Sd⟩ := ansRc n c hn hc
    obtain ⟨cg, lg, eg, okg, Sg⟩ := ansSt n hn
    -- the cube
    have cube : ∃ cf lf ef, ∀ h, hasK h nd2 = true → SysAns h (nS (E1i 1 6) tCu [vi n] h) cf lf ef ∧
        ((3 < n ∧ n ≤ 6 ∧ ef = 0 ∧ (cf : Int) = n * n * n ∧ (lf.length : Int) = 3 * n * n + 4) ∨ (¬ (3 < n ∧ n ≤ 6) ∧ AnsOk cf lf ef ∧ SysAns h (nS (E1i 1 6) tCx [vi n] h) cf lf ef)) := by
      by_cases hq : 3 < n ∧ n ≤ 6
      · obtain ⟨cf, lf, q1, q2, q3⟩ := ansCv n hq.1 hq.2
        exact ⟨cf, lf, 0, fun h hk => ⟨q3 h hk, .inl ⟨hq.1, hq.2, rfl, q1, q2⟩⟩⟩
      · obtain ⟨cf, lf, ef, q1, q2⟩ := ansCu n (by omega)
        exact ⟨cf, lf, ef, fun h hk => ⟨(q2 h hk).1, .inr ⟨hq, q1, (q2 h hk).2⟩⟩⟩
    obtain ⟨cf, lf, ef, Sf⟩ := cube
    -- the nine calls
    have hasx : ∀ {H'}, Ext H0 H' → hasK H' nd2 = true := fun hh => ext_hasK hh hk0 ho0
    have k58 : ∀ H', callK prgS (m + 1) (.fn (.func 58) [] []) [.str s, vi n] H' = nS E2s tSq [.str s, vi n] H' := fun H' => callN rfl
    have k76 : ∀ H', callK prgS (m + 1) (.fn (.func 76) [] []) [vi n, vi c] H' = nS E2i tRr [vi n, vi c] H' := fun H' => callN rfl
    have k77 : ∀ H', callK prgS (m + 1) (.fn (.func 77) [] []) [vi n, vi c] H' = nS E2i tRc [vi n, vi c] H' := fun H' => callN rfl
    have k78 : ∀ H', callK prgS (m + 1) (.fn (.func 78) [] []) [vi n] H' = nS (E1i 1 6) tCu [vi n] H' := fun H' => callN rfl
    have k79 : ∀ H', callK prgS (m + 1) (.fn (.func 79) [] []) [vi n] H' = nS (E1i 5 16) tSt [vi n] H' := fun H' => callN rfl
    have k80 : ∀ H', callK prgS (m + 1) (.fn (.func 80) [] []) [.str s, vi n] H' = nS E2s tSq [.str s, vi n] H' := fun H' => callN rfl
    have k81 : ∀ H', callK prgS (m + 1) (.fn (.func 81) [] []) [vi n, vi c] H' = nS E2i tRr [vi n, vi c] H' := fun H' => callN rfl
    have k82 : ∀ H', callK prgS (m + 1) (.fn (.func 82) [] []) [vi n, vi c] H' = nS E2i tRc [vi n, vi c] H' := fun H' => callN rfl
    have k83 : ∀ H', callK prgS (m + 1) (.fn (.func 83) [] []) [vi n] H' = nS (E1i 5 16) tSt [vi n] H' := fun H' => callN rfl
    have k85 : ∀ H', callK prgS (m + 1) (.fn (.func 85) [] []) [vi n] H' = nS (E1i 1 6) tCx [vi n] H' := fun H' => callN rfl
    obtain ⟨u1, A1, H1, s1⟩ := step_of (Sa H0 hk0)
    have x1 := s1.ext
    obtain ⟨u2, A2, H2, s2⟩ := step_of (Sb H1 (hasx x1))
    have x2 := x1.trans s2.ext
    obtain ⟨u3, A3, H3, s3⟩ := step_of (Sd H2 (hasx x2))
    have x3 := x2.trans s3.ext
    obtain ⟨u4, A4, H4, s4⟩ := step_of (Sf H3 (hasx x3)).1
    have x4 := x3.trans s4.ext
    obtain ⟨u5, A5, H5, s5⟩ := step_of (Sg H4 (hasx x4))
    have x5 := x4.trans s5.ext
    obtain ⟨u6, A6, H6, s6⟩ := step_of (Sa H5 (hasx x5))
    have x6 := x5.trans s6.ext
    obtain ⟨u7, A7, H7, s7⟩ := step_of (Sb H6 (hasx x6))
    have x7 := x6.trans s7.ext
    obtain ⟨u8, A8, H8, s8⟩ := step_of (Sd H7 (hasx x7))
    have x8 := x7.trans s8.ext
    obtain ⟨u9, A9, H9, s9⟩ := step_of (Sg H8 (hasx x8))
    have x9 := x8.trans s9.ext
    -- from the i-th heap to the ninth
    have y8 := s9.ext
    have y7 := s8.ext.trans y8
    have y6 := s7.ext.trans y7
    have y5 := s6.ext.trans y6
    have y4 := s5.ext.trans y5
    have y3 := s4.ext.trans y4
    have y2 := s3.ext.trans y3
    have y1 := s2.ext.trans y2
    have L : ∀ {H1 : H} {r : Option (V × H)} {c : Nat} {ls : List (List Nat)} {e : Int} {u : V} {A Hi Hj : H}, Step H1 r c ls e u A Hi → Ext Hi Hj → ∀ f, Hj.loadK (some 2) A.next 0 f = f (.agg [vi c, u]) := fun st ex f =>
      loadAll ((ex.get _ st.old).trans st.get) rfl (by simp [st.lines.junk])
    -- four comparisons
    obtain ⟨v1, K1, c1, z1, rfl⟩ := c84 (m := m + 1) prgS_plain (s1.lines.ext y1) (s6.lines.ext y6) (by rw [intsN_len]; have := oka.2.1; omega) (intsN_small oka.2.2) (fun h => by obtain ⟨p1, p2⟩ := oka.1 h; subst p1; subst p2; exact ⟨rfl, rfl⟩) (c := ca) (e := ea) (by omega)
    obtain ⟨v2, K2, c2, z2, rfl⟩ := c84 (m := m + 1) prgS_plain (s2.lines.ext (y2.trans z1)) (s7.lines.ext (y7.trans z1)) (by rw [intsN_len]; have := okb.2.1; omega) (intsN_small okb.2.2) (fun h => by obtain ⟨p1, p2⟩ := okb.1 h; subst p1; subst p2; exact ⟨rfl, rfl⟩) (c := cb) (e := eb) (by omega)
    have z12 := z1.trans z2
    obtain ⟨v3, K3, c3, z3, rfl⟩ := c84 (m := m + 1) prgS_plain (s3.lines.ext (y3.trans z12)) (s8.lines.ext (y8.trans z12)) (by rw [intsN_len]; have := okd.2.1; omega) (intsN_small okd.2.2) (fun h => by obtain ⟨p1, p2⟩ := okd.1 h; subst p1; subst p2; exact ⟨rfl, rfl⟩) (c := cd) (e := ed) (by omega)
    have z13 := z12.trans z3
    obtain ⟨v4, K4, c4, z4, rfl⟩ := c84 (m := m + 1) prgS_plain (s5.lines.ext (y5.trans z13)) (s9.lines.ext z13) (by rw [intsN_len]; have := okg.2.1; omega) (intsN_small okg.2.2) (fun h => by obtain ⟨p1, p2⟩ := okg.1 h; subst p1; subst p2; exact ⟨rfl, rfl⟩) (c := cg) (e := eg) (by omega)
    have z14 := z13.trans z4
    have xK := x9.trans z14
    have l1 := L s1 y1
    have l6 := L s6 y6
    have l2 := L s2 (y2.trans z1)
    have l7 := L s7 (y7.trans z1)
    have l3 := L s3 (y3.trans z12)
    have l8 := L s8 (y8.trans z12)
    have l5 := L s5 (y5.trans z13)
    have l9 := L s9 z13
    have g4 := ((y4.trans z14).get _ s4.old).trans s4.get
    have l40 : ∀ f, K4.loadK none A4.next 0 f = f (vi cf) := fun f => load1 g4 rfl rfl
    have l41 : ∀ f, K4.loadK none A4.next 1 f = f u4 := fun f => load1 g4 rfl s4.lines.junk
    have r4 := s4.lines.ext (y4.trans z14)
    have n4 := r4.len
    rw [intsN_len] at n4
    have b1 := Int.not_lt.2 g1
    have r1 := (k58 H0).trans s1.res
    have r2 := (k76 H1).trans s2.res
    have r3 := (k77 H2).trans s3.res
    have r4' := (k78 H3).trans s4.res
    have r5 := (k79 H4).trans s5.res
    have r6 := (k80 H5).trans s6.res
    have r7 := (k81 H6).trans s7.res
    have r8 := (k82 H7).trans s8.res
    have r9 := (k83 H8).trans s9.res
    have t1 := s1.store
    have t2 := s2.store
    have t3 := s3.store
    have t4 := s4.store
    have t5 := s5.store
    have t6 := s6.store
    have t7 := s7.store
    have t8 := s8.store
    have t9 := s9.store
    have gn : (6 < n ∧ 16 < n) ∨ ¬ 6 < n := by omega
    have gc : (6 < c ∧ 16 < c) ∨ ¬ 6 < c := by omega
    have d1 : ¬ 40 < (s.length : Int) := b1
    clear g2 g3 hn hc
    unfold k16
    refine Ends.seq (Q1 := fun x fr' h' => x = .norm ∧ H0 = h' ∧ Tr.get (Pos.ofNat 0) fr' = some (.str s) ∧ Tr.get (Pos.ofNat 1) fr' = some (vi n) ∧ Tr.get (Pos.ofNat 2) fr' = some (vi c)) ?_ ?_ (fun j fr h hq => by cases hq.1)
    · simp
    rintro fr1 h1 ⟨_, rfl, f0, f1, f2⟩
    refine Ends.seq (Q1 := fun x fr' h' => x = .norm ∧ H0 = h' ∧ Tr.get (Pos.ofNat 0) fr' = some (.str s) ∧ Tr.get (Pos.ofNat 1) fr' = some (vi n) ∧ Tr.get (Pos.ofNat 2) fr' = some (vi c)) ?_ ?_ (fun j fr h hq => by cases hq.1)
    · rcases gn with ⟨q1, q2⟩ | q1 <;> rcases gc with ⟨q3, q4⟩ | q3
      · simp [f0, f1, f2, d1, q1, q2, q3, q4]
      · simp [f0, f1, f2, d1, q1, q2, q3]
      · simp [f0, f1, f2, d1, q1, q3, q4]
      · simp [f0, f1, f2, d1, q1, q3]
    clear f0 f1 f2
    rintro fr2 h2 ⟨_, rfl, f0, f1, f2⟩
    refine Ends.seq (Q1 := fun x fr' h' => x = .norm ∧ H1 = h' ∧ Tr.get (Pos.ofNat 0) fr' = some (.str s) ∧ Tr.get (Pos.ofNat 1) fr' = some (vi n) ∧ Tr.get (Pos.ofNat 2) fr' = some (vi c) ∧ Tr.get (Pos.ofNat 7) fr' = some (V.ptr A1.next 0) ∧ Tr.get (Pos.ofNat 8) fr' = some (vi ea)) ?_ ?_ (fun j fr h hq => by cases hq.1)
    · simp [f0, f1, f2, r1, ↓t1]
    clear f0 f1 f2
    rintro fr3 h3 ⟨_, rfl, f0, f1, f2, f7, f8⟩
    refine Ends.seq (Q1 := fun x fr' h' => x = .norm ∧ H2 = h' ∧ Tr.get (Pos.ofNat 0) fr' = some (.str s) ∧ Tr.get (Pos.ofNat 1) fr' = some (vi n) ∧ Tr.get (Pos.ofNat 2) fr' = some (vi c) ∧ Tr.get (Pos.ofNat 7) fr' = some (V.ptr A1.next 0) ∧ Tr.get (Pos.ofNat 8) fr' = some (vi ea) ∧ Tr.get (Pos.ofNat 9) fr' = some (V.ptr A2.next 0) ∧ Tr.get (Pos.ofNat 10) fr' = some (vi eb)) ?_ ?_ (fun j fr h hq => by cases hq.1)
    · simp [f0, f1, f2, f7, f8, r2, ↓t2]
    clear f0 f1 f2 f7 f8
    rintro fr4 h4 ⟨_, rfl, f0, f1, f2, f7, f8, f9, f10⟩
    refine Ends.seq (Q1 := fun x fr' h' => x = .norm ∧ H3 = h' ∧ Tr.get (Pos.ofNat 0) fr' = some (.str s) ∧ Tr.get (Pos.ofNat 1) fr' = some (vi n) ∧ Tr.get (Pos.ofNat 2) fr' = some (vi c) ∧ Tr.get (Pos.ofNat 7) fr' = some (V.ptr A1.next 0) ∧ Tr.get (Pos.ofNat 8) fr' = some (vi ea) ∧ Tr.get (Pos.ofNat 9) fr' = some (V.ptr A2.next 0) ∧ Tr.get (Pos.ofNat 10) fr' = some (vi eb) ∧ Tr.get (Pos.ofNat 11) fr' = some (V.ptr A3.next 0) ∧ Tr.get (Pos.ofNat 12) fr' = some (vi ed)) ?_ ?_ (fun j fr h hq => by cases hq.1)
    · simp [f0, f1, f2, f7, f8, f9, f10, r3, ↓t3]
    clear f0 f1 f2 f7 f8 f9 f10
    rintro fr5 h5 ⟨_, rfl, f0, f1, f2, f7, f8, f9, f10, f11, f12⟩
    refine Ends.seq (Q1 := fun x fr' h' => x = .norm ∧ H4 = h' ∧ Tr.get (Pos.ofNat 0) fr' = some (.str s) ∧ Tr.get (Pos.ofNat 1) fr' = some (vi n) ∧ Tr.get (Pos.ofNat 2) fr' = some (vi c) ∧ Tr.get (Pos.ofNat 7) fr' = some (V.ptr A1.next 0) ∧ Tr.get (Pos.ofNat 8) fr' = some (vi ea) ∧ Tr.get (Pos.ofNat 9) fr' = some (V.ptr A2.next 0) ∧ Tr.get (Pos.ofNat 10) fr' = some (vi eb) ∧ Tr.get (Pos.ofNat 11) fr' = some (V.ptr A3.next 0) ∧ Tr.get (Pos.ofNat 12) fr' = some (vi ed) ∧ Tr.get (Pos.ofNat 13) fr' = some (V.ptr A4.next 0) ∧ Tr.get (Pos.ofNat 14) fr' = some (vi ef)) ?_ ?_ (fun j fr h hq => by cases hq.1)
    · simp [f0, f1, f2, f7, f8, f9, f10, f11, f12, r4', ↓t4]
    clear f0 f1 f2 f7 f8 f9 f10 f11 f12
    rintro fr6 h6 ⟨_, rfl, f0, f1, f2, f7, f8, f9, f10, f11, f12, f13, f14⟩
    refine Ends.seq (Q1 := fun x fr' h' => x = .norm ∧ H5 = h' ∧ Tr.get (Pos.ofNat 0) fr' = some (.str s) ∧ Tr.get (Pos.ofNat 1) fr' = some (vi n) ∧ Tr.get (Pos.ofNat 2) fr' = some (vi c) ∧ Tr.get (Pos.ofNat 7) fr' = some (V.ptr A1.next 0) ∧ Tr.get (Pos.ofNat 8) fr' = some (vi ea) ∧ Tr.get (Pos.ofNat 9) fr' = some (V.ptr A2.next 0) ∧ Tr.get (Pos.ofNat 10) fr' = some (vi eb) ∧ Tr.get (Pos.ofNat 11) fr' = some (V.ptr A3.next 0) ∧ Tr.get (Pos.ofNat 12) fr' = some (vi ed) ∧ Tr.get (Pos.ofNat 13) fr' = some (V.ptr A4.next 0) ∧ Tr.get (Pos.ofNat 14) fr' = some (vi ef) ∧ Tr.get (Pos.ofNat 15) fr' = some (V.ptr A5.next 0) ∧ Tr.get (Pos.ofNat 16) fr' = some (vi eg)) ?_ ?_ (fun j fr h hq => by cases hq.1)
    · simp [f0, f1, f2, f7, f8, f9, f10, f11, f12, f13, f14, r5, ↓t5]
    clear f0 f1 f2 f7 f8 f9 f10 f11 f12 f13 f14
    rintro fr7 h7 ⟨_, rfl, f0, f1, f2, f7, f8, f9, f10, f11, f12, f13, f14, f15, f16⟩
    refine Ends.seq (Q1 := fun x fr' h' => x = .norm ∧ H6 = h' ∧ Tr.get (Pos.ofNat 0) fr' = some (.str s) ∧ Tr.get (Pos.ofNat 1) fr' = some (vi n) ∧ Tr.get (Pos.ofNat 2) fr' = some (vi c) ∧ Tr.get (Pos.ofNat 7) fr' = some (V.ptr A1.next 0) ∧ Tr.get (Pos.ofNat 8) fr' = some (vi ea) ∧ Tr.get (Pos.ofNat 9) fr' = some (V.ptr A2.next 0) ∧ Tr.get (Pos.ofNat 10) fr' = some (vi eb) ∧ Tr.get (Pos.ofNat 11) fr' = some (V.ptr A3.next 0) ∧ Tr.get (Pos.ofNat 12) fr' = some (vi ed) ∧ Tr.get (Pos.ofNat 13) fr' = some (V.ptr A4.next 0) ∧ Tr.get (Pos.ofNat 14) fr' = some (vi ef) ∧ Tr.get (Pos.ofNat 15) fr' = some (V.ptr A5.next 0) ∧ Tr.get (Pos.ofNat 16) fr' = some (vi eg) ∧ Tr.get (Pos.ofNat 17) fr' = some (V.ptr A6.next 0) ∧ Tr.get (Pos.ofNat 18) fr' = some (vi ea)) ?_ ?_ (fun j fr h hq => by cases hq.1)
    · simp [f0, f1, f2, f7, f8, f9, f10, f11, f12, f13, f14, f15, f16, r6, ↓t6]
    clear f0 f1 f2 f7 f8 f9 f10 f11 f12 f13 f14 f15 f16
    rintro fr8 h8 ⟨_, rfl, f0, f1, f2, f7, f8, f9, f10, f11, f12, f13, f14, f15, f16, f17, f18⟩
    refine Ends.seq (Q1 := fun x fr' h' => x = .norm ∧ H7 = h' ∧ Tr.get (Pos.ofNat 0) fr' = some (.str s) ∧ Tr.get (Pos.ofNat 1) fr' = some (vi n) ∧ Tr.get (Pos.ofNat 2) fr' = some (vi c) ∧ Tr.get (Pos.ofNat 7) fr' = some (V.ptr A1.next 0) ∧ Tr.get (Pos.ofNat 8) fr' = some (vi ea) ∧ Tr.get (Pos.ofNat 9) fr' = some (V.ptr A2.next 0) ∧ Tr.get (Pos.ofNat 10) fr' = some (vi eb) ∧ Tr.get (Pos.ofNat 11) fr' = some (V.ptr A3.next 0) ∧ Tr.get (Pos.ofNat 12) fr' = some (vi ed) ∧ Tr.get (Pos.ofNat 13) fr' = some (V.ptr A4.next 0) ∧ Tr.get (Pos.ofNat 14) fr' = some (vi ef) ∧ Tr.get (Pos.ofNat 15) fr' = some (V.ptr A5.next 0) ∧ Tr.get (Pos.ofNat 16) fr' = some (vi eg) ∧ Tr.get (Pos.ofNat 17) fr' = some (V.ptr A6.next 0) ∧ Tr.get (Pos.ofNat 18) fr' = some (vi ea) ∧ Tr.get (Pos.ofNat 19) fr' = some (V.ptr A7.next 0) ∧ Tr.get (Pos.ofNat 20) fr' = some (vi eb)) ?_ ?_ (fun j fr h hq => by cases hq.1)
    · simp [f0, f1, f2, f7, f8, f9, f10, f11, f12, f13, f14, f15, f16, f17, f18, r7, ↓t7]
    clear f0 f1 f2 f7 f8 f9 f10 f11 f12 f13 f14 f15 f16 f17 f18
    rintro fr9 h9 ⟨_, rfl, f0, f1, f2, f7, f8, f9, f10, f11, f12, f13, f14, f15, f16, f17, f18, f19, f20⟩
    refine Ends.seq (Q1 := fun x fr' h' => x = .norm ∧ H8 = h' ∧ Tr.get (Pos.ofNat 0) fr' = some (.str s) ∧ Tr.get (Pos.ofNat 1) fr' = some (vi n) ∧ Tr.get (Pos.ofNat 2) fr' = some (vi c) ∧ Tr.get (Pos.ofNat 7) fr' = some (V.ptr A1.next 0) ∧ Tr.get (Pos.ofNat 8) fr' = some (vi ea) ∧ Tr.get (Pos.ofNat 9) fr' = some (V.ptr A2.next 0) ∧ Tr.get (Pos.ofNat 10) fr' = some (vi eb) ∧ Tr.get (Pos.ofNat 11) fr' = some (V.ptr A3.next 0) ∧ Tr.get (Pos.ofNat 12) fr' = some (vi ed) ∧ Tr.get (Pos.ofNat 13) fr' = some (V.ptr A4.next 0) ∧ Tr.get (Pos.ofNat 14) fr' = some (vi ef) ∧ Tr.get (Pos.ofNat 15) fr' = some (V.ptr A5.next 0) ∧ Tr.get (Pos.ofNat 16) fr' = some (vi eg) ∧ Tr.get (Pos.ofNat 17) fr' = some (V.ptr A6.next 0) ∧ Tr.get (Pos.ofNat 18) fr' = some (vi ea) ∧ Tr.get (Pos.ofNat 19) fr' = some (V.ptr A7.next 0) ∧ Tr.get (Pos.ofNat 20) fr' = some (vi eb) ∧ Tr.get (Pos.ofNat 21) fr' = some (V.ptr A8.next 0) ∧ Tr.get (Pos.ofNat 22) fr' = some (vi ed)) ?_ ?_ (fun j fr h hq => by cases hq.1)
    · simp [f0, f1, f2, f7, f8, f9, f10, f11, f12, f13, f14, f15, f16, f17, f18, f19, f20, r8, ↓t8]
    clear f0 f1 f2 f7 f8 f9 f10 f11 f12 f13 f14 f15 f16 f17 f18 f19 f20
    rintro fr10 h10 ⟨_, rfl, f0, f1, f2, f7, f8, f9, f10, f11, f12, f13, f14, f15, f16, f17, f18, f19, f20, f21, f22⟩
    refine Ends.seq (Q1 := fun x fr' h' => x = .norm ∧ H9 = h' ∧ Tr.get (Pos.ofNat 0) fr' = some (.str s) ∧ Tr.get (Pos.ofNat 1) fr' = some (vi n) ∧ Tr.get (Pos.ofNat 2) fr' = some (vi c) ∧ Tr.get (Pos.ofNat 7) fr' = some (V.ptr A1.next 0) ∧ Tr.get (Pos.ofNat 8) fr' = some (vi ea) ∧ Tr.get (Pos.ofNat 9) fr' = some (V.ptr A2.next 0) ∧ Tr.get (Pos.ofNat 10) fr' = some (vi eb) ∧ Tr.get (Pos.ofNat 11) fr' = some (V.ptr A3.next 0) ∧ Tr.get (Pos.ofNat 12) fr' = some (vi ed) ∧ Tr.get (Pos.ofNat 13) fr' = some (V.ptr A4.next 0) ∧ Tr.get (Pos.ofNat 14) fr' = some (vi ef) ∧ Tr.get (Pos.ofNat 15) fr' = some (V.ptr A5.next 0) ∧ Tr.get (Pos.ofNat 16) fr' = some (vi eg) ∧ Tr.get (Pos.ofNat 17) fr' = some (V.ptr A6.next 0) ∧ Tr.get (Pos.ofNat 18) fr' = some (vi ea) ∧ Tr.get (Pos.ofNat 19) fr' = some (V.ptr A7.next 0) ∧ Tr.get (Pos.ofNat 20) fr' = some (vi eb) ∧ Tr.get (Pos.ofNat 21) fr' = some (V.ptr A8.next 0) ∧ Tr.get (Pos.ofNat 22) fr' = some (vi ed) ∧ Tr.get (Pos.ofNat 23) fr' = some (V.ptr A9.next 0) ∧ Tr.get (Pos.ofNat 24) fr' = some (vi eg)) ?_ ?_ (fun j fr h hq => by cases hq.1)
    · simp [f0, f1, f2, f7, f8, f9, f10, f11, f12, f13, f14, f15, f16, f17, f18, f19, f20, f21, f22, r9, ↓t9]
    clear f0 f1 f2 f7 f8 f9 f10 f11 f12 f13 f14 f15 f16 f17 f18 f19 f20 f21 f22
    rintro fr11 h11 ⟨_, rfl, f0, f1, f2, f7, f8, f9, f10, f11, f12, f13, f14, f15, f16, f17, f18, f19, f20, f21, f22, f23, f24⟩
    refine Ends.seq (Q1 := fun x fr' h' => x = .norm ∧ K4 = h' ∧ Tr.get (Pos.ofNat 0) fr' = some (.str s) ∧ Tr.get (Pos.ofNat 1) fr' = some (vi n) ∧ Tr.get (Pos.ofNat 2) fr' = some (vi c) ∧ Tr.get (Pos.ofNat 7) fr' = some (V.ptr A1.next 0) ∧ Tr.get (Pos.ofNat 8) fr' = some (vi ea) ∧ Tr.get (Pos.ofNat 9) fr' = some (V.ptr A2.next 0) ∧ Tr.get (Pos.ofNat 10) fr' = some (vi eb) ∧ Tr.get (Pos.ofNat 11) fr' = some (V.ptr A3.next 0) ∧ Tr.get (Pos.ofNat 12) fr' = some (vi ed) ∧ Tr.get (Pos.ofNat 13) fr' = some (V.ptr A4.next 0) ∧ Tr.get (Pos.ofNat 14) fr' = some (vi ef) ∧ Tr.get (Pos.ofNat 15) fr' = some (V.ptr A5.next 0) ∧ Tr.get (Pos.ofNat 16) fr' = some (vi eg) ∧ Tr.get (Pos.ofNat 17) fr' = some (V.ptr A6.next 0) ∧ Tr.get (Pos.ofNat 18) fr' = some (vi ea) ∧ Tr.get (Pos.ofNat 19) fr' = some (V.ptr A7.next 0) ∧ Tr.get (Pos.ofNat 20) fr' = some (vi eb) ∧ Tr.get (Pos.ofNat 21) fr' = some (V.ptr A8.next 0) ∧ Tr.get (Pos.ofNat 22) fr' = some (vi ed) ∧ Tr.get (Pos.ofNat 23) fr' = some (V.ptr A9.next 0) ∧ Tr.get (Pos.ofNat 24) fr' = some (vi eg)) ?_ ?_ (fun j fr h hq => by cases hq.1)
    · simp [f0, f1, f2, f7, f8, f9, f10, f11, f12, f13, f14, f15, f16, f17, f18, f19, f20, f21, f22, f23, f24, ↓l1, ↓l6, c1, ↓l2, ↓l7, c2, ↓l3, ↓l8, c3, ↓l5, ↓l9, c4]
    clear f0 f1 f2 f7 f8 f9 f10 f11 f12 f13 f14 f15 f16 f17 f18 f19 f20 f21 f22 f23 f24
    rintro fr12 h12 ⟨_, rfl, f0, f1, f2, f7, f8, f9, f10, f11, f12, f13, f14, f15, f16, f17, f18, f19, f20, f21, f22, f23, f24⟩
    rcases (Sf H3 (hasx x3)).2 with ⟨q5, q6, q60, q7, q8⟩ | ⟨q5, okf, _⟩
    · have q6' := Int.not_lt.2 q6
      have hw : IntKind.wrap .i64 (n * n) = n * n ∧ IntKind.wrap .i64 (n * n * n) = n * n * n ∧ IntKind.wrap .i64 (3 * n) = 3 * n ∧ IntKind.wrap .i64 (3 * n * n) = 3 * n * n ∧ IntKind.wrap .i64 (3 * n * n + 4) = 3 * n * n + 4 := by
        have : n = 4 ∨ n = 5 ∨ n = 6 := by omega
        rcases this with h | h | h <;> rw [h] <;> exact ⟨wrap_i64_in (by omega) (by omega), wrap_i64_in (by omega) (by omega), wrap_i64_in (by omega) (by omega), wrap_i64_in (by omega) (by omega), wrap_i64_in (by omega) (by omega)⟩
      obtain ⟨w1, w2, w3, w4, w5⟩ := hw
      have aw4 := aw xK
      simp [f1, f13, f14, q60, q5, q6', ↓l40, ↓l41, ↓n4, w1, w2, w3, w4, w5, q7, q8, aw4, xK]
    · -- the cube of the reference
      obtain ⟨u10, A10, K5, s10⟩ := step_of ((Sf K4 (hasx xK)).2.elim (fun h => absurd ⟨h.1, h.2.1⟩ q5) fun h => h.2.2)
      have xK5 := xK.trans s10.ext
      have r10 := (k85 K4).trans s10.res
      have t10 := s10.store
      obtain ⟨v6, K6, c6, z6, rfl⟩ := c84 (m := m + 1) prgS_plain ((s4.lines.ext (y4.trans z14)).ext s10.ext) s10.lines (by rw [intsN_len]; have := okf.2.1; omega) (intsN_small okf.2.2) (fun h => by obtain ⟨p1, p2⟩ := okf.1 h; subst p1; subst p2; exact ⟨rfl, rfl⟩) (c := cf) (e := ef) (by omega)
      have l4 := L s4 ((y4.trans z14).trans s10.ext)
      have l10 := L s10 (Ext.refl K5)
      have xK6 := xK5.trans z6
      have aw6 := aw xK6
      have gq : (¬ 3 < n) ∨ (3 < n ∧ 6 < n) := by omega
      rcases gq with q9 | ⟨q9, q10⟩
      · simp [f1, f13, f14, q9, r10, ↓t10, ↓l4, ↓l10, c6, aw6, xK6]
      · simp [f1, f13, f14, q9, q10, r10, ↓t10, ↓l4, ↓l10, c6, aw6, xK6]
  obtain ⟨u, h', e, _, rfl⟩ := key
  exact ⟨h', e⟩
end Go.Proofs.YtdojpbbdcgfcnaaGreatDoor.AI.T
