import Derived.ProofKit
import Derived.LaidMore
import Derived.Test.YtdojpbbdcgfcnaaGreatDoorRows
import Derived.OpenShut
import Derived.Test.YtdojpbbdcgfcnaaGreatDoorRunsTwo
set_option linter.all false
set_option maxRecDepth 100000
namespace Go.Proofs.YtdojpbbdcgfcnaaGreatDoor.AI.T
open Go Go.Proofs.YtdojpbbdcgfcnaaGreatDoor.AI
noncomputable abbrev PP : Program := Go.Proofs.Tryz.prog
noncomputable def RS : Rnds := rsOf PP X
theorem ng_ok : ng.toNat = PP.globals.size := by kernel_rfl
theorem nat339 : NatOk PP RS 339 natAdd := natAdd_ok (fn := Go.Proofs.Tryz.f339) (by kernel_rfl) (by kernel_rfl) (by kernel_rfl) (by kernel_rfl) (by kernel_rfl)
theorem nat340 : NatOk PP RS 340 natSub := natSub_ok (fn := Go.Proofs.Tryz.f340) (by kernel_rfl) (by kernel_rfl) (by kernel_rfl) (by kernel_rfl) (by kernel_rfl)
theorem nat378 : NatOk PP RS 378 natSame := natSame_ok (fn := Go.Proofs.Tryz.f378) (by kernel_rfl) (by kernel_rfl) (by kernel_rfl) (by kernel_rfl) (by kernel_rfl)
theorem nat395 : NatOk PP RS 395 (natMake 5) := natMake_ok (fn := Go.Proofs.Tryz.f395) (sl := 297) (by kernel_rfl) (by kernel_rfl) (by kernel_rfl) (by kernel_rfl) (by kernel_rfl) (by kernel_rfl) (by kernel_rfl)
theorem nats0_ok : nats0.All (NatOk PP RS) := ⟨⟨trivial, nat339, trivial⟩, nat340, ⟨trivial, nat378, ⟨trivial, nat395, trivial⟩⟩⟩
theorem prg0_ok : PrgOk PP RS prg0 := ⟨fun f fk h => BT.all_get tab tab_ok h, fun f nt h => BT.all_get nats0 nats0_ok h, fun t v m f r h => (by cases h), fun r x h => BT.all_get rtab rtab_ok h⟩
theorem nd2_c : needB nd2 = true := by kernel_rfl
theorem nd2_l : needLt ng nd2 = true := by kernel_rfl
theorem nat98 : NatOk PP RS 98 (natRuns [] m98) := natRuns_ok prg0_ok ng_ok rfl rfl run98
theorem nat108 : NatOk PP RS 108 (natRuns [] m108) := natRuns_ok prg0_ok ng_ok rfl rfl run108
theorem nat111 : NatOk PP RS 111 (natRuns [] m111) := natRuns_ok prg0_ok ng_ok rfl rfl run111
theorem nat115 : NatOk PP RS 115 (natRuns [] m115) := natRuns_ok prg0_ok ng_ok rfl rfl run115
theorem nat120 : NatOk PP RS 120 (natRuns [] m120) := natRuns_ok prg0_ok ng_ok rfl rfl run120
theorem nat123 : NatOk PP RS 123 (natRuns [] m123) := natRuns_ok prg0_ok ng_ok rfl rfl run123
theorem nat199 : NatOk PP RS 199 (natRuns [] m199) := natRuns_ok prg0_ok ng_ok rfl rfl run199
theorem nat210 : NatOk PP RS 210 (natRuns [] m210) := natRuns_ok prg0_ok ng_ok rfl rfl run210
theorem nat213 : NatOk PP RS 213 (natRuns [] m213) := natRuns_ok prg0_ok ng_ok rfl rfl run213
theorem nat277 : NatOk PP RS 277 (natRuns nd2 m277) := natRuns_ok prg0_ok ng_ok nd2_c nd2_l run277
theorem nat163 : NatOk PP RS 163 (natMakes nd2 m163) := natMakes_ok prg0_ok ng_ok nd2_c nd2_l run163
theorem nats1_ok : nats1.All (NatOk PP RS) := (BT.all_node (BT.all_node (BT.all_node (BT.all_node BT.all_leaf nat98 BT.all_leaf) nat108 (BT.all_node BT.all_leaf nat111 BT.all_leaf)) nat115 (BT.all_node (BT.all_node BT.all_leaf nat120 BT.all_leaf) nat123 (BT.all_node (BT.all_node BT.all_leaf nat163 BT.all_leaf) nat199 BT.all_leaf))) nat210 (BT.all_node (BT.all_node (BT.all_node BT.all_leaf nat213 BT.all_leaf) nat277 (BT.all_node BT.all_leaf nat339 BT.all_leaf)) nat340 (BT.all_node (BT.all_node BT.all_leaf nat378 BT.all_leaf) nat395 BT.all_leaf)))
theorem prg1_ok : PrgOk PP RS prg1 := ⟨prg0_ok.fs, fun f nt h => BT.all_get nats1 nats1_ok h, prg0_ok.meth, prg0_ok.rnd⟩
/-- awake answers true -/
theorem awake_ok : NatOk PP RS 18 (natConst nd2 (.bool true)) := natConst_ok prg1_ok ng_ok nd2_c nd2_l runAwake
end Go.Proofs.YtdojpbbdcgfcnaaGreatDoor.AI.T
/- LinesChecks: the functions are put together. -/
set_option maxRecDepth 100000
namespace Go.Proofs.YtdojpbbdcgfcnaaGreatDoor.AI.T
open Go Go.Proofs.YtdojpbbdcgfcnaaGreatDoor.AI

section
variable {p : Prg} {m : Nat} {h : H}
theorem call_of {f : Nat} {fk : FK} {cap args : List V} (hn : p.nat f = none) (hf : p.fs f = some fk) : callK p (m + 1) (.fn (.func f) [] cap) args h = bodyK (callK p m) m fk (args ++ cap) h := by
  rw [call_go, go_body hn hf]
theorem call_nat {f : Nat} {nt : List V → H → Option (V × H)} {args : List V} (hn : p.nat f = some nt) : callK p (m + 1) (.fn (.func f) [] []) args h = nt args h := by
  rw [call_go, go_nat hn, List.append_nil]

/-- functions that are run as they are -/
structure Base (p : Prg) : Prop where
  n90 : p.nat 90 = none
  n88 : p.nat 88 = none
  n193 : p.nat 193 = none
  n203 : p.nat 203 = none
  n160 : p.nat 160 = none
  n50 : p.nat 50 = none
  n92 : p.nat 92 = none
  n195 : p.nat 195 = none
  n196 : p.nat 196 = none
  n274 : p.nat 274 = none
  n194 : p.nat 194 = none
  s90 : p.fs 90 = some f90
  s88 : p.fs 88 = some f88
  s193 : p.fs 193 = some f193
  s203 : p.fs 203 = some f203
  s160 : p.fs 160 = some f160
  s50 : p.fs 50 = some f50
  s92 : p.fs 92 = some f92
  s195 : p.fs 195 = some f195
  s196 : p.fs 196 = some f196
  s274 : p.fs 274 = some f274
  s194 : p.fs 194 = some f194

theorem b90 (B : Base p) {b : Bool} {e : Int} : callK p (m + 1) (.fn (.func 90) [] []) [.bool b, vi e] h = some (vi (if b = true then e else 0), h) := by
  rw [call_of B.n90 B.s90]; exact fn90 _ _ _ _ _
theorem b88 (B : Base p) {w : V} {es : List Int} (hs : SlcAt h w (es.map vi)) (hm : es.length + 1 < m) (hx : es.length < 9223372036854775807) : callK p (m + 1) (.fn (.func 88) [] []) [w] h = some (vi (firstOf es), h) := by
  rw [call_of B.n88 B.s88]; exact fn88 _ _ _ _ _ hs hm hx
theorem b193 (B : Base p) {x lo hi : Int} {b1 b2 : Pos} (h1 : ∀ f, h.loadK none b1 0 f = f (vi lo)) (h2 : ∀ f, h.loadK none b2 0 f = f (vi hi)) :
    callK p (m + 1) (.fn (.func 193) [] [.ptr b1 0, .ptr b2 0]) [vi x] h = some (.bool (decide (x < lo) || decide (hi < x)), h) := by
  rw [call_of B.n193 B.s193]; exact fn193 _ _ _ _ _ _ _ _ h1 h2
theorem b160 (B : Base p) {v : V} {xs : List Int} {lo hi : Int} {b1 b2 : Pos} (hs : SlcAt h v (xs.map vi)) (h1 : ∀ f, h.loadK none b1 0 f = f (vi lo)) (h2 : ∀ f, h.loadK none b2 0 f = f (vi hi)) (hm : xs.length + 1 < m + 1) (hx : xs.length < 9223372036854775807) :
    callK p (m + 1 + 1 + 1) (.fn (.func 160) [] []) [v, .fn (.func 193) [] [.ptr b1 0, .ptr b2 0]] h = some (.bool (outside lo hi xs), h) := by
  rw [call_of B.n160 B.s160]
  refine fn160 _ _ _ _ xs (fun x => decide (x < lo) || decide (hi < x)) _ ?_
  have h1' : ∀ f, H.loadK ⟨h.next, h.t, []⟩ none b1 0 f = f (vi lo) := h1
  have h2' : ∀ f, H.loadK ⟨h.next, h.t, []⟩ none b2 0 f = f (vi hi) := h2
  rw [call_of B.n203 B.s203]
  exact fn203 _ _ _ _ xs _ ⟨h.next, h.t, []⟩ hs.bare hm hx fun x _ => b193 B h1' h2'
theorem b50 (B : Base p) {v w : V} {xs ys : List Int} (hs : SlcAt h v (xs.map vi)) (ht : SlcAt h w (ys.map vi)) (hm : xs.length + 1 < m) (hx : xs.length < 9223372036854775807) : callK p (m + 1) (.fn (.func 50) [] []) [v, w] h = some (.bool (decide (xs = ys)), h) := by
  rw [call_of B.n50 B.s50]; exact fn50 _ _ _ _ _ _ _ hs ht hm hx
theorem b92 (B : Base p) {v w : V} {ls : List (List Int)} {xs : List Int} (hs : LinesAt h v ls) (ht : SlcAt h w (xs.map vi)) (hm : ls.length + 1 < m + 1) (hx : ls.length < 9223372036854775807) (hl : ∀ l ∈ ls, l.length + 1 < m ∧ l.length < 9223372036854775807) :
    callK p (m + 1 + 1) (.fn (.func 92) [] []) [v, w] h = some (.bool (hasLine ls xs), h) := by
  rw [call_of B.n92 B.s92]
  exact fn92 _ _ _ _ _ _ _ hs ht hm hx fun u ys hu hy => b50 B hu ht (hl ys hy).1 (hl ys hy).2
theorem b194 (B : Base p) {v w : V} {ls : List (List Int)} {xs : List Int} {b : Pos} (hs : LinesAt h v ls) (ht : SlcAt h w (xs.map vi)) (hb : ∀ f, h.loadK none b 0 f = f w) (hm : ls.length + 1 < m + 1 + 1) (hx : ls.length < 9223372036854775807) (hl : ∀ l ∈ ls, l.length + 1 < m ∧ l.length < 9223372036854775807) :
    callK p (m + 1 + 1 + 1 + 1) (.fn (.func 194) [] []) [v, .fn (.func 195) [] [.ptr b 0]] h = some (.bool (hasLine ls xs), h) := by
  have hany : (ls.map fun l => decide (l = xs)).any id = hasLine ls xs := by unfold hasLine; rw [List.any_map]; rfl
  rw [← hany, call_of B.n194 B.s194]
  have hs' : LinesAt ⟨h.next, h.t, []⟩ v ls := hs
  have ht' : SlcAt ⟨h.next, h.t, []⟩ w (xs.map vi) := ht
  have hb' : ∀ f, H.loadK ⟨h.next, h.t, []⟩ none b 0 f = f w := hb
  refine fn194 _ _ _ _ (ls.map fun l => decide (l = xs)) _ ?_
  obtain ⟨vs, k1, k2, k3⟩ := hs'
  rw [call_of B.n274 B.s274]
  refine fn274 _ _ _ _ vs _ ⟨h.next, h.t, []⟩ k1 (by simp [k2]) (by omega) (by omega) fun i u e hu he => ?_
  rw [List.getElem?_map] at he
  cases hli : ls[i]? with
  | none => rw [hli] at he; cases he
  | some l =>
    rw [hli] at he; cases he
    have hmem : l ∈ ls := List.mem_of_getElem? hli
    rw [call_of B.n195 B.s195]
    refine fn195 _ _ _ _ _ _ ⟨h.next, h.t, []⟩ hb' ?_
    rw [call_of B.n196 B.s196]
    exact fn196 _ _ _ _ _ _ ⟨h.next, h.t, []⟩ (k3 i u l hu hli) ht' (hl l hmem).1 (hl l hmem).2
end

/-! ### what the functions that make rows answer -/
def big : Nat := 9223372036854775807
def Small (ls : List (List Int)) : Prop := ls.length ≤ 1000 ∧ ∀ l ∈ ls, l.length ≤ 1000
def R17 (args : List V) (h : H) (r : V) : Prop := ∃ c v ls cells lines, args = [.agg [vi c, v], vi cells, vi lines] ∧ LinesAt h v ls ∧ ls.length ≤ 9223372036854775807 ∧ r = .bool (Short cells lines ls)
def R89 (args : List V) (h : H) (r : V) : Prop := ∃ lo hi v es, args = [vi lo, vi hi, v] ∧ SlcAt h v (es.map vi) ∧ es.length ≤ 3 ∧ r = vi (if outside lo hi es = true then 3 else 0)
def R197 (args : List V) (h : H) (r : V) : Prop := ∃ (v : V) (es : List (Int × Int)) (x : Int × Int), args = [v, .agg [vi x.1, vi x.2]] ∧ EdgesAt h v es ∧ es.length ≤ 1000 ∧ r = vi (idxOf (fun y : Int × Int => decide (x.1 = y.1) && decide (x.2 = y.2)) es 0)
def R93 (args : List V) (h : H) (r : V) : Prop := ∃ (v : V) (es : List (Int × Int)) (x : Int × Int), args = [v, .agg [vi x.1, vi x.2]] ∧ EdgesAt h v es ∧ es.length ≤ 1000 ∧ r = .bool (hasEdge es (x : Int × Int))
def R20 (args : List V) (h : H) (r : V) : Prop := ∃ c v ls, args = [.agg [vi c, v]] ∧ LinesAt h v ls ∧ Small ls ∧ r = vi (sysErr c ls)
def R22 (args : List V) (h : H) (r : V) : Prop := ∃ c v es, args = [.agg [vi c, v]] ∧ EdgesAt h v es ∧ es.length ≤ 1000 ∧ r = vi (graphErr c es)
def R91 (args : List V) (h : H) (r : V) : Prop := ∃ (c : Int) (v : V) (ls : List (List Int)) (i : Nat), args = [.agg [vi c, v], vi i] ∧ LinesAt h v ls ∧ Small ls ∧ i < ls.length ∧ r = vi (lineErr c ls i)

theorem R17.some {h : H} {c cells lines : Int} {v : V} {ls : List (List Int)} (hs : LinesAt h v ls) (hx : ls.length ≤ 9223372036854775807) : natOf R17 [.agg [vi c, v], vi cells, vi lines] h = some (.bool (Short cells lines ls), h) := by
  refine natOf_some ⟨c, v, ls, cells, lines, rfl, hs, hx, rfl⟩ fun u hu => ?_
  obtain ⟨c', v', ls', cells', lines', h1, h2, _, rfl⟩ := hu
  simp at h1
  obtain ⟨⟨rfl, rfl⟩, rfl, rfl⟩ := h1
  rw [hs.uniq h2]
theorem R89.some {h : H} {lo hi : Int} {v : V} {es : List Int} (hs : SlcAt h v (es.map vi)) (hx : es.length ≤ 3) : natOf R89 [vi lo, vi hi, v] h = some (vi (if outside lo hi es = true then 3 else 0), h) := by
  refine natOf_some ⟨lo, hi, v, es, rfl, hs, hx, rfl⟩ fun u hu => ?_
  obtain ⟨lo', hi', v', es', h1, h2, _, rfl⟩ := hu
  simp at h1
  obtain ⟨rfl, rfl, rfl⟩ := h1
  rw [vi_inj (hs.uniq h2)]
theorem R197.some {h : H} {v : V} {es : List (Int × Int)} {x : Int × Int} (hs : EdgesAt h v es) (hx : es.length ≤ 1000) : natOf R197 [v, .agg [vi x.1, vi x.2]] h = some (vi (idxOf (fun y : Int × Int => decide (x.1 = y.1) && decide (x.2 = y.2)) es 0), h) := by
  refine natOf_some ⟨v, es, x, rfl, hs, hx, rfl⟩ fun u hu => ?_
  obtain ⟨v', es', x', h1, h2, _, rfl⟩ := hu
  simp at h1
  obtain ⟨rfl, h3, h4⟩ := h1
  rw [hs.uniq h2, h3, h4]
theorem R93.some {h : H} {v : V} {es : List (Int × Int)} {x : Int × Int} (hs : EdgesAt h v es) (hx : es.length ≤ 1000) : natOf R93 [v, .agg [vi x.1, vi x.2]] h = some (.bool (hasEdge es x), h) := by
  refine natOf_some ⟨v, es, x, rfl, hs, hx, rfl⟩ fun u hu => ?_
  obtain ⟨v', es', x', h1, h2, _, rfl⟩ := hu
  simp at h1
  obtain ⟨rfl, h3, h4⟩ := h1
  rw [hs.uniq h2, show x = x' from Prod.ext h3 h4]
theorem R20.some {h : H} {c : Int} {v : V} {ls : List (List Int)} (hs : LinesAt h v ls) (hx : Small ls) : natOf R20 [.agg [vi c, v]] h = some (vi (sysErr c ls), h) := by
  refine natOf_some ⟨c, v, ls, rfl, hs, hx, rfl⟩ fun u hu => ?_
  obtain ⟨c', v', ls', h1, h2, _, rfl⟩ := hu
  simp at h1
  obtain ⟨rfl, rfl⟩ := h1
  rw [hs.uniq h2]
theorem R22.some {h : H} {c : Int} {v : V} {es : List (Int × Int)} (hs : EdgesAt h v es) (hx : es.length ≤ 1000) : natOf R22 [.agg [vi c, v]] h = some (vi (graphErr c es), h) := by
  refine natOf_some ⟨c, v, es, rfl, hs, hx, rfl⟩ fun u hu => ?_
  obtain ⟨c', v', ls', h1, h2, _, rfl⟩ := hu
  simp at h1
  obtain ⟨rfl, rfl⟩ := h1
  rw [hs.uniq h2]
theorem R91.some {h : H} {c : Int} {v : V} {ls : List (List Int)} {i : Nat} (hs : LinesAt h v ls) (hx : Small ls) (hi : i < ls.length) : natOf R91 [.agg [vi c, v], vi i] h = some (vi (lineErr c ls i), h) := by
  refine natOf_some ⟨c, v, ls, i, rfl, hs, hx, hi, rfl⟩ fun u hu => ?_
  obtain ⟨c', v', ls', i', h1, h2, _, _, rfl⟩ := hu
  simp at h1
  obtain ⟨⟨rfl, rfl⟩, h3⟩ := h1
  rw [hs.uniq h2, show i = i' by omega]
end Go.Proofs.YtdojpbbdcgfcnaaGreatDoor.AI.T
/- LinesChecks: it answers true, whatever its input. -/
set_option maxRecDepth 100000
namespace Go.Proofs.YtdojpbbdcgfcnaaGreatDoor.AI.T
open Go Go.Proofs.YtdojpbbdcgfcnaaGreatDoor.AI

noncomputable def ntsA : BT (List V → H → Option (V × H)) := .node (.node .leaf 18 (natConst nd2 (.bool true)) .leaf) 339 natAdd (.node (.node .leaf 340 natSub .leaf) 378 natSame (.node .leaf 395 (natMake 5) .leaf))
noncomputable def prgA : Prg := { prg0 with nat := fun i => ntsA.get i }
theorem ntsA_ok : ntsA.All (NatOk PP RS) := ⟨⟨trivial, awake_ok, trivial⟩, nat339, ⟨trivial, nat340, trivial⟩, nat378, ⟨trivial, nat395, trivial⟩⟩
theorem prgA_ok : PrgOk PP RS prgA := ⟨prg0_ok.fs, fun f nt h => BT.all_get ntsA ntsA_ok h, prg0_ok.meth, prg0_ok.rnd⟩
theorem baseA : Base prgA := ⟨rfl, rfl, rfl, rfl, rfl, rfl, rfl, rfl, rfl, rfl, rfl, rfl, rfl, rfl, rfl, rfl, rfl, rfl, rfl, rfl, rfl, rfl⟩

theorem bare_ro (h : H) : h.ro.marks = [] := rfl

theorem nat17 : NatOk PP RS 17 (natOf R17) := natOf_ok prgA_ok fun args h r hr => by
  obtain ⟨c, v, ls, cells, lines, rfl, hs, hx, rfl⟩ := hr
  refine ⟨rfl, ls.length + 10, ls.length + 10, ?_⟩
  obtain ⟨h', hh⟩ := fn17 (callK prgA (ls.length + 10)) (ls.length + 10) c cells lines v ls h.ro hs.ro (by omega) hx
  exact ⟨h', by rw [go_body (fk := f17) rfl rfl]; exact hh⟩
theorem nat89 : NatOk PP RS 89 (natOf R89) := natOf_ok prgA_ok fun args h r hr => by
  obtain ⟨lo, hi, v, es, rfl, hs, hx, rfl⟩ := hr
  refine ⟨rfl, 100, 100, ?_⟩
  obtain ⟨h', hh⟩ := fn89 (callK prgA 100) 100 lo hi v es h.ro hs.ro (fun b1 b2 h' k1 k2 k3 k4 => b160 (m := 97) baseA k1 k2 k3 (by omega) (by omega)) (fun b e h => b90 (m := 99) baseA)
  exact ⟨h', by rw [go_body (fk := f89) rfl rfl]; exact hh⟩
theorem nat197 : NatOk PP RS 197 (natOf R197) := natOf_ok prgA_ok fun args h r hr => by
  obtain ⟨v, es, x, rfl, hs, hx, rfl⟩ := hr
  refine ⟨rfl, 2000, 2000, ?_⟩
  obtain ⟨h', hh⟩ := fn197 (callK prgA 2000) 2000 v es x h.ro hs.ro (by omega) (by omega)
  exact ⟨h', by rw [go_body (fk := f197) rfl rfl]; exact hh⟩
theorem nat20 : NatOk PP RS 20 (natOf R20) := natOf_ok prgA_ok fun args h r hr => by
  obtain ⟨c, v, ls, rfl, hs, hx, rfl⟩ := hr
  refine ⟨rfl, 2000, 2000, ?_⟩
  obtain ⟨h', hh⟩ := fn20 (callK prgA 2000) 2000 c v ls h.ro hs.ro (by have := hx.1; omega) (by have := hx.1; omega) (fun l hl => by have := hx.2 l hl; omega) (fun v w ms xs h k1 k2 k3 k4 =>
    b92 (m := 1998) baseA k1 k2 (by have := hx.1; omega) (by have := hx.1; omega) fun l hl => by have := hx.2 l (k4 l hl); omega)
  exact ⟨h', by rw [go_body (fk := f20) rfl rfl]; exact hh⟩
theorem nat22 : NatOk PP RS 22 (natOf R22) := natOf_ok prgA_ok fun args h r hr => by
  obtain ⟨c, v, es, rfl, hs, hx, rfl⟩ := hr
  refine ⟨rfl, 2000, 2000, ?_⟩
  obtain ⟨h', hh⟩ := fn22 (callK prgA 2000) 2000 c v es h.ro hs.ro (by omega) (by omega)
  exact ⟨h', by rw [go_body (fk := f22) rfl rfl]; exact hh⟩
theorem nat91 : NatOk PP RS 91 (natOf R91) := natOf_ok prgA_ok fun args h r hr => by
  obtain ⟨c, v, ls, i, rfl, hs, hx, hi, rfl⟩ := hr
  refine ⟨rfl, 2000, 2000, ?_⟩
  have hl := hx.2 ls[i] (List.getElem_mem hi)
  obtain ⟨h', hh⟩ := fn91 (callK prgA 2000) 2000 c v ls i ls[i] h.ro hs.ro hi rfl (by have := hx.1; omega) (by omega) (by omega) (fun b e h => b90 (m := 1999) baseA) (fun w es h k1 k2 => b88 (m := 1999) baseA k1 (by omega) (by omega))
    (fun v w ms b h k1 k2 k3 k4 k5 => b194 (m := 1996) baseA k1 k2 k3 (by have := hx.1; omega) (by have := hx.1; omega) fun l hl => by have := hx.2 l (k5 l hl); omega)
  exact ⟨h', by rw [go_body (fk := f91) rfl rfl]; exact hh⟩

/-! the next level -/
noncomputable def ntsB : BT (List V → H → Option (V × H)) := .node (.node (.node .leaf 17 (natOf R17) .leaf) 18 (natConst nd2 (.bool true)) (.node (.node .leaf 20 (natOf R20) .leaf) 22 (natOf R22) (.node .leaf 89 (natOf R89) .leaf))) 91
  (natOf R91) (.node (.node .leaf 197 (natOf R197) .leaf) 339 natAdd (.node (.node .leaf 340 natSub .leaf) 378 natSame (.node .leaf 395 (natMake 5) .leaf)))
noncomputable def prgB : Prg := { prg0 with nat := fun i => ntsB.get i }
theorem ntsB_ok : ntsB.All (NatOk PP RS) := ⟨⟨⟨trivial, nat17, trivial⟩, awake_ok, ⟨⟨trivial, nat20, trivial⟩, nat22, ⟨trivial, nat89, trivial⟩⟩⟩, nat91, ⟨⟨trivial, nat197, trivial⟩, nat339, ⟨⟨trivial, nat340, trivial⟩, nat378, ⟨trivial, nat395, trivial⟩⟩⟩⟩
theorem prgB_ok : PrgOk PP RS prgB := ⟨prg0_ok.fs, fun f nt h => BT.all_get ntsB ntsB_ok h, prg0_ok.meth, prg0_ok.rnd⟩
theorem baseB : Base prgB := ⟨rfl, rfl, rfl, rfl, rfl, rfl, rfl, rfl, rfl, rfl, rfl, rfl, rfl, rfl, rfl, rfl, rfl, rfl, rfl, rfl, rfl, rfl⟩

theorem nat93 : NatOk PP RS 93 (natOf R93) := natOf_ok prgB_ok fun args h r hr => by
  obtain ⟨v, es, x, rfl, hs, hx, rfl⟩ := hr
  refine ⟨rfl, 2000, 2000, ?_⟩
  obtain ⟨h', hh⟩ := fn93 (callK prgB 2000) 2000 v es x h.ro hs.ro (fun h k1 => (call_nat (m := 1999) (nt := natOf R197) rfl).trans (R197.some k1 hx))
  exact ⟨h', by rw [go_body (fk := f93) rfl rfl]; exact hh⟩
theorem nat19 : NatOk PP RS 19 (natOf R20) := natOf_ok prgB_ok fun args h r hr => by
  obtain ⟨c, v, ls, rfl, hs, hx, rfl⟩ := hr
  refine ⟨rfl, 2000, 2000, ?_⟩
  obtain ⟨h', hh⟩ := fn19 (callK prgB 2000) 2000 c v ls h.ro hs.ro (by have := hx.1; omega) (by have := hx.1; omega) (fun b e h => b90 (m := 1999) baseB) (fun w es h k1 k2 => b88 (m := 1999) baseB k1 (by omega) (by omega))
    (fun lo hi w es h k1 k2 => (call_nat (m := 1999) (nt := natOf R89) rfl).trans (R89.some k1 k2)) (fun i h k1 k2 => (call_nat (m := 1999) (nt := natOf R91) rfl).trans (R91.some k1 hx k2))
  exact ⟨h', by rw [go_body (fk := f19) rfl rfl]; exact hh⟩

noncomputable def ntsC : BT (List V → H → Option (V × H)) := .node (.node (.node .leaf 17 (natOf R17) .leaf) 18 (natConst nd2 (.bool true)) (.node (.node .leaf 19 (natOf R20) .leaf) 20 (natOf R20) (.node (.node .leaf 22 (natOf R22) .leaf) 89 (natOf R89) .leaf))) 93
  (natOf R93) (.node (.node .leaf 197 (natOf R197) .leaf) 339 natAdd (.node (.node .leaf 340 natSub .leaf) 378 natSame (.node .leaf 395 (natMake 5) .leaf)))
noncomputable def prgC : Prg := { prg0 with nat := fun i => ntsC.get i }
theorem ntsC_ok : ntsC.All (NatOk PP RS) := ⟨⟨⟨trivial, nat17, trivial⟩, awake_ok, ⟨⟨trivial, nat19, trivial⟩, nat20, ⟨⟨trivial, nat22, trivial⟩, nat89, trivial⟩⟩⟩, nat93, ⟨⟨trivial, nat197, trivial⟩, nat339, ⟨⟨trivial, nat340, trivial⟩, nat378, ⟨trivial, nat395, trivial⟩⟩⟩⟩
theorem prgC_ok : PrgOk PP RS prgC := ⟨prg0_ok.fs, fun f nt h => BT.all_get ntsC ntsC_ok h, prg0_ok.meth, prg0_ok.rnd⟩
theorem baseC : Base prgC := ⟨rfl, rfl, rfl, rfl, rfl, rfl, rfl, rfl, rfl, rfl, rfl, rfl, rfl, rfl, rfl, rfl, rfl, rfl, rfl, rfl, rfl, rfl⟩

theorem nat21 : NatOk PP RS 21 (natOf R22) := natOf_ok prgC_ok fun args h r hr => by
  obtain ⟨c, v, es, rfl, hs, hx, rfl⟩ := hr
  refine ⟨rfl, 2000, 2000, ?_⟩
  obtain ⟨h', hh⟩ := fn21 (callK prgC 2000) 2000 c v es h.ro hs.ro (by omega) (by omega) (fun b e h => b90 (m := 1999) baseC) (fun w es h k1 k2 => b88 (m := 1999) baseC k1 (by omega) (by omega))
    (fun lo hi w es h k1 k2 => (call_nat (m := 1999) (nt := natOf R89) rfl).trans (R89.some k1 k2)) (fun w fs x h k1 k2 => (call_nat (m := 1999) (nt := natOf R93) rfl).trans (R93.some k1 (by omega)))
  exact ⟨h', by rw [go_body (fk := f21) rfl rfl]; exact hh⟩

noncomputable def ntsD : BT (List V → H → Option (V × H)) := .node (.node (.node .leaf 17 (natOf R17) .leaf) 18 (natConst nd2 (.bool true)) (.node (.node .leaf 19 (natOf R20) .leaf) 20 (natOf R20) .leaf)) 21
  (natOf R22) (.node (.node .leaf 22 (natOf R22) .leaf) 339 natAdd (.node (.node .leaf 340 natSub .leaf) 378 natSame (.node .leaf 395 (natMake 5) .leaf)))
noncomputable def prgD : Prg := { prg0 with nat := fun i => ntsD.get i }
theorem ntsD_ok : ntsD.All (NatOk PP RS) := ⟨⟨⟨trivial, nat17, trivial⟩, awake_ok, ⟨⟨trivial, nat19, trivial⟩, nat20, trivial⟩⟩, nat21, ⟨⟨trivial, nat22, trivial⟩, nat339, ⟨⟨trivial, nat340, trivial⟩, nat378, ⟨trivial, nat395, trivial⟩⟩⟩⟩
theorem prgD_ok : PrgOk PP RS prgD := ⟨prg0_ok.fs, fun f nt h => BT.all_get ntsD ntsD_ok h, prg0_ok.meth, prg0_ok.rnd⟩

theorem natConst_some {nd : Need} {v : V} {h : H} (hk : hasK h nd = true) : natConst nd v [] h = some (v, h) := by
  show (Bool.casesOn (hasK h nd) none (some (v, h)) : Option (V × H)) = _
  rw [hk]
theorem short_small {ls : List (List Int)} (h : Short 40 130 ls = true) : Small ls := by
  unfold Short allLe at h
  simp at h
  refine ⟨by omega, fun l hl => ?_⟩
  have := h.2 l hl
  omega

/-- LinesChecks -/
theorem linesChecks_run {c nv : Int} {v w : V} {ls : List (List Int)} {es : List (Int × Int)} {h : H} (hs : LinesAt h v ls) (he : EdgesAt h w es) (hk : hasK h nd2 = true) (ho : ∀ p l, (p, l) ∈ nd2 → Old h p) (hx : ls.length ≤ 9223372036854775807) :
    ∃ h', goK prgD (callK prgD 2000) 2000 3 [.agg [vi c, v], .agg [vi nv, w]] h = some (.bool true, h') := by
  obtain ⟨h', hh⟩ := fn3 (callK prgD 2000) 2000 nd2 c nv v w ls es h hs he hk ho
    (fun h k => (call_nat (m := 1999) (nt := natConst nd2 (.bool true)) rfl).trans (natConst_some k))
    (fun cells lines h k => (call_nat (m := 1999) (nt := natOf R17) rfl).trans (R17.some k hx))
    (fun h k k2 => (call_nat (m := 1999) (nt := natOf R20) rfl).trans (R20.some k (short_small k2)))
    (fun h k k2 => (call_nat (m := 1999) (nt := natOf R20) rfl).trans (R20.some k (short_small k2)))
    (fun h k k2 => (call_nat (m := 1999) (nt := natOf R22) rfl).trans (R22.some k (by omega)))
    (fun h k k2 => (call_nat (m := 1999) (nt := natOf R22) rfl).trans (R22.some k (by omega)))
  exact ⟨h', by rw [go_body (fk := f3) rfl rfl]; exact hh⟩
end Go.Proofs.YtdojpbbdcgfcnaaGreatDoor.AI.T
/- FROM A RUN OF THE ABSTRACT INTERPRETER TO A LAW'S ROW. -/
namespace Go.Proofs.YtdojpbbdcgfcnaaGreatDoor.AI
open Go.ChangeShapes Go.WideShapes Go.ChangeAt Go.RowKit

section
variable {P : Program} {rs : Rnds} {ng : Nat} {W : World}

/-- an argument, as it is read -/
def ArgAt (P : Program) (h : H) (k : Nat) (t : TypeId) (v : V) : Prop :=
  match P.underlying t with
  | some (.struct _) | some (.array _ _) => ∃ vs, v = .agg vs ∧ Reads P h k t vs
  | _ => Reads P h k t [v]
def ArgsAt (P : Program) (h : H) (k : Nat) : List TypeId → List V → Prop
  | [], [] => True
  | t :: ts, v :: vs => ArgAt P h k t v ∧ ArgsAt P h k ts vs
  | _, _ => False

theorem ArgAt.ext {h h' : H} (hh : Ext h h') {k : Nat} {t : TypeId} {v : V} (ha : ArgAt P h k t v) : ArgAt P h' k t v := by
  unfold ArgAt at ha ⊢
  split at ha
  · obtain ⟨vs, rfl, h1⟩ := ha; exact ⟨vs, rfl, h1.ext hh⟩
  · obtain ⟨vs, rfl, h1⟩ := ha; exact ⟨vs, rfl, h1.ext hh⟩
  · exact Reads.ext hh _ _ _ ha
theorem ArgsAt.ext {h h' : H} (hh : Ext h h') {k : Nat} : ∀ {ts : List TypeId} {vs : List V}, ArgsAt P h k ts vs → ArgsAt P h' k ts vs
  | [], [], _ => trivial
  | _ :: _, _ :: _, ⟨a, b⟩ => ⟨a.ext hh, b.ext hh⟩

theorem absorb_arg {α : Type} {enc : TypeId × Value → α} {held : Bool} {k : Nat} {t : TypeId} (hf : flat P k t = true) {v : Value} {d : DataW α} {ps : List MemPlace} {base : Nat} {g : G} {h : H}
    (hd : DataW.Trod enc P W 0 (fun _ => true) held t v d ps) (hv : Value.okWide P W .any base t v) (hs : St P rs ng W g h) :
    ∃ g' h' u, St P rs ng W g' h' ∧ Grow g h g' h' ∧ conc g' u = v ∧ u.bd h'.next.toNat ∧ ArgAt P h' k t u := by
  obtain ⟨fuel, hd⟩ := hd
  obtain ⟨g', h', vs, a1, a2, a3, a4, a5⟩ := absorb enc held k t hf fuel _ _ g h hd hs
  have agg : ∀ cs : Array Value, v = .agg cs → conc g' (.agg vs) = v := fun cs e => by
    subst e
    simp only [conc, a3, Value.cells]
  have sing : v.cells = #[v] → ∃ u, vs = [u] ∧ conc g' u = v := fun e => by
    rw [e] at a3
    cases vs with
    | nil => simp [concs] at a3
    | cons u us =>
      cases us with
      | nil => simp [concs] at a3; exact ⟨u, rfl, a3⟩
      | cons u' us => simp [concs] at a3
  unfold Value.okWide at hv
  unfold ArgAt
  split at hv
  · rename_i fs hu
    obtain ⟨cs, rfl, _⟩ := hv
    rw [hu]
    exact ⟨g', h', .agg vs, a1, a2, agg cs rfl, a4, vs, rfl, a5⟩
  · rename_i n e hu
    obtain ⟨cs, rfl, _⟩ := hv
    rw [hu]
    exact ⟨g', h', .agg vs, a1, a2, agg cs rfl, a4, vs, rfl, a5⟩
  · rename_i hn1 hn2
    have hcell : v.cells = #[v] := by
      cases v with
      | agg cs =>
        exfalso
        cases k with
        | zero => simp [flat] at hf
        | succ k =>
          unfold flat at hf
          unfold Cell.okWide Cell.ok at hv
          cases hu : P.underlying t with
          | none => simp [hu] at hf
          | some u => cases u <;> simp_all
      | _ => rfl
    obtain ⟨u, rfl, hc⟩ := sing hcell
    refine ⟨g', h', u, a1, a2, hc, by simpa [ons] using a4, ?_⟩
    split
    · rename_i hu; exact absurd hu (hn1 _)
    · rename_i hu; exact absurd hu (hn2 _ _)
    · exact a5

theorem absorb_args {α : Type} {enc : TypeId × Value → α} {held : Bool} {k : Nat} {base : Nat} : ∀ {ts : List TypeId} {vs : List Value} {ds : List (DataW α)} {ps : List MemPlace} {g : G} {h : H}, (∀ t ∈ ts, flat P k t = true) →
    DataW.TrodAll enc P W 0 (fun _ => true) held ts vs ds ps → (∀ (j : Nat) t v, ts[j]? = some t → vs[j]? = some v → Value.okWide P W .any base t v) → St P rs ng W g h →
    ∃ g' h' us, St P rs ng W g' h' ∧ Grow g h g' h' ∧ concs g' us = vs ∧ bds h'.next.toNat us ∧ ArgsAt P h' k ts us
  | [], [], [], _, g, h, _, _, _, hs => ⟨g, h, [], hs, Grow.refl g h, rfl, by simp [ons], trivial⟩
  | [], [], _ :: _, _, _, _, _, hd, _, _ => hd.elim
  | [], _ :: _, _, _, _, _, _, hd, _, _ => hd.elim
  | _ :: _, [], _, _, _, _, _, hd, _, _ => hd.elim
  | _ :: _, _ :: _, [], _, _, _, _, hd, _, _ => hd.elim
  | t :: ts, v :: vs, d :: ds, ps, g, h, hf, hd, hv, hs => by
    obtain ⟨p, q, h1, h2, _⟩ := hd
    obtain ⟨g1, e1, u, a1, a2, a3, a4, a5⟩ := absorb_arg (hf t (by simp)) h1 (hv 0 t v rfl rfl) hs
    obtain ⟨g2, e2, us, b1, b2, b3, b4, b5⟩ := absorb_args (fun t ht => hf t (List.mem_cons_of_mem _ ht)) h2 (fun j t v ht hvv => hv (j + 1) t v ht hvv) a1
    refine ⟨g2, e2, u :: us, b1, a2.trans b2, ?_, ⟨V.on_mono (fun b hb => Nat.lt_of_lt_of_le hb b2.ext.next) u a4, b4⟩, a5.ext b2.ext, b5⟩
    simp only [concs, b3, conc_ext b2.agree u a4, a3]

/-- what a call of the abstract interpreter says of the model's, where nothing of the heap may be written -/
theorem law_calls {p : Prg} (hp : PrgOk P rs p) {f m n : Nat} {fk : FK} {args : List V} {g : G} {h h' : H} (hs : St P rs P.globals.size W g h) (ha : bds h.next.toNat args) (hfs : p.fs f = some fk)
    (hr : bodyK (callK p m) n fk args h = some (.bool true, h')) : Calls P f (concs g args).toArray W fun e w2 => e = .returned (.bool true) ∧ Below W.heap.size W w2 := by
  obtain ⟨g', w', a1, a2, a3, a4, a5⟩ := body_ok (call_ok hp m) (hp.fs f fk hfs) hr hs.1 ha
  refine a5.mono fun e w2 ⟨h1, h2⟩ => ?_
  subst h1; subst h2
  refine ⟨by simp [conc], a2.os, a2.tape, a2.output, a2.size, fun k hk => a2.keep k hk fun b x hb hx => ?_⟩
  have := hs.2 b x hb
  rw [this] at hx; cases hx

/-- a law that answers true and writes nothing that was there -/
theorem law_post {α : Type} {enc : TypeId × Value → α} {f : Func} {s : ChangeSpec} {apart fresh handsOn again : Bool} {args : Array Value} {W' : World} {ds gs : List (DataW α)} {before : List MemPlace} {b : TypeId}
    (hl : laidOutB P = true) (hread : (f.params.toList.all fun t => P.readableRec t && decide (t < P.types.size)) = true) (hres : f.resultTypes = #[b]) (hb : P.underlying b = some .bool) (hvars : s.vars = [])
    (hfn : s.fn α (ds ++ gs) = { results := [.lit (.bool true)], args := ds })
    (hW : DataW.Whole enc P f.params.toList s.vars apart W args.toList ds gs before) (hbl : Below W.heap.size W W') : s.post enc P f apart fresh handsOn again W args (.bool true) W' := by
  have hW0 := hW
  obtain ⟨p, q, hA, hV, rfl, hz, hn⟩ := hW
  have hV' : DataW.TrodVars enc P W (fun _ => true) [] gs q := by rw [← hvars]; exact hV
  obtain ⟨rfl, rfl⟩ := trodVars_none hV'
  simp only [List.append_nil] at hz hn hW0 ⊢
  have hlt := hA.lt
  have key : ∀ (ts : List TypeId) (vs : List Value) (ds : List (DataW α)) (p : List MemPlace), (ts.all fun t => P.readableRec t && decide (t < P.types.size)) = true → DataW.TrodAll enc P W 0 (fun _ => true) true ts vs ds p → (∀ x ∈ p, x.block < W.heap.size) →
      DataW.TrodAll enc P W' 0 (fun b => decide (b < W.heap.size)) true ts vs ds p ∧ DataW.TrodAll enc P W' 0 (fun _ => true) true ts vs ds p := by
    intro ts
    induction ts with
    | nil => intro vs ds p _ h _; cases vs <;> cases ds <;> first | exact ⟨h, h⟩ | exact h.elim
    | cons t ts ih =>
      intro vs ds p ht h hlt
      cases vs with
      | nil => exact h.elim
      | cons v vs =>
        cases ds with
        | nil => exact h.elim
        | cons d ds =>
          obtain ⟨p1, q1, k1, k2, rfl⟩ := h
          simp only [List.all_cons, Bool.and_eq_true, decide_eq_true_eq] at ht
          obtain ⟨j1, j2⟩ := ih vs ds q1 ht.2 k2 fun x hx => hlt x (List.mem_append_right _ hx)
          exact ⟨⟨p1, q1, Below.trod hl ht.1.1 ht.1.2 k1 hbl fun x hx => hlt x (List.mem_append_left _ hx), j1, rfl⟩,
            ⟨p1, q1, WideElems.Trod_stays hl ht.1.1 ht.1.2 k1 (fun x hx => hbl.same (hlt x (List.mem_append_left _ hx))) (fun x hx => rfl), j2, rfl⟩⟩
  obtain ⟨k1, k2⟩ := key _ _ _ _ hread hA hlt
  have hr : ∀ (n : Nat) (sp : Nat → Bool) (hd : Bool), DataW.TrodAll enc P W' n sp hd f.resultTypes.toList ((Value.bool true).resultList f.resultTypes.size) [.lit (.bool true)] [] := fun n sp hd => by
    rw [hres]; exact trodAll_mk1 (shut_bool hb _)
  refine ⟨ds, [], p, [], p, [], hW0, by rw [hfn]; exact hr _ _ _, by rw [hfn]; exact k1, by rw [hfn, hvars]; rfl, hbl.frame _, fun _ => ⟨ok_one hres rfl (okWide_bool_mk hb _), [.lit (.bool true)] ++ ds, [], [] ++ p, ⟨[] ++ p, [], trodAll_append k2 (hr _ _ _), by rw [hvars]; rfl, by simp, ?_, fun ha => hn ha⟩, fun x hx _ => hx⟩⟩
  intro b off hp
  have hp' : MemPlace.cell b off ∈ p := hp
  rw [hbl.frozen (show (⟨b, off, none⟩ : Addr).block < W.heap.size from hlt _ hp')]
  exact hz b off hp'
end
end Go.Proofs.YtdojpbbdcgfcnaaGreatDoor.AI
/- THE HEAP A LAW STARTS WITH: the table of powers of ten, as the row lays it. -/
set_option maxRecDepth 100000
namespace Go.Proofs.YtdojpbbdcgfcnaaGreatDoor.AI.T
open Go Go.Proofs.YtdojpbbdcgfcnaaGreatDoor.AI Go.Proofs Go.Proofs.YtdojpbbdcgfcnaaGreatDoor

/-- rows of integers, read off the datum -/
theorem lits_row {α : Type} {enc : TypeId × Value → α} {P : Program} {w : World} {base : Nat} {sp : Nat → Bool} {held : Bool} {fuel : Nat} {t e : TypeId} {n : Nat} {kd : IntKind} {cs : List Value} {ns : List Int} {q : List MemPlace}
    (ht : P.underlying t = some (.array n e)) (he : P.underlying e = some (.int kd)) (hc : P.cellsOf e = 1) (hn : P.cellsOf t = n) (h : DataW.trod enc P w base sp held fuel t cs = some (.agg (ns.map fun i => .lit (.int kd i)), q)) :
    cs = ns.map fun i => Value.int kd i := by
  obtain ⟨xs, m, rfl, hx, hlen, hxl, hel⟩ := DataW.trod_array ht h
  simp only [Prod.mk.injEq, DataW.agg.injEq] at hx
  obtain ⟨hx, _⟩ := hx
  have hnl : ns.length = n := by have := congrArg List.length hx; simp at this; omega
  refine List.ext_getElem? fun i => ?_
  by_cases hi : i < n
  · have h1 := hel i hi
    rw [hc, Nat.mul_one] at h1
    have hxi : xs[i]? = some xs[i] := List.getElem?_eq_getElem (by omega)
    rw [hxi] at h1
    obtain ⟨k, e1, e2, _⟩ := DataW.trod_int he h1
    have e3 : (xs.map (·.1))[i]? = some (DataW.lit (.int kd k)) := by rw [List.getElem?_map, hxi, e2]; rfl
    rw [← hx, List.getElem?_map] at e3
    have hni : ns[i]? = some (ns[i]'(by omega)) := List.getElem?_eq_getElem (by omega)
    rw [hni] at e3
    simp at e3
    have e4 : cs[i]? = ((cs.drop i).take 1)[0]? := by rw [List.getElem?_take, if_pos (by omega), List.getElem?_drop]; simp
    rw [e4, e1, List.getElem?_map, hni]
    simp [e3]
  · rw [List.getElem?_eq_none (by omega), List.getElem?_eq_none (by simp; omega)]

noncomputable abbrev laid3 : List (String × DataW Unit) := [("math/bits.deBruijn32tab", Rows.laid_math_bits_deBruijn32tab), ("math/bits.deBruijn64tab", Rows.laid_math_bits_deBruijn64tab), ("internal/strconv.uint64pow10", Rows.laid_internal_strconv_uint64pow10)]

def powNs : List Int := [1, 10, 100, 1000, 10000, 100000, 1000000, 10000000, 100000000, 1000000000, 10000000000, 100000000000, 1000000000000, 10000000000000, 100000000000000, 1000000000000000, 10000000000000000, 100000000000000000, 1000000000000000000, 10000000000000000000]
theorem gPow : PP.globalNamed "internal/strconv.uint64pow10" = some 2 := by kernel_rfl
theorem tPow : (PP.globals[2]?).map (·.type) = some 387 := by kernel_rfl
theorem cPow : PP.cellsOf 387 = 20 := by kernel_rfl
theorem cU64 : PP.cellsOf 291 = 1 := by kernel_rfl
theorem pow10_eq : pow10 = powNs.map fun i => V.int .u64 i := by kernel_rfl
theorem laidPow {α : Type} : (Rows.laid_internal_strconv_uint64pow10 : DataW α) = .agg (powNs.map fun i => .lit (.int .u64 i)) := by kernel_rfl

/-- the reading of the world in which each block stands for itself -/
def gId : G := ⟨fun b => b.toNat, fun _ => 0, fun _ => 0⟩

/-- THE HEAP A LAW STARTS WITH -/
theorem start {W : World} (h : laidMetH PP laid3 W) : St PP RS PP.globals.size W gId (H.bare ng nd2) := by
  rw [MakeChecks.laidMetH_plain _ _ _ (by kernel_rfl)] at h
  obtain ⟨ps, ⟨g0, t0, cs0, f0, p0, q0, hg0, ht0, hv0, hd0, ⟨g1, t1, cs1, f1, p1, q1, hg1, ht1, hv1, hd1, ⟨g2, t2, cs2, f2, p2, q2, hg2, ht2, hv2, hd2, _, _⟩, _⟩, _⟩, _, _⟩ := h
  obtain rfl := Option.some.inj (gPow.symm.trans hg2)
  obtain rfl := Option.some.inj (tPow.symm.trans ht2)
  rw [laidPow] at hd2
  have hcs := lits_row Tryz.underlying387 Tryz.underlying291 cU64 cPow hd2
  have hheap : ∃ el fz, W.heap[2]? = some (.cells cs2 el fz) := by
    unfold World.var? at hv2
    rw [gPow] at hv2
    simp only [Option.bind_some] at hv2
    split at hv2
    · rename_i cs el fz hh; cases hv2; exact ⟨el, fz, hh⟩
    · cases hv2
  obtain ⟨el, fz, hh⟩ := hheap
  refine ⟨⟨fun b x hb => ?_, fun b b' x x' hb _ hx => ?_, ⟨by show _ ≤ ng.toNat; rw [ng_ok]; exact Nat.le_refl _, fun i _ => ⟨Pos.toNat_ofNat i, rfl⟩⟩, fun m hm => by cases hm⟩, fun b y hb => ?_⟩
  · obtain ⟨l, hm, rfl⟩ := baseT_get hb
    simp only [nd2, List.mem_singleton, Prod.mk.injEq] at hm
    obtain ⟨rfl, rfl⟩ := hm
    have h2 : (Pos.i Pos.h).toNat = 2 := rfl
    refine ⟨by show (Pos.i Pos.h).toNat < ng.toNat; decide, (Array.getElem?_eq_some_iff.1 hh).1, cs2, el, fz, hh, fun j v hv => ?_, (closed_ok _ 1000).2 _ (by kernel_rfl), fun hq => absurd rfl hq, trivial⟩
    rw [pow10_eq, List.getElem?_map] at hv
    cases hn : powNs[j]? with
    | none => rw [hn] at hv; cases hv
    | some n =>
      rw [hn] at hv; cases hv
      show CellRel gId (.int .u64 n) cs2[0 + j]?
      unfold CellRel
      have : cs2[j]? = some (Value.int .u64 n) := by
        rw [← Array.getElem?_toList, hcs, List.getElem?_map, hn]; rfl
      rw [Nat.zero_add, this]
      rfl
  · obtain ⟨l, _, rfl⟩ := baseT_get hb; cases hx
  · obtain ⟨l, _, rfl⟩ := baseT_get hb; rfl

theorem bare_has : hasK (H.bare ng nd2) nd2 = true := by kernel_rfl
theorem bare_old (p : Pos) (l : List V) (h : (p, l) ∈ nd2) : Old (H.bare ng nd2) p := by
  simp only [nd2, List.mem_singleton, Prod.mk.injEq] at h
  obtain ⟨rfl, rfl⟩ := h
  show (Pos.i Pos.h).toNat < ng.toNat
  decide
end Go.Proofs.YtdojpbbdcgfcnaaGreatDoor.AI.T
/- LinesChecks: the row. -/
set_option maxRecDepth 100000
namespace Go.Proofs.YtdojpbbdcgfcnaaGreatDoor.AI.T
open Go Go.Proofs.YtdojpbbdcgfcnaaGreatDoor.AI Go.Proofs Go.Proofs.YtdojpbbdcgfcnaaGreatDoor

section
variable {P : Program} {h : H}
theorem reads_int {k : Nat} {t : TypeId} {kd : IntKind} {vs : List V} (ht : P.underlying t = some (.int kd)) (hr : Reads P h (k + 1) t vs) : ∃ n, vs = [.int kd n] := by
  unfold Reads at hr; rw [ht] at hr; exact hr
theorem reads_slice {k : Nat} {t e : TypeId} {vs : List V} (ht : P.underlying t = some (.slice e)) (hr : Reads P h (k + 1) t vs) : vs = [.nils] ∨ (∃ b, vs = [.odd b]) ∨ ∃ b n c l, vs = [.slc b 0 n (.known c)] ∧ n ≤ c ∧ c ≤ maxLen ∧ h.get b = some (.cells l .ro 0) ∧ Old h b ∧ l.length = n * P.cellsOf e ∧ ∀ i, i < n → Reads P h k e ((l.drop (i * P.cellsOf e)).take (P.cellsOf e)) := by
  unfold Reads at hr; rw [ht] at hr; exact hr
theorem reads_struct {k : Nat} {t : TypeId} {fs : Array Go.Field} {vs : List V} (ht : P.underlying t = some (.struct fs)) (hr : Reads P h (k + 1) t vs) : vs.length = P.cellsOf t ∧ ∀ f ∈ fs.toList, Reads P h k f.type ((vs.drop f.offset).take (P.cellsOf f.type)) := by
  unfold Reads at hr; rw [ht] at hr; exact hr

/-- one cell of a row -/
theorem cell1 {α : Type} {l : List α} {i : Nat} {u : α} : (l.drop i).take 1 = [u] ↔ l[i]? = some u := by
  constructor
  · intro hh
    have : ((l.drop i).take 1)[0]? = some u := by rw [hh]; rfl
    rw [List.getElem?_take, if_pos (by omega), List.getElem?_drop] at this
    simpa using this
  · intro hh
    obtain ⟨hl, rfl⟩ := List.getElem?_eq_some_iff.1 hh
    rw [List.drop_eq_getElem_cons hl]; rfl

/-- choice along a row -/
theorem choose_row {α β : Type} {R : Nat → α → β → Prop} (l : List α) (hl : ∀ i a, l[i]? = some a → ∃ b, R i a b) : ∃ m : List β, m.length = l.length ∧ ∀ i a b, l[i]? = some a → m[i]? = some b → R i a b := by
  induction l generalizing R with
  | nil => exact ⟨[], rfl, fun i a b ha => by simp at ha⟩
  | cons x l ih =>
    obtain ⟨b, hb⟩ := hl 0 x rfl
    obtain ⟨m, h1, h2⟩ := ih (R := fun i => R (i + 1)) fun i a ha => hl (i + 1) a (by simpa using ha)
    refine ⟨b :: m, by simp [h1], fun i a c ha hc => ?_⟩
    cases i with
    | zero => simp at ha hc; subst ha; subst hc; exact hb
    | succ i => exact h2 i a c (by simpa using ha) (by simpa using hc)

theorem ints_at {k : Nat} {t e : TypeId} {vs : List V} (ht : P.underlying t = some (.slice e)) (he : P.underlying e = some (.int .i64)) (hc : P.cellsOf e = 1) (hr : Reads P h (k + 2) t vs) :
    ∃ (v : V) (xs : List Int), vs = [v] ∧ SlcAt h v (xs.map vi) ∧ xs.length ≤ maxLen := by
  rcases reads_slice ht hr with rfl | ⟨b, rfl⟩ | ⟨b, n, c, l, rfl, h1, h2, h3, h4, h5, h6⟩
  · exact ⟨_, [], rfl, .inl ⟨.inl rfl, rfl⟩, by simp⟩
  · exact ⟨_, [], rfl, .inl ⟨.inr ⟨b, rfl⟩, rfl⟩, by simp⟩
  · rw [hc, Nat.mul_one] at h5
    obtain ⟨xs, hx, hxs⟩ := choose_row (R := fun i (a : V) (x : Int) => a = vi x) l fun i a ha => by
      have hi : i < n := by have := (List.getElem?_eq_some_iff.1 ha).1; omega
      obtain ⟨x, hx⟩ := reads_int he (h6 i hi)
      rw [hc, Nat.mul_one, cell1.2 ha] at hx
      exact ⟨x, by simpa using hx⟩
    refine ⟨_, xs, rfl, .inr ⟨b, 0, c, l, .ro, 0, by rw [List.length_map, hx, h5], by simp; omega, h3, h4, fun i u hu => ?_⟩, by omega⟩
    rw [List.getElem?_map] at hu
    cases hxi : xs[i]? with
    | none => rw [hxi] at hu; cases hu
    | some x =>
      rw [hxi] at hu; cases hu
      have hil : i < l.length := by rw [← hx]; exact (List.getElem?_eq_some_iff.1 hxi).1
      have := hxs i _ x (List.getElem?_eq_getElem hil) hxi
      rw [Nat.zero_add, List.getElem?_eq_getElem hil, this]
      exact ⟨rfl, rfl⟩

theorem lines_at {k : Nat} {t e i : TypeId} {vs : List V} (ht : P.underlying t = some (.slice e)) (he : P.underlying e = some (.slice i)) (hi : P.underlying i = some (.int .i64)) (ce : P.cellsOf e = 1) (ci : P.cellsOf i = 1) (hr : Reads P h (k + 3) t vs) :
    ∃ (v : V) (ls : List (List Int)), vs = [v] ∧ LinesAt h v ls ∧ ls.length ≤ maxLen ∧ ∀ l ∈ ls, l.length ≤ maxLen := by
  rcases reads_slice ht hr with rfl | ⟨b, rfl⟩ | ⟨b, n, c, l, rfl, h1, h2, h3, h4, h5, h6⟩
  · exact ⟨_, [], rfl, ⟨[], .inl ⟨.inl rfl, rfl⟩, rfl, fun i u xs a => by simp at a⟩, by simp, by simp⟩
  · exact ⟨_, [], rfl, ⟨[], .inl ⟨.inr ⟨b, rfl⟩, rfl⟩, rfl, fun i u xs a => by simp at a⟩, by simp, by simp⟩
  · rw [ce, Nat.mul_one] at h5
    obtain ⟨ls, hx, hls⟩ := choose_row (R := fun i (a : V) (xs : List Int) => SlcAt h a (xs.map vi) ∧ xs.length ≤ maxLen ∧ a.isJunk = false) l fun j a ha => by
      have hj : j < n := by have := (List.getElem?_eq_some_iff.1 ha).1; omega
      have hr' := h6 j hj
      rw [ce, Nat.mul_one, cell1.2 ha] at hr'
      obtain ⟨v, xs, k1, k2, k3⟩ := ints_at he hi ci hr'
      cases k1
      exact ⟨xs, k2, k3, k2.junk⟩
    refine ⟨_, ls, rfl, ⟨l, .inr ⟨b, 0, c, l, .ro, 0, by rw [h5], by omega, h3, h4, fun j u hu => ⟨by rw [Nat.zero_add]; exact hu, ?_⟩⟩, hx.symm, fun j u xs a c => (hls j u xs a c).1⟩, by omega, fun xs hxs => ?_⟩
    · have hjl : j < ls.length := by rw [hx]; exact (List.getElem?_eq_some_iff.1 hu).1
      exact (hls j u _ hu (List.getElem?_eq_getElem hjl)).2.2
    · obtain ⟨j, hj, rfl⟩ := List.getElem_of_mem hxs
      exact (hls j _ _ (List.getElem?_eq_getElem (by omega)) (List.getElem?_eq_getElem hj)).2.1

theorem edges_at {k : Nat} {t e i : TypeId} {vs : List V} (ht : P.underlying t = some (.slice e)) (he : P.underlying e = some (.array 2 i)) (hi : P.underlying i = some (.int .i64)) (ce : P.cellsOf e = 2) (ci : P.cellsOf i = 1) (hr : Reads P h (k + 3) t vs) :
    ∃ (v : V) (es : List (Int × Int)), vs = [v] ∧ EdgesAt h v es ∧ es.length ≤ maxLen := by
  rcases reads_slice ht hr with rfl | ⟨b, rfl⟩ | ⟨b, n, c, l, rfl, h1, h2, h3, h4, h5, h6⟩
  · exact ⟨_, [], rfl, .inl ⟨.inl rfl, rfl⟩, by simp⟩
  · exact ⟨_, [], rfl, .inl ⟨.inr ⟨b, rfl⟩, rfl⟩, by simp⟩
  · rw [ce] at h5
    obtain ⟨es, hx, hes⟩ := choose_row (R := fun (_ : Nat) (j : Nat) (x : Int × Int) => (l.drop (j * 2)).take 2 = [vi x.1, vi x.2]) (List.range n) fun j a ha => by
      have ha' : a < n := by have := List.mem_of_getElem? ha; simpa using this
      have hr' := h6 a ha'
      rw [ce] at hr'
      unfold Reads at hr'
      rw [he] at hr'
      obtain ⟨_, h7⟩ := hr'
      obtain ⟨x, hx⟩ := reads_int hi (h7 0 (by omega))
      obtain ⟨y, hy⟩ := reads_int hi (h7 1 (by omega))
      rw [ci] at hx hy
      rw [cell1] at hx hy
      rw [List.getElem?_take, if_pos (by omega), List.getElem?_drop] at hx hy
      refine ⟨(x, y), ?_⟩
      have h8 : a * 2 + 1 < l.length := by omega
      have e1 : l[a * 2]'(by omega) = vi x := by have := List.getElem?_eq_getElem (l := l) (i := a * 2) (by omega); rw [show a * 2 + 0 * 1 = a * 2 by omega, this] at hx; simpa using hx
      have e2 : l[a * 2 + 1]'h8 = vi y := by have := List.getElem?_eq_getElem h8; rw [show a * 2 + 1 * 1 = a * 2 + 1 by omega, this] at hy; simpa using hy
      rw [List.drop_eq_getElem_cons (by omega), List.drop_eq_getElem_cons h8, e1, e2]; rfl
    simp at hx
    refine ⟨_, es, rfl, .inr ⟨b, 0, c, l, .ro, 0, by rw [hx], by omega, h3, h4, fun j x hxj => ?_⟩, by omega⟩
    have hj : j < n := by rw [← hx]; exact (List.getElem?_eq_some_iff.1 hxj).1
    rw [Nat.zero_add]
    exact hes j j x (by simp [hj]) hxj
end
end Go.Proofs.YtdojpbbdcgfcnaaGreatDoor.AI.T
