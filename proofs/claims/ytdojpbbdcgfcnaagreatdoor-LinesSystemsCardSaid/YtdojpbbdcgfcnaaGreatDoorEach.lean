import Derived.Test.YtdojpbbdcgfcnaaGreatDoorWordsThree
set_option linter.all false
/- What the functions do, whatever their inputs. -/
set_option maxRecDepth 100000
namespace Go.Proofs.YtdojpbbdcgfcnaaGreatDoor.AI.T
open Go Go.Proofs.YtdojpbbdcgfcnaaGreatDoor.AI

abbrev vi (i : Int) : V := .int .i64 i
def firstOf : List Int → Int
  | [] => 0
  | a :: l => if a = 0 then firstOf l else a

theorem fn90 (call : Call) (n : Nat) (b : Bool) (e : Int) (h : H) : bodyK call n f90 [.bool b, vi e] h = some (vi (if b = true then e else 0), h) := by
  refine body_tmp rfl ?_
  cases b <;> simp [k90]

theorem firstOf_drop {xs : List Int} {i : Nat} {a : Int} (h : xs[i]? = some a) : firstOf (xs.drop i) = if a = 0 then firstOf (xs.drop (i + 1)) else a := by
  obtain ⟨hl, rfl⟩ := List.getElem?_eq_some_iff.1 h
  rw [List.drop_eq_getElem_cons hl]; rfl

theorem wrap_succ {i n : Nat} (h : i < n) (hn : n < 9223372036854775807) : IntKind.wrap .i64 ((i : Int) + 1) = ((i + 1 : Nat) : Int) := by rw [wrap_i64_in] <;> omega


theorem fn193 (call : Call) (n : Nat) (x lo hi : Int) (b1 b2 : Pos) (h : H) (h1 : ∀ f, h.loadK none b1 0 f = f (vi lo)) (h2 : ∀ f, h.loadK none b2 0 f = f (vi hi)) :
    bodyK call n f193 [vi x, .ptr b1 0, .ptr b2 0] h = some (.bool (decide (x < lo) || decide (hi < x)), h) := by
  refine body_tmp rfl ?_
  have h1' : ∀ f, H.loadK ⟨h.next, h.t, []⟩ none b1 0 f = f (vi lo) := h1
  have h2' : ∀ f, H.loadK ⟨h.next, h.t, []⟩ none b2 0 f = f (vi hi) := h2
  rcases Int.lt_or_le x lo with hc | hc
  · simp [k193, h1', h2', hc, Int.not_le.2 hc]
  · simp [k193, h1', h2', hc, Int.not_lt.2 hc]

/-- the place of the first that is so, -1 for none -/
def idxOf {α : Type} (P : α → Bool) : List α → Nat → Int
  | [], _ => -1
  | a :: l, i => if P a = true then i else idxOf P l (i + 1)
theorem idxOf_drop {α : Type} {P : α → Bool} {xs : List α} {i : Nat} {a : α} (h : xs[i]? = some a) : idxOf P (xs.drop i) i = if P a = true then (i : Int) else idxOf P (xs.drop (i + 1)) (i + 1) := by
  obtain ⟨hl, rfl⟩ := List.getElem?_eq_some_iff.1 h
  rw [List.drop_eq_getElem_cons hl]; rfl
theorem idxOf_nonneg {α : Type} {P : α → Bool} : ∀ (xs : List α) (i : Nat), (!decide (idxOf P xs i < 0)) = xs.any P
  | [], i => by simp [idxOf]
  | a :: l, i => by
    simp only [idxOf, List.any_cons]
    split
    · rename_i h; simp [h]
    · rename_i h; rw [idxOf_nonneg l (i + 1)]; simp [h]

theorem fn160 (call : Call) (n : Nat) (v f : V) (xs : List Int) (P : Int → Bool) (h : H)
    (hc : call (.fn (.func 203) [] []) [v, f] ⟨h.next, h.t, []⟩ = some (vi (idxOf P xs 0), ⟨h.next, h.t, []⟩)) : bodyK call n f160 [v, f] h = some (.bool (xs.any P), h) := by
  refine body_tmp rfl ?_
  simp [k160, hc]
  have := idxOf_nonneg (P := P) xs 0
  simpa using this

/-- equal lists, one after the other from i on -/
theorem eqFrom {xs ys : List Int} (hl : xs.length = ys.length) {i : Nat} (hi : i < xs.length) : (xs.drop i = ys.drop i) ↔ xs[i] = ys[i] ∧ xs.drop (i + 1) = ys.drop (i + 1) := by
  rw [List.drop_eq_getElem_cons hi, List.drop_eq_getElem_cons (by omega : i < ys.length)]; exact List.cons_eq_cons


end Go.Proofs.YtdojpbbdcgfcnaaGreatDoor.AI.T
/- What the functions do, whatever their inputs, 2: lists of lines. -/
set_option maxRecDepth 100000
namespace Go.Proofs.YtdojpbbdcgfcnaaGreatDoor.AI.T
open Go Go.Proofs.YtdojpbbdcgfcnaaGreatDoor.AI

/-- a list of lists of integers -/
def LinesAt (h : H) (v : V) (ls : List (List Int)) : Prop := ∃ vs, SlcAt h v vs ∧ vs.length = ls.length ∧ ∀ (i : Nat) (u : V) (xs : List Int), vs[i]? = some u → ls[i]? = some xs → SlcAt h u (xs.map vi)
theorem LinesAt.len {h : H} {v : V} {ls : List (List Int)} (hs : LinesAt h v ls) (f : V → Res) : lenS v f = f (vi ls.length) := by
  obtain ⟨vs, h1, h2, _⟩ := hs
  rw [h1.len, h2]
theorem LinesAt.junk {h : H} {v : V} {ls : List (List Int)} (hs : LinesAt h v ls) : v.isJunk = false := let ⟨_, h1, _⟩ := hs; h1.junk
theorem LinesAt.cells {h : H} {v : V} {ls : List (List Int)} (hs : LinesAt h v ls) : v.cells = [v] := let ⟨_, h1, _⟩ := hs; h1.cells
theorem LinesAt.ext {h h' : H} {v : V} {ls : List (List Int)} (hs : LinesAt h v ls) (hh : Ext h h') : LinesAt h' v ls := by
  obtain ⟨vs, h1, h2, h3⟩ := hs
  exact ⟨vs, h1.ext hh, h2, fun i u xs a b => (h3 i u xs a b).ext hh⟩
theorem LinesAt.at {h : H} {v : V} {ls : List (List Int)} (hs : LinesAt h v ls) {i : Nat} (hi : i < ls.length) : ∃ b o u, Old h b ∧ (∀ kd f, idxS 1 v (.int kd i) f = f b o) ∧ (∀ f, h.loadK none b o f = f u) ∧ SlcAt h u (ls[i].map vi) := by
  obtain ⟨vs, h1, h2, h3⟩ := hs
  have hv : vs[i]? = some (vs[i]'(by omega)) := List.getElem?_eq_getElem (by omega)
  obtain ⟨b, o, a1, a2, a3⟩ := h1.at hv
  exact ⟨b, o, _, a1, a2, a3, h3 i _ _ hv (List.getElem?_eq_getElem hi)⟩
theorem LinesAt.ro {h : H} {v : V} {ls : List (List Int)} (hs : LinesAt h v ls) : LinesAt h.ro v ls := by
  obtain ⟨vs, h1, h2, h3⟩ := hs
  exact ⟨vs, h1.ro, h2, fun i u xs a b => (h3 i u xs a b).ro⟩
theorem vi_inj {xs ys : List Int} (h : xs.map vi = ys.map vi) : xs = ys := by
  induction xs generalizing ys with
  | nil => cases ys with
    | nil => rfl
    | cons => simp at h
  | cons a l ih => cases ys with
    | nil => simp at h
    | cons b m => simp at h; rw [h.1, ih (by simpa using h.2)]
theorem LinesAt.uniq {h : H} {v : V} {ls ms : List (List Int)} (hs : LinesAt h v ls) (ht : LinesAt h v ms) : ls = ms := by
  obtain ⟨vs, h1, h2, h3⟩ := hs
  obtain ⟨us, k1, k2, k3⟩ := ht
  have := h1.uniq k1
  subst this
  refine List.ext_getElem (by omega) fun i hi hj => ?_
  have hv : vs[i]? = some (vs[i]'(by omega)) := List.getElem?_eq_getElem (by omega)
  exact vi_inj ((h3 i _ _ hv (List.getElem?_eq_getElem hi)).uniq (k3 i _ _ hv (List.getElem?_eq_getElem hj)))
/-- the first n lines -/
theorem LinesAt.take {h : H} {v : V} {ls : List (List Int)} (hs : LinesAt h v ls) {n : Nat} (hn : n ≤ ls.length) : ∃ v', LinesAt h v' (ls.take n) ∧ ∀ (cx : Cx) (e : List V) (fr : Fr) (x i : O) (k : V → H → Res), ev e fr x = some v → ev e fr i = some (.int .i64 n) → sSlice 1 x none (some i) none cx e fr h k = k v' h := by
  obtain ⟨vs, h1, h2, h3⟩ := hs
  obtain ⟨v', k1, k2⟩ := h1.take (n := n) (by omega)
  refine ⟨v', ⟨vs.take n, k1, by simp [h2], fun i u xs a b => ?_⟩, k2⟩
  rw [List.getElem?_take] at a b
  split at a
  · rename_i hlt
    rw [if_pos hlt] at b
    exact h3 i u xs a b
  · cases a

def allLe (cells : Int) (ls : List (List Int)) : Bool := ls.all fun l => !decide (cells < l.length)
def Short (cells lines : Int) (ls : List (List Int)) : Bool := !decide (lines < ls.length) && allLe cells ls

end Go.Proofs.YtdojpbbdcgfcnaaGreatDoor.AI.T
/- What the functions do, whatever their inputs, 3: systems. -/
set_option maxRecDepth 100000
namespace Go.Proofs.YtdojpbbdcgfcnaaGreatDoor.AI.T
open Go Go.Proofs.YtdojpbbdcgfcnaaGreatDoor.AI


/-- a list has a line -/
def hasLine (ls : List (List Int)) (xs : List Int) : Bool := ls.any fun l => decide (l = xs)
/-- the first error of the numbers of a line -/
def scan (c : Int) : Option Int → List Int → Int
  | _, [] => 0
  | pr, x :: l => if x < 0 ∨ c ≤ x then 10 else if (match pr with | some y => decide (x ≤ y) | none => false) = true then 11 else scan c (some x) l
def scanAt (c : Int) (xs : List Int) (i : Nat) : Int := scan c (if i = 0 then none else xs[i - 1]?) (xs.drop i)
def lineErr (c : Int) (ls : List (List Int)) (i : Nat) : Int := match ls[i]? with
  | none => 0
  | some [] => 12
  | some (x :: l) => if scanAt c (x :: l) 0 = 0 then (if hasLine (ls.take i) (x :: l) = true then 9 else 0) else scanAt c (x :: l) 0
def linesErr (c : Int) (ls : List (List Int)) (i : Nat) : Int := firstOf (((List.range ls.length).map (lineErr c ls)).drop i)
/-- the error of a system, 0 for none -/
def sysErr (c : Int) (ls : List (List Int)) : Int := if c < 1 ∨ 256 < c then 3 else if 128 < (ls.length : Int) then 5 else linesErr c ls 0


end Go.Proofs.YtdojpbbdcgfcnaaGreatDoor.AI.T
/- What the functions do, whatever their inputs, 4: the checks of systems. -/
set_option maxRecDepth 100000
namespace Go.Proofs.YtdojpbbdcgfcnaaGreatDoor.AI.T
open Go Go.Proofs.YtdojpbbdcgfcnaaGreatDoor.AI

def outside (lo hi : Int) (xs : List Int) : Bool := xs.any fun x => decide (x < lo) || decide (hi < x)



end Go.Proofs.YtdojpbbdcgfcnaaGreatDoor.AI.T
/- What the functions do, whatever their inputs, 5: a line of a system, a system. -/
set_option maxRecDepth 100000
namespace Go.Proofs.YtdojpbbdcgfcnaaGreatDoor.AI.T
open Go Go.Proofs.YtdojpbbdcgfcnaaGreatDoor.AI

theorem built {h : H} {ty : TypeId} (es : List Int) {n : Nat} (hn : es.length = n) : SlcAt (h.new (.cells (es.map vi) .own ty)) (.slc h.next 0 n (.known n)) (es.map vi) := by
  subst hn
  refine .inr ⟨h.next, 0, es.length, es.map vi, .own, ty, by simp, by simp, get_new_next, old_next, fun i u hi => ?_⟩
  rw [Nat.zero_add]
  refine ⟨hi, ?_⟩
  rw [List.getElem?_map] at hi
  cases he : es[i]? with
  | none => rw [he] at hi; cases hi
  | some e => rw [he] at hi; cases hi; rfl

end Go.Proofs.YtdojpbbdcgfcnaaGreatDoor.AI.T
/- What the functions do, whatever their inputs, 6: CheckSystem. -/
set_option maxRecDepth 100000
namespace Go.Proofs.YtdojpbbdcgfcnaaGreatDoor.AI.T
open Go Go.Proofs.YtdojpbbdcgfcnaaGreatDoor.AI

end Go.Proofs.YtdojpbbdcgfcnaaGreatDoor.AI.T
/- What the functions do, whatever their inputs, 7: graphs. -/
set_option maxRecDepth 100000
namespace Go.Proofs.YtdojpbbdcgfcnaaGreatDoor.AI.T
open Go Go.Proofs.YtdojpbbdcgfcnaaGreatDoor.AI

section
variable {cx : Cx} {e : List V} {fr : Fr} {h : H} {k : V → H → Res}
noncomputable def idxA (len sz : Nat) (v w : V) (k : Pos → Nat → Res) : Res := v.onPtr (fun b o => w.onIndex len (fun i => k b (o + i * sz)) none) none
@[congr] theorem idxA_congr {len sz : Nat} {v v' w w' : V} {f : Pos → Nat → Res} (hv : v = v') (hw : w = w') : idxA len sz v w f = idxA len sz v' w' f := by rw [hv, hw]
@[simp, simp ↓] theorem sIndexArr_s {len sz : Nat} {x i : O} : sIndexArr len sz x i cx e fr h k = evK e fr x fun v => evK e fr i fun w => idxA len sz v w fun b o => k (.ptr b o) h := by
  show evK e fr x (fun v => evK e fr i fun w => v.onPtr (fun b o => w.onIndex len (fun i => natK (Nat.add o (Nat.mul i sz)) fun o => k (.ptr b o) h) none) none) = _
  simp only [natK_eq]; rfl
@[simp, simp ↓] theorem idxA_0 {b : Pos} {o : Nat} {f : Pos → Nat → Res} : idxA 2 1 (.ptr b o) (vi 0) f = f b (o + 0) := Eq.trans rfl rfl
@[simp, simp ↓] theorem idxA_1 {b : Pos} {o : Nat} {f : Pos → Nat → Res} : idxA 2 1 (.ptr b o) (vi 1) f = f b (o + 1) := Eq.trans rfl rfl
@[simp, simp ↓] theorem eqV_pair {a b c d : Int} : eqV (.parts [(0, .i), (1, .i)]) (.agg [vi a, vi b]) (.agg [vi c, vi d]) = some (decide (a = c) && decide (b = d)) := by
  show eqParts [(0, .i), (1, .i)] [vi a, vi b] [vi c, vi d] = _
  have h1 : eqS .i (vi a) (vi c) = some (decide (a = c)) := by simp [eqS, eqI_eq]
  have h2 : eqS .i (vi b) (vi d) = some (decide (b = d)) := by simp [eqS, eqI_eq]
  simp only [eqParts, List.getElem?_cons_zero, List.getElem?_cons_succ, h1, h2]
  cases decide (a = c) <;> cases decide (b = d) <;> rfl

def EdgesAt (h : H) (v : V) (es : List (Int × Int)) : Prop :=
  ((v = .nils ∨ ∃ b, v = .odd b) ∧ es = []) ∨ ∃ b o c l kd ty, v = .slc b o es.length (.known c) ∧ es.length ≤ c ∧ h.get b = some (.cells l kd ty) ∧ Old h b ∧ ∀ (i : Nat) (x : Int × Int), es[i]? = some x → (l.drop (o + i * 2)).take 2 = [vi x.1, vi x.2]
theorem EdgesAt.len {v : V} {es : List (Int × Int)} (hs : EdgesAt h v es) (f : V → Res) : lenS v f = f (vi es.length) := by
  rcases hs with ⟨rfl | ⟨b, rfl⟩, rfl⟩ | ⟨b, o, c, l, kd, ty, rfl, _⟩ <;> rfl
theorem EdgesAt.junk {v : V} {es : List (Int × Int)} (hs : EdgesAt h v es) : v.isJunk = false := by
  rcases hs with ⟨rfl | ⟨b, rfl⟩, rfl⟩ | ⟨b, o, c, l, kd, ty, rfl, _⟩ <;> rfl
theorem EdgesAt.eqD {v : V} {es : List (Int × Int)} (hs : EdgesAt h v es) {n : Nat} : eqD (n + 1) v v = true := by
  rcases hs with ⟨rfl | ⟨b, rfl⟩, rfl⟩ | ⟨b, o, c, l, kd, ty, rfl, _⟩
  · rfl
  · simp [Go.Proofs.YtdojpbbdcgfcnaaGreatDoor.AI.eqD]
  · simp [Go.Proofs.YtdojpbbdcgfcnaaGreatDoor.AI.eqD]
theorem EdgesAt.at {v : V} {es : List (Int × Int)} (hs : EdgesAt h v es) {i : Nat} (hi : i < es.length) : ∃ b o, Old h b ∧ (∀ kd f, idxS 2 v (.int kd i) f = f b o) ∧ ∀ f, h.loadK (some 2) b o f = f (.agg [vi es[i].1, vi es[i].2]) := by
  rcases hs with ⟨_, rfl⟩ | ⟨b, o, c, l, kd, ty, rfl, hc, hb, hold, hl⟩
  · simp at hi
  · have h1 := hl i es[i] (List.getElem?_eq_getElem hi)
    have hlen := congrArg List.length h1
    simp at hlen
    refine ⟨b, o + i * 2, hold, fun kd f => ?_, fun f => ?_⟩
    · simp only [idxS, onSlc_s]; rw [onIndex_nat hi]
    · rw [loadK_take, hb]
      show (if _ then _ else _ : Res) = _
      rw [if_pos ⟨by omega, by simp; omega, by rw [h1]; simp⟩, h1]
theorem EdgesAt.ext {h h' : H} {v : V} {es : List (Int × Int)} (hs : EdgesAt h v es) (hh : Ext h h') : EdgesAt h' v es := by
  rcases hs with h1 | ⟨b, o, c, l, kd, ty, h1, h2, h3, h4, h5⟩
  · exact .inl h1
  · exact .inr ⟨b, o, c, l, kd, ty, h1, h2, by rw [hh.get b h4]; exact h3, hh.old h4, h5⟩
theorem EdgesAt.ro {h : H} {v : V} {es : List (Int × Int)} (hs : EdgesAt h v es) : EdgesAt h.ro v es := by
  rcases hs with h1 | ⟨b, o, c, l, kd, ty, h1, h2, h3, h4, h5⟩
  · exact .inl h1
  · exact .inr ⟨b, o, c, l, .ro, ty, h1, h2, H.get_ro_cells h3, h4, h5⟩
theorem EdgesAt.uniq {v : V} {es fs : List (Int × Int)} (hs : EdgesAt h v es) (ht : EdgesAt h v fs) : es = fs := by
  rcases hs with ⟨hv, rfl⟩ | ⟨b, o, c, l, kd, ty, rfl, h2, h3, h4, h5⟩
  · rcases ht with ⟨_, rfl⟩ | ⟨b, o, c, l, kd, ty, h1, _⟩
    · rfl
    · subst h1
      rcases hv with hv | ⟨_, hv⟩ <;> cases hv
  · rcases ht with ⟨h1, _⟩ | ⟨b', o', c', l', kd', ty', h1, k2, k3, k4, k5⟩
    · rcases h1 with h1 | ⟨_, h1⟩ <;> cases h1
    · obtain ⟨rfl, rfl, hlen, _⟩ := V.slc.inj h1
      rw [h3] at k3; cases k3
      refine List.ext_getElem hlen fun i hi hj => ?_
      have e1 := h5 i _ (List.getElem?_eq_getElem hi)
      have e2 := k5 i _ (List.getElem?_eq_getElem hj)
      rw [e1] at e2
      simp at e2
      exact Prod.ext e2.1 e2.2
theorem EdgesAt.take {v : V} {es : List (Int × Int)} (hs : EdgesAt h v es) {n : Nat} (hn : n ≤ es.length) : ∃ v', EdgesAt h v' (es.take n) ∧ ∀ (cx : Cx) (e : List V) (fr : Fr) (x i : O) (k : V → H → Res) (h' : H), ev e fr x = some v → ev e fr i = some (.int .i64 n) → sSlice 2 x none (some i) none cx e fr h' k = k v' h' := by
  rcases hs with ⟨rfl | ⟨b, rfl⟩, rfl⟩ | ⟨b, o, c, l, kd, ty, rfl, hc, hb, hold, hl⟩
  · have : n = 0 := by simpa using hn
    subst this
    refine ⟨.nils, .inl ⟨.inl rfl, rfl⟩, fun cx e fr x i k h' hx hi => ?_⟩
    show evK e fr x (fun v => (V.casesOn v _ _ _ _ _ _ _ _ _ _ _ _ _ _ _ _ _ _ : Res)) = _
    rw [evK_eq, hx]
    show evK e fr i (fun v => v.onIndex 1 (fun _ => k .nils h') none) = _
    rw [evK_eq, hi]
    exact onIndex_nat (by omega)
  · have : n = 0 := by simpa using hn
    subst this
    refine ⟨.odd b, .inl ⟨.inr ⟨b, rfl⟩, rfl⟩, fun cx e fr x i k h' hx hi => ?_⟩
    show evK e fr x (fun v => (V.casesOn v _ _ _ _ _ _ _ _ _ _ _ _ _ _ _ _ _ _ : Res)) = _
    rw [evK_eq, hx]
    show evK e fr i (fun v => v.onIndex 1 (fun _ => k (.odd b) h') none) = _
    rw [evK_eq, hi]
    exact onIndex_nat (by omega)
  · refine ⟨.slc b o n (.known c), .inr ⟨b, o, c, l, kd, ty, by simp [List.length_take, Nat.min_eq_left hn], by simp; omega, hb, hold, fun i u hi => ?_⟩, fun cx e fr x i k h' hx hi => ?_⟩
    · rw [List.getElem?_take] at hi
      split at hi
      · exact hl i u hi
      · cases hi
    · show evK e fr x (fun v => (V.casesOn v _ _ _ _ _ _ _ _ _ _ _ _ _ _ _ _ _ _ : Res)) = _
      rw [evK_eq, hx]
      show (evK e fr i fun v => v.onIndex (Nat.succ c) (fun hh => (Bool.casesOn (Nat.beq c 0)
          (natK (Nat.add o (Nat.mul 0 2)) fun o => natK (Nat.sub hh 0) fun n => natK (Nat.sub c 0) fun c => k (.slc b o n (.known c)) h')
          (natK (Nat.sub hh 0) fun n => k (.slc b o n (.known 0)) h') : Res)) none) = _
      rw [evK_eq, hi]
      show (V.int .i64 (n : Int)).onIndex (Nat.succ c) _ none = _
      rw [onIndex_nat (by omega)]
      simp only [natK_eq]
      cases hb0 : Nat.beq c 0 with
      | false => simp
      | true =>
        have := Nat.eq_of_beq_eq_true hb0
        subst this; simp
end

def hasEdge (es : List (Int × Int)) (x : Int × Int) : Bool := es.any fun y => decide (y.1 = x.1) && decide (y.2 = x.2)
def edgeErr (n : Int) (es : List (Int × Int)) (i : Nat) : Int := match es[i]? with
  | none => 0
  | some x => if x.1 < 0 ∨ n ≤ x.1 ∨ x.2 < 0 ∨ n ≤ x.2 then 10 else if x.2 ≤ x.1 then 11 else if hasEdge (es.take i) x = true then 9 else 0
def edgesErr (n : Int) (es : List (Int × Int)) (i : Nat) : Int := firstOf (((List.range es.length).map (edgeErr n es)).drop i)
/-- the error of a graph, 0 for none -/
def graphErr (n : Int) (es : List (Int × Int)) : Int := if n < 1 ∨ 16 < n then 3 else if 32 < (es.length : Int) then 5 else edgesErr n es 0


end Go.Proofs.YtdojpbbdcgfcnaaGreatDoor.AI.T
/- A later heap has the tables that the earlier one had. -/
set_option maxRecDepth 100000
namespace Go.Proofs.YtdojpbbdcgfcnaaGreatDoor.AI.T
open Go Go.Proofs.YtdojpbbdcgfcnaaGreatDoor.AI
theorem ext_hasK {h h' : H} (hh : Ext h h') {nd : Need} (hk : hasK h nd = true) (ho : ∀ p l, (p, l) ∈ nd → Old h p) : hasK h' nd = true := by
  induction nd with
  | nil => rfl
  | cons x r ih =>
    obtain ⟨p, l⟩ := x
    obtain ⟨h1, h2⟩ := bool_and (b := Go.Proofs.YtdojpbbdcgfcnaaGreatDoor.AI.hasK h r) hk
    have hg : Tr.get p h'.t = Tr.get p h.t := hh.get p (ho p l (by simp))
    show (Bool.casesOn (Option.casesOn (Tr.get p h'.t) false _) false (Go.Proofs.YtdojpbbdcgfcnaaGreatDoor.AI.hasK h' r) : Bool) = true
    rw [hg]
    have h1' : (Option.casesOn (Tr.get p h.t) false fun b => Blk.casesOn b (fun l' k _ => Bool.casesOn k.isRo false (eqDs 1000 l l')) (fun _ _ => false) (fun _ _ => false) (fun _ _ _ _ _ => false) false : Bool) = true := h1
    rw [h1']
    exact ih h2 fun q l hq => ho q l (List.mem_cons_of_mem _ hq)

end Go.Proofs.YtdojpbbdcgfcnaaGreatDoor.AI.T
