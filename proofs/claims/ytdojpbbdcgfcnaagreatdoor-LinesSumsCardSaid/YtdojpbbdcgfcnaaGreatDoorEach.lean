import Derived.Test.YtdojpbbdcgfcnaaGreatDoorWordsThree
set_option linter.all false
/- What the functions do, whatever their inputs. -/
set_option maxRecDepth 100000
namespace Go.Proofs.YtdojpbbdcgfcnaaGreatDoor.AI.T
open Go Go.Proofs.YtdojpbbdcgfcnaaGreatDoor.AI

abbrev vi (i : Int) : V := .int .i64 i
def firstOf : List Int → Int
  | [] => 0
  | a :: l => if a = 0 then firstOf l else a

theorem fn90 (call : Call) (n : Nat) (b : Bool) (e : Int) (h : H) : bodyK call n f90 [.bool b, vi e] h = some (vi (if b = true then e else 0), h) := by
  refine body_tmp rfl ?_
  cases b <;> simp [k90]

theorem firstOf_drop {xs : List Int} {i : Nat} {a : Int} (h : xs[i]? = some a) : firstOf (xs.drop i) = if a = 0 then firstOf (xs.drop (i + 1)) else a := by
  obtain ⟨hl, rfl⟩ := List.getElem?_eq_some_iff.1 h
  rw [List.drop_eq_getElem_cons hl]; rfl
theorem wrap_nat {n : Nat} (h : n ≤ 9223372036854775807) : IntKind.wrap .i64 (n : Int) = n := wrap_i64_in (by omega) (by omega)

theorem wrap_succ {i n : Nat} (h : i < n) (hn : n < 9223372036854775807) : IntKind.wrap .i64 ((i : Int) + 1) = ((i + 1 : Nat) : Int) := by rw [wrap_i64_in] <;> omega

theorem fn88 (call : Call) (n : Nat) (v : V) (xs : List Int) (h : H) (hs : SlcAt h v (xs.map vi)) (hn : xs.length + 1 < n) (hx : xs.length < 9223372036854775807) : bodyK call n f88 [v] h = some (vi (firstOf xs), h) := by
  refine body_tmp rfl ?_
  simp [k88, hs.len]
  refine Ends.looped (fun m fr' h' => h' = ⟨h.next, h.t, []⟩ ∧ ∃ i, m + i = xs.length ∧ Tr.get (Pos.ofNat 7) fr' = some (vi i) ∧ Tr.get (Pos.ofNat 6) fr' = some (vi xs.length) ∧ Tr.get (Pos.ofNat 5) fr' = some v ∧ firstOf xs = firstOf (xs.drop i))
    (fun j fr' h' => h' = ⟨h.next, h.t, []⟩ ∧ ((j = .exit 0 ∧ firstOf xs = 0) ∨ (j = .ret ∧ Tr.get (Pos.ofNat 2) fr' = some (vi (firstOf xs))))) xs.length ⟨rfl, 0, by simp⟩ (Nat.lt_trans (Nat.lt_succ_self _) hn) ?_ ?_
  · rintro m fr' h' ⟨rfl, i, h1, h2, h3, h4, h5⟩
    by_cases hi : i < xs.length
    · obtain ⟨b, o, a1, a2, a3⟩ := hs.bare.at (i := i) (u := vi xs[i]) (by simp [hi])
      have hf := firstOf_drop (List.getElem?_eq_getElem hi)
      have hw := wrap_succ hi hx
      by_cases h0 : xs[i] = 0
      · simp [h2, h3, h4, hi, a2, a3, h0, hw]
        refine ⟨m - 1, by omega, i + 1, by omega, by simp, ?_⟩
        rw [h5, hf, if_pos h0]
      · simp [h2, h3, h4, hi, a2, a3, h0]
        rw [h5, hf, if_neg h0]
    · simp [h2, h3, hi]
      rw [h5, List.drop_eq_nil_of_le (by omega)]; rfl
  · rintro j fr' h' ⟨rfl, ⟨rfl, h1⟩ | ⟨rfl, h1⟩⟩
    · simp [h1]
    · simp [h1]

theorem fn193 (call : Call) (n : Nat) (x lo hi : Int) (b1 b2 : Pos) (h : H) (h1 : ∀ f, h.loadK none b1 0 f = f (vi lo)) (h2 : ∀ f, h.loadK none b2 0 f = f (vi hi)) :
    bodyK call n f193 [vi x, .ptr b1 0, .ptr b2 0] h = some (.bool (decide (x < lo) || decide (hi < x)), h) := by
  refine body_tmp rfl ?_
  have h1' : ∀ f, H.loadK ⟨h.next, h.t, []⟩ none b1 0 f = f (vi lo) := h1
  have h2' : ∀ f, H.loadK ⟨h.next, h.t, []⟩ none b2 0 f = f (vi hi) := h2
  rcases Int.lt_or_le x lo with hc | hc
  · simp [k193, h1', h2', hc, Int.not_le.2 hc]
  · simp [k193, h1', h2', hc, Int.not_lt.2 hc]

/-- the place of the first that is so, -1 for none -/
def idxOf {α : Type} (P : α → Bool) : List α → Nat → Int
  | [], _ => -1
  | a :: l, i => if P a = true then i else idxOf P l (i + 1)
theorem idxOf_drop {α : Type} {P : α → Bool} {xs : List α} {i : Nat} {a : α} (h : xs[i]? = some a) : idxOf P (xs.drop i) i = if P a = true then (i : Int) else idxOf P (xs.drop (i + 1)) (i + 1) := by
  obtain ⟨hl, rfl⟩ := List.getElem?_eq_some_iff.1 h
  rw [List.drop_eq_getElem_cons hl]; rfl
theorem idxOf_nonneg {α : Type} {P : α → Bool} : ∀ (xs : List α) (i : Nat), (!decide (idxOf P xs i < 0)) = xs.any P
  | [], i => by simp [idxOf]
  | a :: l, i => by
    simp only [idxOf, List.any_cons]
    split
    · rename_i h; simp [h]
    · rename_i h; rw [idxOf_nonneg l (i + 1)]; simp [h]

theorem fn203 (call : Call) (n : Nat) (v f : V) (xs : List Int) (P : Int → Bool) (h : H) (hs : SlcAt h v (xs.map vi)) (hn : xs.length + 1 < n) (hx : xs.length < 9223372036854775807)
    (hc : ∀ x ∈ xs, call f [vi x] ⟨h.next, h.t, []⟩ = some (.bool (P x), ⟨h.next, h.t, []⟩)) : bodyK call n f203 [v, f] h = some (vi (idxOf P xs 0), h) := by
  refine body_tmp rfl ?_
  simp [k203, hs.len]
  refine Ends.looped (fun m fr' h' => h' = ⟨h.next, h.t, []⟩ ∧ ∃ i, m + i = xs.length ∧ Tr.get (Pos.ofNat 8) fr' = some (vi i) ∧ Tr.get (Pos.ofNat 7) fr' = some (vi xs.length) ∧ Tr.get (Pos.ofNat 0) fr' = some v ∧ Tr.get (Pos.ofNat 1) fr' = some f ∧ idxOf P xs 0 = idxOf P (xs.drop i) i)
    (fun j fr' h' => h' = ⟨h.next, h.t, []⟩ ∧ ((j = .exit 0 ∧ idxOf P xs 0 = -1) ∨ (j = .ret ∧ Tr.get (Pos.ofNat 4) fr' = some (vi (idxOf P xs 0))))) xs.length ⟨rfl, 0, by simp⟩ (Nat.lt_trans (Nat.lt_succ_self _) hn) ?_ ?_
  · rintro m fr' h' ⟨rfl, i, h1, h2, h3, h4, h4', h5⟩
    by_cases hi : i < xs.length
    · obtain ⟨b, o, a1, a2, a3⟩ := hs.bare.at (i := i) (u := vi xs[i]) (by simp [hi])
      have hf := idxOf_drop (P := P) (List.getElem?_eq_getElem hi)
      have hw := wrap_succ hi hx
      have hcc := hc xs[i] (List.getElem_mem hi)
      by_cases h0 : P xs[i] = true
      · simp [h2, h3, h4, h4', hi, a2, a3, h0, hcc]
        rw [h5, hf, if_pos h0]
      · simp [h2, h3, h4, h4', hi, a2, a3, h0, hcc, hw]
        refine ⟨m - 1, by omega, i + 1, by omega, by simp, ?_⟩
        rw [h5, hf, if_neg h0]
    · simp [h2, h3, hi]
      rw [h5, List.drop_eq_nil_of_le (by omega)]; rfl
  · rintro j fr' h' ⟨rfl, ⟨rfl, h1⟩ | ⟨rfl, h1⟩⟩
    · simp [h1]
    · simp [h1]
theorem fn160 (call : Call) (n : Nat) (v f : V) (xs : List Int) (P : Int → Bool) (h : H)
    (hc : call (.fn (.func 203) [] []) [v, f] ⟨h.next, h.t, []⟩ = some (vi (idxOf P xs 0), ⟨h.next, h.t, []⟩)) : bodyK call n f160 [v, f] h = some (.bool (xs.any P), h) := by
  refine body_tmp rfl ?_
  simp [k160, hc]
  have := idxOf_nonneg (P := P) xs 0
  simpa using this

/-- equal lists, one after the other from i on -/
theorem eqFrom {xs ys : List Int} (hl : xs.length = ys.length) {i : Nat} (hi : i < xs.length) : (xs.drop i = ys.drop i) ↔ xs[i] = ys[i] ∧ xs.drop (i + 1) = ys.drop (i + 1) := by
  rw [List.drop_eq_getElem_cons hi, List.drop_eq_getElem_cons (by omega : i < ys.length)]; exact List.cons_eq_cons

theorem fn50 (call : Call) (n : Nat) (v w : V) (xs ys : List Int) (h : H) (hs : SlcAt h v (xs.map vi)) (ht : SlcAt h w (ys.map vi)) (hn : xs.length + 1 < n) (hx : xs.length < 9223372036854775807) :
    bodyK call n f50 [v, w] h = some (.bool (decide (xs = ys)), h) := by
  refine body_tmp rfl ?_
  by_cases hl : xs.length = ys.length
  · simp [k50, hs.len, ht.len, hl]
    refine Ends.looped (fun m fr' h' => h' = ⟨h.next, h.t, []⟩ ∧ ∃ i, m + i = xs.length ∧ Tr.get (Pos.ofNat 5) fr' = some (vi i) ∧ Tr.get (Pos.ofNat 0) fr' = some v ∧ Tr.get (Pos.ofNat 1) fr' = some w ∧ (xs = ys ↔ xs.drop i = ys.drop i))
      (fun j fr' h' => h' = ⟨h.next, h.t, []⟩ ∧ ((j = .exit 0 ∧ xs = ys) ∨ (j = .ret ∧ xs ≠ ys ∧ Tr.get (Pos.ofNat 4) fr' = some (.bool false)))) xs.length ⟨rfl, 0, by simp⟩ (Nat.lt_trans (Nat.lt_succ_self _) hn) ?_ ?_
    · rintro m fr' h' ⟨rfl, i, h1, h2, h3, h4, h5⟩
      by_cases hi : i < xs.length
      · obtain ⟨b, o, a1, a2, a3⟩ := hs.bare.at (i := i) (u := vi xs[i]) (by simp [hi])
        obtain ⟨b', o', a1', a2', a3'⟩ := ht.bare.at (i := i) (u := vi (ys[i]'(by omega))) (by simp [hl ▸ hi])
        have hf := eqFrom hl hi
        have hw := wrap_succ hi hx
        have hi' : i < ys.length := by omega
        by_cases h0 : xs[i] = ys[i]
        · simp [hs.len, ht.len, h2, h3, h4, hi, a2, a3, a2', a3', h0, hw, hi']
          refine ⟨m - 1, by omega, i + 1, by omega, by simp, ?_⟩
          rw [h5, hf]; simp [h0]
        · simp [hs.len, h2, h3, h4, hi, a2, a3, a2', a3', h0]
          rw [h5, hf]; simp [h0]
      · simp [hs.len, h2, h3, hi]
        rw [h5, List.drop_eq_nil_of_le (by omega), List.drop_eq_nil_of_le (by omega)]
    · rintro j fr' h' ⟨rfl, ⟨rfl, h1⟩ | ⟨rfl, h1, h2⟩⟩
      · simp [h1]
      · simp [h1, h2]
  · have hne : xs ≠ ys := fun he => hl (by rw [he])
    have hl' : ¬ ((xs.length : Int) = (ys.length : Int)) := by omega
    simp [k50, hs.len, ht.len, hl, hl', hne]

theorem fn196 (call : Call) (n : Nat) (v w : V) (xs ys : List Int) (h : H) (hs : SlcAt h v (xs.map vi)) (ht : SlcAt h w (ys.map vi)) (hn : xs.length + 1 < n) (hx : xs.length < 9223372036854775807) :
    bodyK call n f196 [v, w] h = some (.bool (decide (xs = ys)), h) := by
  refine body_tmp rfl ?_
  by_cases hl : xs.length = ys.length
  · simp [k196, hs.len, ht.len, hl]
    refine Ends.looped (fun m fr' h' => h' = ⟨h.next, h.t, []⟩ ∧ ∃ i, m + i = xs.length ∧ Tr.get (Pos.ofNat 13) fr' = some (vi i) ∧ Tr.get (Pos.ofNat 12) fr' = some (vi xs.length) ∧ Tr.get (Pos.ofNat 0) fr' = some v ∧ Tr.get (Pos.ofNat 1) fr' = some w ∧ (xs = ys ↔ xs.drop i = ys.drop i))
      (fun j fr' h' => h' = ⟨h.next, h.t, []⟩ ∧ ((j = .exit 0 ∧ xs = ys) ∨ (j = .ret ∧ xs ≠ ys ∧ Tr.get (Pos.ofNat 4) fr' = some (.bool false)))) xs.length ⟨rfl, 0, by simp [hl]⟩ (Nat.lt_trans (Nat.lt_succ_self _) hn) ?_ ?_
    · rintro m fr' h' ⟨rfl, i, h1, h2, h2', h3, h4, h5⟩
      by_cases hi : i < xs.length
      · obtain ⟨b, o, a1, a2, a3⟩ := hs.bare.at (i := i) (u := vi xs[i]) (by simp [hi])
        obtain ⟨b', o', a1', a2', a3'⟩ := ht.bare.at (i := i) (u := vi (ys[i]'(by omega))) (by simp [hl ▸ hi])
        have hf := eqFrom hl hi
        have hw := wrap_succ hi hx
        have hi' : i < ys.length := by omega
        by_cases h0 : xs[i] = ys[i]
        · simp [h2, h2', h3, h4, hi, a2, a3, a2', a3', h0, hw, hi']
          refine ⟨m - 1, by omega, i + 1, by omega, by simp, ?_⟩
          rw [h5, hf]; simp [h0]
        · simp [h2, h2', h3, h4, hi, a2, a3, a2', a3', h0]
          rw [h5, hf]; simp [h0]
      · simp [h2, h2', h3, hi]
        rw [h5, List.drop_eq_nil_of_le (by omega), List.drop_eq_nil_of_le (by omega)]
    · rintro j fr' h' ⟨rfl, ⟨rfl, h1⟩ | ⟨rfl, h1, h2⟩⟩
      · simp [h1]
      · simp [h1, h2]
  · have hne : xs ≠ ys := fun he => hl (by rw [he])
    have hl' : ¬ ((xs.length : Int) = (ys.length : Int)) := by omega
    simp [k196, hs.len, ht.len, hl, hl', hne]
end Go.Proofs.YtdojpbbdcgfcnaaGreatDoor.AI.T
/- What the functions do, whatever their inputs, 2: lists of lines. -/
set_option maxRecDepth 100000
namespace Go.Proofs.YtdojpbbdcgfcnaaGreatDoor.AI.T
open Go Go.Proofs.YtdojpbbdcgfcnaaGreatDoor.AI

/-- a list of lists of integers -/
def LinesAt (h : H) (v : V) (ls : List (List Int)) : Prop := ∃ vs, SlcAt h v vs ∧ vs.length = ls.length ∧ ∀ (i : Nat) (u : V) (xs : List Int), vs[i]? = some u → ls[i]? = some xs → SlcAt h u (xs.map vi)
theorem LinesAt.len {h : H} {v : V} {ls : List (List Int)} (hs : LinesAt h v ls) (f : V → Res) : lenS v f = f (vi ls.length) := by
  obtain ⟨vs, h1, h2, _⟩ := hs
  rw [h1.len, h2]
theorem LinesAt.junk {h : H} {v : V} {ls : List (List Int)} (hs : LinesAt h v ls) : v.isJunk = false := let ⟨_, h1, _⟩ := hs; h1.junk
theorem LinesAt.cells {h : H} {v : V} {ls : List (List Int)} (hs : LinesAt h v ls) : v.cells = [v] := let ⟨_, h1, _⟩ := hs; h1.cells
theorem LinesAt.ext {h h' : H} {v : V} {ls : List (List Int)} (hs : LinesAt h v ls) (hh : Ext h h') : LinesAt h' v ls := by
  obtain ⟨vs, h1, h2, h3⟩ := hs
  exact ⟨vs, h1.ext hh, h2, fun i u xs a b => (h3 i u xs a b).ext hh⟩
theorem LinesAt.at {h : H} {v : V} {ls : List (List Int)} (hs : LinesAt h v ls) {i : Nat} (hi : i < ls.length) : ∃ b o u, Old h b ∧ (∀ kd f, idxS 1 v (.int kd i) f = f b o) ∧ (∀ f, h.loadK none b o f = f u) ∧ SlcAt h u (ls[i].map vi) := by
  obtain ⟨vs, h1, h2, h3⟩ := hs
  have hv : vs[i]? = some (vs[i]'(by omega)) := List.getElem?_eq_getElem (by omega)
  obtain ⟨b, o, a1, a2, a3⟩ := h1.at hv
  exact ⟨b, o, _, a1, a2, a3, h3 i _ _ hv (List.getElem?_eq_getElem hi)⟩
theorem LinesAt.ro {h : H} {v : V} {ls : List (List Int)} (hs : LinesAt h v ls) : LinesAt h.ro v ls := by
  obtain ⟨vs, h1, h2, h3⟩ := hs
  exact ⟨vs, h1.ro, h2, fun i u xs a b => (h3 i u xs a b).ro⟩
theorem vi_inj {xs ys : List Int} (h : xs.map vi = ys.map vi) : xs = ys := by
  induction xs generalizing ys with
  | nil => cases ys with
    | nil => rfl
    | cons => simp at h
  | cons a l ih => cases ys with
    | nil => simp at h
    | cons b m => simp at h; rw [h.1, ih (by simpa using h.2)]
theorem LinesAt.uniq {h : H} {v : V} {ls ms : List (List Int)} (hs : LinesAt h v ls) (ht : LinesAt h v ms) : ls = ms := by
  obtain ⟨vs, h1, h2, h3⟩ := hs
  obtain ⟨us, k1, k2, k3⟩ := ht
  have := h1.uniq k1
  subst this
  refine List.ext_getElem (by omega) fun i hi hj => ?_
  have hv : vs[i]? = some (vs[i]'(by omega)) := List.getElem?_eq_getElem (by omega)
  exact vi_inj ((h3 i _ _ hv (List.getElem?_eq_getElem hi)).uniq (k3 i _ _ hv (List.getElem?_eq_getElem hj)))
/-- the first n lines -/
theorem LinesAt.take {h : H} {v : V} {ls : List (List Int)} (hs : LinesAt h v ls) {n : Nat} (hn : n ≤ ls.length) : ∃ v', LinesAt h v' (ls.take n) ∧ ∀ (cx : Cx) (e : List V) (fr : Fr) (x i : O) (k : V → H → Res), ev e fr x = some v → ev e fr i = some (.int .i64 n) → sSlice 1 x none (some i) none cx e fr h k = k v' h := by
  obtain ⟨vs, h1, h2, h3⟩ := hs
  obtain ⟨v', k1, k2⟩ := h1.take (n := n) (by omega)
  refine ⟨v', ⟨vs.take n, k1, by simp [h2], fun i u xs a b => ?_⟩, k2⟩
  rw [List.getElem?_take] at a b
  split at a
  · rename_i hlt
    rw [if_pos hlt] at b
    exact h3 i u xs a b
  · cases a
/-- how a part of a slice is taken, the heap whichever -/
theorem take_any {h h' : H} {v v' : V} {n : Nat} (hh : ∀ (cx : Cx) (e : List V) (fr : Fr) (x i : O) (k : V → H → Res), ev e fr x = some v → ev e fr i = some (.int .i64 n) → sSlice 1 x none (some i) none cx e fr h k = k v' h) : True := trivial

def allLe (cells : Int) (ls : List (List Int)) : Bool := ls.all fun l => !decide (cells < l.length)
def Short (cells lines : Int) (ls : List (List Int)) : Bool := !decide (lines < ls.length) && allLe cells ls
theorem all_drop {α : Type} {P : α → Bool} {xs : List α} {i : Nat} {a : α} (h : xs[i]? = some a) : (xs.drop i).all P = (P a && (xs.drop (i + 1)).all P) := by
  obtain ⟨hl, rfl⟩ := List.getElem?_eq_some_iff.1 h
  rw [List.drop_eq_getElem_cons hl]; rfl
theorem allLe_drop {c : Int} {xs : List (List Int)} {i : Nat} (h : i < xs.length) : allLe c (xs.drop i) = (!decide (c < xs[i].length) && allLe c (xs.drop (i + 1))) := by
  unfold allLe; rw [List.drop_eq_getElem_cons h]; rfl
theorem any_drop {α : Type} {P : α → Bool} {xs : List α} {i : Nat} {a : α} (h : xs[i]? = some a) : (xs.drop i).any P = (P a || (xs.drop (i + 1)).any P) := by
  obtain ⟨hl, rfl⟩ := List.getElem?_eq_some_iff.1 h
  rw [List.drop_eq_getElem_cons hl]; rfl

theorem wrap_succ_le {i n : Nat} (h : i < n) (hn : n ≤ 9223372036854775807) : IntKind.wrap .i64 ((i : Int) + 1) = ((i + 1 : Nat) : Int) := by rw [wrap_i64_in] <;> omega
theorem fn17 (call : Call) (n : Nat) (c cells lines : Int) (v : V) (ls : List (List Int)) (h : H) (hs : LinesAt h v ls) (hn : ls.length + 1 < n) (hx : ls.length ≤ 9223372036854775807) :
    ∃ h', bodyK call n f17 [.agg [vi c, v], vi cells, vi lines] h = some (.bool (Short cells lines ls), h') := by
  refine body_tmp' rfl ?_
  have hj := hs.junk
  rcases Int.lt_or_le lines ls.length with hc | hc
  · simp [k17, hj, hs.len, hc, Int.not_le.2 hc, Short]
  · simp [k17, hj, hs.len, hc, Int.not_lt.2 hc]
    have hb : LinesAt (H.new ⟨h.next, h.t, []⟩ (.cells [vi c, v] .own 24)) v ls := LinesAt.ext (h := ⟨h.next, h.t, []⟩) hs (Ext.refl _).new
    refine Ends.looped (fun m fr' h' => h' = H.new ⟨h.next, h.t, []⟩ (.cells [vi c, v] .own 24) ∧ ∃ i, m + i = ls.length ∧ Tr.get (Pos.ofNat 7) fr' = some (vi i) ∧ Tr.get (Pos.ofNat 3) fr' = some (.ptr h.next 0) ∧ Tr.get (Pos.ofNat 1) fr' = some (vi cells) ∧ allLe cells ls = allLe cells (ls.drop i))
      (fun j fr' h' => h'.marks = [] ∧ ((j = .exit 0 ∧ allLe cells ls = true) ∨ (j = .ret ∧ allLe cells ls = false ∧ Tr.get (Pos.ofNat 6) fr' = some (.bool false)))) ls.length ⟨rfl, 0, by simp⟩ (Nat.lt_trans (Nat.lt_succ_self _) hn) ?_ ?_
    · rintro m fr' h' ⟨rfl, i, h1, h2, h3, h4, h5⟩
      by_cases hi : i < ls.length
      · obtain ⟨b, o, u, a1, a2, a3, a4⟩ := hb.at hi
        have hf := allLe_drop (c := cells) hi
        have hw := wrap_succ_le hi hx
        rcases Int.lt_or_le cells ls[i].length with h0 | h0
        · simp [h2, h3, h4, hj, hs.len, hi, a2, a3, a4.len, h0, Int.not_le.2 h0]
          rw [h5, hf]; simp [h0, Int.not_le.2 h0]
        · simp [h2, h3, h4, hj, hs.len, hi, a2, a3, a4.len, h0, Int.not_lt.2 h0, hw]
          refine ⟨m - 1, by omega, i + 1, by omega, by simp, ?_⟩
          rw [h5, hf]; simp [h0, Int.not_lt.2 h0]
      · simp [h2, h3, hj, hs.len, hi]
        rw [h5, List.drop_eq_nil_of_le (by omega)]; rfl
    · rintro j fr' h' ⟨hm, ⟨rfl, h1⟩ | ⟨rfl, h1, h2⟩⟩
      · simp only [Short, h1]; simp [hm, hc, Int.not_lt.2 hc]
      · simp only [Short, h1]; simp [hm, h2]
end Go.Proofs.YtdojpbbdcgfcnaaGreatDoor.AI.T
/- What the functions do, whatever their inputs, 3: systems. -/
set_option maxRecDepth 100000
namespace Go.Proofs.YtdojpbbdcgfcnaaGreatDoor.AI.T
open Go Go.Proofs.YtdojpbbdcgfcnaaGreatDoor.AI

theorem wrap_pred {i n : Nat} (h0 : 0 < i) (h : i ≤ n) (hn : n < 9223372036854775807) : IntKind.wrap .i64 ((i : Int) - 1) = ((i - 1 : Nat) : Int) := by rw [wrap_i64_in] <;> omega

/-- a list has a line -/
def hasLine (ls : List (List Int)) (xs : List Int) : Bool := ls.any fun l => decide (l = xs)
theorem hasLine_drop {ls : List (List Int)} {xs : List Int} {i : Nat} (h : i < ls.length) : hasLine (ls.drop i) xs = (decide (ls[i] = xs) || hasLine (ls.drop (i + 1)) xs) := by
  unfold hasLine; rw [List.drop_eq_getElem_cons h]; rfl
/-- the first error of the numbers of a line -/
def scan (c : Int) : Option Int → List Int → Int
  | _, [] => 0
  | pr, x :: l => if x < 0 ∨ c ≤ x then 10 else if (match pr with | some y => decide (x ≤ y) | none => false) = true then 11 else scan c (some x) l
def scanAt (c : Int) (xs : List Int) (i : Nat) : Int := scan c (if i = 0 then none else xs[i - 1]?) (xs.drop i)
theorem scanAt_step {c : Int} {xs : List Int} {i : Nat} (h : i < xs.length) : scanAt c xs i = if xs[i] < 0 ∨ c ≤ xs[i] then 10 else if 0 < i ∧ xs[i] ≤ xs[i - 1]'(by omega) then 11 else scanAt c xs (i + 1) := by
  unfold scanAt
  rw [List.drop_eq_getElem_cons h]
  simp only [scan]
  have h1 : xs[i + 1 - 1]? = some xs[i] := by simp [h]
  simp only [Nat.add_eq_zero_iff, Nat.one_ne_zero, and_false, if_false, h1]
  by_cases h0 : i = 0
  · subst h0; simp only [if_true, Bool.false_eq_true, if_false, Nat.lt_irrefl, false_and]
  · have h2 : xs[i - 1]? = some (xs[i - 1]'(by omega)) := List.getElem?_eq_getElem (by omega)
    simp only [h0, if_false, h2]
    have : 0 < i := by omega
    simp only [this, true_and, decide_eq_true_eq]
theorem scanAt_end {c : Int} {xs : List Int} {i : Nat} (h : xs.length ≤ i) : scanAt c xs i = 0 := by
  unfold scanAt; rw [List.drop_eq_nil_of_le h]; rfl
def lineErr (c : Int) (ls : List (List Int)) (i : Nat) : Int := match ls[i]? with
  | none => 0
  | some [] => 12
  | some (x :: l) => if scanAt c (x :: l) 0 = 0 then (if hasLine (ls.take i) (x :: l) = true then 9 else 0) else scanAt c (x :: l) 0
theorem lineErr_at {c : Int} {ls : List (List Int)} {i : Nat} (h : i < ls.length) : lineErr c ls i = if ls[i].length = 0 then 12 else if scanAt c ls[i] 0 = 0 then (if hasLine (ls.take i) ls[i] = true then 9 else 0) else scanAt c ls[i] 0 := by
  unfold lineErr
  rw [List.getElem?_eq_getElem h]
  cases hl : ls[i] with
  | nil => simp
  | cons x l => simp
def linesErr (c : Int) (ls : List (List Int)) (i : Nat) : Int := firstOf (((List.range ls.length).map (lineErr c ls)).drop i)
theorem linesErr_step {c : Int} {ls : List (List Int)} {i : Nat} (h : i < ls.length) : linesErr c ls i = if lineErr c ls i = 0 then linesErr c ls (i + 1) else lineErr c ls i := by
  unfold linesErr
  rw [firstOf_drop (a := lineErr c ls i) (by simp [h])]
theorem linesErr_end {c : Int} {ls : List (List Int)} {i : Nat} (h : ls.length ≤ i) : linesErr c ls i = 0 := by
  unfold linesErr; rw [List.drop_eq_nil_of_le (by simpa using h)]; rfl
/-- the error of a system, 0 for none -/
def sysErr (c : Int) (ls : List (List Int)) : Int := if c < 1 ∨ 256 < c then 3 else if 128 < (ls.length : Int) then 5 else linesErr c ls 0

theorem fn92 (call : Call) (n : Nat) (v w : V) (ls : List (List Int)) (xs : List Int) (h : H) (hs : LinesAt h v ls) (ht : SlcAt h w (xs.map vi)) (hn : ls.length + 1 < n) (hx : ls.length < 9223372036854775807)
    (hc : ∀ u ys, SlcAt h u (ys.map vi) → ys ∈ ls → call (.fn (.func 50) [] []) [u, w] ⟨h.next, h.t, []⟩ = some (.bool (decide (ys = xs)), ⟨h.next, h.t, []⟩)) :
    bodyK call n f92 [v, w] h = some (.bool (hasLine ls xs), h) := by
  refine body_tmp rfl ?_
  simp [k92]
  have hb : LinesAt ⟨h.next, h.t, []⟩ v ls := hs
  refine Ends.looped (fun m fr' h' => h' = ⟨h.next, h.t, []⟩ ∧ ∃ i, m + i = ls.length ∧ Tr.get (Pos.ofNat 5) fr' = some (vi i) ∧ Tr.get (Pos.ofNat 0) fr' = some v ∧ Tr.get (Pos.ofNat 1) fr' = some w ∧ hasLine ls xs = hasLine (ls.drop i) xs)
    (fun j fr' h' => h' = ⟨h.next, h.t, []⟩ ∧ ((j = .exit 0 ∧ hasLine ls xs = false) ∨ (j = .ret ∧ hasLine ls xs = true ∧ Tr.get (Pos.ofNat 4) fr' = some (.bool true)))) ls.length ⟨rfl, 0, by simp⟩ (Nat.lt_trans (Nat.lt_succ_self _) hn) ?_ ?_
  · rintro m fr' h' ⟨rfl, i, h1, h2, h3, h4, h5⟩
    by_cases hi : i < ls.length
    · obtain ⟨b, o, u, a1, a2, a3, a4⟩ := hb.at hi
      have hcc := hc u ls[i] a4 (List.getElem_mem hi)
      have hf := hasLine_drop (xs := xs) hi
      have hw := wrap_succ hi hx
      by_cases h0 : ls[i] = xs
      · simp [h2, h3, h4, ↓hb.len, hi, ↓a2, ↓a3, hcc, h0]
        rw [h5, hf]; simp [h0]
      · simp [h2, h3, h4, ↓hb.len, hi, ↓a2, ↓a3, hcc, h0, hw]
        refine ⟨m - 1, by omega, i + 1, by omega, by simp, ?_⟩
        rw [h5, hf]; simp [h0]
    · simp [h2, h3, ↓hb.len, hi]
      rw [h5, List.drop_eq_nil_of_le (by omega)]; rfl
  · rintro j fr' h' ⟨rfl, ⟨rfl, h1⟩ | ⟨rfl, h1, h2⟩⟩
    · simp [h1]
    · simp [h1, h2]

set_option maxHeartbeats 2000000 in
theorem fn20 (call : Call) (n : Nat) (c : Int) (v : V) (ls : List (List Int)) (h : H) (hs : LinesAt h v ls) (hn : ls.length + 1 < n) (hx : ls.length < 9223372036854775807) (hn2 : ∀ l ∈ ls, l.length + 1 < n ∧ l.length < 9223372036854775807)
    (hc : ∀ (v w : V) (ms : List (List Int)) (xs : List Int) (h : H), LinesAt h v ms → SlcAt h w (xs.map vi) → ms.length ≤ ls.length → (∀ m ∈ ms, m ∈ ls) → call (.fn (.func 92) [] []) [v, w] h = some (.bool (hasLine ms xs), h)) :
    ∃ h', bodyK call n f20 [.agg [vi c, v]] h = some (vi (sysErr c ls), h') := by
  refine body_tmp' rfl ?_
  have hj := hs.junk
  have fin : ∀ e, (c < 1 ∨ 256 < c → e = 3) → True := fun _ _ => trivial
  rcases Int.lt_or_le c 1 with hc1 | hc1
  · simp [k20, hj, hc1, Int.not_le.2 hc1, sysErr]
  rcases Int.lt_or_le 256 c with hc2 | hc2
  · simp [k20, hj, hc1, hc2, Int.not_lt.2 hc1, Int.not_le.2 hc2, sysErr]
  rcases Int.lt_or_le 128 ls.length with hc3 | hc3
  · simp [k20, hj, ↓hs.len, hc1, hc2, hc3, Int.not_lt.2 hc1, Int.not_lt.2 hc2, Int.not_le.2 hc3, sysErr]
  have hsys : sysErr c ls = linesErr c ls 0 := by
    unfold sysErr; rw [if_neg (by omega), if_neg (by omega)]
  rw [hsys]
  simp [k20, hj, ↓hs.len, hc1, hc2, hc3, Int.not_lt.2 hc1, Int.not_lt.2 hc2, Int.not_lt.2 hc3]
  have hb : LinesAt (H.new ⟨h.next, h.t, []⟩ (.cells [vi c, v] .own 24)) v ls := LinesAt.ext (h := ⟨h.next, h.t, []⟩) hs (Ext.refl _).new
  refine Ends.looped (fun m fr' h' => h' = H.new ⟨h.next, h.t, []⟩ (.cells [vi c, v] .own 24) ∧ ∃ i, m + i = ls.length ∧ Tr.get (Pos.ofNat 3) fr' = some (vi i) ∧ Tr.get (Pos.ofNat 1) fr' = some (.ptr h.next 0) ∧ linesErr c ls 0 = linesErr c ls i)
    (fun j fr' h' => h'.marks = [] ∧ ((j = .exit 0 ∧ linesErr c ls 0 = 0) ∨ (j = .ret ∧ Tr.get (Pos.ofNat 2) fr' = some (vi (linesErr c ls 0))))) ls.length ⟨rfl, 0, by simp⟩ (Nat.lt_trans (Nat.lt_succ_self _) hn) ?_ ?_
  · rintro m fr' h' ⟨rfl, i, h1, h2, h3, h5⟩
    by_cases hi : i < ls.length
    · obtain ⟨b, o, u, a1, a2, a3, a4⟩ := hb.at hi
      obtain ⟨v', t1, t2⟩ := hb.take (n := i) (by omega)
      have hw := wrap_succ hi hx
      have hE := lineErr_at (c := c) hi
      have hstep := linesErr_step (c := c) hi
      obtain ⟨m1, m2'⟩ := hn2 ls[i] (List.getElem_mem hi)
      have hcc := hc v' u (ls.take i) ls[i] _ t1 a4 (by simp; omega) (fun m hm => List.mem_of_mem_take hm)
      generalize hxs : ls[i] = xs at *
      by_cases h0 : xs.length = 0
      · rw [if_pos h0] at hE
        have h0' : xs = [] := List.eq_nil_of_length_eq_zero h0
        simp [h2, h3, hj, ↓hb.len, hi, ↓a2, ↓a3, ↓a4.len, h0']
        rw [h5, hstep, hE]; simp
      · rw [if_neg h0] at hE
        have h0' : ¬ xs = [] := fun he => h0 (by rw [he]; rfl)
        simp [h2, h3, hj, ↓hb.len, hi, ↓a2, ↓a3, ↓a4.len, h0']
        refine Ends.looped (fun m2 fr2 h2' => h2' = H.new ⟨h.next, h.t, []⟩ (.cells [vi c, v] .own 24) ∧ ∃ k, m2 + k = xs.length ∧ Tr.get (Pos.ofNat 5) fr2 = some (vi k) ∧ Tr.get (Pos.ofNat 4) fr2 = some u ∧ Tr.get (Pos.ofNat 3) fr2 = some (vi i) ∧ Tr.get (Pos.ofNat 1) fr2 = some (.ptr h.next 0) ∧ scanAt c xs 0 = scanAt c xs k)
          (fun j fr2 h2' => h2' = H.new ⟨h.next, h.t, []⟩ (.cells [vi c, v] .own 24) ∧ ((j = .exit 2 ∧ scanAt c xs 0 = 0 ∧ Tr.get (Pos.ofNat 4) fr2 = some u ∧ Tr.get (Pos.ofNat 3) fr2 = some (vi i) ∧ Tr.get (Pos.ofNat 1) fr2 = some (.ptr h.next 0)) ∨ (j = .ret ∧ scanAt c xs 0 ≠ 0 ∧ Tr.get (Pos.ofNat 2) fr2 = some (vi (scanAt c xs 0))))) xs.length ⟨rfl, 0, by simp [h2, h3]⟩ (Nat.lt_trans (Nat.lt_succ_self _) m1) ?_ ?_
        · rintro m2 fr2 h2' ⟨rfl, k, k1, k2, k3, k4, k5, k6⟩
          by_cases hk : k < xs.length
          · obtain ⟨b2, o2, d1, d2, d3⟩ := a4.at (i := k) (u := vi xs[k]) (by simp [hk])
            have hw2 := wrap_succ hk m2'
            have hs2 := scanAt_step (c := c) hk
            rcases Int.lt_or_le xs[k] 0 with e1 | e1
            · simp [k2, k3, k4, k5, hj, ↓a4.len, hk, ↓d2, ↓d3, e1, Int.not_le.2 e1]
              rw [k6, hs2]; simp [e1]
            · rcases Int.lt_or_le xs[k] c with e2 | e2
              · by_cases hk0 : 0 < k
                · obtain ⟨b3, o3, g1, g2, g3⟩ := a4.at (i := k - 1) (u := vi (xs[k - 1]'(by omega))) (by simp [show k - 1 < xs.length by omega])
                  have hw3 := wrap_pred hk0 (Nat.le_of_lt hk) m2'
                  rcases Int.lt_or_le (xs[k - 1]'(by omega)) xs[k] with e3 | e3
                  · simp [k2, k3, k4, k5, hj, ↓a4.len, hk, ↓d2, ↓d3, e1, e2, Int.not_lt.2 e1, Int.not_le.2 e2, hk0, hw3, ↓g2, ↓g3, e3, Int.not_le.2 e3, hw2]
                    refine ⟨m2 - 1, by omega, k + 1, by omega, by simp, ?_⟩
                    rw [k6, hs2]; simp [Int.not_lt.2 e1, Int.not_le.2 e2, Int.not_le.2 e3]
                  · simp [k2, k3, k4, k5, hj, ↓a4.len, hk, ↓d2, ↓d3, e1, e2, Int.not_lt.2 e1, Int.not_le.2 e2, hk0, hw3, ↓g2, ↓g3, e3, Int.not_lt.2 e3]
                    rw [k6, hs2]; simp [Int.not_lt.2 e1, Int.not_le.2 e2, e3, hk0]
                · simp [k2, k3, k4, k5, hj, ↓a4.len, hk, ↓d2, ↓d3, e1, e2, Int.not_lt.2 e1, Int.not_le.2 e2, hw2, hk0]
                  refine ⟨m2 - 1, by omega, k + 1, by omega, by simp, ?_⟩
                  rw [k6, hs2]; simp [Int.not_lt.2 e1, Int.not_le.2 e2, hk0]
              · simp [k2, k3, k4, k5, hj, ↓a4.len, hk, ↓d2, ↓d3, e1, e2, Int.not_lt.2 e1, Int.not_lt.2 e2]
                rw [k6, hs2]; simp [e1, e2]
          · simp [k2, k3, k4, k5, hj, ↓a4.len, hk]
            rw [k6, scanAt_end (by omega)]
        · rintro j fr2 h2' ⟨rfl, ⟨rfl, r1, r2, r3, r4⟩ | ⟨rfl, r1, r2⟩⟩
          · rw [if_pos r1] at hE
            cases hh : hasLine (ls.take i) xs with
            | true =>
              rw [hh] at hcc hE
              simp [r2, r3, r4, hj, ↓t2, hcc]
              rw [h5, hstep, hE]; simp
            | false =>
              rw [hh] at hcc hE
              simp [r2, r3, r4, hj, ↓t2, hcc, hw]
              refine ⟨m - 1, by omega, i + 1, by omega, by simp, ?_⟩
              rw [h5, hstep, hE]; simp
          · rw [if_neg r1] at hE
            simp [r2]
            rw [h5, hstep, hE, if_neg r1]
    · simp [h2, h3, hj, ↓hb.len, hi]
      rw [h5, linesErr_end (by omega)]
  · rintro j fr' h' ⟨hm, ⟨rfl, h1⟩ | ⟨rfl, h1⟩⟩
    · simp [h1, hm]
    · simp [h1, hm]
end Go.Proofs.YtdojpbbdcgfcnaaGreatDoor.AI.T
/- What the functions do, whatever their inputs, 4: the checks of systems. -/
set_option maxRecDepth 100000
namespace Go.Proofs.YtdojpbbdcgfcnaaGreatDoor.AI.T
open Go Go.Proofs.YtdojpbbdcgfcnaaGreatDoor.AI

def outside (lo hi : Int) (xs : List Int) : Bool := xs.any fun x => decide (x < lo) || decide (hi < x)

theorem fn89 (call : Call) (n : Nat) (lo hi : Int) (v : V) (xs : List Int) (h : H) (hs : SlcAt h v (xs.map vi))
    (hc : ∀ b1 b2 h', SlcAt h' v (xs.map vi) → (∀ f, h'.loadK none b1 0 f = f (vi lo)) → (∀ f, h'.loadK none b2 0 f = f (vi hi)) → h'.marks = [] → call (.fn (.func 160) [] []) [v, .fn (.func 193) [] [.ptr b1 0, .ptr b2 0]] h' = some (.bool (outside lo hi xs), h'))
    (h90 : ∀ b e h, call (.fn (.func 90) [] []) [.bool b, vi e] h = some (vi (if b = true then e else 0), h)) :
    ∃ h', bodyK call n f89 [vi lo, vi hi, v] h = some (vi (if outside lo hi xs = true then 3 else 0), h') := by
  refine body_tmp' rfl ?_
  have hs' : SlcAt ⟨h.next, h.t, []⟩ v (xs.map vi) := hs
  have hb : SlcAt (H.new (H.new ⟨h.next, h.t, []⟩ (.cells [vi lo] .own 3)) (.cells [vi hi] .own 3)) v (xs.map vi) := hs'.ext (Ext.refl _).new.new
  have hcc := hc h.next (H.new ⟨h.next, h.t, []⟩ (.cells [vi lo] .own 3)).next _ hb (fun f => by
    have : Old (H.new ⟨h.next, h.t, []⟩ (.cells [vi lo] .own 3)) h.next := old_next (h := ⟨h.next, h.t, []⟩)
    rw [loadK_new this]
    exact (loadK_box (h := ⟨h.next, h.t, []⟩) (o := 0)).trans (by simp)) (fun f => by simp) (by simp)
  simp [k89, hcc, h90]

theorem fn195 (call : Call) (n : Nat) (u w : V) (b : Pos) (e : Bool) (h : H) (h1 : ∀ f, h.loadK none b 0 f = f w) (hc : call (.fn (.func 196) [] []) [u, w] ⟨h.next, h.t, []⟩ = some (.bool e, ⟨h.next, h.t, []⟩)) :
    bodyK call n f195 [u, .ptr b 0] h = some (.bool e, h) := by
  refine body_tmp rfl ?_
  have h1' : ∀ f, H.loadK ⟨h.next, h.t, []⟩ none b 0 f = f w := h1
  simp [k195, h1', hc]

theorem fn274 (call : Call) (n : Nat) (v f : V) (vs : List V) (bs : List Bool) (h : H) (hs : SlcAt h v vs) (hb : bs.length = vs.length) (hn : vs.length + 1 < n) (hx : vs.length < 9223372036854775807)
    (hc : ∀ (i : Nat) (u : V) (b : Bool), vs[i]? = some u → bs[i]? = some b → call f [u] ⟨h.next, h.t, []⟩ = some (.bool b, ⟨h.next, h.t, []⟩)) : bodyK call n f274 [v, f] h = some (vi (idxOf id bs 0), h) := by
  refine body_tmp rfl ?_
  simp [k274, hs.len]
  refine Ends.looped (fun m fr' h' => h' = ⟨h.next, h.t, []⟩ ∧ ∃ i, m + i = vs.length ∧ Tr.get (Pos.ofNat 8) fr' = some (vi i) ∧ Tr.get (Pos.ofNat 7) fr' = some (vi vs.length) ∧ Tr.get (Pos.ofNat 0) fr' = some v ∧ Tr.get (Pos.ofNat 1) fr' = some f ∧ idxOf id bs 0 = idxOf id (bs.drop i) i)
    (fun j fr' h' => h' = ⟨h.next, h.t, []⟩ ∧ ((j = .exit 0 ∧ idxOf id bs 0 = -1) ∨ (j = .ret ∧ Tr.get (Pos.ofNat 4) fr' = some (vi (idxOf id bs 0))))) vs.length ⟨rfl, 0, by simp⟩ (Nat.lt_trans (Nat.lt_succ_self _) hn) ?_ ?_
  · rintro m fr' h' ⟨rfl, i, h1, h2, h3, h4, h4', h5⟩
    by_cases hi : i < vs.length
    · have hi' : i < bs.length := by omega
      obtain ⟨b, o, a1, a2, a3⟩ := hs.bare.at (i := i) (u := vs[i]) (by simp [hi])
      have hf := idxOf_drop (P := id) (List.getElem?_eq_getElem hi')
      have hw := wrap_succ hi hx
      have hcc := hc i vs[i] bs[i] (List.getElem?_eq_getElem hi) (List.getElem?_eq_getElem hi')
      by_cases h0 : bs[i] = true
      · simp [h2, h3, h4, h4', hi, ↓a2, ↓a3, h0, hcc]
        rw [h5, hf]; simp [h0]
      · simp [h2, h3, h4, h4', hi, ↓a2, ↓a3, h0, hcc, hw]
        refine ⟨m - 1, by omega, i + 1, by omega, by simp, ?_⟩
        rw [h5, hf]; simp [h0]
    · simp [h2, h3, hi]
      rw [h5, List.drop_eq_nil_of_le (by omega)]; rfl
  · rintro j fr' h' ⟨rfl, ⟨rfl, h1⟩ | ⟨rfl, h1⟩⟩
    · simp [h1]
    · simp [h1]
theorem fn194 (call : Call) (n : Nat) (v f : V) (bs : List Bool) (h : H)
    (hc : call (.fn (.func 274) [] []) [v, f] ⟨h.next, h.t, []⟩ = some (vi (idxOf id bs 0), ⟨h.next, h.t, []⟩)) : bodyK call n f194 [v, f] h = some (.bool (bs.any id), h) := by
  refine body_tmp rfl ?_
  simp [k194, hc]
  have := idxOf_nonneg (P := id) bs 0
  simpa using this
end Go.Proofs.YtdojpbbdcgfcnaaGreatDoor.AI.T
/- What the functions do, whatever their inputs, 5: a line of a system, a system. -/
set_option maxRecDepth 100000
namespace Go.Proofs.YtdojpbbdcgfcnaaGreatDoor.AI.T
open Go Go.Proofs.YtdojpbbdcgfcnaaGreatDoor.AI

theorem built {h : H} {ty : TypeId} (es : List Int) {n : Nat} (hn : es.length = n) : SlcAt (h.new (.cells (es.map vi) .own ty)) (.slc h.next 0 n (.known n)) (es.map vi) := by
  subst hn
  refine .inr ⟨h.next, 0, es.length, es.map vi, .own, ty, by simp, by simp, get_new_next, old_next, fun i u hi => ?_⟩
  rw [Nat.zero_add]
  refine ⟨hi, ?_⟩
  rw [List.getElem?_map] at hi
  cases he : es[i]? with
  | none => rw [he] at hi; cases hi
  | some e => rw [he] at hi; cases hi; rfl

set_option maxHeartbeats 4000000 in
theorem fn91 (call : Call) (n : Nat) (c : Int) (v : V) (ls : List (List Int)) (i : Nat) (xs : List Int) (h : H) (hs : LinesAt h v ls) (hi : i < ls.length) (hxs : ls[i] = xs) (hx : ls.length < 9223372036854775807) (m1 : xs.length + 1 < n) (m2' : xs.length < 9223372036854775807)
    (h90 : ∀ b e h, call (.fn (.func 90) [] []) [.bool b, vi e] h = some (vi (if b = true then e else 0), h))
    (h88 : ∀ w (es : List Int) h, SlcAt h w (es.map vi) → es.length ≤ 3 → call (.fn (.func 88) [] []) [w] h = some (vi (firstOf es), h))
    (h194 : ∀ (v w : V) (ms : List (List Int)) (b : Pos) (h : H), LinesAt h v ms → SlcAt h w (xs.map vi) → (∀ f, h.loadK none b 0 f = f w) → ms.length ≤ ls.length → (∀ m ∈ ms, m ∈ ls) → call (.fn (.func 194) [] []) [v, .fn (.func 195) [] [.ptr b 0]] h = some (.bool (hasLine ms xs), h)) :
    ∃ h', bodyK call n f91 [.agg [vi c, v], vi i] h = some (vi (lineErr c ls i), h') := by
  refine body_tmp' rfl ?_
  have hj := hs.junk
  generalize hH0 : (⟨h.next, h.t, []⟩ : H) = H0
  have hs0 : LinesAt H0 v ls := by rw [← hH0]; exact hs
  have hm0 : H0.marks = [] := by rw [← hH0]
  clear hs hH0
  -- the box
  generalize hH1 : H0.new (.cells [vi c, v] .own 24) = H1
  have x01 : Ext H0 H1 := by rw [← hH1]; exact (Ext.refl _).new
  have bo : Old H1 H0.next := by rw [← hH1]; exact old_next
  have b0 : ∀ f, H1.loadK none H0.next 0 f = f (vi c) := fun f => by rw [← hH1]; simp
  have b1 : ∀ f, H1.loadK none H0.next 1 f = f v := fun f => by rw [← hH1]; simp [hj]
  have hs1 := hs0.ext x01
  have hm1 : H1.marks = [] := x01.marks.trans hm0
  obtain ⟨b, o, u, a1, a2, a3, a4⟩ := hs1.at hi
  rw [hxs] at a4
  have hE := lineErr_at (c := c) hi
  rw [hxs] at hE
  -- the line's variable
  have hu1 : onesK [u] = true := by show (Bool.casesOn u.isOne false true : Bool) = true; rw [a4.one]
  generalize hH2 : H1.new (.cells [.nils] .own 36) = H2
  have g2 : H2.get H1.next = some (.cells [.nils] .own 36) := by rw [← hH2]; exact get_new_next
  have hst : ∀ f, H2.storeK H1.next 0 [u] f = f (H2.put H1.next (some (.cells [u] .own 36))) := fun f => by
    rw [storeK_box g2 rfl hu1 (by simp)]; rfl
  have x12 : Ext H1 H2 := by rw [← hH2]; exact (Ext.refl _).new
  have hno : ¬ Old H1 H1.next := by simp [Old]
  have on2 : Old H2 H1.next := by rw [← hH2]; exact old_next
  generalize hH3 : H2.put H1.next (some (.cells [u] .own 36)) = H3 at hst
  have x13 : Ext H1 H3 := by rw [← hH3]; exact x12.put hno
  have on3 : Old H3 H1.next := by rw [← hH3]; exact on2
  have c5 : ∀ f, H3.loadK none H1.next 0 f = f u := fun f => by
    rw [loadK_none, ← hH3, get_put_same]; simp [a4.junk]
  have hm3 : H3.marks = [] := x13.marks.trans hm1
  have cb0 : ∀ f, H3.loadK none H0.next 0 f = f (vi c) := fun f => by rw [x13.load bo]; exact b0 f
  have cb1 : ∀ f, H3.loadK none H0.next 1 f = f v := fun f => by rw [x13.load bo]; exact b1 f
  by_cases h0 : xs.length = 0
  · rw [if_pos h0] at hE
    have h0' : xs = [] := List.eq_nil_of_length_eq_zero h0
    simp [k91, hH1, ↓b1, ↓a2, ↓a3, hH2, ↓hst, ↓c5, ↓a4.len, a4.cells, h0', hE, hm3]
  rw [if_neg h0] at hE
  have h0' : ¬ xs = [] := fun he => h0 (by rw [he]; rfl)
  simp [k91, hH1, ↓b1, ↓a2, ↓a3, hH2, ↓hst, ↓c5, ↓a4.len, a4.cells, h0']
  refine Ends.looped (fun m fr' h' => Ext H3 h' ∧ ∃ k, m + k = xs.length ∧ Tr.get (Pos.ofNat 19) fr' = some (vi k) ∧ Tr.get (Pos.ofNat 18) fr' = some (vi xs.length) ∧ Tr.get (Pos.ofNat 17) fr' = some u ∧ Tr.get (Pos.ofNat 5) fr' = some (.ptr H1.next 0) ∧ Tr.get (Pos.ofNat 2) fr' = some (.ptr H0.next 0) ∧ Tr.get (Pos.ofNat 1) fr' = some (vi i) ∧ scanAt c xs 0 = scanAt c xs k)
    (fun j fr' h' => Ext H3 h' ∧ ((j = .exit 0 ∧ scanAt c xs 0 = 0 ∧ Tr.get (Pos.ofNat 5) fr' = some (.ptr H1.next 0) ∧ Tr.get (Pos.ofNat 2) fr' = some (.ptr H0.next 0) ∧ Tr.get (Pos.ofNat 1) fr' = some (vi i)) ∨ (j = .ret ∧ scanAt c xs 0 ≠ 0 ∧ Tr.get (Pos.ofNat 4) fr' = some (vi (scanAt c xs 0))))) xs.length ⟨Ext.refl _, 0, by simp⟩ (Nat.lt_trans (Nat.lt_succ_self _) m1) ?_ ?_
  · rintro m fr' h' ⟨xh, k, k1, k2, k3, k4, k5, k6, k7, k8⟩
    by_cases hk : k < xs.length
    · have x1h := x13.trans xh
      have au := a4.ext x1h
      obtain ⟨b2, o2, d1, d2, d3⟩ := au.at (i := k) (u := vi xs[k]) (by simp [hk])
      have q0 : ∀ f, h'.loadK none H0.next 0 f = f (vi c) := fun f => by rw [x1h.load bo]; exact b0 f
      have q5 : ∀ f, h'.loadK none H1.next 0 f = f u := fun f => by rw [xh.load on3]; exact c5 f
      have hw2 := wrap_succ hk m2'
      have hs2 := scanAt_step (c := c) hk
      have e88 : ∀ es : List Int, es.length = 2 → call (.fn (.func 88) [] []) [.slc h'.next 0 2 (.known 2)] (h'.new (.cells (es.map vi) .own 30)) = some (vi (firstOf es), h'.new (.cells (es.map vi) .own 30)) := fun es he => h88 _ es _ (built es he) (by omega)
      by_cases hk0 : 0 < k
      · obtain ⟨b3, o3, g1, g2, g3⟩ := au.at (i := k - 1) (u := vi (xs[k - 1]'(by omega))) (by simp [show k - 1 < xs.length by omega])
        have hw3 := wrap_pred hk0 (Nat.le_of_lt hk) m2'
        rcases Int.lt_or_le (xs[k - 1]'(by omega)) xs[k] with e3 | e3
        · have e3' := Int.not_le.2 e3
          rcases Int.lt_or_le xs[k] 0 with e1 | e1
          · have h88' := e88 [10, 0] rfl
            simp [k2, k3, k4, k5, k6, hk, ↓d2, ↓d3, e1, Int.not_le.2 e1, h90, hk0, ↓q5, hw3, ↓g2, ↓g3, e3, e3', repL, setAt]
            simp [firstOf] at h88'
            simp [h88']
            rw [k8, hs2]; simp [e1]; exact xh.new
          · rcases Int.lt_or_le xs[k] c with e2 | e2
            · have h88' := e88 [0, 0] rfl
              simp [k2, k3, k4, k5, k6, hk, ↓d2, ↓d3, e1, Int.not_lt.2 e1, ↓q0, e2, Int.not_le.2 e2, h90, hk0, ↓q5, hw3, ↓g2, ↓g3, e3, e3', repL, setAt]
              simp [firstOf] at h88'
              simp [h88', k2, k3, k4, k5, k6, k7, hw2]
              refine ⟨m - 1, by omega, xh.new, k + 1, by omega, by simp, ?_⟩
              rw [k8, hs2]; simp [Int.not_lt.2 e1, Int.not_le.2 e2, e3']
            · have h88' := e88 [10, 0] rfl
              simp [k2, k3, k4, k5, k6, hk, ↓d2, ↓d3, e1, Int.not_lt.2 e1, ↓q0, e2, Int.not_lt.2 e2, h90, hk0, ↓q5, hw3, ↓g2, ↓g3, e3, e3', repL, setAt]
              simp [firstOf] at h88'
              simp [h88']
              rw [k8, hs2]; simp [e2]; exact xh.new
        · have e3' := Int.not_lt.2 e3
          rcases Int.lt_or_le xs[k] 0 with e1 | e1
          · have h88' := e88 [10, 11] rfl
            simp [k2, k3, k4, k5, k6, hk, ↓d2, ↓d3, e1, Int.not_le.2 e1, h90, hk0, ↓q5, hw3, ↓g2, ↓g3, e3, e3', repL, setAt]
            simp [firstOf] at h88'
            simp [h88']
            rw [k8, hs2]; simp [e1]; exact xh.new
          · rcases Int.lt_or_le xs[k] c with e2 | e2
            · have h88' := e88 [0, 11] rfl
              simp [k2, k3, k4, k5, k6, hk, ↓d2, ↓d3, e1, Int.not_lt.2 e1, ↓q0, e2, Int.not_le.2 e2, h90, hk0, ↓q5, hw3, ↓g2, ↓g3, e3, e3', repL, setAt]
              simp [firstOf] at h88'
              simp [h88']
              rw [k8, hs2]; simp [Int.not_lt.2 e1, Int.not_le.2 e2, e3, hk0]; exact xh.new
            · have h88' := e88 [10, 11] rfl
              simp [k2, k3, k4, k5, k6, hk, ↓d2, ↓d3, e1, Int.not_lt.2 e1, ↓q0, e2, Int.not_lt.2 e2, h90, hk0, ↓q5, hw3, ↓g2, ↓g3, e3, e3', repL, setAt]
              simp [firstOf] at h88'
              simp [h88']
              rw [k8, hs2]; simp [e2]; exact xh.new
      · rcases Int.lt_or_le xs[k] 0 with e1 | e1
        · have h88' := e88 [10, 0] rfl
          simp [k2, k3, k4, k5, k6, hk, ↓d2, ↓d3, e1, Int.not_le.2 e1, h90, hk0, repL, setAt]
          simp [firstOf] at h88'
          simp [h88']
          rw [k8, hs2]; simp [e1]; exact xh.new
        · rcases Int.lt_or_le xs[k] c with e2 | e2
          · have h88' := e88 [0, 0] rfl
            simp [k2, k3, k4, k5, k6, hk, ↓d2, ↓d3, e1, Int.not_lt.2 e1, ↓q0, e2, Int.not_le.2 e2, h90, hk0, repL, setAt]
            simp [firstOf] at h88'
            simp [h88', k2, k3, k4, k5, k6, k7, hw2]
            refine ⟨m - 1, by omega, xh.new, k + 1, by omega, by simp, ?_⟩
            rw [k8, hs2]; simp [Int.not_lt.2 e1, Int.not_le.2 e2, hk0]
          · have h88' := e88 [10, 0] rfl
            simp [k2, k3, k4, k5, k6, hk, ↓d2, ↓d3, e1, Int.not_lt.2 e1, ↓q0, e2, Int.not_lt.2 e2, h90, hk0, repL, setAt]
            simp [firstOf] at h88'
            simp [h88']
            rw [k8, hs2]; simp [e2]; exact xh.new
    · simp [k2, k3, k5, k6, k7, hk, xh]
      rw [k8, scanAt_end (by omega)]
  · rintro j fr' h' ⟨xh, ⟨rfl, r1, r2, r3, r4⟩ | ⟨rfl, r1, r2⟩⟩
    · have x1h := x13.trans xh
      have hlh := hs1.ext x1h
      obtain ⟨v', t1, t2⟩ := hlh.take (n := i) (by omega)
      have q1 : ∀ f, h'.loadK none H0.next 1 f = f v := fun f => by rw [x1h.load bo]; exact b1 f
      have q5 : ∀ f, h'.loadK none H1.next 0 f = f u := fun f => by rw [xh.load on3]; exact c5 f
      have e194 := h194 v' u (ls.take i) H1.next h' t1 (a4.ext x1h) q5 (by simp; omega) (fun m hm => List.mem_of_mem_take hm)
      rw [if_pos r1] at hE
      simp [r2, r3, r4, ↓q1, ↓t2, e194, h90, hE, xh.marks.trans hm3]
    · rw [if_neg r1] at hE
      simp [r2, hE, xh.marks.trans hm3]
end Go.Proofs.YtdojpbbdcgfcnaaGreatDoor.AI.T
/- What the functions do, whatever their inputs, 6: CheckSystem. -/
set_option maxRecDepth 100000
namespace Go.Proofs.YtdojpbbdcgfcnaaGreatDoor.AI.T
open Go Go.Proofs.YtdojpbbdcgfcnaaGreatDoor.AI

set_option maxHeartbeats 4000000 in
theorem fn19 (call : Call) (n : Nat) (c : Int) (v : V) (ls : List (List Int)) (h : H) (hs : LinesAt h v ls) (hn : ls.length + 1 < n) (hx : ls.length < 9223372036854775807)
    (h90 : ∀ b e h, call (.fn (.func 90) [] []) [.bool b, vi e] h = some (vi (if b = true then e else 0), h))
    (h88 : ∀ w (es : List Int) h, SlcAt h w (es.map vi) → es.length ≤ 3 → call (.fn (.func 88) [] []) [w] h = some (vi (firstOf es), h))
    (h89 : ∀ lo hi w (es : List Int) h, SlcAt h w (es.map vi) → es.length ≤ 3 → call (.fn (.func 89) [] []) [vi lo, vi hi, w] h = some (vi (if outside lo hi es = true then 3 else 0), h))
    (h91 : ∀ (i : Nat) h, LinesAt h v ls → i < ls.length → call (.fn (.func 91) [] []) [.agg [vi c, v], vi i] h = some (vi (lineErr c ls i), h)) :
    ∃ h', bodyK call n f19 [.agg [vi c, v]] h = some (vi (sysErr c ls), h') := by
  refine body_tmp' rfl ?_
  have hj := hs.junk
  have hq : eqD 1000 v v = true := by obtain ⟨vs, h1, _⟩ := hs; exact h1.eqD
  generalize hH0 : (⟨h.next, h.t, []⟩ : H) = H0
  have hs0 : LinesAt H0 v ls := by rw [← hH0]; exact hs
  have hm0 : H0.marks = [] := by rw [← hH0]
  clear hs hH0
  generalize hH1 : H0.new (.cells [vi c, v] .own 24) = H1
  have x01 : Ext H0 H1 := by rw [← hH1]; exact (Ext.refl _).new
  have bo : Old H1 H0.next := by rw [← hH1]; exact old_next
  have b0 : ∀ f, H1.loadK none H0.next 0 f = f (vi c) := fun f => by rw [← hH1]; simp
  have b1 : ∀ f, H1.loadK none H0.next 1 f = f v := fun f => by rw [← hH1]; simp [hj]
  have b2 : ∀ f, H1.loadK (some 2) H0.next 0 f = f (.agg [vi c, v]) := fun f => by rw [← hH1]; simp [hj]
  have hs1 := hs0.ext x01
  have hm1 : H1.marks = [] := x01.marks.trans hm0
  have bu1 := built (h := H1) (ty := 3) [c] (n := 1) rfl
  have e89 := h89 1 256 _ [c] _ bu1 (by simp)
  generalize hH2 : H1.new (.cells ([c].map vi) .own 3) = H2 at e89 bu1
  have x12 : Ext H1 H2 := by rw [← hH2]; exact (Ext.refl _).new
  have c1 : ∀ f, H2.loadK none H0.next 1 f = f v := fun f => by rw [x12.load bo]; exact b1 f
  have e88 : ∀ es : List Int, es.length = 2 → call (.fn (.func 88) [] []) [.slc H2.next 0 2 (.known 2)] (H2.new (.cells (es.map vi) .own 30)) = some (vi (firstOf es), H2.new (.cells (es.map vi) .own 30)) := fun es he => h88 _ es _ (built es he) (by omega)
  have hH2' : H1.new (.cells [vi c] .own 3) = H2 := hH2
  have hm2 : H2.marks = [] := x12.marks.trans hm1
  rcases Int.lt_or_le c 1 with g1 | g1
  · have ho : outside 1 256 [c] = true := by simp [outside, g1]
    rw [ho] at e89
    have hsys : sysErr c ls = 3 := by unfold sysErr; rw [if_pos (.inl g1)]
    rcases Int.lt_or_le 128 ls.length with g3 | g3
    · have := e88 [3, 5] rfl
      simp [k19, hH1, ↓b0, ↓b1, ↓hs1.len, g3, repL, setAt, hH2', e89, ↓c1, hq, h90]
      simp [firstOf] at this
      simp [this, hsys, hm2]
    · have := e88 [3, 0] rfl
      simp [k19, hH1, ↓b0, ↓b1, ↓hs1.len, g3, Int.not_lt.2 g3, repL, setAt, hH2', e89, ↓c1, hq, h90]
      simp [firstOf] at this
      simp [this, hsys, hm2]
  rcases Int.lt_or_le 256 c with g2 | g2
  · have ho : outside 1 256 [c] = true := by simp [outside, g2]
    rw [ho] at e89
    have hsys : sysErr c ls = 3 := by unfold sysErr; rw [if_pos (.inr g2)]
    rcases Int.lt_or_le 128 ls.length with g3 | g3
    · have := e88 [3, 5] rfl
      simp [k19, hH1, ↓b0, ↓b1, ↓hs1.len, g3, repL, setAt, hH2', e89, ↓c1, hq, h90]
      simp [firstOf] at this
      simp [this, hsys, hm2]
    · have := e88 [3, 0] rfl
      simp [k19, hH1, ↓b0, ↓b1, ↓hs1.len, g3, Int.not_lt.2 g3, repL, setAt, hH2', e89, ↓c1, hq, h90]
      simp [firstOf] at this
      simp [this, hsys, hm2]
  have ho : outside 1 256 [c] = false := by simp [outside]; omega
  rw [ho] at e89
  rcases Int.lt_or_le 128 ls.length with g3 | g3
  · have hsys : sysErr c ls = 5 := by unfold sysErr; rw [if_neg (by omega), if_pos g3]
    have := e88 [0, 5] rfl
    simp [k19, hH1, ↓b0, ↓b1, ↓hs1.len, g3, repL, setAt, hH2', e89, ↓c1, hq, h90]
    simp [firstOf] at this
    simp [this, hsys, hm2]
  have hsys : sysErr c ls = linesErr c ls 0 := by unfold sysErr; rw [if_neg (by omega), if_neg (by omega)]
  have e88' := e88 [0, 0] rfl
  simp [k19, hH1, ↓b0, ↓b1, ↓hs1.len, g3, Int.not_lt.2 g3, repL, setAt, hH2', e89, ↓c1, hq, h90]
  generalize hH3 : H2.new (.cells ([0, 0].map vi) .own 30) = H3 at e88'
  have hH3' : H2.new (.cells [vi 0, vi 0] .own 30) = H3 := hH3
  have x23 : Ext H2 H3 := by rw [← hH3]; exact (Ext.refl _).new
  have x13 := x12.trans x23
  have d1 : ∀ f, H3.loadK none H0.next 1 f = f v := fun f => by rw [x13.load bo]; exact b1 f
  have d2 : ∀ f, H3.loadK (some 2) H0.next 0 f = f (.agg [vi c, v]) := fun f => by rw [x13.load bo]; exact b2 f
  have hs3 := hs1.ext x13
  have hm3 : H3.marks = [] := x23.marks.trans hm2
  simp [firstOf] at e88'
  simp [hH3', e88', ↓d1, ↓hs3.len]
  rw [hsys]
  refine Ends.looped (fun m fr' h' => h' = H3 ∧ ∃ i, m + i = ls.length ∧ Tr.get (Pos.ofNat 23) fr' = some (vi i) ∧ Tr.get (Pos.ofNat 22) fr' = some (vi ls.length) ∧ Tr.get (Pos.ofNat 1) fr' = some (.ptr H0.next 0) ∧ linesErr c ls 0 = linesErr c ls i)
    (fun j fr' h' => h' = H3 ∧ ((j = .exit 0 ∧ linesErr c ls 0 = 0) ∨ (j = .ret ∧ Tr.get (Pos.ofNat 2) fr' = some (vi (linesErr c ls 0))))) ls.length ⟨rfl, 0, by simp⟩ (Nat.lt_trans (Nat.lt_succ_self _) hn) ?_ ?_
  · rintro m fr' h' ⟨rfl, i, h1, h2, h3, h4, h5⟩
    by_cases hi : i < ls.length
    · have e91 := h91 i _ hs3 hi
      have hw := wrap_succ hi hx
      have hstep := linesErr_step (c := c) hi
      by_cases h0 : lineErr c ls i = 0
      · rw [h0] at e91
        simp [h2, h3, h4, hi, ↓d2, e91, hw]
        refine ⟨m - 1, by omega, i + 1, by omega, by simp, ?_⟩
        rw [h5, hstep, if_pos h0]
      · simp [h2, h3, h4, hi, ↓d2, e91, h0]
        rw [h5, hstep, if_neg h0]
    · simp [h2, h3, hi]
      rw [h5, linesErr_end (by omega)]
  · rintro j fr' h' ⟨rfl, ⟨rfl, h1⟩ | ⟨rfl, h1⟩⟩
    · simp [h1, hm3]
    · simp [h1, hm3]
end Go.Proofs.YtdojpbbdcgfcnaaGreatDoor.AI.T
/- What the functions do, whatever their inputs, 7: graphs. -/
set_option maxRecDepth 100000
namespace Go.Proofs.YtdojpbbdcgfcnaaGreatDoor.AI.T
open Go Go.Proofs.YtdojpbbdcgfcnaaGreatDoor.AI

section
variable {cx : Cx} {e : List V} {fr : Fr} {h : H} {k : V → H → Res}
noncomputable def idxA (len sz : Nat) (v w : V) (k : Pos → Nat → Res) : Res := v.onPtr (fun b o => w.onIndex len (fun i => k b (o + i * sz)) none) none
@[congr] theorem idxA_congr {len sz : Nat} {v v' w w' : V} {f : Pos → Nat → Res} (hv : v = v') (hw : w = w') : idxA len sz v w f = idxA len sz v' w' f := by rw [hv, hw]
@[simp, simp ↓] theorem sIndexArr_s {len sz : Nat} {x i : O} : sIndexArr len sz x i cx e fr h k = evK e fr x fun v => evK e fr i fun w => idxA len sz v w fun b o => k (.ptr b o) h := by
  show evK e fr x (fun v => evK e fr i fun w => v.onPtr (fun b o => w.onIndex len (fun i => natK (Nat.add o (Nat.mul i sz)) fun o => k (.ptr b o) h) none) none) = _
  simp only [natK_eq]; rfl
@[simp, simp ↓] theorem idxA_0 {b : Pos} {o : Nat} {f : Pos → Nat → Res} : idxA 2 1 (.ptr b o) (vi 0) f = f b (o + 0) := Eq.trans rfl rfl
@[simp, simp ↓] theorem idxA_1 {b : Pos} {o : Nat} {f : Pos → Nat → Res} : idxA 2 1 (.ptr b o) (vi 1) f = f b (o + 1) := Eq.trans rfl rfl
@[simp, simp ↓] theorem eqV_pair {a b c d : Int} : eqV (.parts [(0, .i), (1, .i)]) (.agg [vi a, vi b]) (.agg [vi c, vi d]) = some (decide (a = c) && decide (b = d)) := by
  show eqParts [(0, .i), (1, .i)] [vi a, vi b] [vi c, vi d] = _
  have h1 : eqS .i (vi a) (vi c) = some (decide (a = c)) := by simp [eqS, eqI_eq]
  have h2 : eqS .i (vi b) (vi d) = some (decide (b = d)) := by simp [eqS, eqI_eq]
  simp only [eqParts, List.getElem?_cons_zero, List.getElem?_cons_succ, h1, h2]
  cases decide (a = c) <;> cases decide (b = d) <;> rfl

def EdgesAt (h : H) (v : V) (es : List (Int × Int)) : Prop :=
  ((v = .nils ∨ ∃ b, v = .odd b) ∧ es = []) ∨ ∃ b o c l kd ty, v = .slc b o es.length (.known c) ∧ es.length ≤ c ∧ h.get b = some (.cells l kd ty) ∧ Old h b ∧ ∀ (i : Nat) (x : Int × Int), es[i]? = some x → (l.drop (o + i * 2)).take 2 = [vi x.1, vi x.2]
theorem EdgesAt.len {v : V} {es : List (Int × Int)} (hs : EdgesAt h v es) (f : V → Res) : lenS v f = f (vi es.length) := by
  rcases hs with ⟨rfl | ⟨b, rfl⟩, rfl⟩ | ⟨b, o, c, l, kd, ty, rfl, _⟩ <;> rfl
theorem EdgesAt.junk {v : V} {es : List (Int × Int)} (hs : EdgesAt h v es) : v.isJunk = false := by
  rcases hs with ⟨rfl | ⟨b, rfl⟩, rfl⟩ | ⟨b, o, c, l, kd, ty, rfl, _⟩ <;> rfl
theorem EdgesAt.eqD {v : V} {es : List (Int × Int)} (hs : EdgesAt h v es) {n : Nat} : eqD (n + 1) v v = true := by
  rcases hs with ⟨rfl | ⟨b, rfl⟩, rfl⟩ | ⟨b, o, c, l, kd, ty, rfl, _⟩
  · rfl
  · simp [Go.Proofs.YtdojpbbdcgfcnaaGreatDoor.AI.eqD]
  · simp [Go.Proofs.YtdojpbbdcgfcnaaGreatDoor.AI.eqD]
theorem EdgesAt.at {v : V} {es : List (Int × Int)} (hs : EdgesAt h v es) {i : Nat} (hi : i < es.length) : ∃ b o, Old h b ∧ (∀ kd f, idxS 2 v (.int kd i) f = f b o) ∧ ∀ f, h.loadK (some 2) b o f = f (.agg [vi es[i].1, vi es[i].2]) := by
  rcases hs with ⟨_, rfl⟩ | ⟨b, o, c, l, kd, ty, rfl, hc, hb, hold, hl⟩
  · simp at hi
  · have h1 := hl i es[i] (List.getElem?_eq_getElem hi)
    have hlen := congrArg List.length h1
    simp at hlen
    refine ⟨b, o + i * 2, hold, fun kd f => ?_, fun f => ?_⟩
    · simp only [idxS, onSlc_s]; rw [onIndex_nat hi]
    · rw [loadK_take, hb]
      show (if _ then _ else _ : Res) = _
      rw [if_pos ⟨by omega, by simp; omega, by rw [h1]; simp⟩, h1]
theorem EdgesAt.ext {h h' : H} {v : V} {es : List (Int × Int)} (hs : EdgesAt h v es) (hh : Ext h h') : EdgesAt h' v es := by
  rcases hs with h1 | ⟨b, o, c, l, kd, ty, h1, h2, h3, h4, h5⟩
  · exact .inl h1
  · exact .inr ⟨b, o, c, l, kd, ty, h1, h2, by rw [hh.get b h4]; exact h3, hh.old h4, h5⟩
theorem EdgesAt.ro {h : H} {v : V} {es : List (Int × Int)} (hs : EdgesAt h v es) : EdgesAt h.ro v es := by
  rcases hs with h1 | ⟨b, o, c, l, kd, ty, h1, h2, h3, h4, h5⟩
  · exact .inl h1
  · exact .inr ⟨b, o, c, l, .ro, ty, h1, h2, H.get_ro_cells h3, h4, h5⟩
theorem EdgesAt.uniq {v : V} {es fs : List (Int × Int)} (hs : EdgesAt h v es) (ht : EdgesAt h v fs) : es = fs := by
  rcases hs with ⟨hv, rfl⟩ | ⟨b, o, c, l, kd, ty, rfl, h2, h3, h4, h5⟩
  · rcases ht with ⟨_, rfl⟩ | ⟨b, o, c, l, kd, ty, h1, _⟩
    · rfl
    · subst h1
      rcases hv with hv | ⟨_, hv⟩ <;> cases hv
  · rcases ht with ⟨h1, _⟩ | ⟨b', o', c', l', kd', ty', h1, k2, k3, k4, k5⟩
    · rcases h1 with h1 | ⟨_, h1⟩ <;> cases h1
    · obtain ⟨rfl, rfl, hlen, _⟩ := V.slc.inj h1
      rw [h3] at k3; cases k3
      refine List.ext_getElem hlen fun i hi hj => ?_
      have e1 := h5 i _ (List.getElem?_eq_getElem hi)
      have e2 := k5 i _ (List.getElem?_eq_getElem hj)
      rw [e1] at e2
      simp at e2
      exact Prod.ext e2.1 e2.2
theorem EdgesAt.take {v : V} {es : List (Int × Int)} (hs : EdgesAt h v es) {n : Nat} (hn : n ≤ es.length) : ∃ v', EdgesAt h v' (es.take n) ∧ ∀ (cx : Cx) (e : List V) (fr : Fr) (x i : O) (k : V → H → Res) (h' : H), ev e fr x = some v → ev e fr i = some (.int .i64 n) → sSlice 2 x none (some i) none cx e fr h' k = k v' h' := by
  rcases hs with ⟨rfl | ⟨b, rfl⟩, rfl⟩ | ⟨b, o, c, l, kd, ty, rfl, hc, hb, hold, hl⟩
  · have : n = 0 := by simpa using hn
    subst this
    refine ⟨.nils, .inl ⟨.inl rfl, rfl⟩, fun cx e fr x i k h' hx hi => ?_⟩
    show evK e fr x (fun v => (V.casesOn v _ _ _ _ _ _ _ _ _ _ _ _ _ _ _ _ _ _ : Res)) = _
    rw [evK_eq, hx]
    show evK e fr i (fun v => v.onIndex 1 (fun _ => k .nils h') none) = _
    rw [evK_eq, hi]
    exact onIndex_nat (by omega)
  · have : n = 0 := by simpa using hn
    subst this
    refine ⟨.odd b, .inl ⟨.inr ⟨b, rfl⟩, rfl⟩, fun cx e fr x i k h' hx hi => ?_⟩
    show evK e fr x (fun v => (V.casesOn v _ _ _ _ _ _ _ _ _ _ _ _ _ _ _ _ _ _ : Res)) = _
    rw [evK_eq, hx]
    show evK e fr i (fun v => v.onIndex 1 (fun _ => k (.odd b) h') none) = _
    rw [evK_eq, hi]
    exact onIndex_nat (by omega)
  · refine ⟨.slc b o n (.known c), .inr ⟨b, o, c, l, kd, ty, by simp [List.length_take, Nat.min_eq_left hn], by simp; omega, hb, hold, fun i u hi => ?_⟩, fun cx e fr x i k h' hx hi => ?_⟩
    · rw [List.getElem?_take] at hi
      split at hi
      · exact hl i u hi
      · cases hi
    · show evK e fr x (fun v => (V.casesOn v _ _ _ _ _ _ _ _ _ _ _ _ _ _ _ _ _ _ : Res)) = _
      rw [evK_eq, hx]
      show (evK e fr i fun v => v.onIndex (Nat.succ c) (fun hh => (Bool.casesOn (Nat.beq c 0)
          (natK (Nat.add o (Nat.mul 0 2)) fun o => natK (Nat.sub hh 0) fun n => natK (Nat.sub c 0) fun c => k (.slc b o n (.known c)) h')
          (natK (Nat.sub hh 0) fun n => k (.slc b o n (.known 0)) h') : Res)) none) = _
      rw [evK_eq, hi]
      show (V.int .i64 (n : Int)).onIndex (Nat.succ c) _ none = _
      rw [onIndex_nat (by omega)]
      simp only [natK_eq]
      cases hb0 : Nat.beq c 0 with
      | false => simp
      | true =>
        have := Nat.eq_of_beq_eq_true hb0
        subst this; simp
end

def hasEdge (es : List (Int × Int)) (x : Int × Int) : Bool := es.any fun y => decide (y.1 = x.1) && decide (y.2 = x.2)
theorem hasEdge_drop {es : List (Int × Int)} {x : Int × Int} {i : Nat} (h : i < es.length) : hasEdge (es.drop i) x = ((decide (es[i].1 = x.1) && decide (es[i].2 = x.2)) || hasEdge (es.drop (i + 1)) x) := by
  unfold hasEdge; rw [List.drop_eq_getElem_cons h]; rfl
def edgeErr (n : Int) (es : List (Int × Int)) (i : Nat) : Int := match es[i]? with
  | none => 0
  | some x => if x.1 < 0 ∨ n ≤ x.1 ∨ x.2 < 0 ∨ n ≤ x.2 then 10 else if x.2 ≤ x.1 then 11 else if hasEdge (es.take i) x = true then 9 else 0
theorem edgeErr_at {n : Int} {es : List (Int × Int)} {i : Nat} (h : i < es.length) : edgeErr n es i = if es[i].1 < 0 ∨ n ≤ es[i].1 ∨ es[i].2 < 0 ∨ n ≤ es[i].2 then 10 else if es[i].2 ≤ es[i].1 then 11 else if hasEdge (es.take i) es[i] = true then 9 else 0 := by
  unfold edgeErr; rw [List.getElem?_eq_getElem h]
def edgesErr (n : Int) (es : List (Int × Int)) (i : Nat) : Int := firstOf (((List.range es.length).map (edgeErr n es)).drop i)
theorem edgesErr_step {n : Int} {es : List (Int × Int)} {i : Nat} (h : i < es.length) : edgesErr n es i = if edgeErr n es i = 0 then edgesErr n es (i + 1) else edgeErr n es i := by
  unfold edgesErr
  rw [firstOf_drop (a := edgeErr n es i) (by simp [h])]
theorem edgesErr_end {n : Int} {es : List (Int × Int)} {i : Nat} (h : es.length ≤ i) : edgesErr n es i = 0 := by
  unfold edgesErr; rw [List.drop_eq_nil_of_le (by simpa using h)]; rfl
/-- the error of a graph, 0 for none -/
def graphErr (n : Int) (es : List (Int × Int)) : Int := if n < 1 ∨ 16 < n then 3 else if 32 < (es.length : Int) then 5 else edgesErr n es 0

theorem fn197 (call : Call) (n : Nat) (v : V) (es : List (Int × Int)) (x : Int × Int) (h : H) (hs : EdgesAt h v es) (hn : es.length + 1 < n) (hx : es.length < 9223372036854775807) :
    ∃ h', bodyK call n f197 [v, .agg [vi x.1, vi x.2]] h = some (vi (idxOf (fun y => decide (x.1 = y.1) && decide (x.2 = y.2)) es 0), h') := by
  refine body_tmp' rfl ?_
  generalize hH0 : (⟨h.next, h.t, []⟩ : H) = H0
  have hs0 : EdgesAt H0 v es := by rw [← hH0]; exact hs
  have hm0 : H0.marks = [] := by rw [← hH0]
  clear hs hH0
  generalize hH1 : H0.new (.cells [vi x.1, vi x.2] .own 122) = H1
  have x01 : Ext H0 H1 := by rw [← hH1]; exact (Ext.refl _).new
  have b2 : ∀ f, H1.loadK (some 2) H0.next 0 f = f (.agg [vi x.1, vi x.2]) := fun f => by rw [← hH1]; simp
  have hs1 := hs0.ext x01
  have hm1 : H1.marks = [] := x01.marks.trans hm0
  simp [k197, hH1, ↓hs1.len]
  generalize hP : (fun y : Int × Int => decide (x.1 = y.1) && decide (x.2 = y.2)) = P
  refine Ends.looped (fun m fr' h' => h' = H1 ∧ ∃ i, m + i = es.length ∧ Tr.get (Pos.ofNat 8) fr' = some (vi i) ∧ Tr.get (Pos.ofNat 7) fr' = some (vi es.length) ∧ Tr.get (Pos.ofNat 0) fr' = some v ∧ Tr.get (Pos.ofNat 3) fr' = some (.ptr H0.next 0) ∧ idxOf P es 0 = idxOf P (es.drop i) i)
    (fun j fr' h' => h' = H1 ∧ ((j = .exit 0 ∧ idxOf P es 0 = -1) ∨ (j = .ret ∧ Tr.get (Pos.ofNat 4) fr' = some (vi (idxOf P es 0))))) es.length ⟨rfl, 0, by simp⟩ (Nat.lt_trans (Nat.lt_succ_self _) hn) ?_ ?_
  · rintro m fr' h' ⟨rfl, i, h1, h2, h3, h4, h4', h5⟩
    by_cases hi : i < es.length
    · obtain ⟨b, o, a1, a2, a3⟩ := hs1.at hi
      have hf := idxOf_drop (P := P) (List.getElem?_eq_getElem hi)
      have hw := wrap_succ hi hx
      by_cases h0 : x.1 = es[i].1
      · by_cases h00 : x.2 = es[i].2
        · have hp : P es[i] = true := by rw [← hP]; simp [h0, h00]
          simp [h2, h3, h4, h4', hi, ↓b2, ↓a2, ↓a3, h0, h00]
          rw [h5, hf, if_pos hp]
        · have hp : ¬ P es[i] = true := by rw [← hP]; simp [h0, h00]
          simp [h2, h3, h4, h4', hi, ↓b2, ↓a2, ↓a3, h0, h00, hw]
          refine ⟨m - 1, by omega, i + 1, by omega, by simp, ?_⟩
          rw [h5, hf, if_neg hp]
      · have hp : ¬ P es[i] = true := by rw [← hP]; simp [h0]
        simp [h2, h3, h4, h4', hi, ↓b2, ↓a2, ↓a3, h0, hw]
        refine ⟨m - 1, by omega, i + 1, by omega, by simp, ?_⟩
        rw [h5, hf, if_neg hp]
    · simp [h2, h3, hi]
      rw [h5, List.drop_eq_nil_of_le (by omega)]; rfl
  · rintro j fr' h' ⟨rfl, ⟨rfl, h1⟩ | ⟨rfl, h1⟩⟩
    · simp [h1, hm1]
    · simp [h1, hm1]

theorem hasEdge_any (es : List (Int × Int)) (x : Int × Int) : es.any (fun y => decide (x.1 = y.1) && decide (x.2 = y.2)) = hasEdge es x := by
  unfold hasEdge; congr 1; funext y
  rw [decide_eq_decide.2 (eq_comm : x.1 = y.1 ↔ y.1 = x.1), decide_eq_decide.2 (eq_comm : x.2 = y.2 ↔ y.2 = x.2)]
theorem fn93 (call : Call) (n : Nat) (v : V) (es : List (Int × Int)) (x : Int × Int) (h : H) (hs : EdgesAt h v es)
    (hc : ∀ h, EdgesAt h v es → call (.fn (.func 197) [] []) [v, .agg [vi x.1, vi x.2]] h = some (vi (idxOf (fun y => decide (x.1 = y.1) && decide (x.2 = y.2)) es 0), h)) :
    ∃ h', bodyK call n f93 [v, .agg [vi x.1, vi x.2]] h = some (.bool (hasEdge es x), h') := by
  refine body_tmp' rfl ?_
  have hs0 : EdgesAt ⟨h.next, h.t, []⟩ v es := hs
  have hcc := hc _ (hs0.ext (Ext.refl _).new (h' := H.new ⟨h.next, h.t, []⟩ (.cells [vi x.1, vi x.2] .own 122)))
  have := idxOf_nonneg (P := fun y : Int × Int => decide (x.1 = y.1) && decide (x.2 = y.2)) es 0
  rw [hasEdge_any] at this
  generalize idxOf (fun y : Int × Int => decide (x.1 = y.1) && decide (x.2 = y.2)) es 0 = q at *
  simp [k93, hcc]
  simpa using this
end Go.Proofs.YtdojpbbdcgfcnaaGreatDoor.AI.T
/- What the functions do, whatever their inputs, 8: CheckGraph of the reference. -/
set_option maxRecDepth 100000
namespace Go.Proofs.YtdojpbbdcgfcnaaGreatDoor.AI.T
open Go Go.Proofs.YtdojpbbdcgfcnaaGreatDoor.AI

/-- a variable of two integers that is set once -/
theorem pairVar {h : H} (a b : Int) {H' : H} (hH : (h.new (.cells [vi 0, vi 0] .own 122)).put h.next (some (.cells [vi a, vi b] .own 122)) = H') :
    (∀ f, (h.new (.cells [vi 0, vi 0] .own 122)).storeK h.next 0 [vi a, vi b] f = f H') ∧ Ext h H' ∧ (∀ f, H'.loadK none h.next 0 f = f (vi a)) ∧ (∀ f, H'.loadK none h.next 1 f = f (vi b)) ∧ (∀ f, H'.loadK (some 2) h.next 0 f = f (.agg [vi a, vi b])) ∧ Old H' h.next := by
  have g2 : (h.new (.cells [vi 0, vi 0] .own 122)).get h.next = some (.cells [vi 0, vi 0] .own 122) := get_new_next
  have hno : ¬ Old h h.next := by simp [Old]
  refine ⟨fun f => ?_, by rw [← hH]; exact (Ext.refl _).new.put hno, fun f => ?_, fun f => ?_, fun f => ?_, by rw [← hH]; simp⟩
  · rw [storeK_box g2 rfl rfl (by simp), ← hH]; rfl
  · rw [loadK_none, ← hH, get_put_same]; simp
  · rw [loadK_none, ← hH, get_put_same]; simp
  · rw [loadK_take, ← hH, get_put_same]; simp

set_option maxHeartbeats 4000000 in
theorem fn22 (call : Call) (n : Nat) (nv : Int) (v : V) (es : List (Int × Int)) (h : H) (hs : EdgesAt h v es) (hn : es.length + 1 < n) (hx : es.length < 9223372036854775807) :
    ∃ h', bodyK call n f22 [.agg [vi nv, v]] h = some (vi (graphErr nv es), h') := by
  refine body_tmp' rfl ?_
  have hj := hs.junk
  generalize hH0 : (⟨h.next, h.t, []⟩ : H) = H0
  have hs0 : EdgesAt H0 v es := by rw [← hH0]; exact hs
  have hm0 : H0.marks = [] := by rw [← hH0]
  clear hs hH0
  generalize hH1 : H0.new (.cells [vi nv, v] .own 27) = H1
  have x01 : Ext H0 H1 := by rw [← hH1]; exact (Ext.refl _).new
  have bo : Old H1 H0.next := by rw [← hH1]; exact old_next
  have b0 : ∀ f, H1.loadK none H0.next 0 f = f (vi nv) := fun f => by rw [← hH1]; simp
  have b1 : ∀ f, H1.loadK none H0.next 1 f = f v := fun f => by rw [← hH1]; simp [hj]
  have hs1 := hs0.ext x01
  have hm1 : H1.marks = [] := x01.marks.trans hm0
  rcases Int.lt_or_le nv 1 with c1 | c1
  · simp [k22, hH1, ↓b0, c1, Int.not_le.2 c1, graphErr, hm1]
  rcases Int.lt_or_le 16 nv with c2 | c2
  · simp [k22, hH1, ↓b0, c1, c2, Int.not_lt.2 c1, Int.not_le.2 c2, graphErr, hm1]
  rcases Int.lt_or_le 32 es.length with c3 | c3
  · simp [k22, hH1, ↓b0, ↓b1, ↓hs1.len, c1, c2, c3, Int.not_lt.2 c1, Int.not_lt.2 c2, Int.not_le.2 c3, graphErr, hm1]
  have hge : graphErr nv es = edgesErr nv es 0 := by unfold graphErr; rw [if_neg (by omega), if_neg (by omega)]
  rw [hge]
  simp [k22, hH1, ↓b0, ↓b1, ↓hs1.len, c1, c2, c3, Int.not_lt.2 c1, Int.not_lt.2 c2, Int.not_lt.2 c3]
  refine Ends.looped (fun m fr' h' => Ext H1 h' ∧ ∃ i, m + i = es.length ∧ Tr.get (Pos.ofNat 3) fr' = some (vi i) ∧ Tr.get (Pos.ofNat 1) fr' = some (.ptr H0.next 0) ∧ edgesErr nv es 0 = edgesErr nv es i)
    (fun j fr' h' => Ext H1 h' ∧ ((j = .exit 0 ∧ edgesErr nv es 0 = 0) ∨ (j = .ret ∧ Tr.get (Pos.ofNat 2) fr' = some (vi (edgesErr nv es 0))))) es.length ⟨Ext.refl _, 0, by simp⟩ (Nat.lt_trans (Nat.lt_succ_self _) hn) ?_ ?_
  · rintro m fr' h' ⟨xh, i, h1, h2, h3, h5⟩
    have q1 : ∀ f, h'.loadK none H0.next 1 f = f v := fun f => by rw [xh.load bo]; exact b1 f
    have hsh := hs1.ext xh
    by_cases hi : i < es.length
    · obtain ⟨b, o, a1, a2, a3⟩ := hsh.at hi
      have hw := wrap_succ hi hx
      have hE := edgeErr_at (n := nv) hi
      have hstep := edgesErr_step (n := nv) hi
      obtain ⟨p1, p2, p3, p4, p5, p6⟩ := pairVar (h := h') es[i].1 es[i].2 rfl
      generalize hHb : (h'.new (.cells [vi 0, vi 0] .own 122)).put h'.next (some (.cells [vi es[i].1, vi es[i].2] .own 122)) = Hb at *
      have xb := xh.trans p2
      have r0 : ∀ f, Hb.loadK none H0.next 0 f = f (vi nv) := fun f => by rw [xb.load bo]; exact b0 f
      have r1 : ∀ f, Hb.loadK none H0.next 1 f = f v := fun f => by rw [xb.load bo]; exact b1 f
      have hsb := hs1.ext xb
      generalize hea : es[i].1 = a at *
      generalize heb : es[i].2 = b' at *
      rcases Int.lt_or_le a 0 with d1 | d1
      · simp [h2, h3, ↓q1, ↓hsh.len, hi, ↓a2, ↓a3, ↓p1, ↓p3, d1, Int.not_le.2 d1]
        rw [h5, hstep, hE]; simp [d1, xb]
      rcases Int.lt_or_le a nv with d2 | d2
      case inr =>
        simp [h2, h3, ↓q1, ↓hsh.len, hi, ↓a2, ↓a3, ↓p1, ↓p3, ↓r0, d1, Int.not_lt.2 d1, d2, Int.not_lt.2 d2]
        rw [h5, hstep, hE]; simp [d2, xb]
      rcases Int.lt_or_le b' 0 with d3 | d3
      · simp [h2, h3, ↓q1, ↓hsh.len, hi, ↓a2, ↓a3, ↓p1, ↓p3, ↓p4, ↓r0, d1, Int.not_lt.2 d1, d2, Int.not_le.2 d2, d3, Int.not_le.2 d3]
        rw [h5, hstep, hE]; simp [d3, xb]
      rcases Int.lt_or_le b' nv with d4 | d4
      case inr =>
        simp [h2, h3, ↓q1, ↓hsh.len, hi, ↓a2, ↓a3, ↓p1, ↓p3, ↓p4, ↓r0, d1, Int.not_lt.2 d1, d2, Int.not_le.2 d2, d3, Int.not_lt.2 d3, d4, Int.not_lt.2 d4]
        rw [h5, hstep, hE]; simp [d4, xb]
      rw [if_neg (by omega)] at hE
      rcases Int.lt_or_le a b' with d5 | d5
      case inr =>
        simp [h2, h3, ↓q1, ↓hsh.len, hi, ↓a2, ↓a3, ↓p1, ↓p3, ↓p4, ↓r0, d1, Int.not_lt.2 d1, d2, Int.not_le.2 d2, d3, Int.not_lt.2 d3, d4, Int.not_le.2 d4, d5, Int.not_lt.2 d5]
        rw [h5, hstep, hE]; simp [d5, xb]
      rw [if_neg (by omega)] at hE
      simp [h2, h3, ↓q1, ↓hsh.len, hi, ↓a2, ↓a3, ↓p1, ↓p3, ↓p4, ↓r0, d1, Int.not_lt.2 d1, d2, Int.not_le.2 d2, d3, Int.not_lt.2 d3, d4, Int.not_le.2 d4, d5, Int.not_le.2 d5]
      have htl : (es.take i).length = i := by simp; omega
      refine Ends.looped (fun m2 fr2 h2' => h2' = Hb ∧ ∃ k, m2 + k = i ∧ Tr.get (Pos.ofNat 5) fr2 = some (vi k) ∧ Tr.get (Pos.ofNat 4) fr2 = some (.ptr h'.next 0) ∧ Tr.get (Pos.ofNat 3) fr2 = some (vi i) ∧ Tr.get (Pos.ofNat 1) fr2 = some (.ptr H0.next 0) ∧ hasEdge (es.take i) es[i] = hasEdge ((es.take i).drop k) es[i])
        (fun j fr2 h2' => h2' = Hb ∧ ((j = .exit 2 ∧ hasEdge (es.take i) es[i] = false ∧ Tr.get (Pos.ofNat 3) fr2 = some (vi i) ∧ Tr.get (Pos.ofNat 1) fr2 = some (.ptr H0.next 0)) ∨ (j = .ret ∧ hasEdge (es.take i) es[i] = true ∧ Tr.get (Pos.ofNat 2) fr2 = some (vi 9)))) i ⟨rfl, 0, by simp [h2, h3]⟩ (by show i < n; omega) ?_ ?_
      · rintro m2 fr2 h2' ⟨rfl, k, k1, k2, k3, k4, k5, k6⟩
        by_cases hk : k < i
        · obtain ⟨bb, oo, y1, y2, y3⟩ := hsb.at (i := k) (by omega)
          have hw2 := wrap_succ hk (by omega)
          have hf := hasEdge_drop (es := es.take i) (x := es[i]) (i := k) (by omega)
          simp only [List.getElem_take] at hf
          rw [hea, heb] at hf
          by_cases u1 : es[k].1 = a
          · by_cases u2 : es[k].2 = b'
            · simp [k2, k3, k4, k5, hk, ↓r1, ↓y2, ↓y3, ↓p5, u1, u2]
              rw [k6, hf]; simp [u1, u2]
            · simp [k2, k3, k4, k5, hk, ↓r1, ↓y2, ↓y3, ↓p5, u1, u2, hw2]
              refine ⟨m2 - 1, by omega, k + 1, by omega, by simp, ?_⟩
              rw [k6, hf]; simp [u2]
          · simp [k2, k3, k4, k5, hk, ↓r1, ↓y2, ↓y3, ↓p5, u1, hw2]
            refine ⟨m2 - 1, by omega, k + 1, by omega, by simp, ?_⟩
            rw [k6, hf]; simp [u1]
        · simp [k2, k4, k5, hk]
          rw [k6, List.drop_eq_nil_of_le (by omega)]; rfl
      · rintro j fr2 h2' ⟨rfl, ⟨rfl, r1', r3, r4⟩ | ⟨rfl, r1', r2⟩⟩
        · rw [r1'] at hE
          simp [r3, r4, hw]
          refine ⟨m - 1, by omega, xb, i + 1, by omega, by simp, ?_⟩
          rw [h5, hstep, hE]; simp
        · rw [r1'] at hE
          simp [r2]
          refine ⟨xb, ?_⟩
          rw [h5, hstep, hE]; simp
    · simp [h2, h3, ↓q1, ↓hsh.len, hi]
      rw [h5, edgesErr_end (by omega)]; exact ⟨xh, rfl⟩
  · rintro j fr' h' ⟨xh, ⟨rfl, h1⟩ | ⟨rfl, h1⟩⟩
    · simp [h1, xh.marks.trans hm1]
    · simp [h1, xh.marks.trans hm1]
end Go.Proofs.YtdojpbbdcgfcnaaGreatDoor.AI.T
/- What the functions do, whatever their inputs, 9: CheckGraph. -/
set_option maxRecDepth 100000
namespace Go.Proofs.YtdojpbbdcgfcnaaGreatDoor.AI.T
open Go Go.Proofs.YtdojpbbdcgfcnaaGreatDoor.AI

@[simp] theorem eqD_vi {i : Int} : eqD 1000 (vi i) (vi i) = true := eqD_int
set_option maxHeartbeats 8000000 in
theorem fn21 (call : Call) (n : Nat) (nv : Int) (v : V) (es : List (Int × Int)) (h : H) (hs : EdgesAt h v es) (hn : es.length + 1 < n) (hx : es.length < 9223372036854775807)
    (h90 : ∀ b e h, call (.fn (.func 90) [] []) [.bool b, vi e] h = some (vi (if b = true then e else 0), h))
    (h88 : ∀ w (es : List Int) h, SlcAt h w (es.map vi) → es.length ≤ 3 → call (.fn (.func 88) [] []) [w] h = some (vi (firstOf es), h))
    (h89 : ∀ lo hi w (es : List Int) h, SlcAt h w (es.map vi) → es.length ≤ 3 → call (.fn (.func 89) [] []) [vi lo, vi hi, w] h = some (vi (if outside lo hi es = true then 3 else 0), h))
    (h93 : ∀ w (fs : List (Int × Int)) (x : Int × Int) h, EdgesAt h w fs → fs.length ≤ es.length → call (.fn (.func 93) [] []) [w, .agg [vi x.1, vi x.2]] h = some (.bool (hasEdge fs x), h)) :
    ∃ h', bodyK call n f21 [.agg [vi nv, v]] h = some (vi (graphErr nv es), h') := by
  refine body_tmp' rfl ?_
  have hj := hs.junk
  have hq : eqD 1000 v v = true := hs.eqD
  generalize hH0 : (⟨h.next, h.t, []⟩ : H) = H0
  have hs0 : EdgesAt H0 v es := by rw [← hH0]; exact hs
  have hm0 : H0.marks = [] := by rw [← hH0]
  clear hs hH0
  generalize hH1 : H0.new (.cells [vi nv, v] .own 27) = H1
  have x01 : Ext H0 H1 := by rw [← hH1]; exact (Ext.refl _).new
  have bo : Old H1 H0.next := by rw [← hH1]; exact old_next
  have b0 : ∀ f, H1.loadK none H0.next 0 f = f (vi nv) := fun f => by rw [← hH1]; simp
  have b1 : ∀ f, H1.loadK none H0.next 1 f = f v := fun f => by rw [← hH1]; simp [hj]
  have hs1 := hs0.ext x01
  have hm1 : H1.marks = [] := x01.marks.trans hm0
  have bu1 := built (h := H1) (ty := 3) [nv] (n := 1) rfl
  have e89 := h89 1 16 _ [nv] _ bu1 (by simp)
  generalize hH2 : H1.new (.cells ([nv].map vi) .own 3) = H2 at e89 bu1
  have x12 : Ext H1 H2 := by rw [← hH2]; exact (Ext.refl _).new
  have c1 : ∀ f, H2.loadK none H0.next 1 f = f v := fun f => by rw [x12.load bo]; exact b1 f
  have e88 : ∀ es : List Int, es.length = 2 → call (.fn (.func 88) [] []) [.slc H2.next 0 2 (.known 2)] (H2.new (.cells (es.map vi) .own 30)) = some (vi (firstOf es), H2.new (.cells (es.map vi) .own 30)) := fun es he => h88 _ es _ (built es he) (by omega)
  have hH2' : H1.new (.cells [vi nv] .own 3) = H2 := hH2
  have hm2 : H2.marks = [] := x12.marks.trans hm1
  rcases Int.lt_or_le nv 1 with g1 | g1
  · have ho : outside 1 16 [nv] = true := by simp [outside, g1]
    rw [ho] at e89
    have hsys : graphErr nv es = 3 := by unfold graphErr; rw [if_pos (.inl g1)]
    rcases Int.lt_or_le 32 es.length with g3 | g3
    · have := e88 [3, 5] rfl
      simp [k21, hH1, ↓b0, ↓b1, ↓hs1.len, g3, repL, setAt, hH2', e89, ↓c1, hq, h90]
      simp [firstOf] at this
      simp [this, hsys, hm2]
    · have := e88 [3, 0] rfl
      simp [k21, hH1, ↓b0, ↓b1, ↓hs1.len, g3, Int.not_lt.2 g3, repL, setAt, hH2', e89, ↓c1, hq, h90]
      simp [firstOf] at this
      simp [this, hsys, hm2]
  rcases Int.lt_or_le 16 nv with g2 | g2
  · have ho : outside 1 16 [nv] = true := by simp [outside, g2]
    rw [ho] at e89
    have hsys : graphErr nv es = 3 := by unfold graphErr; rw [if_pos (.inr g2)]
    rcases Int.lt_or_le 32 es.length with g3 | g3
    · have := e88 [3, 5] rfl
      simp [k21, hH1, ↓b0, ↓b1, ↓hs1.len, g3, repL, setAt, hH2', e89, ↓c1, hq, h90]
      simp [firstOf] at this
      simp [this, hsys, hm2]
    · have := e88 [3, 0] rfl
      simp [k21, hH1, ↓b0, ↓b1, ↓hs1.len, g3, Int.not_lt.2 g3, repL, setAt, hH2', e89, ↓c1, hq, h90]
      simp [firstOf] at this
      simp [this, hsys, hm2]
  have ho : outside 1 16 [nv] = false := by simp [outside]; omega
  rw [ho] at e89
  rcases Int.lt_or_le 32 es.length with g3 | g3
  · have hsys : graphErr nv es = 5 := by unfold graphErr; rw [if_neg (by omega), if_pos g3]
    have := e88 [0, 5] rfl
    simp [k21, hH1, ↓b0, ↓b1, ↓hs1.len, g3, repL, setAt, hH2', e89, ↓c1, hq, h90]
    simp [firstOf] at this
    simp [this, hsys, hm2]
  have hsys : graphErr nv es = edgesErr nv es 0 := by unfold graphErr; rw [if_neg (by omega), if_neg (by omega)]
  have e88' := e88 [0, 0] rfl
  simp [k21, hH1, ↓b0, ↓b1, ↓hs1.len, g3, Int.not_lt.2 g3, repL, setAt, hH2', e89, ↓c1, hq, h90]
  generalize hH3 : H2.new (.cells ([0, 0].map vi) .own 30) = H3 at e88'
  have hH3' : H2.new (.cells [vi 0, vi 0] .own 30) = H3 := hH3
  have x23 : Ext H2 H3 := by rw [← hH3]; exact (Ext.refl _).new
  have x13 := x12.trans x23
  have d1 : ∀ f, H3.loadK none H0.next 1 f = f v := fun f => by rw [x13.load bo]; exact b1 f
  have hs3 := hs1.ext x13
  have hm3 : H3.marks = [] := x23.marks.trans hm2
  simp [firstOf] at e88'
  simp [hH3', e88', ↓d1, ↓hs3.len]
  rw [hsys]
  refine Ends.looped (fun m fr' h' => Ext H3 h' ∧ ∃ i, m + i = es.length ∧ Tr.get (Pos.ofNat 25) fr' = some (vi i) ∧ Tr.get (Pos.ofNat 24) fr' = some (vi es.length) ∧ Tr.get (Pos.ofNat 23) fr' = some v ∧ Tr.get (Pos.ofNat 1) fr' = some (.ptr H0.next 0) ∧ edgesErr nv es 0 = edgesErr nv es i)
    (fun j fr' h' => Ext H3 h' ∧ ((j = .exit 0 ∧ edgesErr nv es 0 = 0) ∨ (j = .ret ∧ Tr.get (Pos.ofNat 2) fr' = some (vi (edgesErr nv es 0))))) es.length ⟨Ext.refl _, 0, by simp⟩ (Nat.lt_trans (Nat.lt_succ_self _) hn) ?_ ?_
  · rintro m fr' h' ⟨xh, i, h1, h2, h3, h4, h4', h5⟩
    by_cases hi : i < es.length
    · have hsh := hs3.ext xh
      obtain ⟨b, o, a1, a2, a3⟩ := hsh.at hi
      have hw := wrap_succ hi hx
      have hE := edgeErr_at (n := nv) hi
      have hstep := edgesErr_step (n := nv) hi
      obtain ⟨p1, p2, p3, p4, p5, p6⟩ := pairVar (h := h') es[i].1 es[i].2 rfl
      generalize hHb : (h'.new (.cells [vi 0, vi 0] .own 122)).put h'.next (some (.cells [vi es[i].1, vi es[i].2] .own 122)) = Hb at *
      have x3b := xh.trans p2
      have xb := x13.trans x3b
      have r0 : ∀ f, Hb.loadK none H0.next 0 f = f (vi nv) := fun f => by rw [xb.load bo]; exact b0 f
      have r1 : ∀ f, Hb.loadK none H0.next 1 f = f v := fun f => by rw [xb.load bo]; exact b1 f
      have hsb := hs1.ext xb
      obtain ⟨v', t1, t2⟩ := hsb.take (n := i) (by omega)
      have hq' : eqD 1000 v' v' = true := t1.eqD
      have e93 := h93 v' (es.take i) es[i] Hb t1 (by simp; omega)
      have e88b : ∀ es : List Int, es.length = 3 → call (.fn (.func 88) [] []) [.slc Hb.next 0 3 (.known 3)] (Hb.new (.cells (es.map vi) .own 30)) = some (vi (firstOf es), Hb.new (.cells (es.map vi) .own 30)) := fun es he => h88 _ es _ (built es he) (by omega)
      generalize hea : es[i].1 = a at *
      generalize heb : es[i].2 = b' at *
      have hqa : eqD 1000 (V.agg [vi a, vi b']) (V.agg [vi a, vi b']) = true := eqD_agg2 eqD_int eqD_int
      have fin : ∀ (kn : Bool), (kn = true ↔ ¬ (a < 0 ∨ nv ≤ a ∨ b' < 0 ∨ nv ≤ b')) → edgesErr nv es i = (if kn = false then 10 else if b' ≤ a then 11 else if hasEdge (es.take i) es[i] = true then 9 else edgesErr nv es (i + 1)) := by
        intro kn hk
        rw [hstep, hE]
        cases kn with
        | false =>
          have : a < 0 ∨ nv ≤ a ∨ b' < 0 ∨ nv ≤ b' := Classical.byContradiction fun hh => by simpa using hk.2 hh
          rw [if_pos this]; simp
        | true =>
          rw [if_neg (hk.1 rfl)]
          by_cases k1 : b' ≤ a
          · simp [k1]
          · cases hasEdge (es.take i) es[i] <;> simp [k1]
      rcases Int.lt_or_le a b' with d5 | d5 <;> cases hh : hasEdge (es.take i) es[i] <;> rw [hh] at fin e93
      all_goals
        first | (have d5' := Int.not_le.2 d5) | (have d5' := Int.not_lt.2 d5)
        rcases Int.lt_or_le a 0 with d1' | d1'
        · have f1 := fin false (by simp [d1'])
          have k10 := e88b [10, 0, 0] rfl
          have k11 := e88b [10, 11, 0] rfl
          have k12 := e88b [10, 0, 9] rfl
          have k13 := e88b [10, 11, 9] rfl
          simp [h2, h3, h4, h4', hi, ↓a2, ↓a3, ↓p1, ↓p3, d1', Int.not_le.2 d1', ↓p4, d5, d5', ↓r1, ↓t2, ↓p5, h90, hq, hq', hqa, e93, repL, setAt]
          simp [firstOf] at k10 k11 k12 k13
          simp [k10, k11, k12, k13]
          rw [h5, f1]; exact ⟨x3b.new, by simp⟩
        rcases Int.lt_or_le a nv with d2 | d2
        case inr =>
          have f1 := fin false (by simp [d2])
          have k10 := e88b [10, 0, 0] rfl
          have k11 := e88b [10, 11, 0] rfl
          have k12 := e88b [10, 0, 9] rfl
          have k13 := e88b [10, 11, 9] rfl
          simp [h2, h3, h4, h4', hi, ↓a2, ↓a3, ↓p1, ↓p3, ↓r0, d1', Int.not_lt.2 d1', d2, Int.not_lt.2 d2, ↓p4, d5, d5', ↓r1, ↓t2, ↓p5, h90, hq, hq', hqa, e93, repL, setAt]
          simp [firstOf] at k10 k11 k12 k13
          simp [k10, k11, k12, k13]
          rw [h5, f1]; exact ⟨x3b.new, by simp⟩
        rcases Int.lt_or_le b' 0 with d3 | d3
        · have f1 := fin false (by simp [d3])
          have k10 := e88b [10, 0, 0] rfl
          have k11 := e88b [10, 11, 0] rfl
          have k12 := e88b [10, 0, 9] rfl
          have k13 := e88b [10, 11, 9] rfl
          simp [h2, h3, h4, h4', hi, ↓a2, ↓a3, ↓p1, ↓p3, ↓r0, d1', Int.not_lt.2 d1', d2, Int.not_le.2 d2, d3, Int.not_le.2 d3, ↓p4, d5, d5', ↓r1, ↓t2, ↓p5, h90, hq, hq', hqa, e93, repL, setAt]
          simp [firstOf] at k10 k11 k12 k13
          simp [k10, k11, k12, k13]
          rw [h5, f1]; exact ⟨x3b.new, by simp⟩
        rcases Int.lt_or_le b' nv with d4 | d4
        case inr =>
          have f1 := fin false (by simp [d4])
          have k10 := e88b [10, 0, 0] rfl
          have k11 := e88b [10, 11, 0] rfl
          have k12 := e88b [10, 0, 9] rfl
          have k13 := e88b [10, 11, 9] rfl
          simp [h2, h3, h4, h4', hi, ↓a2, ↓a3, ↓p1, ↓p3, ↓r0, d1', Int.not_lt.2 d1', d2, Int.not_le.2 d2, d3, Int.not_lt.2 d3, d4, Int.not_lt.2 d4, ↓p4, d5, d5', ↓r1, ↓t2, ↓p5, h90, hq, hq', hqa, e93, repL, setAt]
          simp [firstOf] at k10 k11 k12 k13
          simp [k10, k11, k12, k13]
          rw [h5, f1]; exact ⟨x3b.new, by simp⟩
        have f1 := fin true (by simp; omega)
        have k10 := e88b [0, 0, 0] rfl
        have k11 := e88b [0, 11, 0] rfl
        have k12 := e88b [0, 0, 9] rfl
        have k13 := e88b [0, 11, 9] rfl
        simp [h2, h3, h4, h4', hi, ↓a2, ↓a3, ↓p1, ↓p3, ↓r0, d1', Int.not_lt.2 d1', d2, Int.not_le.2 d2, d3, Int.not_lt.2 d3, d4, Int.not_le.2 d4, ↓p4, d5, d5', ↓r1, ↓t2, ↓p5, h90, hq, hq', hqa, e93, repL, setAt]
        simp [firstOf] at k10 k11 k12 k13
        simp [k10, k11, k12, k13, h2, h3, h4, h4', hw]
        first
          | (rw [h5, f1]; exact ⟨x3b.new, by simp [d5, d5']⟩)
          | (refine ⟨m - 1, by omega, x3b.new, i + 1, by omega, by simp, ?_⟩
             rw [h5, f1]; simp [d5, d5'])
    · simp [h2, h3, hi]
      rw [h5, edgesErr_end (by omega)]; exact ⟨xh, rfl⟩
  · rintro j fr' h' ⟨xh, ⟨rfl, h1⟩ | ⟨rfl, h1⟩⟩
    · simp [h1, xh.marks.trans hm3]
    · simp [h1, xh.marks.trans hm3]
end Go.Proofs.YtdojpbbdcgfcnaaGreatDoor.AI.T
/- What the functions do, whatever their inputs, 10: LinesChecks. -/
set_option maxRecDepth 100000
namespace Go.Proofs.YtdojpbbdcgfcnaaGreatDoor.AI.T
open Go Go.Proofs.YtdojpbbdcgfcnaaGreatDoor.AI

theorem ext_hasK {h h' : H} (hh : Ext h h') {nd : Need} (hk : hasK h nd = true) (ho : ∀ p l, (p, l) ∈ nd → Old h p) : hasK h' nd = true := by
  induction nd with
  | nil => rfl
  | cons x r ih =>
    obtain ⟨p, l⟩ := x
    obtain ⟨h1, h2⟩ := bool_and (b := Go.Proofs.YtdojpbbdcgfcnaaGreatDoor.AI.hasK h r) hk
    have hg : Tr.get p h'.t = Tr.get p h.t := hh.get p (ho p l (by simp))
    show (Bool.casesOn (Option.casesOn (Tr.get p h'.t) false _) false (Go.Proofs.YtdojpbbdcgfcnaaGreatDoor.AI.hasK h' r) : Bool) = true
    rw [hg]
    have h1' : (Option.casesOn (Tr.get p h.t) false fun b => Blk.casesOn b (fun l' k _ => Bool.casesOn k.isRo false (eqDs 1000 l l')) (fun _ _ => false) (fun _ _ => false) (fun _ _ _ _ _ => false) false : Bool) = true := h1
    rw [h1']
    exact ih h2 fun q l hq => ho q l (List.mem_cons_of_mem _ hq)

set_option maxHeartbeats 4000000 in
theorem fn3 (call : Call) (n : Nat) (nd : Need) (c nv : Int) (v w : V) (ls : List (List Int)) (es : List (Int × Int)) (h : H) (hs : LinesAt h v ls) (he : EdgesAt h w es) (hk : hasK h nd = true) (ho : ∀ p l, (p, l) ∈ nd → Old h p)
    (h18 : ∀ h, hasK h nd = true → call (.fn (.func 18) [] []) [] h = some (.bool true, h))
    (h17 : ∀ cells lines h, LinesAt h v ls → call (.fn (.func 17) [] []) [.agg [vi c, v], vi cells, vi lines] h = some (.bool (Short cells lines ls), h))
    (h19 : ∀ h, LinesAt h v ls → Short 40 130 ls = true → call (.fn (.func 19) [] []) [.agg [vi c, v]] h = some (vi (sysErr c ls), h))
    (h20 : ∀ h, LinesAt h v ls → Short 40 130 ls = true → call (.fn (.func 20) [] []) [.agg [vi c, v]] h = some (vi (sysErr c ls), h))
    (h21 : ∀ h, EdgesAt h w es → es.length ≤ 40 → call (.fn (.func 21) [] []) [.agg [vi nv, w]] h = some (vi (graphErr nv es), h))
    (h22 : ∀ h, EdgesAt h w es → es.length ≤ 40 → call (.fn (.func 22) [] []) [.agg [vi nv, w]] h = some (vi (graphErr nv es), h)) :
    ∃ h', bodyK call n f3 [.agg [vi c, v], .agg [vi nv, w]] h = some (.bool true, h') := by
  refine body_tmp' rfl ?_
  have hj := hs.junk
  have hjw := he.junk
  have hq : eqD 1000 v v = true := by obtain ⟨vs, h1, _⟩ := hs; exact h1.eqD
  have hqw : eqD 1000 w w = true := he.eqD
  have hqa : eqD 1000 (V.agg [vi c, v]) (V.agg [vi c, v]) = true := eqD_agg2 eqD_int (by obtain ⟨vs, h1, _⟩ := hs; exact h1.eqD)
  have hqg : eqD 1000 (V.agg [vi nv, w]) (V.agg [vi nv, w]) = true := eqD_agg2 eqD_int he.eqD
  generalize hH0 : (⟨h.next, h.t, []⟩ : H) = H0
  have hs0 : LinesAt H0 v ls := by rw [← hH0]; exact hs
  have he0 : EdgesAt H0 w es := by rw [← hH0]; exact he
  have hk0 : hasK H0 nd = true := by rw [← hH0]; exact hk
  have ho0 : ∀ p l, (p, l) ∈ nd → Old H0 p := by rw [← hH0]; exact ho
  have hm0 : H0.marks = [] := by rw [← hH0]
  clear hs he hH0 hk ho
  generalize hH1 : H0.new (.cells [vi c, v] .own 24) = H1
  have x01 : Ext H0 H1 := by rw [← hH1]; exact (Ext.refl _).new
  have bo : Old H1 H0.next := by rw [← hH1]; exact old_next
  have b2 : ∀ f, H1.loadK (some 2) H0.next 0 f = f (.agg [vi c, v]) := fun f => by rw [← hH1]; simp [hj]
  generalize hH2 : H1.new (.cells [vi nv, w] .own 27) = H2
  have x12 : Ext H1 H2 := by rw [← hH2]; exact (Ext.refl _).new
  have x02 := x01.trans x12
  have c2 : ∀ f, H2.loadK (some 2) H0.next 0 f = f (.agg [vi c, v]) := fun f => by rw [x12.load bo]; exact b2 f
  have d1 : ∀ f, H2.loadK none H1.next 1 f = f w := fun f => by rw [← hH2]; simp [hjw]
  have d2 : ∀ f, H2.loadK (some 2) H1.next 0 f = f (.agg [vi nv, w]) := fun f => by rw [← hH2]; simp [hjw]
  have hs2 := hs0.ext x02
  have he2 := he0.ext x02
  have hk2 := ext_hasK x02 hk0 ho0
  have hm2 : H2.marks = [] := x02.marks.trans hm0
  have e17 := h17 40 130 _ hs2
  have e18 := h18 _ hk2
  cases hsh : Short 40 130 ls with
  | false =>
    rw [hsh] at e17
    simp [k3, hH1, hH2, ↓c2, e17, e18, hm2]
  | true =>
    rw [hsh] at e17
    rcases Int.lt_or_le 40 es.length with g | g
    · simp [k3, hH1, hH2, ↓c2, e17, ↓d1, ↓he2.len, g, Int.not_le.2 g, e18, hm2]
    · have e19 := h19 _ hs2 hsh
      have e20 := h20 _ hs2 hsh
      have e21 := h21 _ he2 (by omega)
      have e22 := h22 _ he2 (by omega)
      simp [k3, hH1, hH2, ↓c2, e17, ↓d1, ↓he2.len, g, Int.not_lt.2 g, e19, e20, ↓d2, e21, e22, e18, hqa, hqg, hm2]
end Go.Proofs.YtdojpbbdcgfcnaaGreatDoor.AI.T
