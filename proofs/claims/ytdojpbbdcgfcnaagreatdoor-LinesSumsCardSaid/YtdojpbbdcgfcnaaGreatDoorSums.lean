import Derived.Test.YtdojpbbdcgfcnaaGreatDoorLaw
set_option linter.all false
/- RUNS WITH UNKNOWN INPUTS, 2: slices that are read, lists that grow, functions whose heap goes on. -/
namespace Go.Proofs.YtdojpbbdcgfcnaaGreatDoor.AI

section
variable {cx : Cx} {e : List V} {fr : Fr} {h h' h0 : H} {v : V} {vs : List V}

/-- a slice of one cell an element that can be read -/
def RdAt (h : H) (v : V) (vs : List V) : Prop :=
  ((v = .nils ∨ ∃ b, v = .odd b) ∧ vs = []) ∨ ∃ b o c l kd ty, v = .slc b o vs.length c ∧ h.get b = some (.cells l kd ty) ∧ Old h b ∧ ∀ (i : Nat) (u : V), vs[i]? = some u → l[o + i]? = some u ∧ u.isJunk = false
theorem SlcAt.rd (hs : SlcAt h v vs) : RdAt h v vs := by
  rcases hs with h1 | ⟨b, o, c, l, kd, ty, h1, _, h3, h4, h5⟩
  · exact .inl h1
  · exact .inr ⟨b, o, _, l, kd, ty, h1, h3, h4, h5⟩
theorem RdAt.len (hs : RdAt h v vs) (f : V → Res) : lenS v f = f (.int .i64 vs.length) := by
  rcases hs with ⟨rfl | ⟨b, rfl⟩, rfl⟩ | ⟨b, o, c, l, kd, ty, rfl, _⟩ <;> rfl
theorem RdAt.at (hs : RdAt h v vs) {i : Nat} {u : V} (hi : vs[i]? = some u) : ∃ b o, Old h b ∧ (∀ kd f, idxS 1 v (.int kd i) f = f b o) ∧ ∀ f, h.loadK none b o f = f u := by
  rcases hs with ⟨_, rfl⟩ | ⟨b, o, c, l, kd, ty, rfl, hb, hold, hl⟩
  · simp at hi
  · have hlt : i < vs.length := (List.getElem?_eq_some_iff.1 hi).1
    obtain ⟨h1, h2⟩ := hl i u hi
    refine ⟨b, o + i * 1, hold, fun kd f => ?_, fun f => ?_⟩
    · simp only [idxS, onSlc_s]; rw [onIndex_nat hlt]
    · rw [loadK_none, hb]; simp [h1, h2]
theorem RdAt.ext (hs : RdAt h v vs) (hh : Ext h h') : RdAt h' v vs := by
  rcases hs with h1 | ⟨b, o, c, l, kd, ty, h1, h3, h4, h5⟩
  · exact .inl h1
  · exact .inr ⟨b, o, c, l, kd, ty, h1, by rw [hh.get b h4]; exact h3, hh.old h4, h5⟩
theorem RdAt.bare (hs : RdAt h v vs) : RdAt ⟨h.next, h.t, []⟩ v vs := hs
theorem RdAt.junk (hs : RdAt h v vs) : v.isJunk = false := by
  rcases hs with ⟨rfl | ⟨b, rfl⟩, rfl⟩ | ⟨b, o, c, l, kd, ty, rfl, _⟩ <;> rfl
theorem RdAt.cells (hs : RdAt h v vs) : v.cells = [v] := by
  rcases hs with ⟨rfl | ⟨b, rfl⟩, rfl⟩ | ⟨b, o, c, l, kd, ty, rfl, _⟩ <;> rfl
theorem RdAt.one (hs : RdAt h v vs) : v.isOne = true := by
  rcases hs with ⟨rfl | ⟨b, rfl⟩, rfl⟩ | ⟨b, o, c, l, kd, ty, rfl, _⟩ <;> rfl
theorem RdAt.eqD (hs : RdAt h v vs) {n : Nat} : eqD (n + 1) v v = true := by
  rcases hs with ⟨rfl | ⟨b, rfl⟩, rfl⟩ | ⟨b, o, c, l, kd, ty, rfl, _⟩
  · rfl
  · simp [Go.Proofs.YtdojpbbdcgfcnaaGreatDoor.AI.eqD]
  · simp [Go.Proofs.YtdojpbbdcgfcnaaGreatDoor.AI.eqD]
theorem RdAt.uniq {us : List V} (hs : RdAt h v vs) (ht : RdAt h v us) : vs = us := by
  rcases hs with ⟨hv, rfl⟩ | ⟨b, o, c, l, kd, ty, rfl, h3, h4, h5⟩
  · rcases ht with ⟨_, rfl⟩ | ⟨b, o, c, l, kd, ty, h1, _⟩
    · rfl
    · subst h1
      rcases hv with hv | ⟨_, hv⟩ <;> cases hv
  · rcases ht with ⟨h1, _⟩ | ⟨b', o', c', l', kd', ty', h1, k3, k4, k5⟩
    · rcases h1 with h1 | ⟨_, h1⟩ <;> cases h1
    · obtain ⟨rfl, rfl, hlen, _⟩ := V.slc.inj h1
      rw [h3] at k3; cases k3
      refine List.ext_getElem? fun i => ?_
      cases hi : vs[i]? with
      | none =>
        have : us[i]? = none := by
          rw [List.getElem?_eq_none_iff] at hi ⊢; omega
        rw [this]
      | some u =>
        have hlt := (List.getElem?_eq_some_iff.1 hi).1
        have hu : us[i]? = some us[i] := List.getElem?_eq_getElem (by omega)
        rw [hu]
        have e1 := (h5 i u hi).1
        have e2 := (k5 i _ hu).1
        rw [e1] at e2; exact e2
/-- how many elements: where the whole of it is read -/
theorem RdAt.lenK (hs : RdAt h v vs) {β : Type} {k : Nat → β} {z : β} : V.lenK v k z = k vs.length ∨ ∃ b, v = .odd b := by
  rcases hs with ⟨rfl | ⟨b, rfl⟩, rfl⟩ | ⟨b, o, c, l, kd, ty, rfl, _⟩
  · exact .inl rfl
  · exact .inr ⟨b, rfl⟩
  · exact .inl rfl

/-! ### lists that grow -/
/-- a list of ours, with room behind it: nobody had it in h0 -/
def GrAt (ty : TypeId) (h0 h : H) (v : V) (vs : List V) : Prop := (∀ u ∈ vs, u.isJunk = false) ∧ ((v = .nils ∧ vs = []) ∨ ∃ p, v = .slc p 0 vs.length (.rest 0) ∧ h.get p = some (.cells vs (.opn 1) ty) ∧ Old h p ∧ ¬ Old h0 p)
theorem GrAt.nil {ty : TypeId} : GrAt ty h0 h .nils [] := ⟨by simp, .inl ⟨rfl, rfl⟩⟩
theorem GrAt.rd {ty : TypeId} (hg : GrAt ty h0 h v vs) : RdAt h v vs := by
  obtain ⟨hj, ⟨rfl, rfl⟩ | ⟨p, rfl, h1, h2, _⟩⟩ := hg
  · exact .inl ⟨.inl rfl, rfl⟩
  · exact .inr ⟨p, 0, _, vs, _, ty, rfl, h1, h2, fun i u hu => ⟨by rw [Nat.zero_add]; exact hu, hj u (List.mem_of_getElem? hu)⟩⟩
theorem GrAt.ext {ty : TypeId} (hg : GrAt ty h0 h v vs) (hh : Ext h h') : GrAt ty h0 h' v vs := by
  obtain ⟨hj, h1 | ⟨p, h1, h2, h3, h4⟩⟩ := hg
  · exact ⟨hj, .inl h1⟩
  · exact ⟨hj, .inr ⟨p, h1, by rw [hh.get p h3]; exact h2, hh.old h3, h4⟩⟩
theorem GrAt.notOdd {ty : TypeId} (hg : GrAt ty h0 h v vs) (b : Pos) : v ≠ .odd b := by
  obtain ⟨_, ⟨rfl, _⟩ | ⟨p, rfl, _⟩⟩ := hg <;> (intro h; cases h)

theorem nble_false {a b : Nat} (h : b < a) : Nat.ble a b = false := by
  cases hb : Nat.ble a b with
  | false => rfl
  | true => have := Nat.le_of_ble_eq_true hb; omega

theorem GrAt.grow {ty : TypeId} (hg : GrAt ty h0 h v vs) (hx : Ext h0 h) {new : List V} {n : Nat} (hn : new.length = n) (hl : vs.length + n ≤ 1073741824) (ho : onesK new = true) (hj : ∀ u ∈ new, u.isJunk = false) :
    ∃ v' h', (∀ k : V → H → Res, growK h 1 ty n new v k = k v' h') ∧ Ext h0 h' ∧ GrAt ty h0 h' v' (vs ++ new) ∧ (∀ b, Old h b → (∀ o m c, v ≠ .slc b o m c) → h'.get b = h.get b) ∧ h.next.toNat ≤ h'.next.toNat := by
  subst hn
  have hb1 : Nat.ble new.length 1073741824 = true := Nat.ble_eq_true_of_le (by omega)
  obtain ⟨hj0, ⟨rfl, rfl⟩ | ⟨p, rfl, h1, h2, h3⟩⟩ := hg
  · cases new with
    | nil =>
      exact ⟨.nils, h, fun k => rfl, hx, GrAt.nil, fun _ _ _ => rfl, Nat.le_refl _⟩
    | cons a l =>
      refine ⟨.slc h.next 0 (l.length + 1) (.rest 0), h.new (.cells (a :: l) (.opn 1) ty), fun k => ?_, hx.new, ⟨by simpa using hj, .inr ⟨h.next, by simp, get_new_next, old_next, fun hh => ?_⟩⟩, fun b hb _ => get_new_old hb, by rw [H.next_new]; omega⟩
      · show (Bool.casesOn (Nat.ble (l.length + 1) 1073741824) none (h.newK (.cells (a :: l) (.opn 1) ty) fun p h => k (.slc p 0 (l.length + 1) (.rest 0)) h) : Res) = _
        have hb1' : Nat.ble (l.length + 1) 1073741824 = true := hb1
        rw [hb1', H.newK_eq]
      · have := hx.next; simp only [Old] at hh; omega
  · have hb2 : Nat.ble vs.length 1073741824 = true := Nat.ble_eq_true_of_le (by omega)
    by_cases hz : new.length = 0
    · have hz' : new = [] := List.eq_nil_of_length_eq_zero hz
      subst hz'
      refine ⟨.slc p 0 vs.length (.rest 0), h.put p (some (.cells vs (.opn 1) ty)), fun k => ?_, hx.put h3, ⟨by simpa using hj0, .inr ⟨p, by simp, by simp, h2, h3⟩⟩, fun b hb hne => ?_, Nat.le_refl _⟩
      · show (Bool.casesOn (Nat.ble vs.length 1073741824) none <| natK (Nat.add vs.length 0) fun need => (Bool.casesOn (Nat.beq 0 (Nat.mul 0 1)) none <| h.getK p (fun x => x.onCells (fun l kd t => Kind.casesOn kd none none fun s => Bool.casesOn (Nat.beq s 1) none <|
          lenK l fun L => Bool.casesOn (Nat.ble (Nat.add 0 (Nat.mul need 1)) L)
            (Bool.casesOn (Nat.beq (Nat.add 0 (Nat.mul vs.length 1)) L) none (Bool.casesOn (and (Nat.beq t ty) (onesK [])) none <| dropK 0 l (fun l => appK l [] fun l => h.putK p none fun h => h.newK (.cells l (.opn 1) t) fun p h => k (.slc p 0 need (.rest 0)) h) none))
            (natK (Nat.add 0 (Nat.mul vs.length 1)) fun o => h.storeK p o [] fun h => k (.slc p 0 need (.rest 0)) h)) none) none : Res) : Res) = _
        rw [hb2, natK_eq, H.getK_eq, h1]
        refine (lenK_eq vs _).trans ?_
        have hb3 : Nat.ble (Nat.add 0 (Nat.mul (vs.length + 0) 1)) vs.length = true := Nat.ble_eq_true_of_le (by show 0 + (vs.length + 0) * 1 ≤ _; omega)
        rw [hb3]
        show natK _ _ = _
        rw [natK_eq, storeK_box h1 rfl ho (by show 0 + vs.length * 1 + 0 ≤ vs.length; omega)]
        show k (.slc p 0 (vs.length + 0) (.rest 0)) (h.put p (some (.cells (setAt (0 + vs.length * 1) [] vs) (.opn 1) ty))) = _
        have : setAt (0 + vs.length * 1) [] vs = vs := by
          have key : ∀ (n : Nat) (l : List V), setAt n [] l = l := by
            intro n
            induction n with
            | zero => intro l; simp [setAt]
            | succ n ih => intro l; cases l with
              | nil => simp [setAt]
              | cons a l => simp [setAt]
          exact key _ _
        rw [this]; rfl
      · rw [H.get_put, if_neg (fun he => hne 0 vs.length (.rest 0) (by rw [he]))]
    · refine ⟨.slc h.next 0 (vs.length + new.length) (.rest 0), (h.put p none).new (.cells (vs ++ new) (.opn 1) ty), fun k => ?_, (hx.put h3).new, ⟨fun u hu => ?_, .inr ⟨h.next, by simp, ?_, old_next, fun hh => ?_⟩⟩, fun b hb hne => ?_, by rw [H.next_new]; exact Nat.le_succ _⟩
      · show (Bool.casesOn (Nat.ble new.length 1073741824) none <| (Bool.casesOn (Nat.ble vs.length 1073741824) none <| natK (Nat.add vs.length new.length) fun need => (Bool.casesOn (Nat.beq 0 (Nat.mul 0 1)) none <| h.getK p (fun x => x.onCells (fun l kd t => Kind.casesOn kd none none fun s => Bool.casesOn (Nat.beq s 1) none <|
          lenK l fun L => Bool.casesOn (Nat.ble (Nat.add 0 (Nat.mul need 1)) L)
            (Bool.casesOn (Nat.beq (Nat.add 0 (Nat.mul vs.length 1)) L) none (Bool.casesOn (and (Nat.beq t ty) (onesK new)) none <| dropK 0 l (fun l => appK l new fun l => h.putK p none fun h => h.newK (.cells l (.opn 1) t) fun p h => k (.slc p 0 need (.rest 0)) h) none))
            (natK (Nat.add 0 (Nat.mul vs.length 1)) fun o => h.storeK p o new fun h => k (.slc p 0 need (.rest 0)) h)) none) none : Res) : Res) : Res) = _
        rw [hb1, hb2, natK_eq, H.getK_eq, h1]
        refine (lenK_eq vs _).trans ?_
        have hb3 : Nat.ble (Nat.add 0 (Nat.mul (Nat.add vs.length new.length) 1)) vs.length = false := nble_false (by show vs.length < 0 + (vs.length + new.length) * 1; omega)
        have hb4 : Nat.beq (Nat.add 0 (Nat.mul vs.length 1)) vs.length = true := by
          have : Nat.add 0 (Nat.mul vs.length 1) = vs.length := by show 0 + vs.length * 1 = _; omega
          rw [this]; exact Nat.beq_refl _
        have hb5 : (and (Nat.beq ty ty) (onesK new)) = true := by rw [ho, Nat.beq_refl]; rfl
        rw [hb3]
        show (Bool.casesOn (Nat.beq (Nat.add 0 (Nat.mul vs.length 1)) vs.length) none (Bool.casesOn (and (Nat.beq ty ty) (onesK new)) none _) : Res) = _
        rw [hb4]
        show (Bool.casesOn (and (Nat.beq ty ty) (onesK new)) none _ : Res) = _
        rw [hb5]
        show dropK 0 vs _ none = _
        rw [dropK_eq, if_pos (Nat.zero_le _), appK_eq, H.putK_eq, H.newK_eq]
        rfl
      · rcases List.mem_append.1 hu with hu | hu
        · exact hj0 u hu
        · exact hj u hu
      · exact get_new_next (h := h.put p none)
      · have := hx.next; simp only [Old] at hh; omega
      · rw [get_new_old (h := h.put p none) hb, H.get_put, if_neg (fun he => hne 0 vs.length (.rest 0) (by rw [he]))]

/-- append -/
noncomputable def appS (sz : Nat) (ty : TypeId) (s x : V) (h : H) (k : V → H → Res) : Res := x.lenK (fun n => firstK h sz n x fun new => growK h sz ty n new s k) none
@[congr] theorem appS_congr {sz : Nat} {ty : TypeId} {s s' x x' : V} {h h' : H} {k : V → H → Res} (a : s = s') (b : x = x') (c : h = h') : appS sz ty s x h k = appS sz ty s' x' h' k := by rw [a, b, c]
@[simp, simp ↓] theorem sAppend_s {sz : Nat} {ty : TypeId} {s x : O} {k : V → H → Res} : sAppend sz ty s x cx e fr h k = evK e fr s fun s => evK e fr x fun x => appS sz ty s x h k := Eq.trans rfl rfl

theorem firstK_rd {n : Nat} (hs : RdAt h v vs) (hz : vs ≠ []) (hn : vs.length = n) {k : List V → Res} : firstK h 1 n v k = k vs := by
  subst hn
  rcases hs with ⟨rfl | ⟨b, rfl⟩, rfl⟩ | ⟨b, o, c, l, kd, ty, rfl, hb, hold, hl⟩
  · exact absurd rfl hz
  · exact absurd rfl hz
  · show h.cellsK b o (Nat.mul vs.length 1) k = _
    have hlen : (l.drop o).take vs.length = vs := by
      refine List.ext_getElem? fun i => ?_
      rw [List.getElem?_take]
      split
      · rename_i hi
        rw [List.getElem?_drop]
        have hv := List.getElem?_eq_getElem (l := vs) hi
        rw [hv]; exact (hl i _ hv).1
      · rename_i hi; rw [List.getElem?_eq_none (by omega)]
    have hjk : noJunk vs = true := by
      have key : ∀ ws : List V, (∀ u ∈ ws, u.isJunk = false) → noJunk ws = true := by
        intro ws
        induction ws with
        | nil => intro _; rfl
        | cons a ws ih => intro hw; simp [noJunk_cons, hw a (by simp), ih fun u hu => hw u (List.mem_cons_of_mem _ hu)]
      refine key vs fun u hu => ?_
      obtain ⟨i, hi, rfl⟩ := List.getElem_of_mem hu
      exact (hl i _ (List.getElem?_eq_getElem hi)).2
    unfold H.cellsK
    rw [H.getK_eq, hb]
    show dropK o l (fun l => takeK (Nat.mul vs.length 1) l k none) none = _
    have h1 : Nat.mul vs.length 1 = vs.length := Nat.mul_one _
    rw [h1, dropK_eq, takeK_eq, hlen]
    have hle : (l.drop o).length ≥ vs.length := by
      have := congrArg List.length hlen
      simp at this
      simp; omega
    have hpos : 0 < vs.length := List.length_pos_iff.2 hz
    rw [if_pos (by simp at hle; omega), if_pos ⟨hle, hjk⟩]

/-- one element more -/
theorem GrAt.app1 {ty t2 : TypeId} {u : V} (hg : GrAt ty h0 h v vs) (hx : Ext h0 h) (hl : vs.length + 1 ≤ 1073741824) (ho : u.isOne = true) (hj : u.isJunk = false) :
    ∃ v' h', (∀ k : V → H → Res, appS 1 ty v (.slc h.next 0 1 (.known 1)) (h.new (.cells [u] .own t2)) k = k v' h') ∧ Ext h0 h' ∧ GrAt ty h0 h' v' (vs ++ [u]) ∧ (∀ b, Old h b → (∀ o m c, v ≠ .slc b o m c) → h'.get b = h.get b) ∧ h.next.toNat ≤ h'.next.toNat := by
  have hon : onesK [u] = true := by show (Bool.casesOn u.isOne false true : Bool) = true; rw [ho]
  obtain ⟨v', h', a1, a2, a3, a4, a5⟩ := (hg.ext (Ext.refl h).new (h' := h.new (.cells [u] .own t2))).grow (hx.new (x := .cells [u] .own t2)) (new := [u]) (n := 1) rfl hl hon (by simpa using hj)
  refine ⟨v', h', fun k => ?_, a2, a3, fun b hb hne => (a4 b (old_new hb) hne).trans (get_new_old hb), by rw [H.next_new] at a5; omega⟩
  have hr : RdAt (h.new (.cells [u] .own t2)) (.slc h.next 0 1 (.known 1)) [u] := .inr ⟨h.next, 0, _, [u], _, t2, rfl, get_new_next, old_next, fun i w hi => by
    rw [Nat.zero_add]; exact ⟨hi, by cases i with | zero => simp at hi; subst hi; exact hj | succ i => simp at hi⟩⟩
  show firstK (h.new (.cells [u] .own t2)) 1 1 (.slc h.next 0 1 (.known 1)) (fun new => growK (h.new (.cells [u] .own t2)) 1 ty 1 new v k) = _
  exact (firstK_rd (n := 1) hr (by simp) rfl).trans (a1 k)

/-- .. where the heap does not go on from h0 -/
theorem GrAt.app1' {ty t2 : TypeId} {u : V} (hg : GrAt ty h0 h v vs) (hx : h0.next.toNat ≤ h.next.toNat) (hl : vs.length + 1 ≤ 1073741824) (ho : u.isOne = true) (hj : u.isJunk = false) :
    ∃ v' h', (∀ k : V → H → Res, appS 1 ty v (.slc h.next 0 1 (.known 1)) (h.new (.cells [u] .own t2)) k = k v' h') ∧ GrAt ty h0 h' v' (vs ++ [u]) ∧ (∀ b, Old h b → (∀ o m c, v ≠ .slc b o m c) → h'.get b = h.get b) ∧ h.next.toNat ≤ h'.next.toNat ∧ h'.marks = h.marks := by
  obtain ⟨v', h', a1, a2, a3, a4, a5⟩ := GrAt.app1 (h0 := ⟨h0.next, h.t, h.marks⟩) (t2 := t2) (u := u) hg ⟨hx, fun _ _ => rfl, rfl⟩ hl ho hj
  exact ⟨v', h', a1, a3, a4, a5, a2.marks⟩
theorem GrAt.put {ty : TypeId} (hg : GrAt ty h0 h v vs) {l : Pos} {x : Option Blk} (hl : Old h0 l) : GrAt ty h0 (h.put l x) v vs := by
  obtain ⟨hj, h1 | ⟨p, h1, h2, h3, h4⟩⟩ := hg
  · exact ⟨hj, .inl h1⟩
  · exact ⟨hj, .inr ⟨p, h1, by rw [H.get_put, if_neg (fun he => h4 (by rw [he]; exact hl))]; exact h2, h3, h4⟩⟩
theorem GrAt.notOld {ty : TypeId} (hg : GrAt ty h0 h v vs) {b : Pos} (hb : Old h0 b) (o m : Nat) (c : Cap) : v ≠ .slc b o m c := by
  obtain ⟨_, ⟨rfl, _⟩ | ⟨p, rfl, _, _, h4⟩⟩ := hg
  · intro h; cases h
  · intro h; cases h; exact h4 hb

/-! ### what a function leaves -/
/-- its heap goes on from the caller's -/
def Ret1 (h : H) (Post : V → H → Prop) (r : Option (V × H)) : Prop := ∃ v h', r = some (v, h') ∧ Ext h h' ∧ Post v h'

theorem enterK_all : ∀ (ps : List Pos) (args : List V) (fr : Fr) (f : Fr → Option (V × H)), ps.length = args.length → enterK ps args fr f none = f (setAll fr ps args) := by
  intro ps
  induction ps with
  | nil => intro args fr f hl; cases args with
    | nil => rfl
    | cons => simp at hl
  | cons p ps ih => intro args fr f hl; cases args with
    | nil => simp at hl
    | cons a args =>
      show Tr.setK (some a) p fr (fun fr => enterK ps args fr f none) = _
      rw [Tr.setK_eq, ih _ _ _ (by simpa using hl)]; rfl

def tmps (l : List Pos) : List R := l.map .tmp
def getsAll (fr : Fr) : List Pos → List V → Prop
  | [], [] => True
  | p :: ps, v :: vs => Tr.get p fr = some v ∧ getsAll fr ps vs
  | _, _ => False
theorem resultsK_tmps {h : H} {fr : Fr} : ∀ {ps : List Pos} {vs : List V} {k : List V → Option (V × H)}, getsAll fr ps vs → resultsK h fr (tmps ps) k = k vs
  | [], [], k, _ => rfl
  | p :: ps, v :: vs, k, hg => by
    show (Option.casesOn (Tr.get p fr) none fun v => resultsK h fr (tmps ps) fun vs => k (v :: vs) : Option (V × H)) = _
    rw [hg.1]
    exact resultsK_tmps hg.2
  | [], _ :: _, _, hg => hg.elim
  | _ :: _, [], _, hg => hg.elim
theorem Ext.marked {h h' : H} (hh : Ext ⟨h.next, h.t, []⟩ h') : Ext h ⟨h'.next, h'.t, h.marks⟩ := ⟨hh.next, hh.get, rfl⟩
/-- A FUNCTION WITH RESULTS IN SLOTS -/
theorem body_ret {call : Call} {n : Nat} {ps rs : List Pos} {K : K} {args : List V} {Post : List V → H → Prop} (hl : ps.length = args.length)
    (hh : Ends (K ⟨call, n, false⟩ (setAll .leaf ps args) ⟨h.next, h.t, []⟩) fun x fr' h' => x = .jump .ret ∧ Ext ⟨h.next, h.t, []⟩ h' ∧ ∃ vs, getsAll fr' rs vs ∧ Post vs ⟨h'.next, h'.t, h.marks⟩) :
    ∃ vs h', bodyK call n ⟨ps, tmps rs, K⟩ args h = some (resOf vs, h') ∧ Ext h h' ∧ Post vs h' := by
  obtain ⟨x, fr', h', h1, rfl, hx, vs, h2, h3⟩ := hh
  refine ⟨vs, ⟨h'.next, h'.t, h.marks⟩, ?_, hx.marked, h3⟩
  show enterK ps args .leaf (fun fr => resK (K ⟨call, n, false⟩ fr ⟨h.next, h.t, []⟩) (fun fr h' => leaveK h.marks (tmps rs) fr h') (fun j fr h' => (Jump.casesOn j (fun _ => none) (leaveK h.marks (tmps rs) fr h') : Option (V × H))) none) none = _
  rw [enterK_all _ _ _ _ hl, h1]
  have hm : h'.marks = [] := hx.marks
  obtain ⟨nx, t, ms⟩ := h'
  simp only at hm
  subst hm
  show resultsK ⟨nx, t, h.marks⟩ fr' (tmps rs) (fun vs => some (resOf vs, ⟨nx, t, h.marks⟩)) = _
  rw [resultsK_tmps h2]
/-- .. with one result -/
theorem body_ret1 {call : Call} {n : Nat} {ps : List Pos} {r : Pos} {K : K} {args : List V} {Post : V → H → Prop} (hl : ps.length = args.length)
    (hh : Ends (K ⟨call, n, false⟩ (setAll .leaf ps args) ⟨h.next, h.t, []⟩) fun x fr' h' => x = .jump .ret ∧ Ext ⟨h.next, h.t, []⟩ h' ∧ ∃ v, Tr.get r fr' = some v ∧ Post v ⟨h'.next, h'.t, h.marks⟩) :
    Ret1 h Post (bodyK call n ⟨ps, [.tmp r], K⟩ args h) := by
  obtain ⟨vs, h', h1, h2, v, rfl, h3⟩ := body_ret (rs := [r]) (Post := fun vs h' => ∃ v, vs = [v] ∧ Post v h') hl (hh.mono fun x fr' h' ⟨a1, a2, v, a3, a4⟩ => ⟨a1, a2, [v], ⟨a3, trivial⟩, v, rfl, a4⟩)
  exact ⟨v, h', h1, h2, h3⟩
/-- .. with two -/
theorem body_ret2 {call : Call} {n : Nat} {ps : List Pos} {r s : Pos} {K : K} {args : List V} {Post : V → V → H → Prop} (hl : ps.length = args.length)
    (hh : Ends (K ⟨call, n, false⟩ (setAll .leaf ps args) ⟨h.next, h.t, []⟩) fun x fr' h' => x = .jump .ret ∧ Ext ⟨h.next, h.t, []⟩ h' ∧ ∃ v w, Tr.get r fr' = some v ∧ Tr.get s fr' = some w ∧ Post v w ⟨h'.next, h'.t, h.marks⟩) :
    ∃ v w h', bodyK call n ⟨ps, [.tmp r, .tmp s], K⟩ args h = some (.tup [v, w], h') ∧ Ext h h' ∧ Post v w h' := by
  obtain ⟨vs, h', h1, h2, v, w, rfl, h3⟩ := body_ret (rs := [r, s]) (Post := fun vs h' => ∃ v w, vs = [v, w] ∧ Post v w h') hl (hh.mono fun x fr' h' ⟨a1, a2, v, w, a3, a4, a5⟩ => ⟨a1, a2, [v, w], ⟨a3, a4, trivial⟩, v, w, rfl, a5⟩)
  exact ⟨v, w, h', h1, h2, h3⟩

/-- cells of a block that is known -/
theorem load1 {b : Pos} {l : List V} {kd : Kind} {ty : TypeId} {o : Nat} {f : V → Res} {u : V} (hb : h.get b = some (.cells l kd ty)) (hu : l[o]? = some u) (hj : u.isJunk = false) : h.loadK none b o f = f u := by
  rw [loadK_none, hb]; simp [hu, hj]
theorem loadAll {b : Pos} {l : List V} {kd : Kind} {ty : TypeId} {n : Nat} {f : V → Res} (hb : h.get b = some (.cells l kd ty)) (hn : l.length = n) (hj : noJunk l = true) : h.loadK (some n) b 0 f = f (.agg l) := by
  rw [loadK_take, hb]
  show (if 0 ≤ l.length ∧ n ≤ (l.drop 0).length ∧ noJunk ((l.drop 0).take n) = true then f (.agg ((l.drop 0).take n)) else none) = _
  rw [List.drop_zero, ← hn, List.take_length, if_pos ⟨Nat.zero_le _, Nat.le_refl _, hj⟩]
end
end Go.Proofs.YtdojpbbdcgfcnaaGreatDoor.AI
/- Functions of the law LinesSums, whatever their inputs, 1. -/
set_option maxRecDepth 100000
namespace Go.Proofs.YtdojpbbdcgfcnaaGreatDoor.AI.T
open Go Go.Proofs.YtdojpbbdcgfcnaaGreatDoor.AI

/-- functions that may be known without their bodies -/
def natList : List Nat := [17, 18, 19, 20, 21, 22, 261, 277, 339, 340, 378, 395]
structure Plain (p : Prg) : Prop where
  fs : ∀ f, p.fs f = tab.get f
  nat : ∀ f, natList.contains f = false → p.nat f = none
theorem Plain.call {p : Prg} (P : Plain p) {f m : Nat} {fk : FK} {args cap : List V} {h : H} (hf : tab.get f = some fk) (hn : natList.contains f = false) : callK p (m + 1) (.fn (.func f) [] cap) args h = bodyK (callK p m) m fk (args ++ cap) h := by
  rw [call_go, go_body (P.nat f hn) ((P.fs f).trans hf)]

abbrev w64 (i : Int) : Int := IntKind.wrap .i64 i
/-- a + the numbers of f at the places l -/
def sumAt (f : List Int) : Int → List Int → Int
  | a, [] => a
  | a, x :: l => sumAt f (w64 (a + f.getD x.toNat 0)) l
def sumUp (f : List Int) (l : List Int) : Int := sumAt f 0 l
theorem sumAt_step {f l : List Int} {i : Nat} (a : Int) (h : i < l.length) : sumAt f a (l.drop i) = sumAt f (w64 (a + f.getD l[i].toNat 0)) (l.drop (i + 1)) := by
  rw [List.drop_eq_getElem_cons h]; rfl

theorem int_at {h : H} {w : V} {f : List Int} (hf : RdAt h w (f.map vi)) {x : Int} (h0 : 0 ≤ x) (h1 : x < f.length) : ∃ b o, Old h b ∧ (∀ kd k, idxS 1 w (.int kd x) k = k b o) ∧ ∀ k, h.loadK none b o k = k (vi (f.getD x.toNat 0)) := by
  obtain ⟨n, rfl⟩ : ∃ n : Nat, x = n := ⟨x.toNat, by omega⟩
  have hn : n < f.length := by omega
  obtain ⟨b, o, a1, a2, a3⟩ := hf.at (i := n) (u := vi f[n]) (by simp [hn])
  exact ⟨b, o, a1, a2, fun k => by rw [a3]; simp [hn]⟩

section
variable {p : Prg} {m : Nat} {h : H}
theorem c239 (P : Plain p) {v w : V} {l f : List Int} (hl : RdAt h v (l.map vi)) (hf : RdAt h w (f.map vi)) (hr : ∀ x ∈ l, 0 ≤ x ∧ x < f.length) (hm : l.length + 2 ≤ m) (hx : l.length < 9223372036854775807) :
    callK p m (.fn (.func 239) [] []) [v, w] h = some (vi (sumUp f l), h) := by
  obtain ⟨m, rfl⟩ : ∃ k, m = k + 1 := ⟨m - 1, by omega⟩
  rw [P.call (fk := f239) rfl rfl]
  refine body_tmp rfl ?_
  simp [k239, ↓hl.len]
  refine Ends.looped (fun n fr' h' => h' = ⟨h.next, h.t, []⟩ ∧ ∃ (i : Nat) (a : Int), n + i = l.length ∧ Tr.get (Pos.ofNat 10) fr' = some (vi i) ∧ Tr.get (Pos.ofNat 9) fr' = some (vi l.length) ∧ Tr.get (Pos.ofNat 8) fr' = some v ∧ Tr.get (Pos.ofNat 1) fr' = some w ∧ Tr.get (Pos.ofNat 5) fr' = some (vi a) ∧ sumUp f l = sumAt f a (l.drop i))
    (fun j fr' h' => h' = ⟨h.next, h.t, []⟩ ∧ j = .exit 0 ∧ Tr.get (Pos.ofNat 5) fr' = some (vi (sumUp f l))) l.length ⟨rfl, 0, 0, by simp [sumUp]⟩ (show l.length < m by omega) ?_ ?_
  · rintro n fr' h' ⟨rfl, i, a, h1, h2, h3, h4, h5, h6, h7⟩
    by_cases hi : i < l.length
    · obtain ⟨b, o, a1, a2, a3⟩ := hl.bare.at (i := i) (u := vi l[i]) (by simp [hi])
      obtain ⟨hx0, hx1⟩ := hr l[i] (List.getElem_mem hi)
      obtain ⟨b', o', d1, d2, d3⟩ := int_at hf.bare hx0 hx1
      have hw := wrap_succ hi hx
      simp [h2, h3, h4, h5, h6, hi, ↓a2, ↓a3, ↓d2, ↓d3, hw]
      exact ⟨n - 1, by omega, i + 1, by omega, by simp, by rw [h7, sumAt_step a hi]; simp⟩
    · simp [h2, h3, hi, h6]
      rw [h7, List.drop_eq_nil_of_le (by omega)]; rfl
  · rintro j fr' h' ⟨rfl, rfl, h1⟩
    simp [h1]

theorem c168 (P : Plain p) {v w : V} {l f : List Int} (hl : RdAt h v (l.map vi)) (hf : RdAt h w (f.map vi)) (hr : ∀ x ∈ l, 0 ≤ x ∧ x < f.length) (hm : l.length + 2 ≤ m) (hx : l.length < 9223372036854775807) :
    callK p m (.fn (.func 168) [] []) [v, w] h = some (vi (sumUp f l), h) := by
  obtain ⟨m, rfl⟩ : ∃ k, m = k + 1 := ⟨m - 1, by omega⟩
  rw [P.call (fk := f168) rfl rfl]
  refine body_tmp rfl ?_
  simp [k168]
  refine Ends.looped (fun n fr' h' => h' = ⟨h.next, h.t, []⟩ ∧ ∃ (i : Nat) (a : Int), n + i = l.length ∧ Tr.get (Pos.ofNat 6) fr' = some (vi i) ∧ Tr.get (Pos.ofNat 0) fr' = some v ∧ Tr.get (Pos.ofNat 1) fr' = some w ∧ Tr.get (Pos.ofNat 5) fr' = some (vi a) ∧ sumUp f l = sumAt f a (l.drop i))
    (fun j fr' h' => h' = ⟨h.next, h.t, []⟩ ∧ j = .exit 0 ∧ Tr.get (Pos.ofNat 5) fr' = some (vi (sumUp f l))) l.length ⟨rfl, 0, 0, by simp [sumUp]⟩ (show l.length < m by omega) ?_ ?_
  · rintro n fr' h' ⟨rfl, i, a, h1, h2, h4, h5, h6, h7⟩
    have hlen := hl.bare.len
    by_cases hi : i < l.length
    · obtain ⟨b, o, a1, a2, a3⟩ := hl.bare.at (i := i) (u := vi l[i]) (by simp [hi])
      obtain ⟨hx0, hx1⟩ := hr l[i] (List.getElem_mem hi)
      obtain ⟨b', o', d1, d2, d3⟩ := int_at hf.bare hx0 hx1
      have hw := wrap_succ hi hx
      simp [h2, h4, h5, h6, hi, ↓hlen, ↓a2, ↓a3, ↓d2, ↓d3, hw]
      exact ⟨n - 1, by omega, i + 1, by omega, by simp, by rw [h7, sumAt_step a hi]; simp⟩
    · simp [h2, h4, ↓hlen, hi, h6]
      rw [h7, List.drop_eq_nil_of_le (by omega)]; rfl
  · rintro j fr' h' ⟨rfl, rfl, h1⟩
    simp [h1]

/-- lines whose cells are places of a filling, not many and not long -/
structure Fit (ls : List (List Int)) (n : Nat) : Prop where
  len : ls.length ≤ 1000
  lens : ∀ l ∈ ls, l.length ≤ 1000
  rng : ∀ l ∈ ls, ∀ x ∈ l, 0 ≤ x ∧ x < n
def sumsOf (f : List Int) (ls : List (List Int)) : List Int := ls.map (sumUp f)

theorem c140 (P : Plain p) {c : Int} {v w : V} {ls : List (List Int)} {f : List Int} (hs : LinesAt h v ls) (hf : RdAt h w (f.map vi)) (hfit : Fit ls f.length) (hm : 1100 ≤ m) :
    Ret1 h (fun u h' => RdAt h' u ((sumsOf f ls).map vi)) (callK p m (.fn (.func 140) [] []) [.agg [vi c, v], w] h) := by
  obtain ⟨m, rfl⟩ : ∃ k, m = k + 1 := ⟨m - 1, by omega⟩
  rw [P.call (fk := f140) rfl rfl]
  refine body_ret1 rfl ?_
  generalize hH0 : (⟨h.next, h.t, []⟩ : H) = H0
  have hs0 : LinesAt H0 v ls := by rw [← hH0]; exact hs
  have hf0 : RdAt H0 w (f.map vi) := by rw [← hH0]; exact hf
  have hj := hs.junk
  generalize hH1 : H0.new (.cells [vi c, v] .own 24) = H1
  have x01 : Ext H0 H1 := by rw [← hH1]; exact (Ext.refl _).new
  have b1 : ∀ f, H1.loadK none H0.next 1 f = f v := fun f => by rw [← hH1]; simp [hj]
  have hs1 := hs0.ext x01
  have hf1 := hf0.ext x01
  have hlen := hfit.len
  simp [k140, hH1, ↓b1, ↓hs1.len]
  refine Ends.looped (fun n fr' h' => Ext H1 h' ∧ ∃ (i : Nat) (u : V), n + i = ls.length ∧ Tr.get (Pos.ofNat 11) fr' = some (vi i) ∧ Tr.get (Pos.ofNat 10) fr' = some (vi ls.length) ∧ Tr.get (Pos.ofNat 9) fr' = some v ∧ Tr.get (Pos.ofNat 1) fr' = some w ∧ Tr.get (Pos.ofNat 5) fr' = some u ∧ GrAt 3 H1 h' u ((sumsOf f (ls.take i)).map vi))
    (fun j fr' h' => Ext H1 h' ∧ j = .exit 0 ∧ ∃ u, Tr.get (Pos.ofNat 5) fr' = some u ∧ GrAt 3 H1 h' u ((sumsOf f ls).map vi)) ls.length ⟨Ext.refl _, 0, .nils, by simp [sumsOf, GrAt.nil]⟩ (show ls.length < m by omega) ?_ ?_
  · rintro n fr' h' ⟨hx, i, u, h1, h2, h3, h4, h5, h6, h7⟩
    by_cases hi : i < ls.length
    · obtain ⟨b, o, q, a1, a2, a3, a4⟩ := (hs1.ext hx).at hi
      have hmem := List.getElem_mem hi
      have hc := c239 (m := m) P a4.rd (hf1.ext hx) (hfit.rng _ hmem) (by have := hfit.lens _ hmem; omega) (by have := hfit.lens _ hmem; omega)
      have hw := wrap_succ hi (show ls.length < 9223372036854775807 by omega)
      obtain ⟨u', h'', e1, e2, e3, _, _⟩ := h7.app1 (t2 := 3) (u := vi (sumUp f ls[i])) hx (by simp [sumsOf]; omega) rfl rfl
      simp [h2, h3, h4, h5, h6, hi, ↓a2, ↓a3, hc, repL, setAt, e1, hw, e2]
      refine ⟨n - 1, by omega, i + 1, by omega, by simp, ?_⟩
      rw [List.take_succ_eq_append_getElem hi]
      simp only [sumsOf, List.map_append, List.map_cons, List.map_nil] at e3 ⊢
      exact e3
    · simp [h2, h3, hi, h6, hx]
      rwa [List.take_of_length_le (by omega)] at h7
  · rintro j fr' h' ⟨hx, rfl, u, h1, h2⟩
    simp [h1]
    exact ⟨x01.trans hx, h2.rd⟩

theorem c70 (P : Plain p) {c : Int} {v w : V} {ls : List (List Int)} {f : List Int} (hs : LinesAt h v ls) (hf : RdAt h w (f.map vi)) (hfit : Fit ls f.length) (hm : 1100 ≤ m) :
    Ret1 h (fun u h' => RdAt h' u ((sumsOf f ls).map vi)) (callK p m (.fn (.func 70) [] []) [.agg [vi c, v], w] h) := by
  obtain ⟨m, rfl⟩ : ∃ k, m = k + 1 := ⟨m - 1, by omega⟩
  rw [P.call (fk := f70) rfl rfl]
  refine body_ret1 rfl ?_
  generalize hH0 : (⟨h.next, h.t, []⟩ : H) = H0
  have hs0 : LinesAt H0 v ls := by rw [← hH0]; exact hs
  have hf0 : RdAt H0 w (f.map vi) := by rw [← hH0]; exact hf
  have hj := hs.junk
  generalize hH1 : H0.new (.cells [vi c, v] .own 24) = H1
  have x01 : Ext H0 H1 := by rw [← hH1]; exact (Ext.refl _).new
  have bo : Old H1 H0.next := by rw [← hH1]; exact old_next
  have b1 : ∀ f, H1.loadK none H0.next 1 f = f v := fun f => by rw [← hH1]; simp [hj]
  have hs1 := hs0.ext x01
  have hf1 := hf0.ext x01
  have hlen := hfit.len
  simp [k70, hH1]
  refine Ends.looped (fun n fr' h' => Ext H1 h' ∧ ∃ (i : Nat) (u : V), n + i = ls.length ∧ Tr.get (Pos.ofNat 6) fr' = some (vi i) ∧ Tr.get (Pos.ofNat 2) fr' = some (.ptr H0.next 0) ∧ Tr.get (Pos.ofNat 1) fr' = some w ∧ Tr.get (Pos.ofNat 5) fr' = some u ∧ GrAt 3 H1 h' u ((sumsOf f (ls.take i)).map vi))
    (fun j fr' h' => Ext H1 h' ∧ j = .exit 0 ∧ ∃ u, Tr.get (Pos.ofNat 5) fr' = some u ∧ GrAt 3 H1 h' u ((sumsOf f ls).map vi)) ls.length ⟨Ext.refl _, 0, .nils, by simp [sumsOf, GrAt.nil]⟩ (show ls.length < m by omega) ?_ ?_
  · rintro n fr' h' ⟨hx, i, u, h1, h2, h4, h5, h6, h7⟩
    have hsx := hs1.ext hx
    have bx : ∀ f, h'.loadK none H0.next 1 f = f v := fun f => by rw [hx.load bo]; exact b1 f
    by_cases hi : i < ls.length
    · obtain ⟨b, o, q, a1, a2, a3, a4⟩ := hsx.at hi
      have hmem := List.getElem_mem hi
      have hc := c168 (m := m) P a4.rd (hf1.ext hx) (hfit.rng _ hmem) (by have := hfit.lens _ hmem; omega) (by have := hfit.lens _ hmem; omega)
      have hw := wrap_succ hi (show ls.length < 9223372036854775807 by omega)
      obtain ⟨u', h'', e1, e2, e3, _, _⟩ := h7.app1 (t2 := 3) (u := vi (sumUp f ls[i])) hx (by simp [sumsOf]; omega) rfl rfl
      simp [h2, h4, h5, h6, hi, ↓bx, ↓hsx.len, ↓a2, ↓a3, hc, repL, setAt, e1, hw, e2]
      refine ⟨n - 1, by omega, i + 1, by omega, by simp, ?_⟩
      rw [List.take_succ_eq_append_getElem hi]
      simp only [sumsOf, List.map_append, List.map_cons, List.map_nil] at e3 ⊢
      exact e3
    · simp [h2, h4, ↓bx, ↓hsx.len, hi, h6, hx]
      rwa [List.take_of_length_le (by omega)] at h7
  · rintro j fr' h' ⟨hx, rfl, u, h1, h2⟩
    simp [h1]
    exact ⟨x01.trans hx, h2.rd⟩

/-- the place of the first that is not the first -/
def firstOther (l : List Int) : Int := idxOf (fun x => !decide (x = l.headD 0)) l 0
theorem c204 (P : Plain p) {w : V} {l : List Int} {x : Int} {b : Pos} (hb : ∀ f, h.loadK none b 0 f = f w) (hl : RdAt h w (l.map vi)) (hne : l ≠ []) (hm : 1 ≤ m) :
    callK p m (.fn (.func 204) [] [.ptr b 0]) [vi x] h = some (.bool (!decide (x = l.headD 0)), h) := by
  obtain ⟨m, rfl⟩ : ∃ k, m = k + 1 := ⟨m - 1, by omega⟩
  rw [P.call (fk := f204) rfl rfl]
  refine body_tmp rfl ?_
  have hpos : 0 < l.length := List.length_pos_iff.2 hne
  obtain ⟨b', o', d1, d2, d3⟩ := hl.bare.at (i := 0) (u := vi (l.headD 0)) (by cases l with | nil => exact absurd rfl hne | cons a l => rfl)
  have hb' : ∀ f, H.loadK ⟨h.next, h.t, []⟩ none b 0 f = f w := hb
  have d2' : ∀ kd k, idxS 1 w (.int kd 0) k = k b' o' := fun kd k => d2 kd k
  simp [k204, ↓hb', ↓d2', ↓d3]
theorem c203 (P : Plain p) {v f : V} {xs : List Int} {Q : Int → Bool} (hs : RdAt h v (xs.map vi)) (hm : xs.length + 2 ≤ m) (hx : xs.length < 9223372036854775807)
    (hc : ∀ x ∈ xs, ∀ k, m = k + 1 → callK p k f [vi x] ⟨h.next, h.t, []⟩ = some (.bool (Q x), ⟨h.next, h.t, []⟩)) : callK p m (.fn (.func 203) [] []) [v, f] h = some (vi (idxOf Q xs 0), h) := by
  obtain ⟨m, rfl⟩ : ∃ k, m = k + 1 := ⟨m - 1, by omega⟩
  rw [P.call (fk := f203) rfl rfl]
  refine body_tmp rfl ?_
  simp [k203, ↓hs.len]
  refine Ends.looped (fun n fr' h' => h' = ⟨h.next, h.t, []⟩ ∧ ∃ i, n + i = xs.length ∧ Tr.get (Pos.ofNat 8) fr' = some (vi i) ∧ Tr.get (Pos.ofNat 7) fr' = some (vi xs.length) ∧ Tr.get (Pos.ofNat 0) fr' = some v ∧ Tr.get (Pos.ofNat 1) fr' = some f ∧ idxOf Q xs 0 = idxOf Q (xs.drop i) i)
    (fun j fr' h' => h' = ⟨h.next, h.t, []⟩ ∧ ((j = .exit 0 ∧ idxOf Q xs 0 = -1) ∨ (j = .ret ∧ Tr.get (Pos.ofNat 4) fr' = some (vi (idxOf Q xs 0))))) xs.length ⟨rfl, 0, by simp⟩ (show xs.length < m by omega) ?_ ?_
  · rintro n fr' h' ⟨rfl, i, h1, h2, h3, h4, h4', h5⟩
    by_cases hi : i < xs.length
    · obtain ⟨b, o, a1, a2, a3⟩ := hs.bare.at (i := i) (u := vi xs[i]) (by simp [hi])
      have hf := idxOf_drop (P := Q) (List.getElem?_eq_getElem hi)
      have hw := wrap_succ hi hx
      have hcc := hc xs[i] (List.getElem_mem hi) m rfl
      by_cases h0 : Q xs[i] = true
      · simp [h2, h3, h4, h4', hi, ↓a2, ↓a3, h0, hcc]
        rw [h5, hf, if_pos h0]
      · simp [h2, h3, h4, h4', hi, ↓a2, ↓a3, h0, hcc, hw]
        refine ⟨n - 1, by omega, i + 1, by omega, by simp, ?_⟩
        rw [h5, hf, if_neg h0]
    · simp [h2, h3, hi]
      rw [h5, List.drop_eq_nil_of_le (by omega)]; rfl
  · rintro j fr' h' ⟨rfl, ⟨rfl, h1⟩ | ⟨rfl, h1⟩⟩
    · simp [h1]
    · simp [h1]
theorem c97 (P : Plain p) {c : Int} {v w : V} {ls : List (List Int)} {f : List Int} (hs : LinesAt h v ls) (hf : RdAt h w (f.map vi)) (hfit : Fit ls f.length) (hm : 1200 ≤ m) :
    Ret1 h (fun u _ => u = vi (firstOther (sumsOf f ls))) (callK p m (.fn (.func 97) [] []) [.agg [vi c, v], w] h) := by
  obtain ⟨m, rfl⟩ : ∃ k, m = k + 1 := ⟨m - 1, by omega⟩
  rw [P.call (fk := f97) rfl rfl]
  refine body_ret1 rfl ?_
  generalize hH0 : (⟨h.next, h.t, []⟩ : H) = H0
  have hs0 : LinesAt H0 v ls := by rw [← hH0]; exact hs
  have hf0 : RdAt H0 w (f.map vi) := by rw [← hH0]; exact hf
  have hj := hs.junk
  generalize hH1 : H0.new (.cells [vi c, v] .own 24) = H1
  have x01 : Ext H0 H1 := by rw [← hH1]; exact (Ext.refl _).new
  have b2 : ∀ f, H1.loadK (some 2) H0.next 0 f = f (.agg [vi c, v]) := fun f => by rw [← hH1]; simp [hj]
  obtain ⟨u, H2, e1, x12, e2⟩ := c140 (m := m) (c := c) P (hs0.ext x01) (hf0.ext x01) hfit (by omega)
  generalize hL : sumsOf f ls = L at *
  have hLl : L.length ≤ 1000 := by rw [← hL]; simpa [sumsOf] using hfit.len
  have x2a : Ext H2 (H2.new (.cells [.nils] .own 36)) := (Ext.refl _).new
  have hst : ∀ f, (H2.new (.cells [.nils] .own 36)).storeK H2.next 0 [u] f = f ((H2.new (.cells [.nils] .own 36)).put H2.next (some (.cells [u] .own 36))) := fun f => by
    rw [storeK_box get_new_next rfl (by show (Bool.casesOn u.isOne false true : Bool) = true; rw [e2.one]) (by simp)]; rfl
  have x23 : Ext H2 ((H2.new (.cells [.nils] .own 36)).put H2.next (some (.cells [u] .own 36))) := x2a.put (by simp [Old])
  generalize hH3 : (H2.new (.cells [.nils] .own 36)).put H2.next (some (.cells [u] .own 36)) = H3 at *
  have d1 : ∀ f, H3.loadK none H2.next 0 f = f u := fun f => load1 (l := [u]) (by rw [← hH3]; exact get_put_same) rfl e2.junk
  have e3 := e2.ext x23
  have hc := c203 (m := m) (f := .fn (.func 204) [] [.ptr H2.next 0]) (Q := fun x => !decide (x = L.headD 0)) P e3 (by omega) (by omega) fun x hx k hk => c204 P d1 e3 (by intro h0; rw [h0] at hx; cases hx) (by omega)
  simp [k97, hH1, ↓b2, e1, e2.cells, ↓hst, ↓d1, hc]
  exact ⟨(x01.trans x12).trans x23, by simp [firstOther]⟩
end
end Go.Proofs.YtdojpbbdcgfcnaaGreatDoor.AI.T
/- Functions of the law LinesSums, whatever their inputs, 2. -/
set_option maxRecDepth 100000
namespace Go.Proofs.YtdojpbbdcgfcnaaGreatDoor.AI.T
open Go Go.Proofs.YtdojpbbdcgfcnaaGreatDoor.AI

structure Sys (p : Prg) : Prop extends Plain p where
  c17 : ∀ (m : Nat) (h : H) (c cells lines : Int) (v : V) (ls : List (List Int)), LinesAt h v ls → ls.length ≤ 9223372036854775807 → callK p (m + 1) (.fn (.func 17) [] []) [.agg [vi c, v], vi cells, vi lines] h = some (.bool (Short cells lines ls), h)
  c18 : ∀ (m : Nat) (h : H), hasK h nd2 = true → callK p (m + 1) (.fn (.func 18) [] []) [] h = some (.bool true, h)
  c19 : ∀ (m : Nat) (h : H) (c : Int) (v : V) (ls : List (List Int)), LinesAt h v ls → ls.length ≤ 1000 → (∀ l ∈ ls, l.length ≤ 1000) → callK p (m + 1) (.fn (.func 19) [] []) [.agg [vi c, v]] h = some (vi (sysErr c ls), h)
  c20 : ∀ (m : Nat) (h : H) (c : Int) (v : V) (ls : List (List Int)), LinesAt h v ls → ls.length ≤ 1000 → (∀ l ∈ ls, l.length ≤ 1000) → callK p (m + 1) (.fn (.func 20) [] []) [.agg [vi c, v]] h = some (vi (sysErr c ls), h)

section
variable {p : Prg} {m : Nat} {h : H}
theorem c90 (P : Plain p) {b : Bool} {e : Int} (hm : 1 ≤ m) : callK p m (.fn (.func 90) [] []) [.bool b, vi e] h = some (vi (if b = true then e else 0), h) := by
  obtain ⟨m, rfl⟩ : ∃ k, m = k + 1 := ⟨m - 1, by omega⟩
  rw [P.call (fk := f90) rfl rfl]
  exact fn90 _ _ _ _ _
theorem c88 (P : Plain p) {v : V} {xs : List Int} (hs : RdAt h v (xs.map vi)) (hm : xs.length + 2 ≤ m) (hx : xs.length < 9223372036854775807) : callK p m (.fn (.func 88) [] []) [v] h = some (vi (firstOf xs), h) := by
  obtain ⟨m, rfl⟩ : ∃ k, m = k + 1 := ⟨m - 1, by omega⟩
  rw [P.call (fk := f88) rfl rfl]
  refine body_tmp rfl ?_
  simp [k88, hs.len]
  refine Ends.looped (fun n fr' h' => h' = ⟨h.next, h.t, []⟩ ∧ ∃ i, n + i = xs.length ∧ Tr.get (Pos.ofNat 7) fr' = some (vi i) ∧ Tr.get (Pos.ofNat 6) fr' = some (vi xs.length) ∧ Tr.get (Pos.ofNat 5) fr' = some v ∧ firstOf xs = firstOf (xs.drop i))
    (fun j fr' h' => h' = ⟨h.next, h.t, []⟩ ∧ ((j = .exit 0 ∧ firstOf xs = 0) ∨ (j = .ret ∧ Tr.get (Pos.ofNat 2) fr' = some (vi (firstOf xs))))) xs.length ⟨rfl, 0, by simp⟩ (show xs.length < m by omega) ?_ ?_
  · rintro n fr' h' ⟨rfl, i, h1, h2, h3, h4, h5⟩
    by_cases hi : i < xs.length
    · obtain ⟨b, o, a1, a2, a3⟩ := hs.bare.at (i := i) (u := vi xs[i]) (by simp [hi])
      have hf := firstOf_drop (List.getElem?_eq_getElem hi)
      have hw := wrap_succ hi hx
      by_cases h0 : xs[i] = 0
      · simp [h2, h3, h4, hi, a2, a3, h0, hw]
        refine ⟨n - 1, by omega, i + 1, by omega, by simp, ?_⟩
        rw [h5, hf, if_pos h0]
      · simp [h2, h3, h4, hi, a2, a3, h0]
        rw [h5, hf, if_neg h0]
    · simp [h2, h3, hi]
      rw [h5, List.drop_eq_nil_of_le (by omega)]; rfl
  · rintro j fr' h' ⟨rfl, ⟨rfl, h1⟩ | ⟨rfl, h1⟩⟩
    · simp [h1]
    · simp [h1]
theorem c193 (P : Plain p) {x lo hi : Int} {b1 b2 : Pos} (h1 : ∀ f, h.loadK none b1 0 f = f (vi lo)) (h2 : ∀ f, h.loadK none b2 0 f = f (vi hi)) (hm : 1 ≤ m) :
    callK p m (.fn (.func 193) [] [.ptr b1 0, .ptr b2 0]) [vi x] h = some (.bool (decide (x < lo) || decide (hi < x)), h) := by
  obtain ⟨m, rfl⟩ : ∃ k, m = k + 1 := ⟨m - 1, by omega⟩
  rw [P.call (fk := f193) rfl rfl]
  exact fn193 _ _ _ _ _ _ _ _ h1 h2
theorem c160 (P : Plain p) {v : V} {xs : List Int} {lo hi : Int} {b1 b2 : Pos} (hs : RdAt h v (xs.map vi)) (h1 : ∀ f, h.loadK none b1 0 f = f (vi lo)) (h2 : ∀ f, h.loadK none b2 0 f = f (vi hi)) (hm : xs.length + 4 ≤ m) (hx : xs.length < 9223372036854775807) :
    callK p m (.fn (.func 160) [] []) [v, .fn (.func 193) [] [.ptr b1 0, .ptr b2 0]] h = some (.bool (outside lo hi xs), h) := by
  obtain ⟨m, rfl⟩ : ∃ k, m = k + 1 := ⟨m - 1, by omega⟩
  rw [P.call (fk := f160) rfl rfl]
  refine fn160 _ _ _ _ xs (fun x => decide (x < lo) || decide (hi < x)) _ ?_
  exact c203 P hs.bare (by omega) hx fun x _ k hk => c193 P (h := ⟨h.next, h.t, []⟩) h1 h2 (by omega)
theorem c89 (P : Plain p) {lo hi : Int} {v : V} {xs : List Int} (hs : RdAt h v (xs.map vi)) (hm : xs.length + 5 ≤ m) (hx : xs.length < 9223372036854775807) :
    Ret1 h (fun u _ => u = vi (if outside lo hi xs = true then 3 else 0)) (callK p m (.fn (.func 89) [] []) [vi lo, vi hi, v] h) := by
  obtain ⟨m, rfl⟩ : ∃ k, m = k + 1 := ⟨m - 1, by omega⟩
  rw [P.call (fk := f89) rfl rfl]
  refine body_ret1 rfl ?_
  generalize hH0 : (⟨h.next, h.t, []⟩ : H) = H0
  have hs0 : RdAt H0 v (xs.map vi) := by rw [← hH0]; exact hs
  have x1 : Ext H0 (H0.new (.cells [vi lo] .own 3)) := (Ext.refl _).new
  have x2 : Ext H0 ((H0.new (.cells [vi lo] .own 3)).new (.cells [vi hi] .own 3)) := x1.new
  have e := c160 (m := m) P (hs0.ext x2) (b1 := H0.next) (b2 := (H0.new (.cells [vi lo] .own 3)).next) (lo := lo) (hi := hi) (fun f => load1 (l := [vi lo]) (kd := .own) (ty := 3) (by simp) rfl rfl) (fun f => load1 (l := [vi hi]) (kd := .own) (ty := 3) (by simp) rfl rfl) (by omega) hx
  have e2 := c90 (m := m) (h := (H0.new (.cells [vi lo] .own 3)).new (.cells [vi hi] .own 3)) P (b := outside lo hi xs) (e := 3) (by omega)
  simp [k89, e, e2, x2]

/-- the error of the numbers of a filling -/
def numErr (f : List Int) : Int := if outside (-999999999) 999999999 f = true then 3 else 0
theorem c202 (P : Plain p) {v : V} {xs : List Int} (hs : RdAt h v (xs.map vi)) (hm : xs.length + 6 ≤ m) (hx : xs.length < 9223372036854775807) :
    Ret1 h (fun u _ => u = vi (numErr xs)) (callK p m (.fn (.func 202) [] []) [v] h) := by
  obtain ⟨m, rfl⟩ : ∃ k, m = k + 1 := ⟨m - 1, by omega⟩
  rw [P.call (fk := f202) rfl rfl]
  refine body_ret1 rfl ?_
  obtain ⟨u, h', e, x, rfl⟩ := c89 (m := m) (lo := -999999999) (hi := 999999999) P hs.bare (by omega) hx
  simp [k202, e, x, numErr]

/-- the first error of a system and of a filling -/
def sysFillErr (c : Int) (ls : List (List Int)) (f : List Int) : Int := firstOf [sysErr c ls, if (f.length : Int) = c then 0 else 2, numErr f]
theorem eqD_vin (n : Nat) (i : Int) : eqD (n + 1) (vi i) (vi i) = true := eqD_int
theorem rd_box {ty : TypeId} (es : List Int) {n : Nat} (hn : es.length = n) : RdAt (h.new (.cells (es.map vi) .own ty)) (.slc h.next 0 n (.known n)) (es.map vi) := (built es hn).rd
theorem sq_ok {v : V} {ls : List (List Int)} (hs : LinesAt h v ls) : eqD 1000 v v = true := by obtain ⟨vs, h1, _⟩ := hs; exact h1.eqD

theorem c96 (P : Sys p) {c : Int} {v w : V} {ls : List (List Int)} {f : List Int} (hs : LinesAt h v ls) (hf : RdAt h w (f.map vi)) (hl : ls.length ≤ 1000) (hls : ∀ l ∈ ls, l.length ≤ 1000) (hlf : f.length ≤ 1000) (hm : 1200 ≤ m) :
    Ret1 h (fun u _ => u = vi (sysFillErr c ls f)) (callK p m (.fn (.func 96) [] []) [.agg [vi c, v], w] h) := by
  obtain ⟨m, rfl⟩ : ∃ k, m = k + 1 := ⟨m - 1, by omega⟩
  rw [P.call (fk := f96) rfl rfl]
  obtain ⟨m, rfl⟩ : ∃ k, m = k + 1 := ⟨m - 1, by omega⟩
  refine body_ret1 rfl ?_
  generalize hH0 : (⟨h.next, h.t, []⟩ : H) = H0
  have hs0 : LinesAt H0 v ls := by rw [← hH0]; exact hs
  have hf0 : RdAt H0 w (f.map vi) := by rw [← hH0]; exact hf
  have hj := hs.junk
  generalize hH1 : H0.new (.cells [vi c, v] .own 24) = H1
  have x01 : Ext H0 H1 := by rw [← hH1]; exact (Ext.refl _).new
  have bo : Old H1 H0.next := by rw [← hH1]; exact old_next
  have b0 : ∀ f, H1.loadK none H0.next 0 f = f (vi c) := fun f => by rw [← hH1]; simp
  have b2 : ∀ f, H1.loadK (some 2) H0.next 0 f = f (.agg [vi c, v]) := fun f => by rw [← hH1]; simp [hj]
  have hf1 := hf0.ext x01
  have e19 := P.c19 m H1 c v ls (hs0.ext x01) hl hls
  have e90 := fun b => c90 (m := m + 1) (h := H1) P.toPlain (b := b) (e := 2) (by omega)
  obtain ⟨u, H2, e202, x12, rfl⟩ := c202 (m := m + 1) P.toPlain hf1 (by omega) (by omega)
  have x12n := x12.next
  have bu := fun es hes => rd_box (h := H2) (ty := 30) es (n := 3) hes
  have e88 := fun es hes => c88 (m := m + 1) P.toPlain (bu es hes) (by omega) (by omega)
  have x23 : ∀ l : List V, Ext H2 (H2.new (.cells l .own 30)) := fun l => (Ext.refl _).new
  by_cases hc : (f.length : Int) = c
  · have e := e88 [sysErr c ls, 0, numErr f] rfl
    simp at e
    simp [k96, hH1, ↓b2, ↓b0, ↓hf1.len, e19, e90, e202, hc, repL, setAt, e, x12n, eqD_vin 999]
    exact ⟨(x01.trans x12).trans (x23 _), by simp [sysFillErr, hc]⟩
  · have e := e88 [sysErr c ls, 2, numErr f] rfl
    simp at e
    simp [k96, hH1, ↓b2, ↓b0, ↓hf1.len, e19, e90, e202, hc, repL, setAt, e, x12n, eqD_vin 999]
    exact ⟨(x01.trans x12).trans (x23 _), by simp [sysFillErr, hc]⟩
end
end Go.Proofs.YtdojpbbdcgfcnaaGreatDoor.AI.T
/- Functions of the law LinesSums, whatever their inputs, 3. -/
set_option maxRecDepth 100000
namespace Go.Proofs.YtdojpbbdcgfcnaaGreatDoor.AI.T
open Go Go.Proofs.YtdojpbbdcgfcnaaGreatDoor.AI

/-! what a system without errors is -/
theorem firstOf_zero : ∀ {l : List Int}, firstOf l = 0 → ∀ x ∈ l, x = 0
  | [], _, x, hx => by cases hx
  | a :: l, h, x, hx => by
    by_cases ha : a = 0
    · subst ha
      rcases List.mem_cons.1 hx with rfl | hx
      · rfl
      · exact firstOf_zero (by simpa [firstOf] using h) x hx
    · simp [firstOf, ha] at h
theorem scan_zero {c : Int} : ∀ {l : List Int} {pr : Option Int}, scan c pr l = 0 → ∀ x ∈ l, 0 ≤ x ∧ x < c
  | [], _, _, x, hx => by cases hx
  | a :: l, pr, h, x, hx => by
    have key : ∃ q, scan c q l = 0 ∧ ¬ (a < 0 ∨ c ≤ a) := by
      by_cases hn : a < 0 ∨ c ≤ a
      · simp [scan, hn] at h
      · cases pr with
        | none => simp [scan, hn] at h; exact ⟨_, h, hn⟩
        | some y =>
          by_cases hy : a ≤ y
          · simp [scan, hn, hy] at h
          · simp [scan, hn, hy] at h; exact ⟨_, h, hn⟩
    obtain ⟨q, hq, hn⟩ := key
    rcases List.mem_cons.1 hx with rfl | hx
    · omega
    · exact scan_zero hq x hx
theorem sysErr_zero {c : Int} {ls : List (List Int)} (h : sysErr c ls = 0) : 1 ≤ c ∧ c ≤ 256 ∧ ls.length ≤ 128 ∧ ∀ l ∈ ls, l ≠ [] ∧ ∀ x ∈ l, 0 ≤ x ∧ x < c := by
  unfold sysErr at h
  split at h
  · cases h
  · rename_i h1
    split at h
    · cases h
    · rename_i h2
      refine ⟨by omega, by omega, by omega, fun l hl => ?_⟩
      obtain ⟨i, hi, rfl⟩ := List.getElem_of_mem hl
      have := firstOf_zero h (lineErr c ls i) (by simp; exact ⟨i, hi, rfl⟩)
      rw [lineErr_at hi] at this
      split at this
      · cases this
      · rename_i hne
        split at this
        · rename_i hs
          refine ⟨fun he => hne (by rw [he]; rfl), scan_zero (c := c) (pr := none) (by simpa [scanAt] using hs)⟩
        · rename_i hs; exact absurd this hs
theorem sysFill_zero {c : Int} {ls : List (List Int)} {f : List Int} (h : sysFillErr c ls f = 0) : sysErr c ls = 0 ∧ (f.length : Int) = c ∧ numErr f = 0 := by
  have := firstOf_zero h
  simp at this
  obtain ⟨h1, h2, h3⟩ := this
  refine ⟨h1, ?_, h3⟩
  by_cases hc : (f.length : Int) = c
  · exact hc
  · simp [hc] at h2
theorem fit_of {c : Int} {ls : List (List Int)} {f : List Int} (h : sysErr c ls = 0) (hc : (f.length : Int) = c) (hls : ∀ l ∈ ls, l.length ≤ 1000) : Fit ls f.length := by
  obtain ⟨_, _, h3, h4⟩ := sysErr_zero h
  exact ⟨by omega, hls, fun l hl x hx => by have := (h4 l hl).2 x hx; omega⟩

section
variable {p : Prg} {m : Nat} {h : H}

theorem c49 (P : Sys p) {c : Int} {v w : V} {ls : List (List Int)} {f : List Int} (hs : LinesAt h v ls) (hf : RdAt h w (f.map vi)) (hl : ls.length ≤ 1000) (hls : ∀ l ∈ ls, l.length ≤ 1000) (hlf : f.length ≤ 1000) (hm : 1300 ≤ m) :
    ∃ a b h', callK p m (.fn (.func 49) [] []) [.agg [vi c, v], w] h = some (.tup [a, b], h') ∧ Ext h h' ∧ b = vi (sysFillErr c ls f) ∧ RdAt h' a ((if sysFillErr c ls f = 0 then sumsOf f ls else []).map vi) := by
  obtain ⟨m, rfl⟩ : ∃ k, m = k + 1 := ⟨m - 1, by omega⟩
  rw [P.call (fk := f49) rfl rfl]
  refine body_ret2 rfl ?_
  generalize hH0 : (⟨h.next, h.t, []⟩ : H) = H0
  have hs0 : LinesAt H0 v ls := by rw [← hH0]; exact hs
  have hf0 : RdAt H0 w (f.map vi) := by rw [← hH0]; exact hf
  have hj := hs.junk
  generalize hH1 : H0.new (.cells [vi c, v] .own 24) = H1
  have x01 : Ext H0 H1 := by rw [← hH1]; exact (Ext.refl _).new
  have bo : Old H1 H0.next := by rw [← hH1]; exact old_next
  have b2 : ∀ f, H1.loadK (some 2) H0.next 0 f = f (.agg [vi c, v]) := fun f => by rw [← hH1]; simp [hj]
  obtain ⟨u, H2, e1, x12, rfl⟩ := c96 (m := m) (c := c) P (hs0.ext x01) (hf0.ext x01) hl hls hlf (by omega)
  have c2 : ∀ f, H2.loadK (some 2) H0.next 0 f = f (.agg [vi c, v]) := fun f => by rw [x12.load bo]; exact b2 f
  by_cases he : sysFillErr c ls f = 0
  · obtain ⟨z1, z2, z3⟩ := sysFill_zero he
    obtain ⟨u, H3, e2, x23, hu⟩ := c140 (m := m) (c := c) P.toPlain ((hs0.ext x01).ext x12) ((hf0.ext x01).ext x12) (fit_of z1 z2 hls) (by omega)
    simp [k49, hH1, ↓b2, e1, he, ↓c2, e2]
    exact ⟨(x01.trans x12).trans x23, hu⟩
  · simp [k49, hH1, ↓b2, e1, he]
    exact ⟨x01.trans x12, .inl ⟨.inl rfl, rfl⟩⟩
theorem c44 (P : Sys p) {c : Int} {v w : V} {ls : List (List Int)} {f : List Int} (hs : LinesAt h v ls) (hf : RdAt h w (f.map vi)) (hl : ls.length ≤ 1000) (hls : ∀ l ∈ ls, l.length ≤ 1000) (hlf : f.length ≤ 1000) (hm : 1300 ≤ m) :
    ∃ a b h', callK p m (.fn (.func 44) [] []) [.agg [vi c, v], w] h = some (.tup [a, b], h') ∧ Ext h h' ∧ b = vi (sysFillErr c ls f) ∧ a = .bool (decide (sysFillErr c ls f = 0) && decide (firstOther (sumsOf f ls) < 0)) := by
  obtain ⟨m, rfl⟩ : ∃ k, m = k + 1 := ⟨m - 1, by omega⟩
  rw [P.call (fk := f44) rfl rfl]
  refine body_ret2 rfl ?_
  generalize hH0 : (⟨h.next, h.t, []⟩ : H) = H0
  have hs0 : LinesAt H0 v ls := by rw [← hH0]; exact hs
  have hf0 : RdAt H0 w (f.map vi) := by rw [← hH0]; exact hf
  have hj := hs.junk
  generalize hH1 : H0.new (.cells [vi c, v] .own 24) = H1
  have x01 : Ext H0 H1 := by rw [← hH1]; exact (Ext.refl _).new
  have bo : Old H1 H0.next := by rw [← hH1]; exact old_next
  have b2 : ∀ f, H1.loadK (some 2) H0.next 0 f = f (.agg [vi c, v]) := fun f => by rw [← hH1]; simp [hj]
  obtain ⟨u, H2, e1, x12, rfl⟩ := c96 (m := m) (c := c) P (hs0.ext x01) (hf0.ext x01) hl hls hlf (by omega)
  have c2 : ∀ f, H2.loadK (some 2) H0.next 0 f = f (.agg [vi c, v]) := fun f => by rw [x12.load bo]; exact b2 f
  by_cases he : sysFillErr c ls f = 0
  · obtain ⟨z1, z2, z3⟩ := sysFill_zero he
    obtain ⟨u, H3, e2, x23, rfl⟩ := c97 (m := m) (c := c) P.toPlain ((hs0.ext x01).ext x12) ((hf0.ext x01).ext x12) (fit_of z1 z2 hls) (by omega)
    simp [k44, hH1, ↓b2, e1, he, ↓c2, e2]
    exact (x01.trans x12).trans x23
  · simp [k44, hH1, ↓b2, e1, he]
    exact x01.trans x12
theorem c69 (P : Sys p) {c : Int} {v w : V} {ls : List (List Int)} {f : List Int} (hs : LinesAt h v ls) (hf : RdAt h w (f.map vi)) (hl : ls.length ≤ 1000) (hls : ∀ l ∈ ls, l.length ≤ 1000) (hlf : f.length ≤ 1000) (hm : 1300 ≤ m) :
    ∃ a b h', callK p m (.fn (.func 69) [] []) [.agg [vi c, v], w] h = some (.tup [a, b], h') ∧ Ext h h' ∧
      b = vi (if sysFillErr c ls f = 0 then (if firstOther (sumsOf f ls) < 0 then 7 else 0) else sysFillErr c ls f) ∧ a = vi (if sysFillErr c ls f = 0 then (if firstOther (sumsOf f ls) < 0 then 0 else firstOther (sumsOf f ls)) else 0) := by
  obtain ⟨m, rfl⟩ : ∃ k, m = k + 1 := ⟨m - 1, by omega⟩
  rw [P.call (fk := f69) rfl rfl]
  refine body_ret2 rfl ?_
  generalize hH0 : (⟨h.next, h.t, []⟩ : H) = H0
  have hs0 : LinesAt H0 v ls := by rw [← hH0]; exact hs
  have hf0 : RdAt H0 w (f.map vi) := by rw [← hH0]; exact hf
  have hj := hs.junk
  generalize hH1 : H0.new (.cells [vi c, v] .own 24) = H1
  have x01 : Ext H0 H1 := by rw [← hH1]; exact (Ext.refl _).new
  have bo : Old H1 H0.next := by rw [← hH1]; exact old_next
  have b2 : ∀ f, H1.loadK (some 2) H0.next 0 f = f (.agg [vi c, v]) := fun f => by rw [← hH1]; simp [hj]
  obtain ⟨u, H2, e1, x12, rfl⟩ := c96 (m := m) (c := c) P (hs0.ext x01) (hf0.ext x01) hl hls hlf (by omega)
  have c2 : ∀ f, H2.loadK (some 2) H0.next 0 f = f (.agg [vi c, v]) := fun f => by rw [x12.load bo]; exact b2 f
  by_cases he : sysFillErr c ls f = 0
  · obtain ⟨z1, z2, z3⟩ := sysFill_zero he
    obtain ⟨u, H3, e2, x23, rfl⟩ := c97 (m := m) (c := c) P.toPlain ((hs0.ext x01).ext x12) ((hf0.ext x01).ext x12) (fit_of z1 z2 hls) (by omega)
    generalize firstOther (sumsOf f ls) = q at *
    by_cases hq : q < 0
    · simp [k69, hH1, ↓b2, e1, he, ↓c2, e2, hq]
      exact (x01.trans x12).trans x23
    · simp [k69, hH1, ↓b2, e1, he, ↓c2, e2, hq]
      exact (x01.trans x12).trans x23
  · simp [k69, hH1, ↓b2, e1, he]
    exact x01.trans x12

/-! the reference -/
theorem out_drop {lo hi : Int} {xs : List Int} {i : Nat} (h : i < xs.length) : outside lo hi (xs.drop i) = ((decide (xs[i] < lo) || decide (hi < xs[i])) || outside lo hi (xs.drop (i + 1))) := by
  unfold outside; rw [List.drop_eq_getElem_cons h]; rfl
theorem c103 (P : Plain p) {v : V} {xs : List Int} (hs : RdAt h v (xs.map vi)) (hm : xs.length + 2 ≤ m) (hx : xs.length < 9223372036854775807) :
    callK p m (.fn (.func 103) [] []) [v] h = some (vi (numErr xs), h) := by
  obtain ⟨m, rfl⟩ : ∃ k, m = k + 1 := ⟨m - 1, by omega⟩
  rw [P.call (fk := f103) rfl rfl]
  refine body_tmp rfl ?_
  simp [k103]
  refine Ends.looped (fun n fr' h' => h' = ⟨h.next, h.t, []⟩ ∧ ∃ i, n + i = xs.length ∧ Tr.get (Pos.ofNat 3) fr' = some (vi i) ∧ Tr.get (Pos.ofNat 0) fr' = some v ∧ outside (-999999999) 999999999 xs = outside (-999999999) 999999999 (xs.drop i))
    (fun j fr' h' => h' = ⟨h.next, h.t, []⟩ ∧ ((j = .exit 0 ∧ numErr xs = 0) ∨ (j = .ret ∧ Tr.get (Pos.ofNat 2) fr' = some (vi (numErr xs))))) xs.length ⟨rfl, 0, by simp⟩ (show xs.length < m by omega) ?_ ?_
  · rintro n fr' h' ⟨rfl, i, h1, h2, h4, h5⟩
    have hlen := hs.bare.len
    by_cases hi : i < xs.length
    · obtain ⟨b, o, a1, a2, a3⟩ := hs.bare.at (i := i) (u := vi xs[i]) (by simp [hi])
      have hf := out_drop (lo := -999999999) (hi := 999999999) hi
      have hw := wrap_succ hi hx
      rcases Int.lt_or_le xs[i] (-999999999) with h0 | h0
      · simp [h2, h4, hi, ↓hlen, ↓a2, ↓a3, h0]
        unfold numErr; rw [h5, hf]; simp [h0]
      rcases Int.lt_or_le 999999999 xs[i] with h00 | h00
      · simp [h2, h4, hi, ↓hlen, ↓a2, ↓a3, Int.not_lt.2 h0, h00]
        unfold numErr; rw [h5, hf]; simp [h00]
      · simp [h2, h4, hi, ↓hlen, ↓a2, ↓a3, Int.not_lt.2 h0, Int.not_lt.2 h00, hw]
        refine ⟨n - 1, by omega, i + 1, by omega, by simp, ?_⟩
        rw [h5, hf]; simp [Int.not_lt.2 h0, Int.not_lt.2 h00]
    · simp [h2, h4, ↓hlen, hi]
      unfold numErr
      rw [h5, List.drop_eq_nil_of_le (by omega)]; rfl
  · rintro j fr' h' ⟨rfl, ⟨rfl, h1⟩ | ⟨rfl, h1⟩⟩
    · simp [h1]
    · simp [h1]
theorem c28 (P : Plain p) {c : Int} {v w : V} {ls : List (List Int)} {f : List Int} (hs : LinesAt h v ls) (hf : RdAt h w (f.map vi)) (hlf : f.length ≤ 1000) (hm : 1300 ≤ m) :
    Ret1 h (fun u _ => u = vi (if (f.length : Int) = c then numErr f else 2)) (callK p m (.fn (.func 28) [] []) [.agg [vi c, v], w] h) := by
  obtain ⟨m, rfl⟩ : ∃ k, m = k + 1 := ⟨m - 1, by omega⟩
  rw [P.call (fk := f28) rfl rfl]
  refine body_ret1 rfl ?_
  generalize hH0 : (⟨h.next, h.t, []⟩ : H) = H0
  have hf0 : RdAt H0 w (f.map vi) := by rw [← hH0]; exact hf
  have hj := hs.junk
  generalize hH1 : H0.new (.cells [vi c, v] .own 24) = H1
  have x01 : Ext H0 H1 := by rw [← hH1]; exact (Ext.refl _).new
  have b0 : ∀ f, H1.loadK none H0.next 0 f = f (vi c) := fun f => by rw [← hH1]; simp
  have hf1 := hf0.ext x01
  have e := c103 (m := m) P hf1 (by omega) (by omega)
  by_cases hc : (f.length : Int) = c
  · simp [k28, hH1, ↓b0, ↓hf1.len, hc, e, x01]
  · simp [k28, hH1, ↓b0, ↓hf1.len, hc, x01]
theorem firstOther_drop {l : List Int} {i : Nat} (h : i < l.length) (a : Int) : idxOf (fun x => !decide (x = a)) (l.drop i) i = if l[i] = a then idxOf (fun x => !decide (x = a)) (l.drop (i + 1)) (i + 1) else i := by
  rw [idxOf_drop (List.getElem?_eq_getElem h)]
  by_cases ha : l[i] = a <;> simp [ha]
theorem c71 (P : Plain p) {c : Int} {v w : V} {ls : List (List Int)} {f : List Int} (hs : LinesAt h v ls) (hf : RdAt h w (f.map vi)) (hfit : Fit ls f.length) (hm : 1200 ≤ m) :
    Ret1 h (fun u _ => u = vi (firstOther (sumsOf f ls))) (callK p m (.fn (.func 71) [] []) [.agg [vi c, v], w] h) := by
  obtain ⟨m, rfl⟩ : ∃ k, m = k + 1 := ⟨m - 1, by omega⟩
  rw [P.call (fk := f71) rfl rfl]
  refine body_ret1 rfl ?_
  generalize hH0 : (⟨h.next, h.t, []⟩ : H) = H0
  have hs0 : LinesAt H0 v ls := by rw [← hH0]; exact hs
  have hf0 : RdAt H0 w (f.map vi) := by rw [← hH0]; exact hf
  have hj := hs.junk
  generalize hH1 : H0.new (.cells [vi c, v] .own 24) = H1
  have x01 : Ext H0 H1 := by rw [← hH1]; exact (Ext.refl _).new
  have b2 : ∀ f, H1.loadK (some 2) H0.next 0 f = f (.agg [vi c, v]) := fun f => by rw [← hH1]; simp [hj]
  obtain ⟨u, H2, e1, x12, e2⟩ := c70 (m := m) (c := c) P (hs0.ext x01) (hf0.ext x01) hfit (by omega)
  generalize hL : sumsOf f ls = L at *
  have hLl : L.length ≤ 1000 := by rw [← hL]; simpa [sumsOf] using hfit.len
  have x02 := x01.trans x12
  simp [k71, hH1, ↓b2, e1]
  refine Ends.looped (fun n fr' h' => h' = H2 ∧ ∃ i, n + i = L.length ∧ Tr.get (Pos.ofNat 6) fr' = some (vi i) ∧ Tr.get (Pos.ofNat 5) fr' = some u ∧ firstOther L = idxOf (fun x => !decide (x = L.headD 0)) (L.drop i) i)
    (fun j fr' h' => h' = H2 ∧ ((j = .exit 0 ∧ firstOther L = -1) ∨ (j = .ret ∧ Tr.get (Pos.ofNat 4) fr' = some (vi (firstOther L))))) L.length ⟨rfl, 0, by simp [firstOther]⟩ (show L.length < m by omega) ?_ ?_
  · rintro n fr' h' ⟨rfl, i, h1, h2, h3, h4⟩
    by_cases hi : i < L.length
    · obtain ⟨b, o, a1, a2, a3⟩ := e2.at (i := i) (u := vi L[i]) (by simp [hi])
      obtain ⟨b', o', d1, d2, d3⟩ := e2.at (i := 0) (u := vi (L.headD 0)) (by cases L with | nil => simp at hi | cons a l => rfl)
      have d2' : ∀ kd k, idxS 1 u (.int kd 0) k = k b' o' := fun kd k => d2 kd k
      have hd := firstOther_drop hi (L.headD 0)
      have hw := wrap_succ hi (show L.length < 9223372036854775807 by omega)
      generalize L.headD 0 = z at *
      by_cases h0 : L[i] = z
      · rw [if_pos h0] at hd
        simp [h2, h3, ↓e2.len, hi, ↓a2, ↓a3, ↓d2', ↓d3, h0, hw]
        exact ⟨n - 1, by omega, i + 1, by omega, by simp, by rw [h4, hd]⟩
      · rw [if_neg h0] at hd
        simp [h2, h3, ↓e2.len, hi, ↓a2, ↓a3, ↓d2', ↓d3, h0]
        rw [h4, hd]
    · simp [h2, h3, ↓e2.len, hi]
      rw [h4, List.drop_eq_nil_of_le (by omega)]; rfl
  · rintro j fr' h' ⟨rfl, ⟨rfl, h1⟩ | ⟨rfl, h1⟩⟩
    · simp [h1, x02]
    · simp [h1, x02]
theorem c29 (P : Plain p) {c : Int} {v w : V} {ls : List (List Int)} {f : List Int} (hs : LinesAt h v ls) (hf : RdAt h w (f.map vi)) (hfit : Fit ls f.length) (hm : 1300 ≤ m) :
    Ret1 h (fun u _ => u = .bool (decide (firstOther (sumsOf f ls) < 0))) (callK p m (.fn (.func 29) [] []) [.agg [vi c, v], w] h) := by
  obtain ⟨m, rfl⟩ : ∃ k, m = k + 1 := ⟨m - 1, by omega⟩
  rw [P.call (fk := f29) rfl rfl]
  refine body_ret1 rfl ?_
  generalize hH0 : (⟨h.next, h.t, []⟩ : H) = H0
  have hs0 : LinesAt H0 v ls := by rw [← hH0]; exact hs
  have hf0 : RdAt H0 w (f.map vi) := by rw [← hH0]; exact hf
  have hj := hs.junk
  generalize hH1 : H0.new (.cells [vi c, v] .own 24) = H1
  have x01 : Ext H0 H1 := by rw [← hH1]; exact (Ext.refl _).new
  have b2 : ∀ f, H1.loadK (some 2) H0.next 0 f = f (.agg [vi c, v]) := fun f => by rw [← hH1]; simp [hj]
  obtain ⟨u, H2, e1, x12, rfl⟩ := c71 (m := m) (c := c) P (hs0.ext x01) (hf0.ext x01) hfit (by omega)
  simp [k29, hH1, ↓b2, e1]
  exact x01.trans x12
theorem c50 (P : Plain p) {v w : V} {xs ys : List Int} (hs : RdAt h v (xs.map vi)) (ht : RdAt h w (ys.map vi)) (hm : xs.length + 2 ≤ m) (hx : xs.length < 9223372036854775807) :
    callK p m (.fn (.func 50) [] []) [v, w] h = some (.bool (decide (xs = ys)), h) := by
  obtain ⟨m, rfl⟩ : ∃ k, m = k + 1 := ⟨m - 1, by omega⟩
  rw [P.call (fk := f50) rfl rfl]
  refine body_tmp rfl ?_
  by_cases hl : xs.length = ys.length
  · simp [k50, hs.len, ht.len, hl]
    refine Ends.looped (fun m fr' h' => h' = ⟨h.next, h.t, []⟩ ∧ ∃ i, m + i = xs.length ∧ Tr.get (Pos.ofNat 5) fr' = some (vi i) ∧ Tr.get (Pos.ofNat 0) fr' = some v ∧ Tr.get (Pos.ofNat 1) fr' = some w ∧ (xs = ys ↔ xs.drop i = ys.drop i))
      (fun j fr' h' => h' = ⟨h.next, h.t, []⟩ ∧ ((j = .exit 0 ∧ xs = ys) ∨ (j = .ret ∧ xs ≠ ys ∧ Tr.get (Pos.ofNat 4) fr' = some (.bool false)))) xs.length ⟨rfl, 0, by simp⟩ (show xs.length < m by omega) ?_ ?_
    · rintro n fr' h' ⟨rfl, i, h1, h2, h3, h4, h5⟩
      have hlx := hs.bare.len
      have hly := ht.bare.len
      by_cases hi : i < xs.length
      · obtain ⟨b, o, a1, a2, a3⟩ := hs.bare.at (i := i) (u := vi xs[i]) (by simp [hi])
        obtain ⟨b', o', a1', a2', a3'⟩ := ht.bare.at (i := i) (u := vi (ys[i]'(by omega))) (by simp [hl ▸ hi])
        have hf := eqFrom hl hi
        have hw := wrap_succ hi hx
        have hi' : i < ys.length := by omega
        by_cases h0 : xs[i] = ys[i]
        · simp [↓hlx, ↓hly, h2, h3, h4, hi, ↓a2, ↓a3, ↓a2', ↓a3', h0, hw, hi']
          refine ⟨n - 1, by omega, i + 1, by omega, by simp, ?_⟩
          rw [h5, hf]; simp [h0]
        · simp [↓hlx, h2, h3, h4, hi, ↓a2, ↓a3, ↓a2', ↓a3', h0]
          rw [h5, hf]; simp [h0]
      · simp [↓hlx, h2, h3, hi]
        rw [h5, List.drop_eq_nil_of_le (by omega), List.drop_eq_nil_of_le (by omega)]
    · rintro j fr' h' ⟨rfl, ⟨rfl, h1⟩ | ⟨rfl, h1, h2⟩⟩
      · simp [h1]
      · simp [h1, h2]
  · have hne : xs ≠ ys := fun he => hl (by rw [he])
    have hl' : ¬ ((xs.length : Int) = (ys.length : Int)) := by omega
    simp [k50, hs.len, ht.len, hl, hl', hne]
end
end Go.Proofs.YtdojpbbdcgfcnaaGreatDoor.AI.T
/- LinesSums answers true. -/
set_option maxRecDepth 100000
namespace Go.Proofs.YtdojpbbdcgfcnaaGreatDoor.AI.T
open Go Go.Proofs.YtdojpbbdcgfcnaaGreatDoor.AI

theorem sysFill_cases (c : Int) (ls : List (List Int)) (f : List Int) : sysFillErr c ls f = if sysErr c ls = 0 then (if (f.length : Int) = c then numErr f else 2) else sysErr c ls := by
  unfold sysFillErr firstOf
  by_cases h1 : sysErr c ls = 0
  · rw [if_pos h1, if_pos h1]
    by_cases h2 : (f.length : Int) = c
    · rw [if_pos h2, if_pos h2]
      simp [firstOf]
      intro h; exact h.symm
    · rw [if_neg h2, if_neg h2]; simp [firstOf]
  · rw [if_neg h1, if_neg h1]

section
variable {p : Prg} {m : Nat} {h : H}
set_option maxHeartbeats 4000000 in
theorem run14 (P : Sys p) {c : Int} {v w : V} {ls : List (List Int)} {f : List Int} (hs : LinesAt h v ls) (hf : RdAt h w (f.map vi)) (hk : hasK h nd2 = true) (ho : ∀ p l, (p, l) ∈ nd2 → Old h p) (hx : ls.length ≤ 9223372036854775807) (hm : 1500 ≤ m) :
    ∃ h', bodyK (callK p m) m f14 [.agg [vi c, v], w] h = some (.bool true, h') := by
  have key : Ret1 h (fun u _ => u = .bool true) (bodyK (callK p m) m f14 [.agg [vi c, v], w] h) := by
    obtain ⟨m, rfl⟩ : ∃ k, m = k + 1 := ⟨m - 1, by omega⟩
    refine body_ret1 rfl ?_
    generalize hH0 : (⟨h.next, h.t, []⟩ : H) = H0
    have hs0 : LinesAt H0 v ls := by rw [← hH0]; exact hs
    have hf0 : RdAt H0 w (f.map vi) := by rw [← hH0]; exact hf
    have hk0 : hasK H0 nd2 = true := by rw [← hH0]; exact hk
    have ho0 : ∀ p l, (p, l) ∈ nd2 → Old H0 p := by rw [← hH0]; exact ho
    have hj := hs.junk
    generalize hH1 : H0.new (.cells [vi c, v] .own 24) = H1
    have x1 : Ext H0 H1 := by rw [← hH1]; exact (Ext.refl _).new
    have bo : Old H1 H0.next := by rw [← hH1]; exact old_next
    have b1 : ∀ f, H1.loadK (some 2) H0.next 0 f = f (.agg [vi c, v]) := fun f => by rw [← hH1]; simp [hj]
    have ld : ∀ {H'}, Ext H1 H' → ∀ f, H'.loadK (some 2) H0.next 0 f = f (.agg [vi c, v]) := fun hh f => by rw [hh.load bo]; exact b1 f
    have e17 := P.c17 m H1 c 40 130 v ls (hs0.ext x1) hx
    have aw : ∀ {H'}, Ext H0 H' → callK p (m + 1) (.fn (.func 18) [] []) [] H' = some (.bool true, H') := fun hh => P.c18 m _ (ext_hasK hh hk0 ho0)
    cases hsh : Short 40 130 ls with
    | false =>
      rw [hsh] at e17
      simp [k14, hH1, ↓b1, e17, aw x1, x1]
    | true =>
      rw [hsh] at e17
      rcases Int.lt_or_le 300 f.length with g | g
      · simp [k14, hH1, ↓b1, e17, ↓(hf0.ext x1).len, g, aw x1, x1]
      · have hsh' := hsh
        unfold Short allLe at hsh'
        simp at hsh'
        have hl : ls.length ≤ 1000 := by omega
        have hls : ∀ l ∈ ls, l.length ≤ 1000 := fun l hl => by have := hsh'.2 l hl; omega
        have hlf : f.length ≤ 1000 := by omega
        obtain ⟨a1, a2, H2, e1, y2, rfl, r1⟩ := c49 (m := m + 1) (c := c) P (hs0.ext x1) (hf0.ext x1) hl hls hlf (by omega)
        have x2 := x1.trans y2
        obtain ⟨a3, a4, H3, e2, y3, rfl, rfl⟩ := c44 (m := m + 1) (c := c) P (hs0.ext x2) (hf0.ext x2) hl hls hlf (by omega)
        have x3 := x2.trans y3
        have z3 := y2.trans y3
        obtain ⟨a5, a6, H4, e3, y4, rfl, rfl⟩ := c69 (m := m + 1) (c := c) P (hs0.ext x3) (hf0.ext x3) hl hls hlf (by omega)
        have x4 := x3.trans y4
        have z4 := z3.trans y4
        have e20 := P.c20 m H4 c v ls (hs0.ext x4) hl hls
        have hE := sysFill_cases c ls f
        by_cases hc : sysErr c ls = 0
        · rw [if_pos hc] at hE
          obtain ⟨u, H5, e28, y5, rfl⟩ := c28 (m := m + 1) (c := c) P.toPlain (hs0.ext x4) (hf0.ext x4) hlf (by omega)
          have x5 := x4.trans y5
          have z5 := z4.trans y5
          rw [← hE] at e28
          by_cases hE0 : sysFillErr c ls f = 0
          · rw [if_pos hE0] at r1
            obtain ⟨_, hcl, _⟩ := sysFill_zero hE0
            have hfit := fit_of hc hcl hls
            have r5 := ((r1.ext y3).ext y4).ext y5
            have hLl : (sumsOf f ls).length ≤ 1000 := by simpa [sumsOf] using hl
            obtain ⟨u6, H6, e70, y6, r6⟩ := c70 (m := m + 1) (c := c) P.toPlain (hs0.ext x5) (hf0.ext x5) hfit (by omega)
            have x6 := x5.trans y6
            have e50 := c50 (m := m + 1) P.toPlain (r5.ext y6) r6 (by omega) (by omega)
            obtain ⟨u7, H7, e29, y7, rfl⟩ := c29 (m := m + 1) (c := c) P.toPlain (hs0.ext x6) (hf0.ext x6) hfit (by omega)
            have x7 := x6.trans y7
            have z6 := z5.trans y6
            have z7 := z6.trans y7
            obtain ⟨u8, H8, e71, y8, rfl⟩ := c71 (m := m + 1) (c := c) P.toPlain (hs0.ext x7) (hf0.ext x7) hfit (by omega)
            have x8 := x7.trans y8
            generalize hq : firstOther (sumsOf f ls) = q at *
            by_cases q0 : q < 0
            · simp [hE0, q0] at e1 e2 e3 e28 e29 e50
              simp [k14, hH1, ↓b1, e17, ↓(hf0.ext x1).len, Int.not_lt.2 g, e1, ↓(ld y2), e2, ↓(ld z3), e3, ↓(ld z4), e20, hc, e28, ↓(ld z5), e70, e50, ↓(ld z6), e29, aw x7, x7]
            · simp [hE0, q0] at e1 e2 e3 e28 e29 e50
              simp [k14, hH1, ↓b1, e17, ↓(hf0.ext x1).len, Int.not_lt.2 g, e1, ↓(ld y2), e2, ↓(ld z3), e3, ↓(ld z4), e20, hc, e28, ↓(ld z5), e70, e50, ↓(ld z6), e29, ↓(ld z7), e71, aw x8, x8]
          · rw [if_neg hE0] at r1
            have r5 := ((r1.ext y3).ext y4).ext y5
            have hl5 := r5.len
            generalize hq : sysFillErr c ls f = E at *
            simp [hE0] at e1 e2 e3 e28 hl5
            simp [k14, hH1, ↓b1, e17, ↓(hf0.ext x1).len, Int.not_lt.2 g, e1, ↓(ld y2), e2, ↓(ld z3), e3, ↓(ld z4), e20, hc, e28, hE0, ↓hl5, aw x5, x5]
        · rw [if_neg hc] at hE
          have hE0 : sysFillErr c ls f ≠ 0 := by rw [hE]; exact hc
          rw [if_neg hE0] at r1
          have r4 := (r1.ext y3).ext y4
          have hl4 := r4.len
          rw [hE] at e1 e2 e3
          generalize hq : sysErr c ls = E at *
          simp [hc] at e1 e2 e3 hl4
          simp [k14, hH1, ↓b1, e17, ↓(hf0.ext x1).len, Int.not_lt.2 g, e1, ↓(ld y2), e2, ↓(ld z3), e3, ↓(ld z4), e20, hc, ↓hl4, aw x4, x4]
  obtain ⟨u, h', e, _, rfl⟩ := key
  exact ⟨h', e⟩
end
end Go.Proofs.YtdojpbbdcgfcnaaGreatDoor.AI.T
/- The functions that are known without their bodies: the program of LinesChecks. -/
set_option maxRecDepth 100000
namespace Go.Proofs.YtdojpbbdcgfcnaaGreatDoor.AI.T
open Go Go.Proofs.YtdojpbbdcgfcnaaGreatDoor.AI

theorem ntsD_keys : ntsD.All fun f _ => natList.contains f = true := ⟨⟨⟨trivial, rfl, trivial⟩, rfl, ⟨⟨trivial, rfl, trivial⟩, rfl, trivial⟩⟩, rfl, ⟨⟨trivial, rfl, trivial⟩, rfl, ⟨⟨trivial, rfl, trivial⟩, rfl, ⟨trivial, rfl, trivial⟩⟩⟩⟩
theorem prgD_sys : Sys prgD where
  fs f := rfl
  nat f hf := by
    cases hg : ntsD.get f with
    | none => exact hg
    | some x => have := BT.all_get ntsD ntsD_keys hg; rw [hf] at this; cases this
  c17 m h c cells lines v ls hs hx := (call_nat (nt := natOf R17) rfl).trans (R17.some hs hx)
  c18 m h hk := (call_nat (nt := natConst nd2 (.bool true)) rfl).trans (natConst_some hk)
  c19 m h c v ls hs h1 h2 := (call_nat (nt := natOf R20) rfl).trans (R20.some hs ⟨h1, h2⟩)
  c20 m h c v ls hs h1 h2 := (call_nat (nt := natOf R20) rfl).trans (R20.some hs ⟨h1, h2⟩)
end Go.Proofs.YtdojpbbdcgfcnaaGreatDoor.AI.T
