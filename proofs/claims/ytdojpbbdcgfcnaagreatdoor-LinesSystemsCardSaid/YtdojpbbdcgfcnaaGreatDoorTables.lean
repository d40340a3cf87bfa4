import Derived.Test.YtdojpbbdcgfcnaaGreatDoorRunsTwo
set_option linter.all false
/- RUNS WITH UNKNOWN INPUTS, 2: slices that are read, lists that grow, functions whose heap goes on. -/
namespace Go.Proofs.YtdojpbbdcgfcnaaGreatDoor.AI

section
variable {cx : Cx} {e : List V} {fr : Fr} {h h' h0 : H} {v : V} {vs : List V}

/-- a call's answer is gone on with -/
def onCall (o : Option (V × H)) (k : V → H → Res) : Res := match o with
  | some (v, h) => k v h
  | none => none
@[congr] theorem onCall_congr {o o' : Option (V × H)} {k : V → H → Res} (ho : o = o') : onCall o k = onCall o' k := by rw [ho]
@[simp, simp ↓] theorem onCall_s {v : V} {h : H} {k : V → H → Res} : onCall (some (v, h)) k = k v h := Eq.trans rfl rfl
@[simp ↓ high] theorem sCall_c {f : O} {args : List O} {k : V → H → Res} : sCall f args cx e fr h k = evK e fr f fun f => evsK e fr args fun args => onCall (cx.call f args h) k := by
  rw [sCall_s]
  congr 1; funext f; congr 1; funext args
  cases cx.call f args h with
  | none => rfl
  | some x => rfl
@[simp ↓ high] theorem onBool_nt {β : Type} {f : Bool → β} {z : β} : (V.bool (!true)).onBool f z = f false := Eq.trans rfl rfl
@[simp ↓ high] theorem onBool_nf {β : Type} {f : Bool → β} {z : β} : (V.bool (!false)).onBool f z = f true := Eq.trans rfl rfl

/-- a slice of one cell an element that can be read -/
def RdAt (h : H) (v : V) (vs : List V) : Prop :=
  ((v = .nils ∨ ∃ b, v = .odd b) ∧ vs = []) ∨ ∃ b o c l kd ty, v = .slc b o vs.length c ∧ h.get b = some (.cells l kd ty) ∧ Old h b ∧ ∀ (i : Nat) (u : V), vs[i]? = some u → l[o + i]? = some u ∧ u.isJunk = false
theorem SlcAt.rd (hs : SlcAt h v vs) : RdAt h v vs := by
  rcases hs with h1 | ⟨b, o, c, l, kd, ty, h1, _, h3, h4, h5⟩
  · exact .inl h1
  · exact .inr ⟨b, o, _, l, kd, ty, h1, h3, h4, h5⟩
theorem RdAt.len (hs : RdAt h v vs) (f : V → Res) : lenS v f = f (.int .i64 vs.length) := by
  rcases hs with ⟨rfl | ⟨b, rfl⟩, rfl⟩ | ⟨b, o, c, l, kd, ty, rfl, _⟩ <;> rfl
theorem RdAt.at (hs : RdAt h v vs) {i : Nat} {u : V} (hi : vs[i]? = some u) : ∃ b o, Old h b ∧ (∀ kd f, idxS 1 v (.int kd i) f = f b o) ∧ ∀ f, h.loadK none b o f = f u := by
  rcases hs with ⟨_, rfl⟩ | ⟨b, o, c, l, kd, ty, rfl, hb, hold, hl⟩
  · simp at hi
  · have hlt : i < vs.length := (List.getElem?_eq_some_iff.1 hi).1
    obtain ⟨h1, h2⟩ := hl i u hi
    refine ⟨b, o + i * 1, hold, fun kd f => ?_, fun f => ?_⟩
    · simp only [idxS, onSlc_s]; rw [onIndex_nat hlt]
    · rw [loadK_none, hb]; simp [h1, h2]
theorem RdAt.ext (hs : RdAt h v vs) (hh : Ext h h') : RdAt h' v vs := by
  rcases hs with h1 | ⟨b, o, c, l, kd, ty, h1, h3, h4, h5⟩
  · exact .inl h1
  · exact .inr ⟨b, o, c, l, kd, ty, h1, by rw [hh.get b h4]; exact h3, hh.old h4, h5⟩
theorem RdAt.bare (hs : RdAt h v vs) : RdAt ⟨h.next, h.t, []⟩ v vs := hs
theorem RdAt.junk (hs : RdAt h v vs) : v.isJunk = false := by
  rcases hs with ⟨rfl | ⟨b, rfl⟩, rfl⟩ | ⟨b, o, c, l, kd, ty, rfl, _⟩ <;> rfl
theorem RdAt.cells (hs : RdAt h v vs) : v.cells = [v] := by
  rcases hs with ⟨rfl | ⟨b, rfl⟩, rfl⟩ | ⟨b, o, c, l, kd, ty, rfl, _⟩ <;> rfl
theorem RdAt.one (hs : RdAt h v vs) : v.isOne = true := by
  rcases hs with ⟨rfl | ⟨b, rfl⟩, rfl⟩ | ⟨b, o, c, l, kd, ty, rfl, _⟩ <;> rfl
theorem RdAt.eqD (hs : RdAt h v vs) {n : Nat} : eqD (n + 1) v v = true := by
  rcases hs with ⟨rfl | ⟨b, rfl⟩, rfl⟩ | ⟨b, o, c, l, kd, ty, rfl, _⟩
  · rfl
  · simp [Go.Proofs.YtdojpbbdcgfcnaaGreatDoor.AI.eqD]
  · simp [Go.Proofs.YtdojpbbdcgfcnaaGreatDoor.AI.eqD]
theorem RdAt.uniq {us : List V} (hs : RdAt h v vs) (ht : RdAt h v us) : vs = us := by
  rcases hs with ⟨hv, rfl⟩ | ⟨b, o, c, l, kd, ty, rfl, h3, h4, h5⟩
  · rcases ht with ⟨_, rfl⟩ | ⟨b, o, c, l, kd, ty, h1, _⟩
    · rfl
    · subst h1
      rcases hv with hv | ⟨_, hv⟩ <;> cases hv
  · rcases ht with ⟨h1, _⟩ | ⟨b', o', c', l', kd', ty', h1, k3, k4, k5⟩
    · rcases h1 with h1 | ⟨_, h1⟩ <;> cases h1
    · obtain ⟨rfl, rfl, hlen, _⟩ := V.slc.inj h1
      rw [h3] at k3; cases k3
      refine List.ext_getElem? fun i => ?_
      cases hi : vs[i]? with
      | none =>
        have : us[i]? = none := by
          rw [List.getElem?_eq_none_iff] at hi ⊢; omega
        rw [this]
      | some u =>
        have hlt := (List.getElem?_eq_some_iff.1 hi).1
        have hu : us[i]? = some us[i] := List.getElem?_eq_getElem (by omega)
        rw [hu]
        have e1 := (h5 i u hi).1
        have e2 := (k5 i _ hu).1
        rw [e1] at e2; exact e2
/-- how many elements: where the whole of it is read -/
theorem RdAt.lenK (hs : RdAt h v vs) {β : Type} {k : Nat → β} {z : β} : V.lenK v k z = k vs.length ∨ ∃ b, v = .odd b := by
  rcases hs with ⟨rfl | ⟨b, rfl⟩, rfl⟩ | ⟨b, o, c, l, kd, ty, rfl, _⟩
  · exact .inl rfl
  · exact .inr ⟨b, rfl⟩
  · exact .inl rfl

/-! ### lists that grow -/
/-- a list of ours, with room behind it: nobody had it in h0 -/
def GrAt (ty : TypeId) (h0 h : H) (v : V) (vs : List V) : Prop := (∀ u ∈ vs, u.isJunk = false) ∧ ((v = .nils ∧ vs = []) ∨ ∃ p, v = .slc p 0 vs.length (.rest 0) ∧ h.get p = some (.cells vs (.opn 1) ty) ∧ Old h p ∧ ¬ Old h0 p)
theorem GrAt.nil {ty : TypeId} : GrAt ty h0 h .nils [] := ⟨by simp, .inl ⟨rfl, rfl⟩⟩
theorem GrAt.rd {ty : TypeId} (hg : GrAt ty h0 h v vs) : RdAt h v vs := by
  obtain ⟨hj, ⟨rfl, rfl⟩ | ⟨p, rfl, h1, h2, _⟩⟩ := hg
  · exact .inl ⟨.inl rfl, rfl⟩
  · exact .inr ⟨p, 0, _, vs, _, ty, rfl, h1, h2, fun i u hu => ⟨by rw [Nat.zero_add]; exact hu, hj u (List.mem_of_getElem? hu)⟩⟩
theorem GrAt.ext {ty : TypeId} (hg : GrAt ty h0 h v vs) (hh : Ext h h') : GrAt ty h0 h' v vs := by
  obtain ⟨hj, h1 | ⟨p, h1, h2, h3, h4⟩⟩ := hg
  · exact ⟨hj, .inl h1⟩
  · exact ⟨hj, .inr ⟨p, h1, by rw [hh.get p h3]; exact h2, hh.old h3, h4⟩⟩

theorem nble_false {a b : Nat} (h : b < a) : Nat.ble a b = false := by
  cases hb : Nat.ble a b with
  | false => rfl
  | true => have := Nat.le_of_ble_eq_true hb; omega

theorem GrAt.grow {ty : TypeId} (hg : GrAt ty h0 h v vs) (hx : Ext h0 h) {new : List V} {n : Nat} (hn : new.length = n) (hl : vs.length + n ≤ 1073741824) (ho : onesK new = true) (hj : ∀ u ∈ new, u.isJunk = false) :
    ∃ v' h', (∀ k : V → H → Res, growK h 1 ty n new v k = k v' h') ∧ Ext h0 h' ∧ GrAt ty h0 h' v' (vs ++ new) ∧ (∀ b, Old h b → (∀ o m c, v ≠ .slc b o m c) → h'.get b = h.get b) ∧ h.next.toNat ≤ h'.next.toNat := by
  subst hn
  have hb1 : Nat.ble new.length 1073741824 = true := Nat.ble_eq_true_of_le (by omega)
  obtain ⟨hj0, ⟨rfl, rfl⟩ | ⟨p, rfl, h1, h2, h3⟩⟩ := hg
  · cases new with
    | nil =>
      exact ⟨.nils, h, fun k => rfl, hx, GrAt.nil, fun _ _ _ => rfl, Nat.le_refl _⟩
    | cons a l =>
      refine ⟨.slc h.next 0 (l.length + 1) (.rest 0), h.new (.cells (a :: l) (.opn 1) ty), fun k => ?_, hx.new, ⟨by simpa using hj, .inr ⟨h.next, by simp, get_new_next, old_next, fun hh => ?_⟩⟩, fun b hb _ => get_new_old hb, by rw [H.next_new]; omega⟩
      · show (Bool.casesOn (Nat.ble (l.length + 1) 1073741824) none (h.newK (.cells (a :: l) (.opn 1) ty) fun p h => k (.slc p 0 (l.length + 1) (.rest 0)) h) : Res) = _
        have hb1' : Nat.ble (l.length + 1) 1073741824 = true := hb1
        rw [hb1', H.newK_eq]
      · have := hx.next; simp only [Old] at hh; omega
  · have hb2 : Nat.ble vs.length 1073741824 = true := Nat.ble_eq_true_of_le (by omega)
    by_cases hz : new.length = 0
    · have hz' : new = [] := List.eq_nil_of_length_eq_zero hz
      subst hz'
      refine ⟨.slc p 0 vs.length (.rest 0), h.put p (some (.cells vs (.opn 1) ty)), fun k => ?_, hx.put h3, ⟨by simpa using hj0, .inr ⟨p, by simp, by simp, h2, h3⟩⟩, fun b hb hne => ?_, Nat.le_refl _⟩
      · show (Bool.casesOn (Nat.ble vs.length 1073741824) none <| natK (Nat.add vs.length 0) fun need => (Bool.casesOn (Nat.beq 0 (Nat.mul 0 1)) none <| h.getK p (fun x => x.onCells (fun l kd t => Kind.casesOn kd none none fun s => Bool.casesOn (Nat.beq s 1) none <|
          lenK l fun L => Bool.casesOn (Nat.ble (Nat.add 0 (Nat.mul need 1)) L)
            (Bool.casesOn (Nat.beq (Nat.add 0 (Nat.mul vs.length 1)) L) none (Bool.casesOn (and (Nat.beq t ty) (onesK [])) none <| dropK 0 l (fun l => appK l [] fun l => h.putK p none fun h => h.newK (.cells l (.opn 1) t) fun p h => k (.slc p 0 need (.rest 0)) h) none))
            (natK (Nat.add 0 (Nat.mul vs.length 1)) fun o => h.storeK p o [] fun h => k (.slc p 0 need (.rest 0)) h)) none) none : Res) : Res) = _
        rw [hb2, natK_eq, H.getK_eq, h1]
        refine (lenK_eq vs _).trans ?_
        have hb3 : Nat.ble (Nat.add 0 (Nat.mul (vs.length + 0) 1)) vs.length = true := Nat.ble_eq_true_of_le (by show 0 + (vs.length + 0) * 1 ≤ _; omega)
        rw [hb3]
        show natK _ _ = _
        rw [natK_eq, storeK_box h1 rfl ho (by show 0 + vs.length * 1 + 0 ≤ vs.length; omega)]
        show k (.slc p 0 (vs.length + 0) (.rest 0)) (h.put p (some (.cells (setAt (0 + vs.length * 1) [] vs) (.opn 1) ty))) = _
        have : setAt (0 + vs.length * 1) [] vs = vs := by
          have key : ∀ (n : Nat) (l : List V), setAt n [] l = l := by
            intro n
            induction n with
            | zero => intro l; simp [setAt]
            | succ n ih => intro l; cases l with
              | nil => simp [setAt]
              | cons a l => simp [setAt]
          exact key _ _
        rw [this]; rfl
      · rw [H.get_put, if_neg (fun he => hne 0 vs.length (.rest 0) (by rw [he]))]
    · refine ⟨.slc h.next 0 (vs.length + new.length) (.rest 0), (h.put p none).new (.cells (vs ++ new) (.opn 1) ty), fun k => ?_, (hx.put h3).new, ⟨fun u hu => ?_, .inr ⟨h.next, by simp, ?_, old_next, fun hh => ?_⟩⟩, fun b hb hne => ?_, by rw [H.next_new]; exact Nat.le_succ _⟩
      · show (Bool.casesOn (Nat.ble new.length 1073741824) none <| (Bool.casesOn (Nat.ble vs.length 1073741824) none <| natK (Nat.add vs.length new.length) fun need => (Bool.casesOn (Nat.beq 0 (Nat.mul 0 1)) none <| h.getK p (fun x => x.onCells (fun l kd t => Kind.casesOn kd none none fun s => Bool.casesOn (Nat.beq s 1) none <|
          lenK l fun L => Bool.casesOn (Nat.ble (Nat.add 0 (Nat.mul need 1)) L)
            (Bool.casesOn (Nat.beq (Nat.add 0 (Nat.mul vs.length 1)) L) none (Bool.casesOn (and (Nat.beq t ty) (onesK new)) none <| dropK 0 l (fun l => appK l new fun l => h.putK p none fun h => h.newK (.cells l (.opn 1) t) fun p h => k (.slc p 0 need (.rest 0)) h) none))
            (natK (Nat.add 0 (Nat.mul vs.length 1)) fun o => h.storeK p o new fun h => k (.slc p 0 need (.rest 0)) h)) none) none : Res) : Res) : Res) = _
        rw [hb1, hb2, natK_eq, H.getK_eq, h1]
        refine (lenK_eq vs _).trans ?_
        have hb3 : Nat.ble (Nat.add 0 (Nat.mul (Nat.add vs.length new.length) 1)) vs.length = false := nble_false (by show vs.length < 0 + (vs.length + new.length) * 1; omega)
        have hb4 : Nat.beq (Nat.add 0 (Nat.mul vs.length 1)) vs.length = true := by
          have : Nat.add 0 (Nat.mul vs.length 1) = vs.length := by show 0 + vs.length * 1 = _; omega
          rw [this]; exact Nat.beq_refl _
        have hb5 : (and (Nat.beq ty ty) (onesK new)) = true := by rw [ho, Nat.beq_refl]; rfl
        rw [hb3]
        show (Bool.casesOn (Nat.beq (Nat.add 0 (Nat.mul vs.length 1)) vs.length) none (Bool.casesOn (and (Nat.beq ty ty) (onesK new)) none _) : Res) = _
        rw [hb4]
        show (Bool.casesOn (and (Nat.beq ty ty) (onesK new)) none _ : Res) = _
        rw [hb5]
        show dropK 0 vs _ none = _
        rw [dropK_eq, if_pos (Nat.zero_le _), appK_eq, H.putK_eq, H.newK_eq]
        rfl
      · rcases List.mem_append.1 hu with hu | hu
        · exact hj0 u hu
        · exact hj u hu
      · exact get_new_next (h := h.put p none)
      · have := hx.next; simp only [Old] at hh; omega
      · rw [get_new_old (h := h.put p none) hb, H.get_put, if_neg (fun he => hne 0 vs.length (.rest 0) (by rw [he]))]

/-- append -/
noncomputable def appS (sz : Nat) (ty : TypeId) (s x : V) (h : H) (k : V → H → Res) : Res := x.lenK (fun n => firstK h sz n x fun new => growK h sz ty n new s k) none
@[congr] theorem appS_congr {sz : Nat} {ty : TypeId} {s s' x x' : V} {h h' : H} {k : V → H → Res} (a : s = s') (b : x = x') (c : h = h') : appS sz ty s x h k = appS sz ty s' x' h' k := by rw [a, b, c]
@[simp, simp ↓] theorem sAppend_s {sz : Nat} {ty : TypeId} {s x : O} {k : V → H → Res} : sAppend sz ty s x cx e fr h k = evK e fr s fun s => evK e fr x fun x => appS sz ty s x h k := Eq.trans rfl rfl



theorem GrAt.put {ty : TypeId} (hg : GrAt ty h0 h v vs) {l : Pos} {x : Option Blk} (hl : Old h0 l) : GrAt ty h0 (h.put l x) v vs := by
  obtain ⟨hj, h1 | ⟨p, h1, h2, h3, h4⟩⟩ := hg
  · exact ⟨hj, .inl h1⟩
  · exact ⟨hj, .inr ⟨p, h1, by rw [H.get_put, if_neg (fun he => h4 (by rw [he]; exact hl))]; exact h2, h3, h4⟩⟩

/-! ### what a function leaves -/
/-- its heap goes on from the caller's -/
def Ret1 (h : H) (Post : V → H → Prop) (r : Option (V × H)) : Prop := ∃ v h', r = some (v, h') ∧ Ext h h' ∧ Post v h'

theorem enterK_all : ∀ (ps : List Pos) (args : List V) (fr : Fr) (f : Fr → Option (V × H)), ps.length = args.length → enterK ps args fr f none = f (setAll fr ps args) := by
  intro ps
  induction ps with
  | nil => intro args fr f hl; cases args with
    | nil => rfl
    | cons => simp at hl
  | cons p ps ih => intro args fr f hl; cases args with
    | nil => simp at hl
    | cons a args =>
      show Tr.setK (some a) p fr (fun fr => enterK ps args fr f none) = _
      rw [Tr.setK_eq, ih _ _ _ (by simpa using hl)]; rfl

def tmps (l : List Pos) : List R := l.map .tmp
def getsAll (fr : Fr) : List Pos → List V → Prop
  | [], [] => True
  | p :: ps, v :: vs => Tr.get p fr = some v ∧ getsAll fr ps vs
  | _, _ => False
theorem resultsK_tmps {h : H} {fr : Fr} : ∀ {ps : List Pos} {vs : List V} {k : List V → Option (V × H)}, getsAll fr ps vs → resultsK h fr (tmps ps) k = k vs
  | [], [], k, _ => rfl
  | p :: ps, v :: vs, k, hg => by
    show (Option.casesOn (Tr.get p fr) none fun v => resultsK h fr (tmps ps) fun vs => k (v :: vs) : Option (V × H)) = _
    rw [hg.1]
    exact resultsK_tmps hg.2
  | [], _ :: _, _, hg => hg.elim
  | _ :: _, [], _, hg => hg.elim
theorem Ext.marked {h h' : H} (hh : Ext ⟨h.next, h.t, []⟩ h') : Ext h ⟨h'.next, h'.t, h.marks⟩ := ⟨hh.next, hh.get, rfl⟩
/-- A FUNCTION WITH RESULTS IN SLOTS -/
theorem body_ret {call : Call} {n : Nat} {ps rs : List Pos} {K : K} {args : List V} {Post : List V → H → Prop} (hl : ps.length = args.length)
    (hh : Ends (K ⟨call, n, false⟩ (setAll .leaf ps args) ⟨h.next, h.t, []⟩) fun x fr' h' => x = .jump .ret ∧ Ext ⟨h.next, h.t, []⟩ h' ∧ ∃ vs, getsAll fr' rs vs ∧ Post vs ⟨h'.next, h'.t, h.marks⟩) :
    ∃ vs h', bodyK call n ⟨ps, tmps rs, K⟩ args h = some (resOf vs, h') ∧ Ext h h' ∧ Post vs h' := by
  obtain ⟨x, fr', h', h1, rfl, hx, vs, h2, h3⟩ := hh
  refine ⟨vs, ⟨h'.next, h'.t, h.marks⟩, ?_, hx.marked, h3⟩
  show enterK ps args .leaf (fun fr => resK (K ⟨call, n, false⟩ fr ⟨h.next, h.t, []⟩) (fun fr h' => leaveK h.marks (tmps rs) fr h') (fun j fr h' => (Jump.casesOn j (fun _ => none) (leaveK h.marks (tmps rs) fr h') : Option (V × H))) none) none = _
  rw [enterK_all _ _ _ _ hl, h1]
  have hm : h'.marks = [] := hx.marks
  obtain ⟨nx, t, ms⟩ := h'
  simp only at hm
  subst hm
  show resultsK ⟨nx, t, h.marks⟩ fr' (tmps rs) (fun vs => some (resOf vs, ⟨nx, t, h.marks⟩)) = _
  rw [resultsK_tmps h2]
/-- .. with one result -/
theorem body_ret1 {call : Call} {n : Nat} {ps : List Pos} {r : Pos} {K : K} {args : List V} {Post : V → H → Prop} (hl : ps.length = args.length)
    (hh : Ends (K ⟨call, n, false⟩ (setAll .leaf ps args) ⟨h.next, h.t, []⟩) fun x fr' h' => x = .jump .ret ∧ Ext ⟨h.next, h.t, []⟩ h' ∧ ∃ v, Tr.get r fr' = some v ∧ Post v ⟨h'.next, h'.t, h.marks⟩) :
    Ret1 h Post (bodyK call n ⟨ps, [.tmp r], K⟩ args h) := by
  obtain ⟨vs, h', h1, h2, v, rfl, h3⟩ := body_ret (rs := [r]) (Post := fun vs h' => ∃ v, vs = [v] ∧ Post v h') hl (hh.mono fun x fr' h' ⟨a1, a2, v, a3, a4⟩ => ⟨a1, a2, [v], ⟨a3, trivial⟩, v, rfl, a4⟩)
  exact ⟨v, h', h1, h2, h3⟩

/-- cells of a block that is known -/
theorem load1 {b : Pos} {l : List V} {kd : Kind} {ty : TypeId} {o : Nat} {f : V → Res} {u : V} (hb : h.get b = some (.cells l kd ty)) (hu : l[o]? = some u) (hj : u.isJunk = false) : h.loadK none b o f = f u := by
  rw [loadK_none, hb]; simp [hu, hj]
theorem loadAll {b : Pos} {l : List V} {kd : Kind} {ty : TypeId} {n : Nat} {f : V → Res} (hb : h.get b = some (.cells l kd ty)) (hn : l.length = n) (hj : noJunk l = true) : h.loadK (some n) b 0 f = f (.agg l) := by
  rw [loadK_take, hb]
  show (if 0 ≤ l.length ∧ n ≤ (l.drop 0).length ∧ noJunk ((l.drop 0).take n) = true then f (.agg ((l.drop 0).take n)) else none) = _
  rw [List.drop_zero, ← hn, List.take_length, if_pos ⟨Nat.zero_le _, Nat.le_refl _, hj⟩]
end
end Go.Proofs.YtdojpbbdcgfcnaaGreatDoor.AI
/- RUNS WITH UNKNOWN INPUTS, 3: ranges over functions, functions without results. -/
namespace Go.Proofs.YtdojpbbdcgfcnaaGreatDoor.AI

section
variable {cx : Cx} {e : List V} {fr : Fr} {h h' h0 : H} {v : V} {vs : List V}

/-- a later heap that has all of the earlier one, whatever is marked -/
structure Sub (h h' : H) : Prop where
  next : h.next.toNat ≤ h'.next.toNat
  get : ∀ b, Old h b → h'.get b = h.get b
theorem Ext.sub (hh : Ext h h') : Sub h h' := ⟨hh.next, hh.get⟩
theorem Sub.refl (h : H) : Sub h h := ⟨Nat.le_refl _, fun _ _ => rfl⟩
theorem Sub.old (hh : Sub h h') {b : Pos} (hb : Old h b) : Old h' b := by have := hh.next; simp only [Old] at *; omega
theorem Sub.trans {h h' h'' : H} (a : Sub h h') (b : Sub h' h'') : Sub h h'' := ⟨Nat.le_trans a.next b.next, fun x hx => (b.get x (a.old hx)).trans (a.get x hx)⟩
theorem Sub.ext (hh : Sub h h') (hm : h'.marks = h.marks) : Ext h h' := ⟨hh.next, hh.get, hm⟩
theorem RdAt.sub (hs : RdAt h v vs) (hh : Sub h h') : RdAt h' v vs := by
  rcases hs with h1 | ⟨b, o, c, l, kd, ty, h1, h3, h4, h5⟩
  · exact .inl h1
  · exact .inr ⟨b, o, c, l, kd, ty, h1, by rw [hh.get b h4]; exact h3, hh.old h4, h5⟩





end
end Go.Proofs.YtdojpbbdcgfcnaaGreatDoor.AI
/- RUNS OF THE KERNEL THAT MAKE LISTS OF LINES; functions known in one of two ways. -/
namespace Go.Proofs.YtdojpbbdcgfcnaaGreatDoor.AI

@[congr] theorem storeK_congr {h h' : H} {b b' : Pos} {o o' : Nat} {cs cs' : List V} {f : H → Res} (hh : h = h') (hb : b = b') (ho : o = o') (hc : cs = cs') : h.storeK b o cs f = h'.storeK b' o' cs' f := by rw [hh, hb, ho, hc]
@[congr] theorem onStr_congr {β : Type} {v v' : V} {f : List UInt8 → β} {z : β} (hv : v = v') : v.onStr f z = v'.onStr f z := by rw [hv]
/-- a system and OK, as a template: the lines begin at the block 1 -/
def outerT : Nat → List (List Nat) → List V
  | _, [] => []
  | k, l :: ls => .slc (Pos.ofNat k) 0 l.length (.rest 0) :: outerT (k + 1) ls
def numsT (l : List Nat) : List V := l.map fun n => .int .i64 (.ofNat n)
def linesT : List (List Nat) → Rows
  | [] => []
  | l :: ls => (numsT l, .opn 1, 3) :: linesT ls
def sysT (c : Nat) (ls : List (List Nat)) : V := .tup [.agg [.int .i64 (.ofNat c), .slc .h 0 ls.length (.rest 0)], .int .i64 (.ofNat 0)]
def rowsT (ls : List (List Nat)) : Rows := (outerT 1 ls, .opn 1, 36) :: linesT ls

/-- where the rows of a system lie -/
noncomputable def slcPos (v : V) : Pos := v.onSlc (fun b _ _ _ => b) .h
noncomputable def psOf (v : V) (h : H) : List Pos :=
  v.onTup (fun l => List.casesOn l [] fun a _ => a.onAgg (fun l => List.casesOn l [] fun _ l => List.casesOn l [] fun s _ =>
    s.onSlc (fun b _ _ _ => h.getK b (fun x => x.onCells (fun cs _ _ => b :: List.rec [] (fun u _ ih => slcPos u :: ih) cs) []) []) []) []) []
noncomputable def sysB (p : Prg) (m k : Nat) (n : Pos) (nd : Need) (f : Nat) (args : List V) (V0 : V) (R : Rows) : Bool :=
  Bool.casesOn (closeds 1000 args) false (Bool.casesOn (inV 1000 R.length V0) false (Bool.casesOn (inRows R.length R) false
    (Option.casesOn (goK p (callK p m) k f args (H.bare n nd)) false fun r => Prod.casesOn r fun v h1 =>
      listK (psOf v h1) fun ps => Bool.casesOn (apartP ps) false (Bool.casesOn (eqD 1000 (renV 1000 ps V0) v) false (rowsB ps h1 ps R)))))

section
variable {P : Program} {rs : Rnds} {p : Prg} {nd : Need}
theorem sysB_ok (hp : PrgOk P rs p) {n : Pos} (hn : n.toNat = P.globals.size) {m k f : Nat} {args : List V} {V0 : V} {R : Rows} (hcl : needB nd = true) (hlt : needLt n nd = true) (h : sysB p m k n nd f args V0 R = true) {g : G} {h0 : H} {w : World} (hw : WR rs P.globals.size g h0 w) (hnd : hasK h0 nd = true) :
    OpOk rs P.globals.size P g h0 w (callFunc f (concs g args).toArray) (renV 1000 (fresh R.length h0.next) V0) (layH R h0) := by
  obtain ⟨h1, h⟩ := bool_and h
  obtain ⟨h3, h⟩ := bool_and h
  obtain ⟨h4, h⟩ := bool_and h
  cases hr : goK p (callK p m) k f args (H.bare n nd) with
  | none => rw [hr] at h; cases h
  | some r =>
    rw [hr] at h
    obtain ⟨v, hh⟩ := r
    have h' : listK (psOf v hh) (fun ps => (Bool.casesOn (apartP ps) false (Bool.casesOn (eqD 1000 (renV 1000 ps V0) v) false (rowsB ps hh ps R)) : Bool)) = true := h
    rw [listK_eq] at h'
    obtain ⟨h2, h'⟩ := bool_and (a := apartP (psOf v hh)) (b := (Bool.casesOn (eqD 1000 (renV 1000 (psOf v hh) V0) v) false (rowsB (psOf v hh) hh (psOf v hh) R) : Bool)) h'
    obtain ⟨h5, h6⟩ := bool_and (a := eqD 1000 (renV 1000 (psOf v hh) V0) v) (b := rowsB (psOf v hh) hh (psOf v hh) R) h'
    exact makes_ok hp hn h1 hcl hlt hr h5 h6 h2 h3 h4 hw hnd

/-- a table of systems: arguments, cells, lines -/
abbrev Syss := List (List V × Nat × List (List Nat))
noncomputable def natSys (nd : Need) (t : Syss) (args : List V) (h : H) : Option (V × H) :=
  @dite _ (hasK h nd = true ∧ ∃ x ∈ t, x.1 = args) (Classical.propDecidable _)
    (fun hh => some (renV 1000 (fresh (rowsT (Classical.choose hh.2).2.2).length h.next) (sysT (Classical.choose hh.2).2.1 (Classical.choose hh.2).2.2), layH (rowsT (Classical.choose hh.2).2.2) h)) fun _ => none
noncomputable def syssB (p : Prg) (m k : Nat) (n : Pos) (nd : Need) (f : Nat) (t : Syss) : Bool := List.rec true (fun x _ ih => Bool.casesOn (sysB p m k n nd f x.1 (sysT x.2.1 x.2.2) (rowsT x.2.2)) false ih) t
theorem syssB_ok {m k f : Nat} {n : Pos} : ∀ {t : Syss}, syssB p m k n nd f t = true → ∀ x ∈ t, sysB p m k n nd f x.1 (sysT x.2.1 x.2.2) (rowsT x.2.2) = true
  | [], _, x, hx => by cases hx
  | y :: l, h, x, hx => by
    obtain ⟨h1, h2⟩ := bool_and (a := sysB p m k n nd f y.1 (sysT y.2.1 y.2.2) (rowsT y.2.2)) (b := syssB p m k n nd f l) h
    rcases List.mem_cons.1 hx with rfl | hx
    · exact h1
    · exact syssB_ok h2 x hx
theorem natSys_ok (hp : PrgOk P rs p) {n : Pos} (hn : n.toNat = P.globals.size) {m k f : Nat} {t : Syss} (hcl : needB nd = true) (hlt : needLt n nd = true) (h : ∀ x ∈ t, sysB p m k n nd f x.1 (sysT x.2.1 x.2.2) (rowsT x.2.2) = true) : NatOk P rs f (natSys nd t) := by
  intro args h0 v h' hs g w hw _
  unfold natSys at hs
  split at hs
  · rename_i hh
    cases hs
    obtain ⟨c1, c2⟩ := Classical.choose_spec hh.2
    have := sysB_ok hp hn hcl hlt (h _ c1) hw hh.1
    rw [c2] at this
    exact this
  · cases hs
theorem natSys_some {t : Syss} {args : List V} {h : H} {c : Nat} {ls : List (List Nat)} (hk : hasK h nd = true) (hm : (args, c, ls) ∈ t) (hu : ∀ x ∈ t, x.1 = args → x.2 = (c, ls)) :
    natSys nd t args h = some (renV 1000 (fresh (rowsT ls).length h.next) (sysT c ls), layH (rowsT ls) h) := by
  unfold natSys
  have hh : hasK h nd = true ∧ ∃ x ∈ t, x.1 = args := ⟨hk, _, hm, rfl⟩
  rw [dif_pos hh]
  obtain ⟨c1, c2⟩ := Classical.choose_spec hh.2
  have := hu _ c1 c2
  rw [this]

/-- known in one of two ways -/
noncomputable def natOr (a b : List V → H → Option (V × H)) (args : List V) (h : H) : Option (V × H) :=
  match a args h with
  | some r => some r
  | none => b args h
theorem natOr_ok {f : Nat} {a b : List V → H → Option (V × H)} (ha : NatOk P rs f a) (hb : NatOk P rs f b) : NatOk P rs f (natOr a b) := by
  intro args h v h' hs
  unfold natOr at hs
  split at hs
  · rename_i r hr
    cases hs
    exact ha args h v h' hr
  · exact hb args h v h' hs
theorem natOr_left {a b : List V → H → Option (V × H)} {args : List V} {h : H} {r : V × H} (ha : a args h = some r) : natOr a b args h = some r := by unfold natOr; rw [ha]
theorem natOr_right {a b : List V → H → Option (V × H)} {args : List V} {h : H} {r : Option (V × H)} (ha : a args h = none) (hb : b args h = r) : natOr a b args h = r := by unfold natOr; rw [ha]; exact hb
end
end Go.Proofs.YtdojpbbdcgfcnaaGreatDoor.AI
/- WHAT A TABLE OF SYSTEMS LAYS, READ AS LISTS OF LINES. -/
namespace Go.Proofs.YtdojpbbdcgfcnaaGreatDoor.AI

section
variable {h h' : H} {v : V}
/-- a list of lists of integers that can be read -/
def RLines (h : H) (v : V) (ls : List (List Int)) : Prop := ∃ vs, RdAt h v vs ∧ vs.length = ls.length ∧ ∀ (i : Nat) (u : V) (xs : List Int), vs[i]? = some u → ls[i]? = some xs → RdAt h u (xs.map fun i => V.int .i64 i)
theorem RLines.len {ls : List (List Int)} (hs : RLines h v ls) (f : V → Res) : lenS v f = f (.int .i64 ls.length) := by
  obtain ⟨vs, h1, h2, _⟩ := hs
  rw [h1.len, h2]
theorem RLines.junk {ls : List (List Int)} (hs : RLines h v ls) : v.isJunk = false := let ⟨_, h1, _⟩ := hs; h1.junk
theorem RLines.one {ls : List (List Int)} (hs : RLines h v ls) : v.isOne = true := let ⟨_, h1, _⟩ := hs; h1.one
theorem RLines.cells {ls : List (List Int)} (hs : RLines h v ls) : v.cells = [v] := let ⟨_, h1, _⟩ := hs; h1.cells
theorem RLines.eqD {ls : List (List Int)} (hs : RLines h v ls) {n : Nat} : Go.Proofs.YtdojpbbdcgfcnaaGreatDoor.AI.eqD (n + 1) v v = true := let ⟨_, h1, _⟩ := hs; h1.eqD
theorem RLines.ext {ls : List (List Int)} (hs : RLines h v ls) (hh : Ext h h') : RLines h' v ls := by
  obtain ⟨vs, h1, h2, h3⟩ := hs
  exact ⟨vs, h1.ext hh, h2, fun i u xs a b => (h3 i u xs a b).ext hh⟩
theorem RLines.at {ls : List (List Int)} (hs : RLines h v ls) {i : Nat} (hi : i < ls.length) : ∃ b o u, Old h b ∧ (∀ kd f, idxS 1 v (.int kd i) f = f b o) ∧ (∀ f, h.loadK none b o f = f u) ∧ RdAt h u (ls[i].map fun i => V.int .i64 i) := by
  obtain ⟨vs, h1, h2, h3⟩ := hs
  have hv : vs[i]? = some (vs[i]'(by omega)) := List.getElem?_eq_getElem (by omega)
  obtain ⟨b, o, a1, a2, a3⟩ := h1.at hv
  exact ⟨b, o, _, a1, a2, a3, h3 i _ _ hv (List.getElem?_eq_getElem hi)⟩
theorem RLines.nil : RLines h .nils [] := ⟨[], .inl ⟨.inl rfl, rfl⟩, rfl, fun i u xs a => by simp at a⟩

/-! ### the heap behind a table's rows -/
theorem lay_old (ps : List Pos) : ∀ (n : Nat) (q : Pos) (r : Rows) (t : Tr Blk) (b : Pos), b.toNat < q.toNat → Tr.get b (lay ps (fresh n q) r t) = Tr.get b t
  | 0, _, [], _, _, _ => rfl
  | 0, _, _ :: _, _, _, _ => rfl
  | _ + 1, _, [], _, _, _ => rfl
  | n + 1, q, (l, k, ty) :: r, t, b, hb => by
    show Tr.get b (lay ps (fresh n q.succ) r (Tr.set _ q t)) = _
    rw [lay_old ps n q.succ r _ b (by rw [Pos.toNat_succ]; omega), Tr.get_set, if_neg (fun he => by subst he; omega)]
theorem lay_get (ps : List Pos) : ∀ (n : Nat) (q : Pos) (r : Rows) (t : Tr Blk) (i : Nat) (l : List V) (k : Kind) (ty : TypeId), i < n → r[i]? = some (l, k, ty) → Tr.get (nthP (fresh n q) i) (lay ps (fresh n q) r t) = some (.cells (renVs 1000 ps l) k ty)
  | 0, _, _, _, _, _, _, _, h, _ => by omega
  | n + 1, q, [], t, i, l, k, ty, _, hr => by simp at hr
  | n + 1, q, (l', k', ty') :: r, t, 0, l, k, ty, _, hr => by
    simp at hr
    obtain ⟨rfl, rfl, rfl⟩ := hr
    show Tr.get q (lay ps (fresh n q.succ) r (Tr.set _ q t)) = _
    rw [lay_old ps n q.succ r _ q (by rw [Pos.toNat_succ]; omega), Tr.get_set, if_pos rfl]
  | n + 1, q, (l', k', ty') :: r, t, i + 1, l, k, ty, hi, hr => by
    show Tr.get (nthP (fresh n q.succ) i) (lay ps (fresh n q.succ) r (Tr.set _ q t)) = _
    exact lay_get ps n q.succ r _ i l k ty (by omega) (by simpa using hr)
theorem layH_ext (r : Rows) (h : H) : Ext h (layH r h) := ⟨by show _ ≤ (ups r.length h.next).toNat; rw [ups_toNat]; omega, fun b hb => lay_old _ _ _ _ _ _ hb, rfl⟩
theorem layH_get (r : Rows) (h : H) {i : Nat} {l : List V} {k : Kind} {ty : TypeId} (hr : r[i]? = some (l, k, ty)) : (layH r h).get (nthP (fresh r.length h.next) i) = some (.cells (renVs 1000 (fresh r.length h.next) l) k ty) :=
  lay_get _ _ _ _ _ _ _ _ _ (List.getElem?_eq_some_iff.1 hr).1 hr
theorem layH_old (r : Rows) (h : H) {i : Nat} (hi : i < r.length) : Old (layH r h) (nthP (fresh r.length h.next) i) := by
  show (nthP (fresh r.length h.next) i).toNat < (ups r.length h.next).toNat
  rw [nth_fresh _ _ _ hi, ups_toNat]; omega

def outerV (q : Nat → Pos) : Nat → List (List Nat) → List V
  | _, [] => []
  | k, l :: ls => .slc (q k) 0 l.length (.rest 0) :: outerV q (k + 1) ls
theorem outerV_get (q : Nat → Pos) : ∀ (ls : List (List Nat)) (k i : Nat), (outerV q k ls)[i]? = (ls[i]?).map fun l => V.slc (q (k + i)) 0 l.length (.rest 0)
  | [], _, i => by simp [outerV]
  | l :: ls, k, 0 => by simp [outerV]
  | l :: ls, k, i + 1 => by
    simp only [outerV, List.getElem?_cons_succ]
    rw [outerV_get q ls (k + 1) i]
    have : k + 1 + i = k + (i + 1) := by omega
    rw [this]
theorem outerV_length (q : Nat → Pos) : ∀ (ls : List (List Nat)) (k : Nat), (outerV q k ls).length = ls.length
  | [], _ => rfl
  | _ :: ls, k => by simp [outerV, outerV_length q ls]
theorem ren_outer (qs : List Pos) : ∀ (n k : Nat) (ls : List (List Nat)), ls.length + 1 < n → renVs n qs (outerT k ls) = outerV (nthP qs) k ls
  | 0, _, _, h => by omega
  | 1, _, ls, h => by omega
  | n + 2, k, [], _ => rfl
  | n + 2, k, l :: ls, h => by
    show renV (n + 1) qs (.slc (Pos.ofNat k) 0 l.length (.rest 0)) :: renVs (n + 1) qs (outerT (k + 1) ls) = _
    rw [ren_outer qs (n + 1) (k + 1) ls (by simp at h; omega)]
    show V.slc (nthP qs (Pos.ofNat k).toNat) 0 l.length (.rest 0) :: _ = _
    rw [Pos.toNat_ofNat]; rfl
theorem ren_nums (qs : List Pos) : ∀ (n : Nat) (l : List Nat), l.length + 1 < n → renVs n qs (numsT l) = numsT l
  | 0, _, h => by omega
  | 1, _, h => by omega
  | n + 2, [], _ => rfl
  | n + 2, x :: l, h => by
    show renV (n + 1) qs (.int .i64 (.ofNat x)) :: renVs (n + 1) qs (numsT l) = _
    rw [ren_nums qs (n + 1) l (by simp at h; omega)]
    rfl
theorem linesT_get : ∀ (ls : List (List Nat)) (i : Nat), (linesT ls)[i]? = (ls[i]?).map fun l => (numsT l, Kind.opn 1, (3 : TypeId))
  | [], i => by simp [linesT]
  | l :: ls, 0 => by simp [linesT]
  | l :: ls, i + 1 => by simp only [linesT, List.getElem?_cons_succ]; exact linesT_get ls i
theorem linesT_length : ∀ ls : List (List Nat), (linesT ls).length = ls.length
  | [] => rfl
  | _ :: ls => by simp [linesT, linesT_length ls]

def intsN (ls : List (List Nat)) : List (List Int) := ls.map fun l => l.map fun n : Nat => (n : Int)
/-- A SYSTEM OF A TABLE, as it lies behind -/
theorem sys_laid (c : Nat) (ls : List (List Nat)) (h : H) (h1 : ls.length ≤ 900) (h2 : ∀ l ∈ ls, l.length ≤ 900) :
    ∃ u, renV 1000 (fresh (rowsT ls).length h.next) (sysT c ls) = .tup [.agg [.int .i64 c, u], .int .i64 0] ∧ RLines (layH (rowsT ls) h) u (intsN ls) := by
  refine ⟨.slc (nthP (fresh (rowsT ls).length h.next) 0) 0 ls.length (.rest 0), rfl, outerV (nthP (fresh (rowsT ls).length h.next)) 1 ls, ?_, by rw [outerV_length]; simp [intsN], ?_⟩
  · have hg := layH_get (rowsT ls) h (i := 0) (l := outerT 1 ls) (k := .opn 1) (ty := 36) rfl
    rw [ren_outer _ _ _ _ (by omega)] at hg
    refine .inr ⟨_, 0, _, _, _, _, by rw [outerV_length], hg, layH_old _ _ (by simp [rowsT]), fun i u hu => ⟨by rw [Nat.zero_add]; exact hu, ?_⟩⟩
    rw [outerV_get] at hu
    cases hl : ls[i]? with
    | none => rw [hl] at hu; cases hu
    | some l => rw [hl] at hu; cases hu; rfl
  · intro i u xs hu hx
    rw [outerV_get] at hu
    cases hl : ls[i]? with
    | none => rw [hl] at hu; cases hu
    | some l =>
      rw [hl] at hu; cases hu
      have hx' : xs = l.map fun n : Nat => (n : Int) := by
        simp only [intsN, List.getElem?_map, hl] at hx; cases hx; rfl
      subst hx'
      have hmem : l ∈ ls := List.mem_of_getElem? hl
      have hg := layH_get (rowsT ls) h (i := 1 + i) (l := numsT l) (k := .opn 1) (ty := 3) (by
        rw [Nat.add_comm]; simp only [rowsT, List.getElem?_cons_succ]; rw [linesT_get, hl]; rfl)
      rw [ren_nums _ _ _ (by have := h2 l hmem; omega)] at hg
      have hil : i < ls.length := (List.getElem?_eq_some_iff.1 hl).1
      refine .inr ⟨_, 0, .rest 0, _, _, _, by simp, hg, layH_old _ _ (by simp [rowsT, linesT_length]; omega), fun j w hw => ?_⟩
      rw [List.map_map, List.getElem?_map] at hw
      cases hj : l[j]? with
      | none => rw [hj] at hw; cases hw
      | some n =>
        rw [hj] at hw; cases hw
        rw [Nat.zero_add]
        exact ⟨by rw [numsT, List.getElem?_map, hj]; rfl, rfl⟩
end
end Go.Proofs.YtdojpbbdcgfcnaaGreatDoor.AI
/- THE SYSTEMS OF SQUARES, RECTANGLES, CUBES AND STARS, as lists of numbers. -/
namespace Go.Proofs.YtdojpbbdcgfcnaaGreatDoor.AI.T
def rowsL (r c : Nat) : List (List Nat) := (List.range r).map fun i => (List.range c).map fun k => c * i + k
def colsL (r c : Nat) : List (List Nat) := (List.range c).map fun k => (List.range r).map fun i => c * i + k
def downL (n k : Nat) : List Nat := (List.range n).map fun r => n * r + (r + k) % n
def upL (n k : Nat) : List Nat := (List.range n).map fun r => n * r + (k + n - r) % n
def insN (x : Nat) : List Nat → List Nat
  | [] => [x]
  | y :: l => if Nat.ble x y = true then x :: y :: l else y :: insN x l
def sortN : List Nat → List Nat
  | [] => []
  | x :: l => insN x (sortN l)
def sameN : List Nat → List Nat → Bool
  | [], [] => true
  | x :: l, y :: m => Nat.beq x y && sameN l m
  | _, _ => false
/-- each one once -/
def onceL (seen : List (List Nat)) : List (List Nat) → List (List Nat)
  | [] => []
  | l :: ls => if seen.any (fun m => sameN m (sortN l)) = true then onceL seen ls else sortN l :: onceL (sortN l :: seen) ls
/-- 0: semimagic, 1: magic, 2: pandiagonal -/
def squareL (kind n : Nat) : List (List Nat) := onceL [] (rowsL n n ++ colsL n n ++ (match kind with
  | 0 => []
  | 1 => [downL n 0, upL n (n - 1)]
  | _ => [downL n 0, upL n (n - 1)] ++ (List.range n).map (downL n) ++ (List.range n).map (upL n)))
def rectR (r c : Nat) : List (List Nat) := onceL [] (rowsL r c)
def rectC (r c : Nat) : List (List Nat) := onceL [] (colsL r c)
def cubeL (n : Nat) : List (List Nat) :=
  let two (f : Nat → Nat → Nat → Nat) : List (List Nat) := (List.range n).flatMap fun a => (List.range n).map fun b => (List.range n).map fun t => f a b t
  let at3 (x y z : Nat) : Nat := n * n * x + n * y + z
  onceL [] (two (fun a b t => at3 a b t) ++ two (fun a b t => at3 a t b) ++ two (fun a b t => at3 t a b) ++
    [(List.range n).map fun t => at3 t t t, (List.range n).map fun t => at3 t t (n - 1 - t), (List.range n).map fun t => at3 t (n - 1 - t) t, (List.range n).map fun t => at3 t (n - 1 - t) (n - 1 - t)])
def starL (n : Nat) : List (List Nat) := onceL [] ((List.range n).map fun k => [k, (k + 2) % n, n + k, n + (k + 1) % n])
end Go.Proofs.YtdojpbbdcgfcnaaGreatDoor.AI.T
/- THE TABLES OF SYSTEMS, AND OF THE NUMBERS' TEXTS. Printed by a program of ours. -/
set_option maxRecDepth 100000
namespace Go.Proofs.YtdojpbbdcgfcnaaGreatDoor.AI.T
open Go Go.Proofs.YtdojpbbdcgfcnaaGreatDoor.AI
noncomputable def tSq0 : Syss := [([.str [115,101,109,105,109,97,103,105,99], .int .i64 (.ofNat 1)], 1, squareL 0 1), ([.str [115,101,109,105,109,97,103,105,99], .int .i64 (.ofNat 2)], 4, squareL 0 2), ([.str [115,101,109,105,109,97,103,105,99], .int .i64 (.ofNat 3)], 9, squareL 0 3), ([.str [115,101,109,105,109,97,103,105,99], .int .i64 (.ofNat 4)], 16, squareL 0 4), ([.str [115,101,109,105,109,97,103,105,99], .int .i64 (.ofNat 5)], 25, squareL 0 5), ([.str [115,101,109,105,109,97,103,105,99], .int .i64 (.ofNat 6)], 36, squareL 0 6)]
noncomputable def tSq1 : Syss := [([.str [109,97,103,105,99], .int .i64 (.ofNat 1)], 1, squareL 1 1), ([.str [109,97,103,105,99], .int .i64 (.ofNat 2)], 4, squareL 1 2), ([.str [109,97,103,105,99], .int .i64 (.ofNat 3)], 9, squareL 1 3), ([.str [109,97,103,105,99], .int .i64 (.ofNat 4)], 16, squareL 1 4), ([.str [109,97,103,105,99], .int .i64 (.ofNat 5)], 25, squareL 1 5), ([.str [109,97,103,105,99], .int .i64 (.ofNat 6)], 36, squareL 1 6)]
noncomputable def tSq2 : Syss := [([.str [112,97,110,100,105,97,103,111,110,97,108], .int .i64 (.ofNat 1)], 1, squareL 2 1), ([.str [112,97,110,100,105,97,103,111,110,97,108], .int .i64 (.ofNat 2)], 4, squareL 2 2), ([.str [112,97,110,100,105,97,103,111,110,97,108], .int .i64 (.ofNat 3)], 9, squareL 2 3), ([.str [112,97,110,100,105,97,103,111,110,97,108], .int .i64 (.ofNat 4)], 16, squareL 2 4), ([.str [112,97,110,100,105,97,103,111,110,97,108], .int .i64 (.ofNat 5)], 25, squareL 2 5), ([.str [112,97,110,100,105,97,103,111,110,97,108], .int .i64 (.ofNat 6)], 36, squareL 2 6)]
noncomputable def tRr1 : Syss := [([.int .i64 (.ofNat 1), .int .i64 (.ofNat 1)], 1, rectR 1 1), ([.int .i64 (.ofNat 1), .int .i64 (.ofNat 2)], 2, rectR 1 2), ([.int .i64 (.ofNat 1), .int .i64 (.ofNat 3)], 3, rectR 1 3), ([.int .i64 (.ofNat 1), .int .i64 (.ofNat 4)], 4, rectR 1 4), ([.int .i64 (.ofNat 1), .int .i64 (.ofNat 5)], 5, rectR 1 5), ([.int .i64 (.ofNat 1), .int .i64 (.ofNat 6)], 6, rectR 1 6)]
noncomputable def tRc1 : Syss := [([.int .i64 (.ofNat 1), .int .i64 (.ofNat 1)], 1, rectC 1 1), ([.int .i64 (.ofNat 1), .int .i64 (.ofNat 2)], 2, rectC 1 2), ([.int .i64 (.ofNat 1), .int .i64 (.ofNat 3)], 3, rectC 1 3), ([.int .i64 (.ofNat 1), .int .i64 (.ofNat 4)], 4, rectC 1 4), ([.int .i64 (.ofNat 1), .int .i64 (.ofNat 5)], 5, rectC 1 5), ([.int .i64 (.ofNat 1), .int .i64 (.ofNat 6)], 6, rectC 1 6)]
noncomputable def tRr2 : Syss := [([.int .i64 (.ofNat 2), .int .i64 (.ofNat 1)], 2, rectR 2 1), ([.int .i64 (.ofNat 2), .int .i64 (.ofNat 2)], 4, rectR 2 2), ([.int .i64 (.ofNat 2), .int .i64 (.ofNat 3)], 6, rectR 2 3), ([.int .i64 (.ofNat 2), .int .i64 (.ofNat 4)], 8, rectR 2 4), ([.int .i64 (.ofNat 2), .int .i64 (.ofNat 5)], 10, rectR 2 5), ([.int .i64 (.ofNat 2), .int .i64 (.ofNat 6)], 12, rectR 2 6)]
noncomputable def tRc2 : Syss := [([.int .i64 (.ofNat 2), .int .i64 (.ofNat 1)], 2, rectC 2 1), ([.int .i64 (.ofNat 2), .int .i64 (.ofNat 2)], 4, rectC 2 2), ([.int .i64 (.ofNat 2), .int .i64 (.ofNat 3)], 6, rectC 2 3), ([.int .i64 (.ofNat 2), .int .i64 (.ofNat 4)], 8, rectC 2 4), ([.int .i64 (.ofNat 2), .int .i64 (.ofNat 5)], 10, rectC 2 5), ([.int .i64 (.ofNat 2), .int .i64 (.ofNat 6)], 12, rectC 2 6)]
noncomputable def tRr3 : Syss := [([.int .i64 (.ofNat 3), .int .i64 (.ofNat 1)], 3, rectR 3 1), ([.int .i64 (.ofNat 3), .int .i64 (.ofNat 2)], 6, rectR 3 2), ([.int .i64 (.ofNat 3), .int .i64 (.ofNat 3)], 9, rectR 3 3), ([.int .i64 (.ofNat 3), .int .i64 (.ofNat 4)], 12, rectR 3 4), ([.int .i64 (.ofNat 3), .int .i64 (.ofNat 5)], 15, rectR 3 5), ([.int .i64 (.ofNat 3), .int .i64 (.ofNat 6)], 18, rectR 3 6)]
noncomputable def tRc3 : Syss := [([.int .i64 (.ofNat 3), .int .i64 (.ofNat 1)], 3, rectC 3 1), ([.int .i64 (.ofNat 3), .int .i64 (.ofNat 2)], 6, rectC 3 2), ([.int .i64 (.ofNat 3), .int .i64 (.ofNat 3)], 9, rectC 3 3), ([.int .i64 (.ofNat 3), .int .i64 (.ofNat 4)], 12, rectC 3 4), ([.int .i64 (.ofNat 3), .int .i64 (.ofNat 5)], 15, rectC 3 5), ([.int .i64 (.ofNat 3), .int .i64 (.ofNat 6)], 18, rectC 3 6)]
noncomputable def tRr4 : Syss := [([.int .i64 (.ofNat 4), .int .i64 (.ofNat 1)], 4, rectR 4 1), ([.int .i64 (.ofNat 4), .int .i64 (.ofNat 2)], 8, rectR 4 2), ([.int .i64 (.ofNat 4), .int .i64 (.ofNat 3)], 12, rectR 4 3), ([.int .i64 (.ofNat 4), .int .i64 (.ofNat 4)], 16, rectR 4 4), ([.int .i64 (.ofNat 4), .int .i64 (.ofNat 5)], 20, rectR 4 5), ([.int .i64 (.ofNat 4), .int .i64 (.ofNat 6)], 24, rectR 4 6)]
noncomputable def tRc4 : Syss := [([.int .i64 (.ofNat 4), .int .i64 (.ofNat 1)], 4, rectC 4 1), ([.int .i64 (.ofNat 4), .int .i64 (.ofNat 2)], 8, rectC 4 2), ([.int .i64 (.ofNat 4), .int .i64 (.ofNat 3)], 12, rectC 4 3), ([.int .i64 (.ofNat 4), .int .i64 (.ofNat 4)], 16, rectC 4 4), ([.int .i64 (.ofNat 4), .int .i64 (.ofNat 5)], 20, rectC 4 5), ([.int .i64 (.ofNat 4), .int .i64 (.ofNat 6)], 24, rectC 4 6)]
noncomputable def tRr5 : Syss := [([.int .i64 (.ofNat 5), .int .i64 (.ofNat 1)], 5, rectR 5 1), ([.int .i64 (.ofNat 5), .int .i64 (.ofNat 2)], 10, rectR 5 2), ([.int .i64 (.ofNat 5), .int .i64 (.ofNat 3)], 15, rectR 5 3), ([.int .i64 (.ofNat 5), .int .i64 (.ofNat 4)], 20, rectR 5 4), ([.int .i64 (.ofNat 5), .int .i64 (.ofNat 5)], 25, rectR 5 5), ([.int .i64 (.ofNat 5), .int .i64 (.ofNat 6)], 30, rectR 5 6)]
noncomputable def tRc5 : Syss := [([.int .i64 (.ofNat 5), .int .i64 (.ofNat 1)], 5, rectC 5 1), ([.int .i64 (.ofNat 5), .int .i64 (.ofNat 2)], 10, rectC 5 2), ([.int .i64 (.ofNat 5), .int .i64 (.ofNat 3)], 15, rectC 5 3), ([.int .i64 (.ofNat 5), .int .i64 (.ofNat 4)], 20, rectC 5 4), ([.int .i64 (.ofNat 5), .int .i64 (.ofNat 5)], 25, rectC 5 5), ([.int .i64 (.ofNat 5), .int .i64 (.ofNat 6)], 30, rectC 5 6)]
noncomputable def tRr6 : Syss := [([.int .i64 (.ofNat 6), .int .i64 (.ofNat 1)], 6, rectR 6 1), ([.int .i64 (.ofNat 6), .int .i64 (.ofNat 2)], 12, rectR 6 2), ([.int .i64 (.ofNat 6), .int .i64 (.ofNat 3)], 18, rectR 6 3), ([.int .i64 (.ofNat 6), .int .i64 (.ofNat 4)], 24, rectR 6 4), ([.int .i64 (.ofNat 6), .int .i64 (.ofNat 5)], 30, rectR 6 5), ([.int .i64 (.ofNat 6), .int .i64 (.ofNat 6)], 36, rectR 6 6)]
noncomputable def tRc6 : Syss := [([.int .i64 (.ofNat 6), .int .i64 (.ofNat 1)], 6, rectC 6 1), ([.int .i64 (.ofNat 6), .int .i64 (.ofNat 2)], 12, rectC 6 2), ([.int .i64 (.ofNat 6), .int .i64 (.ofNat 3)], 18, rectC 6 3), ([.int .i64 (.ofNat 6), .int .i64 (.ofNat 4)], 24, rectC 6 4), ([.int .i64 (.ofNat 6), .int .i64 (.ofNat 5)], 30, rectC 6 5), ([.int .i64 (.ofNat 6), .int .i64 (.ofNat 6)], 36, rectC 6 6)]
noncomputable def tCu1 : Syss := [([.int .i64 (.ofNat 1)], 1, cubeL 1)]
noncomputable def tCu2 : Syss := [([.int .i64 (.ofNat 2)], 8, cubeL 2)]
noncomputable def tCu3 : Syss := [([.int .i64 (.ofNat 3)], 27, cubeL 3)]
noncomputable def tCu4 : Syss := [([.int .i64 (.ofNat 4)], 64, cubeL 4)]
noncomputable def tCu5 : Syss := [([.int .i64 (.ofNat 5)], 125, cubeL 5)]
noncomputable def tCu6 : Syss := [([.int .i64 (.ofNat 6)], 216, cubeL 6)]
noncomputable def tSt : Syss := [([.int .i64 (.ofNat 5)], 10, starL 5), ([.int .i64 (.ofNat 6)], 12, starL 6)]
noncomputable def mItoa : Runs := (.node (.node (.node (.node (.node (.node (.node (.node .leaf 37 [([.int .i64 (.ofNat 0)], .str [48])] .leaf) 38 [([.int .i64 (.ofNat 1)], .str [49])] (.node .leaf 39 [([.int .i64 (.ofNat 2)], .str [50])] .leaf)) 40 [([.int .i64 (.ofNat 3)], .str [51])] (.node (.node .leaf 41 [([.int .i64 (.ofNat 4)], .str [52])] .leaf) 42 [([.int .i64 (.ofNat 5)], .str [53])] .leaf)) 43 [([.int .i64 (.ofNat 6)], .str [54])] (.node (.node (.node .leaf 44 [([.int .i64 (.ofNat 7)], .str [55])] .leaf) 45 [([.int .i64 (.ofNat 8)], .str [56])] (.node .leaf 46 [([.int .i64 (.ofNat 9)], .str [57])] .leaf)) 47 [([.int .i64 (.ofNat 10)], .str [49,48])] (.node (.node .leaf 48 [([.int .i64 (.ofNat 11)], .str [49,49])] .leaf) 49 [([.int .i64 (.ofNat 12)], .str [49,50])] .leaf))) 50 [([.int .i64 (.ofNat 13)], .str [49,51])] (.node (.node (.node (.node .leaf 51 [([.int .i64 (.ofNat 14)], .str [49,52])] .leaf) 52 [([.int .i64 (.ofNat 15)], .str [49,53])] (.node .leaf 53 [([.int .i64 (.ofNat 16)], .str [49,54])] .leaf)) 54 [([.int .i64 (.ofNat 17)], .str [49,55])] (.node (.node .leaf 55 [([.int .i64 (.ofNat 18)], .str [49,56])] .leaf) 56 [([.int .i64 (.ofNat 19)], .str [49,57])] .leaf)) 57 [([.int .i64 (.ofNat 20)], .str [50,48])] (.node (.node (.node .leaf 58 [([.int .i64 (.ofNat 21)], .str [50,49])] .leaf) 59 [([.int .i64 (.ofNat 22)], .str [50,50])] (.node .leaf 60 [([.int .i64 (.ofNat 23)], .str [50,51])] .leaf)) 61 [([.int .i64 (.ofNat 24)], .str [50,52])] (.node (.node .leaf 62 [([.int .i64 (.ofNat 25)], .str [50,53])] .leaf) 63 [([.int .i64 (.ofNat 26)], .str [50,54])] .leaf)))) 64 [([.int .i64 (.ofNat 27)], .str [50,55])] (.node (.node (.node (.node (.node .leaf 65 [([.int .i64 (.ofNat 28)], .str [50,56])] .leaf) 66 [([.int .i64 (.ofNat 29)], .str [50,57])] (.node .leaf 67 [([.int .i64 (.ofNat 30)], .str [51,48])] .leaf)) 68 [([.int .i64 (.ofNat 31)], .str [51,49])] (.node (.node .leaf 69 [([.int .i64 (.ofNat 32)], .str [51,50])] .leaf) 70 [([.int .i64 (.ofNat 33)], .str [51,51])] .leaf)) 71 [([.int .i64 (.ofNat 34)], .str [51,52])] (.node (.node (.node .leaf 72 [([.int .i64 (.ofNat 35)], .str [51,53])] .leaf) 73 [([.int .i64 (.ofNat 36)], .str [51,54])] (.node .leaf 74 [([.int .i64 (.ofNat 37)], .str [51,55])] .leaf)) 75 [([.int .i64 (.ofNat 38)], .str [51,56])] (.node (.node .leaf 76 [([.int .i64 (.ofNat 39)], .str [51,57])] .leaf) 77 [([.int .i64 (.ofNat 40)], .str [52,48])] .leaf))) 78 [([.int .i64 (.ofNat 41)], .str [52,49])] (.node (.node (.node (.node .leaf 79 [([.int .i64 (.ofNat 42)], .str [52,50])] .leaf) 80 [([.int .i64 (.ofNat 43)], .str [52,51])] (.node .leaf 81 [([.int .i64 (.ofNat 44)], .str [52,52])] .leaf)) 82 [([.int .i64 (.ofNat 45)], .str [52,53])] (.node (.node .leaf 83 [([.int .i64 (.ofNat 46)], .str [52,54])] .leaf) 84 [([.int .i64 (.ofNat 47)], .str [52,55])] .leaf)) 85 [([.int .i64 (.ofNat 48)], .str [52,56])] (.node (.node (.node .leaf 86 [([.int .i64 (.ofNat 49)], .str [52,57])] .leaf) 87 [([.int .i64 (.ofNat 50)], .str [53,48])] .leaf) 88 [([.int .i64 (.ofNat 51)], .str [53,49])] (.node (.node .leaf 89 [([.int .i64 (.ofNat 52)], .str [53,50])] .leaf) 90 [([.int .i64 (.ofNat 53)], .str [53,51])] .leaf))))) 91 [([.int .i64 (.ofNat 54)], .str [53,52])] (.node (.node (.node (.node (.node (.node .leaf 92 [([.int .i64 (.ofNat 55)], .str [53,53])] .leaf) 93 [([.int .i64 (.ofNat 56)], .str [53,54])] (.node .leaf 94 [([.int .i64 (.ofNat 57)], .str [53,55])] .leaf)) 95 [([.int .i64 (.ofNat 58)], .str [53,56])] (.node (.node .leaf 96 [([.int .i64 (.ofNat 59)], .str [53,57])] .leaf) 97 [([.int .i64 (.ofNat 60)], .str [54,48])] .leaf)) 98 [([.int .i64 (.ofNat 61)], .str [54,49])] (.node (.node (.node .leaf 99 [([.int .i64 (.ofNat 62)], .str [54,50])] .leaf) 100 [([.int .i64 (.ofNat 63)], .str [54,51])] (.node .leaf 101 [([.int .i64 (.ofNat 64)], .str [54,52])] .leaf)) 102 [([.int .i64 (.ofNat 65)], .str [54,53])] (.node (.node .leaf 103 [([.int .i64 (.ofNat 66)], .str [54,54])] .leaf) 104 [([.int .i64 (.ofNat 67)], .str [54,55])] .leaf))) 105 [([.int .i64 (.ofNat 68)], .str [54,56])] (.node (.node (.node (.node .leaf 106 [([.int .i64 (.ofNat 69)], .str [54,57])] .leaf) 107 [([.int .i64 (.ofNat 70)], .str [55,48])] (.node .leaf 108 [([.int .i64 (.ofNat 71)], .str [55,49])] .leaf)) 109 [([.int .i64 (.ofNat 72)], .str [55,50])] (.node (.node .leaf 110 [([.int .i64 (.ofNat 73)], .str [55,51])] .leaf) 111 [([.int .i64 (.ofNat 74)], .str [55,52])] .leaf)) 112 [([.int .i64 (.ofNat 75)], .str [55,53])] (.node (.node (.node .leaf 113 [([.int .i64 (.ofNat 76)], .str [55,54])] .leaf) 114 [([.int .i64 (.ofNat 77)], .str [55,55])] .leaf) 115 [([.int .i64 (.ofNat 78)], .str [55,56])] (.node (.node .leaf 116 [([.int .i64 (.ofNat 79)], .str [55,57])] .leaf) 117 [([.int .i64 (.ofNat 80)], .str [56,48])] .leaf)))) 118 [([.int .i64 (.ofNat 81)], .str [56,49])] (.node (.node (.node (.node (.node .leaf 119 [([.int .i64 (.ofNat 82)], .str [56,50])] .leaf) 120 [([.int .i64 (.ofNat 83)], .str [56,51])] (.node .leaf 121 [([.int .i64 (.ofNat 84)], .str [56,52])] .leaf)) 122 [([.int .i64 (.ofNat 85)], .str [56,53])] (.node (.node .leaf 123 [([.int .i64 (.ofNat 86)], .str [56,54])] .leaf) 124 [([.int .i64 (.ofNat 87)], .str [56,55])] .leaf)) 125 [([.int .i64 (.ofNat 88)], .str [56,56])] (.node (.node (.node .leaf 126 [([.int .i64 (.ofNat 89)], .str [56,57])] .leaf) 127 [([.int .i64 (.ofNat 90)], .str [57,48])] (.node .leaf 128 [([.int .i64 (.ofNat 91)], .str [57,49])] .leaf)) 129 [([.int .i64 (.ofNat 92)], .str [57,50])] (.node (.node .leaf 130 [([.int .i64 (.ofNat 93)], .str [57,51])] .leaf) 131 [([.int .i64 (.ofNat 94)], .str [57,52])] .leaf))) 132 [([.int .i64 (.ofNat 95)], .str [57,53])] (.node (.node (.node (.node .leaf 133 [([.int .i64 (.ofNat 96)], .str [57,54])] .leaf) 134 [([.int .i64 (.ofNat 97)], .str [57,55])] (.node .leaf 135 [([.int .i64 (.ofNat 98)], .str [57,56])] .leaf)) 136 [([.int .i64 (.ofNat 99)], .str [57,57])] (.node (.node .leaf 137 [([.int .i64 (.ofNat 100)], .str [49,48,48])] .leaf) 138 [([.int .i64 (.ofNat 101)], .str [49,48,49])] .leaf)) 139 [([.int .i64 (.ofNat 102)], .str [49,48,50])] (.node (.node (.node .leaf 140 [([.int .i64 (.ofNat 103)], .str [49,48,51])] .leaf) 141 [([.int .i64 (.ofNat 104)], .str [49,48,52])] .leaf) 142 [([.int .i64 (.ofNat 105)], .str [49,48,53])] (.node (.node .leaf 143 [([.int .i64 (.ofNat 106)], .str [49,48,54])] .leaf) 144 [([.int .i64 (.ofNat 107)], .str [49,48,55])] .leaf)))))) 145 [([.int .i64 (.ofNat 108)], .str [49,48,56])] (.node (.node (.node (.node (.node (.node (.node .leaf 146 [([.int .i64 (.ofNat 109)], .str [49,48,57])] .leaf) 147 [([.int .i64 (.ofNat 110)], .str [49,49,48])] (.node .leaf 148 [([.int .i64 (.ofNat 111)], .str [49,49,49])] .leaf)) 149 [([.int .i64 (.ofNat 112)], .str [49,49,50])] (.node (.node .leaf 150 [([.int .i64 (.ofNat 113)], .str [49,49,51])] .leaf) 151 [([.int .i64 (.ofNat 114)], .str [49,49,52])] .leaf)) 152 [([.int .i64 (.ofNat 115)], .str [49,49,53])] (.node (.node (.node .leaf 153 [([.int .i64 (.ofNat 116)], .str [49,49,54])] .leaf) 154 [([.int .i64 (.ofNat 117)], .str [49,49,55])] (.node .leaf 155 [([.int .i64 (.ofNat 118)], .str [49,49,56])] .leaf)) 156 [([.int .i64 (.ofNat 119)], .str [49,49,57])] (.node (.node .leaf 157 [([.int .i64 (.ofNat 120)], .str [49,50,48])] .leaf) 158 [([.int .i64 (.ofNat 121)], .str [49,50,49])] .leaf))) 159 [([.int .i64 (.ofNat 122)], .str [49,50,50])] (.node (.node (.node (.node .leaf 160 [([.int .i64 (.ofNat 123)], .str [49,50,51])] .leaf) 161 [([.int .i64 (.ofNat 124)], .str [49,50,52])] (.node .leaf 162 [([.int .i64 (.ofNat 125)], .str [49,50,53])] .leaf)) 163 [([.int .i64 (.ofNat 126)], .str [49,50,54])] (.node (.node .leaf 164 [([.int .i64 (.ofNat 127)], .str [49,50,55])] .leaf) 165 [([.int .i64 (.ofNat 128)], .str [49,50,56])] .leaf)) 166 [([.int .i64 (.ofNat 129)], .str [49,50,57])] (.node (.node (.node .leaf 167 [([.int .i64 (.ofNat 130)], .str [49,51,48])] .leaf) 168 [([.int .i64 (.ofNat 131)], .str [49,51,49])] .leaf) 169 [([.int .i64 (.ofNat 132)], .str [49,51,50])] (.node (.node .leaf 170 [([.int .i64 (.ofNat 133)], .str [49,51,51])] .leaf) 171 [([.int .i64 (.ofNat 134)], .str [49,51,52])] .leaf)))) 172 [([.int .i64 (.ofNat 135)], .str [49,51,53])] (.node (.node (.node (.node (.node .leaf 173 [([.int .i64 (.ofNat 136)], .str [49,51,54])] .leaf) 174 [([.int .i64 (.ofNat 137)], .str [49,51,55])] (.node .leaf 175 [([.int .i64 (.ofNat 138)], .str [49,51,56])] .leaf)) 176 [([.int .i64 (.ofNat 139)], .str [49,51,57])] (.node (.node .leaf 177 [([.int .i64 (.ofNat 140)], .str [49,52,48])] .leaf) 178 [([.int .i64 (.ofNat 141)], .str [49,52,49])] .leaf)) 179 [([.int .i64 (.ofNat 142)], .str [49,52,50])] (.node (.node (.node .leaf 180 [([.int .i64 (.ofNat 143)], .str [49,52,51])] .leaf) 181 [([.int .i64 (.ofNat 144)], .str [49,52,52])] (.node .leaf 182 [([.int .i64 (.ofNat 145)], .str [49,52,53])] .leaf)) 183 [([.int .i64 (.ofNat 146)], .str [49,52,54])] (.node (.node .leaf 184 [([.int .i64 (.ofNat 147)], .str [49,52,55])] .leaf) 185 [([.int .i64 (.ofNat 148)], .str [49,52,56])] .leaf))) 186 [([.int .i64 (.ofNat 149)], .str [49,52,57])] (.node (.node (.node (.node .leaf 187 [([.int .i64 (.ofNat 150)], .str [49,53,48])] .leaf) 188 [([.int .i64 (.ofNat 151)], .str [49,53,49])] (.node .leaf 189 [([.int .i64 (.ofNat 152)], .str [49,53,50])] .leaf)) 190 [([.int .i64 (.ofNat 153)], .str [49,53,51])] (.node (.node .leaf 191 [([.int .i64 (.ofNat 154)], .str [49,53,52])] .leaf) 192 [([.int .i64 (.ofNat 155)], .str [49,53,53])] .leaf)) 193 [([.int .i64 (.ofNat 156)], .str [49,53,54])] (.node (.node (.node .leaf 194 [([.int .i64 (.ofNat 157)], .str [49,53,55])] .leaf) 195 [([.int .i64 (.ofNat 158)], .str [49,53,56])] .leaf) 196 [([.int .i64 (.ofNat 159)], .str [49,53,57])] (.node (.node .leaf 197 [([.int .i64 (.ofNat 160)], .str [49,54,48])] .leaf) 198 [([.int .i64 (.ofNat 161)], .str [49,54,49])] .leaf))))) 199 [([.int .i64 (.ofNat 162)], .str [49,54,50])] (.node (.node (.node (.node (.node (.node .leaf 200 [([.int .i64 (.ofNat 163)], .str [49,54,51])] .leaf) 201 [([.int .i64 (.ofNat 164)], .str [49,54,52])] (.node .leaf 202 [([.int .i64 (.ofNat 165)], .str [49,54,53])] .leaf)) 203 [([.int .i64 (.ofNat 166)], .str [49,54,54])] (.node (.node .leaf 204 [([.int .i64 (.ofNat 167)], .str [49,54,55])] .leaf) 205 [([.int .i64 (.ofNat 168)], .str [49,54,56])] .leaf)) 206 [([.int .i64 (.ofNat 169)], .str [49,54,57])] (.node (.node (.node .leaf 207 [([.int .i64 (.ofNat 170)], .str [49,55,48])] .leaf) 208 [([.int .i64 (.ofNat 171)], .str [49,55,49])] (.node .leaf 209 [([.int .i64 (.ofNat 172)], .str [49,55,50])] .leaf)) 210 [([.int .i64 (.ofNat 173)], .str [49,55,51])] (.node (.node .leaf 211 [([.int .i64 (.ofNat 174)], .str [49,55,52])] .leaf) 212 [([.int .i64 (.ofNat 175)], .str [49,55,53])] .leaf))) 213 [([.int .i64 (.ofNat 176)], .str [49,55,54])] (.node (.node (.node (.node .leaf 214 [([.int .i64 (.ofNat 177)], .str [49,55,55])] .leaf) 215 [([.int .i64 (.ofNat 178)], .str [49,55,56])] (.node .leaf 216 [([.int .i64 (.ofNat 179)], .str [49,55,57])] .leaf)) 217 [([.int .i64 (.ofNat 180)], .str [49,56,48])] (.node (.node .leaf 218 [([.int .i64 (.ofNat 181)], .str [49,56,49])] .leaf) 219 [([.int .i64 (.ofNat 182)], .str [49,56,50])] .leaf)) 220 [([.int .i64 (.ofNat 183)], .str [49,56,51])] (.node (.node (.node .leaf 221 [([.int .i64 (.ofNat 184)], .str [49,56,52])] .leaf) 222 [([.int .i64 (.ofNat 185)], .str [49,56,53])] .leaf) 223 [([.int .i64 (.ofNat 186)], .str [49,56,54])] (.node (.node .leaf 224 [([.int .i64 (.ofNat 187)], .str [49,56,55])] .leaf) 225 [([.int .i64 (.ofNat 188)], .str [49,56,56])] .leaf)))) 226 [([.int .i64 (.ofNat 189)], .str [49,56,57])] (.node (.node (.node (.node (.node .leaf 227 [([.int .i64 (.ofNat 190)], .str [49,57,48])] .leaf) 228 [([.int .i64 (.ofNat 191)], .str [49,57,49])] (.node .leaf 229 [([.int .i64 (.ofNat 192)], .str [49,57,50])] .leaf)) 230 [([.int .i64 (.ofNat 193)], .str [49,57,51])] (.node (.node .leaf 231 [([.int .i64 (.ofNat 194)], .str [49,57,52])] .leaf) 232 [([.int .i64 (.ofNat 195)], .str [49,57,53])] .leaf)) 233 [([.int .i64 (.ofNat 196)], .str [49,57,54])] (.node (.node (.node .leaf 234 [([.int .i64 (.ofNat 197)], .str [49,57,55])] .leaf) 235 [([.int .i64 (.ofNat 198)], .str [49,57,56])] (.node .leaf 236 [([.int .i64 (.ofNat 199)], .str [49,57,57])] .leaf)) 237 [([.int .i64 (.ofNat 200)], .str [50,48,48])] (.node (.node .leaf 238 [([.int .i64 (.ofNat 201)], .str [50,48,49])] .leaf) 239 [([.int .i64 (.ofNat 202)], .str [50,48,50])] .leaf))) 240 [([.int .i64 (.ofNat 203)], .str [50,48,51])] (.node (.node (.node (.node .leaf 241 [([.int .i64 (.ofNat 204)], .str [50,48,52])] .leaf) 242 [([.int .i64 (.ofNat 205)], .str [50,48,53])] (.node .leaf 243 [([.int .i64 (.ofNat 206)], .str [50,48,54])] .leaf)) 244 [([.int .i64 (.ofNat 207)], .str [50,48,55])] (.node (.node .leaf 245 [([.int .i64 (.ofNat 208)], .str [50,48,56])] .leaf) 246 [([.int .i64 (.ofNat 209)], .str [50,48,57])] .leaf)) 247 [([.int .i64 (.ofNat 210)], .str [50,49,48])] (.node (.node (.node .leaf 248 [([.int .i64 (.ofNat 211)], .str [50,49,49])] .leaf) 249 [([.int .i64 (.ofNat 212)], .str [50,49,50])] .leaf) 250 [([.int .i64 (.ofNat 213)], .str [50,49,51])] (.node (.node .leaf 251 [([.int .i64 (.ofNat 214)], .str [50,49,52])] .leaf) 252 [([.int .i64 (.ofNat 215)], .str [50,49,53])] .leaf)))))))
end Go.Proofs.YtdojpbbdcgfcnaaGreatDoor.AI.T
