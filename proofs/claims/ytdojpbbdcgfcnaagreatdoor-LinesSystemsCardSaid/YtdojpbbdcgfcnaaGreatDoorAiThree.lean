import Derived.Laws.Externs
import Derived.Lib.MakeNoZero
import GoSem.ClaimChange
import Derived.Test.YtdojpbbdcgfcnaaGreatDoorAiTwo
set_option linter.all false
/- THE ABSTRACT INTERPRETER, 24: drawn regions: what is asked of the order of our own. -/
namespace Go.Proofs.YtdojpbbdcgfcnaaGreatDoor.AI

def Em.cl (P : Program) (ops : Array Oper) : Em → Option Cls
  | .op i => (ops[i]?).map fun o => cls P o.op
  | .chk _ => none
def anc (M : Nat → Nat) (i j : Nat) : Bool := (M i).testBit j

/-- M i: what is before the operation i. Calls, stores and the like stand in a chain; the rows that are made stand before the first of them that needs them; a read is carried out once more behind each of them that it may follow. -/
structure Plan (P : Program) (ops : Array Oper) (late : Nat → Tmp → Bool) (M : Nat → Nat) (items : List Em) : Prop where
  known : Known P ops late items []
  all : ∀ i, i < ops.size → Em.op i ∈ items
  once : ∀ pre i post, items = pre ++ .op i :: post → Em.op i ∉ pre ∧ Em.op i ∉ post
  heavy : ∀ pre i post, items = pre ++ .op i :: post → Em.cl P ops (.op i) = some .x → ∀ e ∈ pre, Em.cl P ops e = some .x ∨ Em.cl P ops e = some .a → anc M i e.ix = true
  row : ∀ pre i post, items = pre ++ .op i :: post → Em.cl P ops (.op i) = some .x ∨ Em.cl P ops (.op i) = some .a → ∀ e ∈ post, Em.cl P ops e = some .a → anc M i e.ix = false
  nodefer : ∀ (i : Nat) (o : Oper), ops[i]? = some o → ∀ c, o.op ≠ .defer c
  read : ∀ pre post, items = pre ++ post → (pre = [] ∨ ∃ q e, pre = q ++ [e] ∧ Em.cl P ops e = some .x) → ∀ i o, ops[i]? = some o → cls P o.op = .r →
    (∀ e ∈ post, Em.cl P ops e = some .x → anc M i e.ix = false) → (∀ e ∈ pre, Em.cl P ops e = some .x → anc M e.ix i = false) →
    (∃ c e d, post = c ++ e :: d ∧ e.ix = i ∧ ∀ y ∈ c, Em.cl P ops y ≠ some .x ∧ Em.cl P ops y ≠ some .a) ∧ ∀ e ∈ post, Em.cl P ops e = some .a → anc M i e.ix = false
  rd : ∀ i o, ops[i]? = some o → ∀ t ∈ reads ops o, ∀ j oj, ops[j]? = some oj → oj.dst = some t → (late i t = false → anc M i j = true ∧ ∀ k, anc M j k = true → anc M i k = true) ∧ (late i t = true → j = i ∨ anc M j i = true)
  law : ∀ i o, ops[i]? = some o → ∀ j, anc M i j = true → ∃ e ∈ o.after, Region.binds .any e = true ∧ (e.on = j ∨ anc M e.on j = true)
  acyc : ∀ i o, ops[i]? = some o → ∀ e ∈ o.after, Region.binds .any e = true → e.on < i
  dst : ∀ (i j : Nat) (oi oj : Oper) (d : Tmp), ops[i]? = some oi → oi.dst = some d → ops[j]? = some oj → oj.dst = some d → i = j

section
variable {P : Program} {cx : Cx} {ops : Array Oper} {late : Nat → Tmp → Bool} {VAL OLD : Tmp → Option V}

theorem Can.mono {l : List Evt} {h h' : H} (hc : Can P cx ops late VAL OLD l h h') : h.next.toNat ≤ h'.next.toNat ∧ ∀ y ∈ l, h.next.toNat ≤ y.h.next.toNat ∧ y.h.next.toNat ≤ y.h1.next.toNat ∧ y.h1.next.toNat ≤ h'.next.toNat := by
  induction hc with
  | nil h => exact ⟨Nat.le_refl _, by simp⟩
  | op h1 h2 h3 h4 _ ih =>
    refine ⟨Nat.le_trans h4 ih.1, fun y hy => ?_⟩
    rcases List.mem_cons.1 hy with rfl | hy
    · exact ⟨Nat.le_refl _, h4, ih.1⟩
    · have := ih.2 y hy; exact ⟨by omega, this.2⟩
  | chk h1 h2 h3 h4 _ _ ih =>
    refine ⟨ih.1, fun y hy => ?_⟩
    rcases List.mem_cons.1 hy with rfl | hy
    · exact ⟨Nat.le_refl _, Nat.le_refl _, ih.1⟩
    · exact ih.2 y hy

theorem Can.app {a b : List Evt} {h h' : H} (hc : Can P cx ops late VAL OLD (a ++ b) h h') : ∃ hm, Can P cx ops late VAL OLD a h hm ∧ Can P cx ops late VAL OLD b hm h' := by
  induction a generalizing h with
  | nil => exact ⟨h, .nil h, hc⟩
  | cons y a ih =>
    cases hc with
    | op h1 h2 h3 h4 h5 => obtain ⟨hm, a1, a2⟩ := ih h5; exact ⟨hm, .op h1 h2 h3 h4 a1, a2⟩
    | chk h1 h2 h3 h4 h5 h6 => obtain ⟨hm, a1, a2⟩ := ih h6; exact ⟨hm, .chk h1 h2 h3 h4 h5 a1, a2⟩

/-- an event of the run -/
theorem Can.at {l : List Evt} {h h' : H} (hc : Can P cx ops late VAL OLD l h h') {y : Evt} (hy : y ∈ l) :
    ∃ o, ops[y.em.ix]? = some o ∧ (∀ d, o.dst = some d → VAL d = some y.v) ∧ ((∃ i, y.em = .op i) ∧ Ev P cx ops (valOp P (rdv late VAL OLD y.em.ix)) o y.h y.v y.h1 ∨ (∃ i, y.em = .chk i) ∧ cls P o.op = .r ∧ y.h1 = y.h ∧ ∃ h1, Ev P cx ops (valOp P (rdv late VAL OLD y.em.ix)) o y.h y.v h1) := by
  induction hc with
  | nil h => simp at hy
  | op h1 h2 h3 h4 _ ih =>
    rcases List.mem_cons.1 hy with rfl | hy
    · exact ⟨_, h1, h3, .inl ⟨⟨_, rfl⟩, h2⟩⟩
    · exact ih hy
  | chk h1 h2 h3 h4 h5 _ ih =>
    rcases List.mem_cons.1 hy with rfl | hy
    · exact ⟨_, h1, fun d hd => by rw [h2] at hd; cases hd; exact h3, .inr ⟨⟨_, rfl⟩, h4, rfl, _, h5⟩⟩
    · exact ih hy

/-- behind an event that makes a row the numbers are greater -/
theorem Can.lt {a b : List Evt} {y : Evt} {h h' : H} (hc : Can P cx ops late VAL OLD (a ++ y :: b) h h') : (∀ z ∈ a, z.h1.next.toNat ≤ y.h.next.toNat) ∧ ∀ z ∈ b, y.h1.next.toNat ≤ z.h.next.toNat := by
  obtain ⟨hm, a1, a2⟩ := hc.app
  have e : y.h = hm ∧ ∃ h1, y.h1 = h1 ∧ Can P cx ops late VAL OLD b h1 h' := by
    cases a2 with
    | op h1 h2 h3 h4 h5 => exact ⟨rfl, _, rfl, h5⟩
    | chk h1 h2 h3 h4 h5 h6 => exact ⟨rfl, _, rfl, h6⟩
  obtain ⟨rfl, h1, rfl, b2⟩ := e
  exact ⟨fun z hz => (a1.mono.2 z hz).2.2, fun z hz => (b2.mono.2 z hz).1⟩

theorem Can.head {b : List Evt} {y : Evt} {h h' : H} (hc : Can P cx ops late VAL OLD (y :: b) h h') : y.h = h ∧ Can P cx ops late VAL OLD b y.h1 h' := by
  cases hc with
  | op h1 h2 h3 h4 h5 => exact ⟨rfl, h5⟩
  | chk h1 h2 h3 h4 h5 h6 => exact ⟨rfl, h6⟩

/-- an event that makes a row -/
def Evt.mk? (P : Program) (ops : Array Oper) (y : Evt) : Prop := Em.cl P ops y.em = some .a ∧ y.h.next.toNat < y.h1.next.toNat

theorem mk_ids {l : List Evt} {h h' : H} (hc : Can P cx ops late VAL OLD l h h') {y z : Evt} (hy : y ∈ l) (hz : z ∈ l) (h1 : y.mk? P ops) (h2 : z.mk? P ops) (he : y.h.next = z.h.next) : y = z := by
  obtain ⟨a, b, rfl⟩ := List.append_of_mem hy
  obtain ⟨k1, k2⟩ := hc.lt
  rcases List.mem_append.1 hz with hz | hz
  · have := k1 z hz; have := h2.2; have := congrArg Pos.toNat he; omega
  · rcases List.mem_cons.1 hz with rfl | hz
    · rfl
    · have := k2 z hz; have := h1.2; have := congrArg Pos.toNat he; omega


/-- what is neither a row that is made nor heavy leaves the heap -/
theorem quiet_h {l : List Evt} {h h' : H} (hc : Can P cx ops late VAL OLD l h h') {y : Evt} (hy : y ∈ l) (hx : Em.cl P ops y.em ≠ some .x) (hm : ¬ y.mk? P ops) : y.h1 = y.h := by
  obtain ⟨o, a1, a2, a3⟩ := hc.at hy
  rcases a3 with ⟨⟨i, hi⟩, hev⟩ | ⟨⟨i, hi⟩, _, he, _⟩
  · rw [hi] at a1 hx hev
    simp only [Em.ix] at hev
    simp only [Em.ix] at a1
    have hcl : Em.cl P ops (.op i) = some (cls P o.op) := by simp [Em.cl, a1]
    have fin : Fct P cx (valOp P (rdv late VAL OLD i)) o y.h y.v y.h1 (cls P o.op) → y.h1 = y.h := fun hf => by
      cases hc : cls P o.op with
      | p => rw [hc] at hf; exact hf.1
      | r => rw [hc] at hf; exact hf.1
      | a =>
        rw [hc] at hf
        obtain ⟨L, ty, m, b1, b2, b3⟩ := hf
        refine absurd ⟨by rw [hi, hcl, hc], ?_⟩ hm
        rw [b2, H.next_new]; omega
      | x => rw [hcl, hc] at hx; exact absurd rfl hx
    rcases hev with ⟨_, hf⟩ | ⟨j, wnt, d, u, _, _, _, ⟨_, hf⟩ | ⟨_, _, hh⟩⟩
    · exact fin hf
    · exact fin hf
    · exact hh
  · exact he

end

section
variable {rs : Rnds} {ng : Nat} {g : G} {h : H} {w : World}

/-- readings above the heap's end are free -/
theorem WR.agree (hw : WR rs ng g h w) {g' : G} (ha : g.agree g' h.next.toNat) : WR rs ng g' h w where
  blk b x hb := by
    obtain ⟨h1, h2, h3⟩ := hw.blk b x hb
    exact ⟨h1, by rw [(ha b h1).1]; exact h2, h3.ext ha (Nat.le_refl _) h1 rfl⟩
  inj b b' x x' hb hb' hx he := by
    rw [(ha b (hw.lt hb)).1, (ha b' (hw.lt hb')).1] at he
    exact hw.inj b b' x x' hb hb' hx he
  glob := ⟨hw.glob.1, fun i hi => by
    have hlt : (Pos.ofNat i).toNat < h.next.toNat := by rw [Pos.toNat_ofNat]; have := hw.glob.1; omega
    obtain ⟨e1, e2, _⟩ := ha _ hlt
    rw [e1, e2]; exact hw.glob.2 i hi⟩
  marks := hw.marks

theorem Adv.agree {g0 : G} {h0 : H} {w0 : World} (a : Adv g0 h0 w0 g h w) (hw : WR rs ng g h w) {g' : G} (ha : g.agree g' h.next.toNat) : Adv g0 h0 w0 g' h w where
  ext := G.agree_trans a.ext ha a.mono
  mono := a.mono
  size := a.size
  keep := a.keep
  fresh b x hb := by rw [(ha b (hw.lt hb)).1]; exact a.fresh b x hb
  os := a.os
  tape := a.tape
  output := a.output

/-- A BLOCK THAT STANDS ALREADY is taken in -/
theorem WR.adopt (hw : WR rs ng g h w) (x : Blk) (hn : g.blk h.next < w.heap.size) (hx : BR rs g (h.next.toNat + 1) w h.next x)
    (hfree : ∀ b y, h.get b = some y → g.blk b ≠ g.blk h.next) : WR rs ng g (h.new x) w := by
  refine ⟨fun b y hb => ?_, fun b b' y y' hb hb' hy he => ?_, ⟨by rw [H.next_new]; have := hw.glob.1; omega, hw.glob.2⟩, fun m hm => by rw [H.next_new]; have := hw.marks m hm; omega⟩
  · rw [H.get_new] at hb
    rw [H.next_new]
    split at hb
    · rename_i e; subst e; cases hb; exact ⟨by omega, hn, hx⟩
    · obtain ⟨h1, h2, h3⟩ := hw.blk b y hb
      exact ⟨by omega, h2, h3.ext (g.agree_refl _) (by omega) h1 rfl⟩
  · rw [H.get_new] at hb hb'
    split at hb <;> split at hb'
    · rename_i e1 e2; rw [e1, e2]
    · rename_i e1 e2; subst e1; exact absurd he.symm (hfree b' y' hb')
    · rename_i e1 e2; subst e2; exact absurd he (hfree b y hb)
    · exact hw.inj b b' y y' hb hb' hy he

theorem Adv.adopt {g0 : G} {h0 : H} {w0 : World} (a : Adv g0 h0 w0 g h w) (x : Blk) (hn : w0.heap.size ≤ g.blk h.next) : Adv g0 h0 w0 g (h.new x) w where
  ext := a.ext
  mono := by rw [H.next_new]; have := a.mono; omega
  size := a.size
  keep := a.keep
  fresh b y hb := by
    rw [H.get_new] at hb
    split at hb
    · rename_i e; subst e; exact .inl hn
    · exact a.fresh b y hb
  os := a.os
  tape := a.tape
  output := a.output

end
end Go.Proofs.YtdojpbbdcgfcnaaGreatDoor.AI
/- THE ABSTRACT INTERPRETER, 25: drawn regions: what stands after some of the operations, in whatever order. -/
namespace Go.Proofs.YtdojpbbdcgfcnaaGreatDoor.AI

/-- S lists i -/
def has (S : Array Bool) (i : Nat) : Prop := S.getD i false = true

theorem has_set {S : Array Bool} {i j : Nat} (hi : i < S.size) : has (S.setIfInBounds i true) j ↔ has S j ∨ j = i := by
  unfold has
  by_cases h : i = j
  · subst h
    simp [Array.getD_eq_getD_getElem?, hi]
  · rw [getD_set_ne false h]
    exact ⟨.inl, fun hh => hh.resolve_right fun he => h he.symm⟩

section
variable (P : Program) (ops : Array Oper) (M : Nat → Nat)

/-- a row that stands already, and is not taken in yet -/
def Live (S : Array Bool) (l2 : List Evt) (y : Evt) : Prop := y ∈ l2 ∧ y.mk? P ops ∧ has S y.em.ix
/-- which blocks the value of the operation i may name -/
def pr (S : Array Bool) (l2 : List Evt) (n : Nat) (i : Nat) : Pos → Prop := fun b => b.toNat < n ∨ ∃ y, Live P ops S l2 y ∧ (y.em.ix = i ∨ anc M i y.em.ix = true) ∧ b = y.h.next
end

/-- what is given -/
structure Setup (P : Program) (rs : Rnds) (cx : Cx) (ops : Array Oper) (late : Nat → Tmp → Bool) (M : Nat → Nat) (items : List Em) (tr0 : List Evt) (VAL OLD : Tmp → Option V) (g0 : G) (h0 hF : H) (w0 : World) (ex : Nat → Bool) (fr0 : Fr) (tm0 : Array Value) : Prop where
  plan : Plan P ops late M items
  trm : tr0.map Evt.em = items
  can : Can P cx ops late VAL OLD tr0 h0 hF
  call : CallOk P rs P.globals.size cx.call
  rel0 : FrRel g0 h0.next.toNat ex fr0 tm0
  val0 : ∀ t, t ∉ writes ops items → VAL t = Tr.get (Pos.ofNat t) fr0
  old0 : ∀ t, OLD t = Tr.get (Pos.ofNat t) fr0
  wn : ∀ t ∈ writes ops items, t < tm0.size

/-- a row that stands -/
def Row (P : Program) (ops : Array Oper) (M : Nat → Nat) (w0 : World) (S : Array Bool) (w : World) (l2 : List Evt) (hc : H) (g : G) (y : Evt) : Prop :=
  ∃ (L : List V) (ty : TypeId), y.h1 = y.h.new (.cells L .own ty) ∧ w.heap[g.blk y.h.next]? = some (.cells (concs g L).toArray ty) ∧ g.off y.h.next = 0 ∧ w0.heap.size ≤ g.blk y.h.next ∧
    (∀ b x, hc.get b = some x → g.blk b ≠ g.blk y.h.next) ∧ ons (pr P ops M S l2 hc.next.toNat y.em.ix) L

structure Inv (P : Program) (rs : Rnds) (cx : Cx) (ops : Array Oper) (late : Nat → Tmp → Bool) (M : Nat → Nat) (items : List Em) (tr0 : List Evt) (VAL OLD : Tmp → Option V) (g0 : G) (h0 hF : H) (w0 : World) (tm0 : Array Value)
    (S : Array Bool) (w : World) (tm : Array Value) (l1 l2 : List Evt) (hc : H) (g : G) : Prop where
  app : tr0 = l1 ++ l2
  can : Can P cx ops late VAL OLD l2 hc hF
  wr : WR rs P.globals.size g hc w
  adv : Adv g0 h0 w0 g hc w
  marks : hc.marks = h0.marks
  ssz : S.size = ops.size
  inl1 : ∀ y ∈ l1, Em.cl P ops y.em = some .x ∨ Em.cl P ops y.em = some .a → has S y.em.ix
  inl2 : ∀ y ∈ l2, Em.cl P ops y.em = some .x → ¬ has S y.em.ix
  clos : ∀ i, has S i → ∀ j, anc M i j = true → has S j
  size : tm.size = tm0.size
  unw : ∀ t, (∀ (j : Nat) (o : Oper), ops[j]? = some o → o.dst = some t → ¬ has S j) → tm[t]? = tm0[t]?
  val : ∀ y ∈ tr0, ∀ i o d, y.em = .op i → ops[i]? = some o → o.dst = some d → has S i → tm[d]? = some (conc g y.v) ∧ y.v.on (pr P ops M S l2 hc.next.toNat i)
  rows : ∀ y, Live P ops S l2 y → Row P ops M w0 S w l2 hc g y
  dist : ∀ y z, Live P ops S l2 y → Live P ops S l2 z → g.blk y.h.next = g.blk z.h.next → y.h.next = z.h.next

section
variable {P : Program} {rs : Rnds} {cx : Cx} {ops : Array Oper} {late : Nat → Tmp → Bool} {M : Nat → Nat} {items : List Em} {tr0 : List Evt} {VAL OLD : Tmp → Option V} {g0 : G} {h0 hF : H} {w0 : World} {ex : Nat → Bool} {fr0 : Fr} {tm0 : Array Value}
variable {S : Array Bool} {w : World} {tm : Array Value} {l1 l2 : List Evt} {hc : H} {g : G}

theorem mem_writes {items : List Em} {t : Tmp} : t ∈ writes ops items ↔ ∃ j o, Em.op j ∈ items ∧ ops[j]? = some o ∧ o.dst = some t := by
  induction items with
  | nil => simp [writes]
  | cons e l ih =>
    cases e with
    | op i =>
      simp only [writes, List.mem_append, ih, List.mem_cons]
      constructor
      · rintro (hh | ⟨j, o, h1, h2⟩)
        · cases ho : ops[i]? with
          | none => simp [ho] at hh
          | some o => exact ⟨i, o, .inl rfl, ho, by simpa [ho] using hh⟩
        · exact ⟨j, o, .inr h1, h2⟩
      · rintro ⟨j, o, h1 | h1, h2, h3⟩
        · cases h1; left; simp [h2, h3]
        · exact .inr ⟨j, o, h1, h2, h3⟩
    | chk i =>
      simp only [writes, ih, List.mem_cons]
      constructor
      · rintro ⟨j, o, h1, h2⟩; exact ⟨j, o, .inr h1, h2⟩
      · rintro ⟨j, o, h1 | h1, h2⟩
        · cases h1
        · exact ⟨j, o, h1, h2⟩

/-- an operation has one event -/
theorem Setup.uniq (U : Setup P rs cx ops late M items tr0 VAL OLD g0 h0 hF w0 ex fr0 tm0) {y z : Evt} {i : Nat} (hy : y ∈ tr0) (hz : z ∈ tr0) (h1 : y.em = .op i) (h2 : z.em = .op i) : y = z := by
  obtain ⟨a, b, hab⟩ := List.append_of_mem hy
  have hm : items = a.map Evt.em ++ .op i :: b.map Evt.em := by rw [← U.trm, hab]; simp [h1]
  obtain ⟨k1, k2⟩ := U.plan.once _ _ _ hm
  rw [hab] at hz
  rcases List.mem_append.1 hz with hz | hz
  · exact absurd (List.mem_map.2 ⟨z, hz, h2⟩) k1
  · rcases List.mem_cons.1 hz with rfl | hz
    · rfl
    · exact absurd (List.mem_map.2 ⟨z, hz, h2⟩) k2
theorem Setup.evt (U : Setup P rs cx ops late M items tr0 VAL OLD g0 h0 hF w0 ex fr0 tm0) {i : Nat} (hi : i < ops.size) : ∃ y ∈ tr0, y.em = .op i := by
  have := U.plan.all i hi
  rw [← U.trm] at this
  obtain ⟨y, h1, h2⟩ := List.mem_map.1 this
  exact ⟨y, h1, h2⟩
theorem cl_op {e : Em} {c : Cls} (h : Em.cl P ops e = some c) : ∃ i o, e = .op i ∧ ops[i]? = some o ∧ cls P o.op = c := by
  cases e with
  | op i =>
    cases ho : ops[i]? with
    | none => simp [Em.cl, ho] at h
    | some o => simp [Em.cl, ho] at h; exact ⟨i, o, rfl, ho, h⟩
  | chk i => cases h

theorem pr_mono {S S' : Array Bool} {l2 : List Evt} {n n' i i' : Nat} (hS : ∀ j, has S j → has S' j) (hn : n ≤ n') (hi : i = i' ∨ anc M i' i = true ∧ ∀ k, anc M i k = true → anc M i' k = true) : ∀ b, pr P ops M S l2 n i b → pr P ops M S' l2 n' i' b := by
  rintro b (hb | ⟨y, ⟨h1, h2, h3⟩, h4, h5⟩)
  · exact .inl (Nat.lt_of_lt_of_le hb hn)
  · refine .inr ⟨y, ⟨h1, h2, hS _ h3⟩, ?_, h5⟩
    rcases hi with rfl | ⟨k1, k2⟩
    · exact h4
    · rcases h4 with h4 | h4
      · right; rw [h4]; exact k1
      · exact .inr (k2 _ h4)

theorem Inv.opd (I : Inv P rs cx ops late M items tr0 VAL OLD g0 h0 hF w0 tm0 S w tm l1 l2 hc g) (U : Setup P rs cx ops late M items tr0 VAL OLD g0 h0 hF w0 ex fr0 tm0) {i : Nat} {o : Oper} (hi : ops[i]? = some o) (hnew : ¬ has S i) (hall : ∀ j, anc M i j = true → has S j)
    (a : Operand) (ha : ∀ t, a = .tmp t → t ∈ reads ops o) : OpdV g (pr P ops M S l2 hc.next.toNat i) (valOp P (rdv late VAL OLD i)) a ((Act.mk tm []).eval a) := by
  intro u hu
  have base : ∀ a, (∀ t, a ≠ .tmp t) → ev [] .leaf (cO P [] a) = some u → (Act.mk tm []).eval a = conc g u ∧ u.on (pr P ops M S l2 hc.next.toNat i) := fun a _ hu => by
    obtain ⟨h1, h2⟩ := opd_cO (P := P) (env := []) (ex := fun _ => true) I.wr (fun t v hv => by cases hh : Pos.ofNat t <;> simp [Tr.get, hh] at hv) (fun t i v h1 h2 => by simp at h1) [] a u hu
    exact ⟨h1, V.on_mono (fun b hb => .inl hb) u h2⟩
  cases a with
  | tmp t =>
    simp only [valOp] at hu
    have ht := ha t rfl
    have still : (∀ (j : Nat) (o : Oper), ops[j]? = some o → o.dst = some t → ¬ has S j) → Tr.get (Pos.ofNat t) fr0 = some u → (Act.mk tm []).eval (.tmp t) = conc g u ∧ u.on (pr P ops M S l2 hc.next.toNat i) := fun hw hu => by
      obtain ⟨_, k2, k3⟩ := U.rel0 t u hu
      refine ⟨by simp [Act.eval, I.unw t hw, k3, conc_ext I.adv.ext u k2], V.on_mono (fun b hb => .inl (Nat.lt_of_lt_of_le hb I.adv.mono)) u k2⟩
    cases hlate : late i t with
    | true =>
      simp only [rdv, hlate, if_true] at hu
      rw [U.old0 t] at hu
      exact still (fun j oj k2 k3 hj => by
        rcases (U.plan.rd i o hi t ht j oj k2 k3).2 hlate with rfl | hh
        · exact hnew hj
        · exact hnew (I.clos j hj i hh)) hu
    | false =>
    simp only [rdv, hlate, Bool.false_eq_true, if_false] at hu
    by_cases hw : t ∈ writes ops items
    · obtain ⟨j, oj, k1, k2, k3⟩ := mem_writes.1 hw
      obtain ⟨y, y1, y2⟩ := U.evt (Array.getElem?_eq_some_iff.1 k2).1
      obtain ⟨a1, a2⟩ := (U.plan.rd i o hi t ht j oj k2 k3).1 hlate
      obtain ⟨o', b1, b2, _⟩ := U.can.at y1
      rw [y2] at b1
      simp only [Em.ix, k2, Option.some.injEq] at b1
      subst b1
      have hv := b2 t k3
      rw [hu] at hv
      cases hv
      obtain ⟨c1, c2⟩ := I.val y y1 j oj t y2 k2 k3 (hall j a1)
      exact ⟨by simp [Act.eval, c1], V.on_mono (pr_mono (fun _ h => h) (Nat.le_refl _) (.inr ⟨a1, a2⟩)) _ c2⟩
    · rw [U.val0 t hw] at hu
      exact still (fun j oj k2 k3 _ => hw (mem_writes.2 ⟨j, oj, U.plan.all j (Array.getElem?_eq_some_iff.1 k2).1, k2, k3⟩)) hu
  | const c => exact base _ (fun t h => by cases h) hu
  | global c => exact base _ (fun t h => by cases h) hu
  | func c => exact base _ (fun t h => by cases h) hu

/-- the guard, as the model asks it -/
theorem Inv.guard (I : Inv P rs cx ops late M items tr0 VAL OLD g0 h0 hF w0 tm0 S w tm l1 l2 hc g) (U : Setup P rs cx ops late M items tr0 VAL OLD g0 h0 hF w0 ex fr0 tm0) {i : Nat} {o : Oper} (hi : ops[i]? = some o) (hnew : ¬ has S i) (hall : ∀ j, anc M i j = true → has S j)
    {h h1 : H} {v : V} (hev : Ev P cx ops (valOp P (rdv late VAL OLD i)) o h v h1) :
    (Region.wanted o (yielded ops tm) = true ∧ Fct P cx (valOp P (rdv late VAL OLD i)) o h v h1 (cls P o.op)) ∨ (Region.wanted o (yielded ops tm) = false ∧ v = undefV ∧ h1 = h) := by
  rcases hev with ⟨hg, hf⟩ | ⟨j, wnt, d, u, hg, hd, hv, hh⟩
  · exact .inl ⟨by simp [Region.wanted, hg], hf⟩
  · have hrd : d ∈ reads ops o := by simp only [reads, hg]; exact List.mem_append_right _ (by simp [hd])
    obtain ⟨e1, _⟩ := I.opd U hi hnew hall (.tmp d) (fun t ht => by cases ht; exact hrd) u hv
    have e1' : tm.getD d undef = conc g u := e1
    rw [Array.getD_eq_getD_getElem?] at e1'
    have hwd := wanted_of (ops := ops) (tm := tm) hg hd
    rcases hh with ⟨rfl, hf⟩ | ⟨hne, h2, h3⟩
    · left
      refine ⟨?_, hf⟩
      rw [hwd]
      cases hx : tm[d]? with
      | none => rw [hx] at e1'; simp [undef, conc] at e1'
      | some x => rw [hx] at e1'; simp [conc] at e1'; subst e1'; simp
    · right
      refine ⟨?_, h2, h3⟩
      rw [hwd]
      cases hx : tm[d]? with
      | none => rfl
      | some x =>
        rw [hx] at e1'; simp at e1'; subst e1'
        cases u with
        | bool t => simp only [conc]; have : t ≠ wnt := fun he => hne (by rw [he]); simp [this]
        | _ => rfl

end
end Go.Proofs.YtdojpbbdcgfcnaaGreatDoor.AI
/- THE ABSTRACT INTERPRETER, 26: drawn regions: an operation more; rows that are taken in. -/
namespace Go.Proofs.YtdojpbbdcgfcnaaGreatDoor.AI

section
variable {P : Program} {rs : Rnds} {cx : Cx} {ops : Array Oper} {late : Nat → Tmp → Bool} {M : Nat → Nat} {items : List Em} {tr0 : List Evt} {VAL OLD : Tmp → Option V} {g0 : G} {h0 hF : H} {w0 : World} {ex : Nat → Bool} {fr0 : Fr} {tm0 : Array Value}
variable {S : Array Bool} {w : World} {tm : Array Value} {l1 l2 : List Evt} {hc : H} {g : G}

theorem Live.mono {S S' : Array Bool} (hS : ∀ j, has S j → has S' j) {l2 l2' : List Evt} (hl : ∀ y ∈ l2, y ∈ l2') {y : Evt} (h : Live P ops S l2 y) : Live P ops S' l2' y := ⟨hl y h.1, h.2.1, hS _ h.2.2⟩

/-- the event of an operation that makes a row -/
theorem mk_cl {y : Evt} (h : y.mk? P ops) : ∃ i o, y.em = .op i ∧ ops[i]? = some o ∧ cls P o.op = .a := cl_op h.1

theorem putTm_get {tm : Array Value} {dst : Option Tmp} {v : Value} {d : Tmp} (h : dst ≠ some d) : (putTm tm dst v)[d]? = tm[d]? := by
  cases dst with
  | none => rfl
  | some d' => simp only [putTm]; exact Array.getElem?_setIfInBounds_ne fun he => h (by rw [he])
theorem putTm_at {tm : Array Value} {v : Value} {d : Tmp} (h : d < tm.size) : (putTm tm (some d) v)[d]? = some v := by simp [putTm, h]

/-- AN OPERATION MORE, none of the heavy ones -/
theorem Inv.step (I : Inv P rs cx ops late M items tr0 VAL OLD g0 h0 hF w0 tm0 S w tm l1 l2 hc g) (U : Setup P rs cx ops late M items tr0 VAL OLD g0 h0 hF w0 ex fr0 tm0)
    {i : Nat} {o : Oper} {x : Evt} (hi : ops[i]? = some o) (hx : x ∈ tr0) (hxe : x.em = .op i) (hnew : ¬ has S i) (hanc : ∀ j, anc M i j = true → has S j) (hnx : cls P o.op ≠ .x)
    {g' : G} {w' : World} (hwr : WR rs P.globals.size g' hc w') (hadv : Adv g0 h0 w0 g' hc w') (hbelow : g.agree g' hc.next.toNat)
    (hsame : ∀ y, Live P ops S l2 y → g'.blk y.h.next = g.blk y.h.next ∧ g'.off y.h.next = g.off y.h.next ∧ g'.cap y.h.next = g.cap y.h.next)
    (hblk : ∀ n, n < w.heap.size → w'.heap[n]? = w.heap[n]?)
    (hv : ∀ d, o.dst = some d → x.v.on (pr P ops M (S.setIfInBounds i true) l2 hc.next.toNat i))
    (hrow : x ∈ l2 → x.mk? P ops → Row P ops M w0 (S.setIfInBounds i true) w' l2 hc g' x ∧ w.heap.size ≤ g'.blk x.h.next) :
    Inv P rs cx ops late M items tr0 VAL OLD g0 h0 hF w0 tm0 (S.setIfInBounds i true) w' (putTm tm o.dst (conc g' x.v)) l1 l2 hc g' := by
  have hlt : i < S.size := by rw [I.ssz]; exact (Array.getElem?_eq_some_iff.1 hi).1
  have hset : ∀ {j}, has (S.setIfInBounds i true) j ↔ has S j ∨ j = i := has_set hlt
  have hup : ∀ j, has S j → has (S.setIfInBounds i true) j := fun j h => hset.2 (.inl h)
  have hme : Em.op i ∈ items := by rw [← U.trm]; exact List.mem_map.2 ⟨x, hx, hxe⟩
  have hsm : ∀ j, g.same g' (pr P ops M S l2 hc.next.toNat j) := by
    rintro j b (hb | ⟨y, h1, _, rfl⟩)
    · exact hbelow b hb
    · exact hsame y h1
  -- who lives now
  have hlive : ∀ y, Live P ops (S.setIfInBounds i true) l2 y → Live P ops S l2 y ∨ (y = x ∧ x ∈ l2 ∧ x.mk? P ops) := fun y ⟨h1, h2, h3⟩ => by
    rcases hset.1 h3 with h3 | h3
    · exact .inl ⟨h1, h2, h3⟩
    · obtain ⟨k, ok, k1, _, _⟩ := mk_cl h2
      rw [k1] at h3; simp only [Em.ix] at h3; subst h3
      have : y = x := U.uniq (by rw [I.app]; exact List.mem_append_right _ h1) hx k1 hxe
      subst this
      exact .inr ⟨rfl, h1, h2⟩
  have holdrow : ∀ y, Live P ops S l2 y → Row P ops M w0 (S.setIfInBounds i true) w' l2 hc g' y ∧ g'.blk y.h.next < w.heap.size := fun y hy => by
    obtain ⟨L, ty, r1, r2, r3, r4, r5, r6⟩ := I.rows y hy
    obtain ⟨s1, s2, s3⟩ := hsame y hy
    have hsz : g.blk y.h.next < w.heap.size := (Array.getElem?_eq_some_iff.1 r2).1
    refine ⟨⟨L, ty, r1, ?_, by rw [s2, r3], by rw [s1]; exact r4, fun b z hb => ?_, ons_mono (pr_mono hup (Nat.le_refl _) (.inl rfl)) L r6⟩, by rw [s1]; exact hsz⟩
    · rw [s1, hblk _ hsz, r2, concs_same (hsm _) L r6]
    · rw [s1, (hbelow b (I.wr.lt hb)).1]; exact r5 b z hb
  refine ⟨I.app, I.can, hwr, hadv, I.marks, by simp [I.ssz], fun y hy hc => hup _ (I.inl1 y hy hc), fun y hy hc => ?_, fun j hj k hk => ?_, by rw [putTm_size]; exact I.size, fun t ht => ?_, fun y hy j oj d hye hoj hd hj => ?_, fun y hy => ?_, fun y z hy hz he => ?_⟩
  · rw [hset]
    rintro (hh | hh)
    · exact I.inl2 y hy hc hh
    · obtain ⟨k, ok, k1, k2, k3⟩ := cl_op hc
      rw [k1] at hh; simp only [Em.ix] at hh; subst hh
      rw [hi] at k2; cases k2; exact hnx k3
  · rcases hset.1 hj with hj | rfl
    · exact hup _ (I.clos j hj k hk)
    · exact hup _ (hanc k hk)
  · rw [putTm_get (fun he => ht i o hi he (hset.2 (.inr rfl)))]; exact I.unw t fun j oj h1 h2 h3 => ht j oj h1 h2 (hup _ h3)
  · by_cases hji : j = i
    · subst hji
      have : y = x := U.uniq hy hx hye hxe
      subst this
      rw [hi] at hoj; cases hoj
      rw [hd]
      refine ⟨putTm_at ?_, hv d hd⟩
      rw [I.size]; exact U.wn d (mem_writes.2 ⟨j, o, hme, hi, hd⟩)
    · have hj' := (hset.1 hj).resolve_right hji
      obtain ⟨v1, v2⟩ := I.val y hy j oj d hye hoj hd hj'
      rw [putTm_get (fun he => hji (U.plan.dst j i oj o d hoj hd hi he))]
      exact ⟨by rw [v1, conc_same (hsm j) _ v2], V.on_mono (pr_mono hup (Nat.le_refl _) (.inl rfl)) _ v2⟩
  · rcases hlive y hy with hy | ⟨rfl, h1, h2⟩
    · exact (holdrow y hy).1
    · exact (hrow h1 h2).1
  · rcases hlive y hy with hy | ⟨rfl, h1, h2⟩ <;> rcases hlive z hz with hz | ⟨rfl, h3, h4⟩
    · rw [(hsame y hy).1, (hsame z hz).1] at he; exact I.dist y z hy hz he
    · have := (holdrow y hy).2; have := (hrow h3 h4).2; omega
    · have := (holdrow z hz).2; have := (hrow h1 h2).2; omega
    · rfl

/-- what is next in the run is taken in -/
theorem Inv.adopt {y : Evt} (I : Inv P rs cx ops late M items tr0 VAL OLD g0 h0 hF w0 tm0 S w tm l1 (y :: l2) hc g) (U : Setup P rs cx ops late M items tr0 VAL OLD g0 h0 hF w0 ex fr0 tm0)
    (hnx : Em.cl P ops y.em ≠ some .x) (ha : Em.cl P ops y.em = some .a → has S y.em.ix) :
    Inv P rs cx ops late M items tr0 VAL OLD g0 h0 hF w0 tm0 S w tm (l1 ++ [y]) l2 y.h1 g := by
  obtain ⟨e1, e2⟩ := I.can.head
  have happ : tr0 = (l1 ++ [y]) ++ l2 := by rw [I.app]; simp
  have hsub : ∀ z ∈ l2, z ∈ y :: l2 := fun z hz => List.mem_cons_of_mem _ hz
  have hin1 : ∀ z ∈ l1 ++ [y], Em.cl P ops z.em = some .x ∨ Em.cl P ops z.em = some .a → has S z.em.ix := fun z hz hc => by
    rcases List.mem_append.1 hz with hz | hz
    · exact I.inl1 z hz hc
    · simp at hz; subst hz; exact ha (hc.resolve_left hnx)
  by_cases hm : y.mk? P ops
  · -- a row
    have hl : Live P ops S (y :: l2) y := ⟨by simp, hm, ha hm.1⟩
    obtain ⟨L, ty, r1, r2, r3, r4, r5, r6⟩ := I.rows y hl
    rw [e1] at r1 r2 r3 r4 r5
    have hn1 : y.h1.next.toNat = hc.next.toNat + 1 := by rw [r1, H.next_new]
    have hpr : ∀ j b, pr P ops M S (y :: l2) hc.next.toNat j b → pr P ops M S l2 y.h1.next.toNat j b := by
      rintro j b (hb | ⟨z, ⟨h1, h2, h3⟩, h4, h5⟩)
      · exact .inl (by omega)
      · rcases List.mem_cons.1 h1 with rfl | h1
        · exact .inl (by rw [h5, e1, hn1]; omega)
        · exact .inr ⟨z, ⟨h1, h2, h3⟩, h4, h5⟩
    have hafter := (I.can.lt (a := []) (y := y) (b := l2)).2
    have hbd : bds (hc.next.toNat + 1) L := by
      refine ons_mono ?_ L r6
      rintro b (hb | ⟨z, ⟨h1, h2, h3⟩, h4, h5⟩)
      · exact Nat.lt_succ_of_lt hb
      · rcases List.mem_cons.1 h1 with rfl | h1
        · rw [h5, e1]; exact Nat.lt_succ_self _
        · exfalso
          obtain ⟨k, ok, k1, k2, k3⟩ := mk_cl h2
          obtain ⟨i, o, i1, i2, i3⟩ := mk_cl hm
          rcases h4 with h4 | h4
          · rw [k1, i1] at h4; simp only [Em.ix] at h4; subst h4
            have hm1 : items = l1.map Evt.em ++ .op k :: l2.map Evt.em := by rw [← U.trm, I.app]; simp [i1]
            exact (U.plan.once _ _ _ hm1).2 (List.mem_map.2 ⟨z, h1, k1⟩)
          · have hm1 : items = l1.map Evt.em ++ .op i :: l2.map Evt.em := by rw [← U.trm, I.app]; simp [i1]
            have := U.plan.row _ _ _ hm1 (.inr (by rw [← i1]; exact hm.1)) z.em (List.mem_map.2 ⟨z, h1, rfl⟩) h2.1
            rw [i1] at h4
            have h4' : anc M i z.em.ix = true := h4
            rw [this] at h4'; cases h4'
    have hbr : BR rs g (hc.next.toNat + 1) w hc.next (.cells L .own ty) := by
      refine ⟨(concs g L).toArray, ty, (0, 0), r2, ?_, hbd, fun _ => rfl, r3, fun i _ => by omega⟩
      intro i v hv
      unfold CellRel
      simp [concs_map, hv, r3]
    have hsz : g.blk hc.next < w.heap.size := (Array.getElem?_eq_some_iff.1 r2).1
    have hwr := I.wr.adopt (.cells L .own ty) hsz hbr r5
    have hadv := I.adv.adopt (.cells L .own ty) r4
    rw [← r1] at hwr hadv
    refine ⟨happ, e2, hwr, hadv, by rw [r1]; exact I.marks, I.ssz, hin1, fun z hz => I.inl2 z (hsub z hz), I.clos, I.size, I.unw, fun z hz i o d k1 k2 k3 k4 => ?_, fun z hz => ?_, fun z z' hz hz' => I.dist z z' (hz.mono (fun _ h => h) hsub) (hz'.mono (fun _ h => h) hsub)⟩
    · obtain ⟨v1, v2⟩ := I.val z hz i o d k1 k2 k3 k4
      exact ⟨v1, V.on_mono (hpr i) _ v2⟩
    · have hz' := hz.mono (fun _ h => h) hsub
      obtain ⟨L', ty', q1, q2, q3, q4, q5, q6⟩ := I.rows z hz'
      refine ⟨L', ty', q1, q2, q3, q4, fun b x hb => ?_, ons_mono (hpr _) L' q6⟩
      rw [r1, H.get_new] at hb
      split at hb
      · rename_i eb
        intro he
        have := I.dist y z hl hz' (by rw [e1, ← eb]; exact he)
        have h1 := hafter z hz.1
        have := congrArg Pos.toNat this
        rw [e1] at this
        omega
      · exact q5 b x hb
  · -- no row
    have hq : y.h1 = hc := by rw [quiet_h I.can (by simp) hnx hm, e1]
    rw [hq] at e2 ⊢
    have hlv : ∀ z, Live P ops S (y :: l2) z → Live P ops S l2 z := fun z ⟨h1, h2, h3⟩ => by
      rcases List.mem_cons.1 h1 with rfl | h1
      · exact absurd h2 hm
      · exact ⟨h1, h2, h3⟩
    have hpr : ∀ j b, pr P ops M S (y :: l2) hc.next.toNat j b → pr P ops M S l2 hc.next.toNat j b := by
      rintro j b (hb | ⟨z, h1, h4, h5⟩)
      · exact .inl hb
      · exact .inr ⟨z, hlv z h1, h4, h5⟩
    refine ⟨happ, e2, I.wr, I.adv, I.marks, I.ssz, hin1, fun z hz => I.inl2 z (hsub z hz), I.clos, I.size, I.unw, fun z hz i o d k1 k2 k3 k4 => ?_, fun z hz => ?_, fun z z' hz hz' => I.dist z z' (hz.mono (fun _ h => h) hsub) (hz'.mono (fun _ h => h) hsub)⟩
    · obtain ⟨v1, v2⟩ := I.val z hz i o d k1 k2 k3 k4
      exact ⟨v1, V.on_mono (hpr i) _ v2⟩
    · obtain ⟨L', ty', q1, q2, q3, q4, q5, q6⟩ := I.rows z (hz.mono (fun _ h => h) hsub)
      exact ⟨L', ty', q1, q2, q3, q4, q5, ons_mono (hpr _) L' q6⟩

theorem Inv.adopts (U : Setup P rs cx ops late M items tr0 VAL OLD g0 h0 hF w0 ex fr0 tm0) : ∀ (seg : List Evt) (l1 l2 : List Evt) (hc : H), Inv P rs cx ops late M items tr0 VAL OLD g0 h0 hF w0 tm0 S w tm l1 (seg ++ l2) hc g →
    (∀ y ∈ seg, Em.cl P ops y.em ≠ some .x ∧ (Em.cl P ops y.em = some .a → has S y.em.ix)) → ∃ hc', Inv P rs cx ops late M items tr0 VAL OLD g0 h0 hF w0 tm0 S w tm (l1 ++ seg) l2 hc' g
  | [], l1, l2, hc, I, _ => ⟨hc, by simpa using I⟩
  | y :: seg, l1, l2, hc, I, hq => by
    have := I.adopt U (hq y (by simp)).1 (hq y (by simp)).2
    obtain ⟨hc', h⟩ := Inv.adopts U seg (l1 ++ [y]) l2 y.h1 this fun z hz => hq z (List.mem_cons_of_mem _ hz)
    exact ⟨hc', by simpa using h⟩

end
end Go.Proofs.YtdojpbbdcgfcnaaGreatDoor.AI
/- THE ABSTRACT INTERPRETER, 27: drawn regions: each operation that may be the next. -/
namespace Go.Proofs.YtdojpbbdcgfcnaaGreatDoor.AI

/-- g1 below n, g above -/
def G.patch (g1 g : G) (n : Nat) : G := { blk := fun b => if b.toNat < n then g1.blk b else g.blk b, off := fun b => if b.toNat < n then g1.off b else g.off b, cap := fun b => if b.toNat < n then g1.cap b else g.cap b }
theorem G.patch_lo (g1 g : G) (n : Nat) : g1.agree (g1.patch g n) n := fun b hb => by simp only [G.patch]; rw [if_pos hb, if_pos hb, if_pos hb]; exact ⟨rfl, rfl, rfl⟩
theorem G.patch_hi (g1 g : G) {n : Nat} {b : Pos} (hb : n ≤ b.toNat) : (g1.patch g n).blk b = g.blk b ∧ (g1.patch g n).off b = g.off b ∧ (g1.patch g n).cap b = g.cap b := by
  simp only [G.patch]; rw [if_neg (by omega), if_neg (by omega), if_neg (by omega)]; exact ⟨rfl, rfl, rfl⟩

section
variable {P : Program} {rs : Rnds} {cx : Cx} {ops : Array Oper} {late : Nat → Tmp → Bool} {M : Nat → Nat} {items : List Em} {tr0 : List Evt} {VAL OLD : Tmp → Option V} {g0 : G} {h0 hF : H} {w0 : World} {ex : Nat → Bool} {fr0 : Fr} {tm0 : Array Value}
variable {S : Array Bool} {w : World} {tm : Array Value} {l1 l2 : List Evt} {hc : H} {g : G}

/-- the machine does the operation i -/
def Goes (P : Program) (ops : Array Oper) (i : Nat) (w : World) (tm : Array Value) (w' : World) (tm' : Array Value) : Prop :=
  ∀ (b : Frame) (ds : List Deferred) (rest : List Nat) (kk : List Item) (cs : List Frame), Steps P (lone (fat b tm ds (.inRegion ops (i :: rest) :: kk)) cs w) (lone (fat b tm' ds (.inRegion ops rest :: kk)) cs w')

theorem mem_reads {o : Oper} {a : Operand} (ha : a ∈ o.op.operands) : ∀ t, a = .tmp t → t ∈ reads ops o := fun t ht => by
  subst ht
  simp only [reads]
  exact List.mem_append_left _ (List.mem_filterMap.2 ⟨_, by simpa using ha, rfl⟩)

/-- A HEAVY ONE, the next of the run -/
theorem Inv.heavy {x : Evt} {l3 : List Evt} (I : Inv P rs cx ops late M items tr0 VAL OLD g0 h0 hF w0 tm0 S w tm l1 (x :: l3) hc g) (U : Setup P rs cx ops late M items tr0 VAL OLD g0 h0 hF w0 ex fr0 tm0)
    {i : Nat} {o : Oper} (hi : ops[i]? = some o) (hxe : x.em = .op i) (hcx : cls P o.op = .x) (hnew : ¬ has S i) (hanc : ∀ j, anc M i j = true → has S j) :
    ∃ g' w', Inv P rs cx ops late M items tr0 VAL OLD g0 h0 hF w0 tm0 (S.setIfInBounds i true) w' (putTm tm o.dst (conc g' x.v)) (l1 ++ [x]) l3 x.h1 g' ∧ Goes P ops i w tm w' (putTm tm o.dst (conc g' x.v)) := by
  obtain ⟨e1, e2⟩ := I.can.head
  have hx : x ∈ tr0 := by rw [I.app]; simp
  have hcl : Em.cl P ops x.em = some .x := by rw [hxe]; simp [Em.cl, hi, hcx]
  have hm1 : items = l1.map Evt.em ++ .op i :: l3.map Evt.em := by rw [← U.trm, I.app]; simp [hxe]
  have hone := U.plan.once _ _ _ hm1
  have hrow := U.plan.row _ _ _ hm1 (.inl (by rw [← hxe]; exact hcl))
  have hnotx : ∀ y, y.mk? P ops → y ≠ x := fun y hy he => by have h1 := hy.1; rw [he, hcl] at h1; cases h1
  have hlt : i < S.size := by rw [I.ssz]; exact (Array.getElem?_eq_some_iff.1 hi).1
  have hset : ∀ {j}, has (S.setIfInBounds i true) j ↔ has S j ∨ j = i := has_set hlt
  have hup : ∀ j, has S j → has (S.setIfInBounds i true) j := fun j h => hset.2 (.inl h)
  have hme : Em.op i ∈ items := by rw [hm1]; simp
  -- its operands are of the heap that stands
  have hlow : ∀ u : V, u.on (pr P ops M S (x :: l3) hc.next.toNat i) → u.on (below hc.next.toNat) := fun u hu => by
    refine V.on_mono ?_ u hu
    rintro b (hb | ⟨y, ⟨h1, h2, h3⟩, h4, h5⟩)
    · exact hb
    · exfalso
      have h1' := (List.mem_cons.1 h1).resolve_left (hnotx y h2)
      rcases h4 with h4 | h4
      · obtain ⟨k, ok, k1, k2, k3⟩ := mk_cl h2
        rw [k1] at h4; simp only [Em.ix] at h4; subst h4
        rw [hi] at k2; cases k2; rw [hcx] at k3; cases k3
      · have := hrow y.em (List.mem_map.2 ⟨y, h1', rfl⟩) h2.1
        rw [this] at h4; cases h4
  obtain ⟨o', b1, b2, b3⟩ := U.can.at hx
  rw [hxe] at b1 b3
  simp only [Em.ix, hi, Option.some.injEq] at b1
  subst b1
  have hev : Ev P cx ops (valOp P (rdv late VAL OLD i)) o x.h x.v x.h1 := by
    rcases b3 with ⟨_, h⟩ | ⟨⟨k, hk⟩, _⟩
    · exact h
    · cases hk
  have main : ∃ g1 w1, WR rs P.globals.size g1 x.h1 w1 ∧ Adv g hc w g1 x.h1 w1 ∧ x.v.bd x.h1.next.toNat ∧ x.h1.marks = hc.marks ∧ Goes P ops i w tm w1 (putTm tm o.dst (conc g1 x.v)) := by
    rcases I.guard U hi hnew hanc hev with ⟨hwant, hf⟩ | ⟨hwant, hv, hh⟩
    · rw [hcx, e1] at hf
      obtain ⟨g1, w1, a1, a2, a3, a4, a5⟩ := hf rs P.globals.size g w ((Act.mk tm []).eval) U.call I.wr (fun a ha u hu => by
        obtain ⟨k1, k2⟩ := I.opd U hi hnew hanc a (mem_reads ha) u hu
        exact ⟨k1, hlow u k2⟩)
      exact ⟨g1, w1, a1, a2, a3, a4, fun b ds rest kk cs => does_op hi hwant (U.plan.nodefer i o hi) (by rw [eval_ds ds []]; exact a5)⟩
    · rw [e1] at hh
      refine ⟨g, w, by rw [hh]; exact I.wr, by rw [hh]; exact Adv.refl _ _ _, by rw [hv]; exact bd_undef _, by rw [hh], fun b ds rest kk cs => ?_⟩
      rw [hv, undef_conc]
      exact .one (m_op_skip hi hwant)
  obtain ⟨g1, w1, a1, a2, a3, a4, a5⟩ := main
  have hlo := G.patch_lo g1 g x.h1.next.toNat
  have hhi : ∀ y, Live P ops S (x :: l3) y → (g1.patch g x.h1.next.toNat).blk y.h.next = g.blk y.h.next ∧ (g1.patch g x.h1.next.toNat).off y.h.next = g.off y.h.next ∧ (g1.patch g x.h1.next.toNat).cap y.h.next = g.cap y.h.next := fun y hy =>
    G.patch_hi g1 g ((I.can.lt (a := []) (y := x) (b := l3)).2 y ((List.mem_cons.1 hy.1).resolve_left (hnotx y hy.2.1)))
  generalize hg2 : g1.patch g x.h1.next.toNat = g2 at *
  have hcv : conc g2 x.v = conc g1 x.v := conc_ext hlo _ a3
  refine ⟨g2, w1, ?_, by rw [hcv]; exact a5⟩
  have hsm : ∀ j, g.same g2 (pr P ops M S (x :: l3) hc.next.toNat j) := by
    rintro j b (hb | ⟨y, h1, _, rfl⟩)
    · have hb' : b.toNat < hc.next.toNat := hb
      obtain ⟨c1, c2, c3⟩ := a2.ext b hb
      obtain ⟨d1, d2, d3⟩ := hlo b (Nat.lt_of_lt_of_le hb' a2.mono)
      exact ⟨d1.trans c1, d2.trans c2, d3.trans c3⟩
    · exact hhi y h1
  have hlv : ∀ y, Live P ops (S.setIfInBounds i true) l3 y → Live P ops S (x :: l3) y := fun y ⟨h1, h2, h3⟩ => by
    refine ⟨List.mem_cons_of_mem _ h1, h2, (hset.1 h3).resolve_right fun he => ?_⟩
    obtain ⟨k, ok, k1, k2, k3⟩ := mk_cl h2
    rw [k1] at he; simp only [Em.ix] at he; subst he
    rw [hi] at k2; cases k2; rw [hcx] at k3; cases k3
  have hpr : ∀ j b, pr P ops M S (x :: l3) hc.next.toNat j b → pr P ops M (S.setIfInBounds i true) l3 x.h1.next.toNat j b := by
    rintro j b (hb | ⟨y, ⟨h1, h2, h3⟩, h4, h5⟩)
    · exact .inl (Nat.lt_of_lt_of_le hb a2.mono)
    · exact .inr ⟨y, ⟨(List.mem_cons.1 h1).resolve_left (hnotx y h2), h2, hup _ h3⟩, h4, h5⟩
  refine ⟨by rw [I.app]; simp, e2, a1.agree hlo, (I.adv.trans a2).agree a1 hlo, a4.trans I.marks, by simp [I.ssz], fun y hy hc => ?_, fun y hy hc => ?_, fun j hj k hk => ?_, by rw [putTm_size]; exact I.size, fun t ht => ?_, fun y hy j oj d hye hoj hd hj => ?_, fun y hy => ?_, fun y z hy hz he => ?_⟩
  · rcases List.mem_append.1 hy with hy | hy
    · exact hup _ (I.inl1 y hy hc)
    · simp at hy; subst hy; rw [hxe]; exact hset.2 (.inr rfl)
  · rw [hset]
    rintro (hh | hh)
    · exact I.inl2 y (List.mem_cons_of_mem _ hy) hc hh
    · obtain ⟨k, ok, k1, k2, k3⟩ := cl_op hc
      rw [k1] at hh; simp only [Em.ix] at hh; subst hh
      exact hone.2 (List.mem_map.2 ⟨y, hy, k1⟩)
  · rcases hset.1 hj with hj | rfl
    · exact hup _ (I.clos j hj k hk)
    · exact hup _ (hanc k hk)
  · rw [putTm_get (fun he => ht i o hi he (hset.2 (.inr rfl)))]; exact I.unw t fun j oj h1 h2 h3 => ht j oj h1 h2 (hup _ h3)
  · by_cases hji : j = i
    · subst hji
      have : y = x := U.uniq hy hx hye hxe
      subst this
      rw [hi] at hoj; cases hoj
      rw [hd]
      refine ⟨putTm_at ?_, V.on_mono (fun b hb => .inl hb) _ a3⟩
      rw [I.size]; exact U.wn d (mem_writes.2 ⟨j, o, hme, hi, hd⟩)
    · have hj' := (hset.1 hj).resolve_right hji
      obtain ⟨v1, v2⟩ := I.val y hy j oj d hye hoj hd hj'
      rw [putTm_get (fun he => hji (U.plan.dst j i oj o d hoj hd hi he))]
      exact ⟨by rw [v1, conc_same (hsm j) _ v2], V.on_mono (hpr j) _ v2⟩
  · have hy' := hlv y hy
    obtain ⟨L, ty, r1, r2, r3, r4, r5, r6⟩ := I.rows y hy'
    obtain ⟨s1, s2, s3⟩ := hhi y hy'
    have hsz : g.blk y.h.next < w.heap.size := (Array.getElem?_eq_some_iff.1 r2).1
    refine ⟨L, ty, r1, ?_, by rw [s2, r3], by rw [s1]; exact r4, fun b z hb => ?_, ons_mono (hpr _) L r6⟩
    · rw [s1, a2.keep _ hsz (fun b z hb _ => r5 b z hb), r2, concs_same (hsm _) L r6]
    · rw [s1, (hlo b (a1.lt hb)).1]
      rcases a2.fresh b z hb with h1 | ⟨b0, x0, h1, _, h3⟩
      · omega
      · rw [← h3]; exact r5 b0 x0 h1
  · rw [(hhi y (hlv y hy)).1, (hhi z (hlv z hz)).1] at he
    exact I.dist y z (hlv y hy) (hlv z hz) he

/-- what is quiet leaves the heap -/
theorem quiet_run : ∀ (c : List Evt) (e : Evt) (d : List Evt) (h h' : H), Can P cx ops late VAL OLD (c ++ e :: d) h h' → (∀ y ∈ c, Em.cl P ops y.em ≠ some .x ∧ Em.cl P ops y.em ≠ some .a) → e.h = h
  | [], e, d, h, h', hc, _ => hc.head.1
  | y :: c, e, d, h, h', hc, hq => by
    have h1 := quiet_h hc (by simp : y ∈ (y :: c) ++ e :: d) (hq y (by simp)).1 (fun hm => (hq y (by simp)).2 hm.1)
    obtain ⟨e1, e2⟩ := Can.head (b := c ++ e :: d) hc
    rw [h1, e1] at e2
    exact quiet_run c e d h h' e2 fun z hz => hq z (List.mem_cons_of_mem _ hz)

/-- one that is not heavy -/
theorem Inv.light (I : Inv P rs cx ops late M items tr0 VAL OLD g0 h0 hF w0 tm0 S w tm l1 l2 hc g) (U : Setup P rs cx ops late M items tr0 VAL OLD g0 h0 hF w0 ex fr0 tm0)
    (hb : l1 = [] ∨ ∃ q y, l1 = q ++ [y] ∧ Em.cl P ops y.em = some .x)
    {i : Nat} {o : Oper} {x : Evt} (hi : ops[i]? = some o) (hx : x ∈ tr0) (hxe : x.em = .op i) (hnew : ¬ has S i) (hanc : ∀ j, anc M i j = true → has S j) (hnx : cls P o.op ≠ .x) :
    ∃ g' w' tm', Inv P rs cx ops late M items tr0 VAL OLD g0 h0 hF w0 tm0 (S.setIfInBounds i true) w' tm' l1 l2 hc g' ∧ Goes P ops i w tm w' tm' := by
  have hlt : i < S.size := by rw [I.ssz]; exact (Array.getElem?_eq_some_iff.1 hi).1
  have hset : ∀ {j}, has (S.setIfInBounds i true) j ↔ has S j ∨ j = i := has_set hlt
  have hup : ∀ j, has S j → has (S.setIfInBounds i true) j := fun j h => hset.2 (.inl h)
  obtain ⟨o', b1, b2, b3⟩ := U.can.at hx
  rw [hxe] at b1 b3
  simp only [Em.ix, hi, Option.some.injEq] at b1
  subst b1
  have hev : Ev P cx ops (valOp P (rdv late VAL OLD i)) o x.h x.v x.h1 := by
    rcases b3 with ⟨_, h⟩ | ⟨⟨k, hk⟩, _⟩
    · exact h
    · cases hk
  -- nothing of the world turns
  have still : (∀ d, o.dst = some d → x.v.on (pr P ops M (S.setIfInBounds i true) l2 hc.next.toNat i)) → ¬ x.mk? P ops → Goes P ops i w tm w (putTm tm o.dst (conc g x.v)) →
      ∃ g' w' tm', Inv P rs cx ops late M items tr0 VAL OLD g0 h0 hF w0 tm0 (S.setIfInBounds i true) w' tm' l1 l2 hc g' ∧ Goes P ops i w tm w' tm' := fun hv hm hgo =>
    ⟨g, w, _, I.step U hi hx hxe hnew hanc hnx I.wr I.adv (g.agree_refl _) (fun _ _ => ⟨rfl, rfl, rfl⟩) (fun _ _ => rfl) hv (fun _ h => absurd h hm), hgo⟩
  have hskip : Region.wanted o (yielded ops tm) = false → x.v = undefV → x.h1 = x.h → ∃ g' w' tm', Inv P rs cx ops late M items tr0 VAL OLD g0 h0 hF w0 tm0 (S.setIfInBounds i true) w' tm' l1 l2 hc g' ∧ Goes P ops i w tm w' tm' := fun hwant hv hh =>
    still (fun d _ => by rw [hv]; simp [undefV, V.on, ons]) (fun hm => by have := hm.2; rw [hh] at this; omega) (fun b ds rest kk cs => by rw [hv, undef_conc]; exact .one (m_op_skip hi hwant))
  have hop : ∀ a ∈ o.op.operands, OpdV g (pr P ops M S l2 hc.next.toNat i) (valOp P (rdv late VAL OLD i)) a ((Act.mk tm []).eval a) := fun a ha => I.opd U hi hnew hanc a (mem_reads ha)
  have hdef := U.plan.nodefer i o hi
  cases hcl : cls P o.op with
  | x => exact absurd hcl hnx
  | p =>
    have hnm : ¬ x.mk? P ops := fun hm => by
      have := hm.1; rw [hxe] at this; simp [Em.cl, hi, hcl] at this
    rcases I.guard U hi hnew hanc hev with ⟨hwant, hf⟩ | ⟨hwant, hv, hh⟩
    · rw [hcl] at hf
      obtain ⟨k1, k2⟩ := hf.2 g _ _ hop
      exact still (fun d _ => V.on_mono (pr_mono hup (Nat.le_refl _) (.inl rfl)) _ k1) hnm (fun b ds rest kk cs => does_op hi hwant hdef (by rw [eval_ds ds []]; exact does_value (k2 w)))
    · exact hskip hwant hv hh
  | a =>
    rcases I.guard U hi hnew hanc hev with ⟨hwant, hf⟩ | ⟨hwant, hv, hh⟩
    · rw [hcl] at hf
      obtain ⟨L, ty, m, k1, k2, k3⟩ := hf
      have hm : x.mk? P ops := ⟨by rw [hxe]; simp [Em.cl, hi, hcl], by rw [k2, H.next_new]; omega⟩
      have hxl : x ∈ l2 := by
        have := hx; rw [I.app] at this
        rcases List.mem_append.1 this with h1 | h1
        · have := I.inl1 x h1 (.inr hm.1); rw [hxe] at this; exact absurd this hnew
        · exact h1
      obtain ⟨k4, k5⟩ := k3 g _ _ hop
      have hge : hc.next.toNat ≤ x.h.next.toNat := (I.can.mono.2 x hxl).1
      have hag : g.agree (g.upd x.h.next w.heap.size 0 0) hc.next.toNat := fun b hb => by
        have : b ≠ x.h.next := fun he => by have hb' : b.toNat < hc.next.toNat := hb; rw [he] at hb'; omega
        simp [G.upd, this]
      have hot : ∀ y, Live P ops S l2 y → y.h.next ≠ x.h.next := fun y hy he => by
        have := mk_ids I.can hy.1 hxl hy.2.1 hm he
        subst this
        have := hy.2.2; rw [hxe] at this; exact hnew this
      have hsm : ∀ y, Live P ops S l2 y → (g.upd x.h.next w.heap.size 0 0).blk y.h.next = g.blk y.h.next ∧ (g.upd x.h.next w.heap.size 0 0).off y.h.next = g.off y.h.next ∧ (g.upd x.h.next w.heap.size 0 0).cap y.h.next = g.cap y.h.next := fun y hy => by
        simp [G.upd, hot y hy]
      have hsame : g.same (g.upd x.h.next w.heap.size 0 0) (pr P ops M S l2 hc.next.toNat i) := by
        rintro b (hb | ⟨y, h1, _, rfl⟩)
        · exact hag b hb
        · exact hsm y h1
      obtain ⟨q1, q2⟩ := I.wr.world (w' := w.alloc (.cells (concs g L).toArray ty)) (by simp) (fun k hk => by rw [heap_alloc, Array.getElem?_push, if_neg (by omega)]) rfl rfl rfl
      refine ⟨g.upd x.h.next w.heap.size 0 0, w.alloc (.cells (concs g L).toArray ty), _, I.step U hi hx hxe hnew hanc hnx (q1.agree hag) ((I.adv.trans q2).agree q1 hag) hag hsm (fun k hk => by rw [heap_alloc, Array.getElem?_push, if_neg (by omega)]) (fun d _ => ?_) (fun _ _ => ⟨⟨L, ty, k2, ?_, by simp, ?_, fun b z hb => ?_, ?_⟩, by simp⟩), fun b ds rest kk cs => ?_⟩
      · rw [k1]
        have : pr P ops M (S.setIfInBounds i true) l2 hc.next.toNat i x.h.next := .inr ⟨x, ⟨hxl, hm, by rw [hxe]; exact hset.2 (.inr rfl)⟩, .inl (by rw [hxe]; rfl), rfl⟩
        cases m <;> exact this
      · rw [G.upd_blk, heap_alloc, Array.getElem?_push_size, concs_same hsame L k4]
      · rw [G.upd_blk]; exact I.adv.size
      · rw [G.upd_blk, (hag b (I.wr.lt hb)).1]
        have := (I.wr.blk b z hb).2.1; omega
      · have : x.em.ix = i := by rw [hxe]; rfl
        rw [this]; exact ons_mono (pr_mono hup (Nat.le_refl _) (.inl rfl)) L k4
      · refine does_op hi hwant hdef (by
          rw [eval_ds ds []]
          refine does_value ?_
          rw [k5 w, k1]
          cases m <;> simp [Mk.val, Mk.v, conc])
    · exact hskip hwant hv hh
  | r =>
    have hnm : ¬ x.mk? P ops := fun hm => by
      have := hm.1; rw [hxe] at this; simp [Em.cl, hi, hcl] at this
    obtain ⟨hq, hrow⟩ := U.plan.read (l1.map Evt.em) (l2.map Evt.em) (by rw [← U.trm, I.app]; simp) (by
        rcases hb with rfl | ⟨q, y, rfl, hy⟩
        · exact .inl rfl
        · exact .inr ⟨q.map Evt.em, y.em, by simp, hy⟩) i o hi hcl (fun e he hce => by
        obtain ⟨y, y1, rfl⟩ := List.mem_map.1 he
        cases hh : anc M i y.em.ix with
        | false => rfl
        | true => exact absurd (hanc _ hh) (I.inl2 y y1 hce)) (fun e he hce => by
        obtain ⟨y, y1, rfl⟩ := List.mem_map.1 he
        cases hh : anc M y.em.ix i with
        | false => rfl
        | true => exact absurd (I.clos _ (I.inl1 y y1 (.inl hce)) i hh) hnew)
    obtain ⟨c, e, d, hsp, hei, hcq⟩ := hq
    obtain ⟨c', r', rfl, rfl, hr'⟩ := List.map_eq_append_iff.1 hsp
    obtain ⟨y, d', rfl, rfl, rfl⟩ := List.map_eq_cons_iff.1 hr'
    have hyh : y.h = hc := quiet_run c' y d' hc hF I.can fun z hz => hcq z.em (List.mem_map.2 ⟨z, hz, rfl⟩)
    obtain ⟨o', c1, c2, c3⟩ := I.can.at (by simp : y ∈ c' ++ y :: d')
    rw [hei] at c1 c3
    rw [hi] at c1
    cases c1
    have hev2 : ∃ h1, Ev P cx ops (valOp P (rdv late VAL OLD i)) o y.h y.v h1 := by
      rcases c3 with ⟨_, h⟩ | ⟨_, _, _, h⟩
      · exact ⟨_, h⟩
      · exact h
    obtain ⟨h1, hev2⟩ := hev2
    have hsamev : ∀ d, o.dst = some d → x.v = y.v := fun d hd => by
      have := b2 d hd; rw [c2 d hd] at this; exact (Option.some.inj this).symm
    have hput : ∀ v : V, (∀ d, o.dst = some d → x.v = v) → putTm tm o.dst (conc g x.v) = putTm tm o.dst (conc g v) := fun v hv => by
      cases hd : o.dst with
      | none => rfl
      | some d => rw [hv d hd]
    rcases I.guard U hi hnew hanc hev2 with ⟨hwant, hf⟩ | ⟨hwant, hv, hh⟩
    · rw [hcl, hyh] at hf
      obtain ⟨_, hf⟩ := hf
      have := hf rs P.globals.size g w ((Act.mk tm []).eval) I.wr (fun a ha u hu => by
        obtain ⟨n1, n2⟩ := hop a ha u hu
        refine ⟨n1, V.on_mono ?_ u n2⟩
        rintro b (hb | ⟨z, ⟨h1, h2, h3⟩, h4, h5⟩)
        · exact hb
        · exfalso
          rcases h4 with h4 | h4
          · obtain ⟨k, ok, k1, k2, k3⟩ := mk_cl h2
            rw [k1] at h4; simp only [Em.ix] at h4; subst h4
            rw [hi] at k2; cases k2; rw [hcl] at k3; cases k3
          · have := hrow z.em (List.mem_map.2 ⟨z, h1, rfl⟩) h2.1
            rw [this] at h4; cases h4)
      obtain ⟨m1, m2⟩ := this
      refine still (fun d hd => by rw [hsamev d hd]; exact V.on_mono (fun b hb => .inl hb) _ m1) hnm (fun b ds rest kk cs => ?_)
      rw [hput y.v hsamev]
      exact does_op hi hwant hdef (by rw [eval_ds ds []]; exact does_value m2)
    · refine still (fun d hd => by rw [hsamev d hd, hv]; simp [undefV, V.on, ons]) hnm (fun b ds rest kk cs => ?_)
      rw [hput y.v hsamev, hv, undef_conc]
      exact .one (m_op_skip hi hwant)

end
end Go.Proofs.YtdojpbbdcgfcnaaGreatDoor.AI
/- THE ABSTRACT INTERPRETER, 28: a drawn region, in every order. -/
namespace Go.Proofs.YtdojpbbdcgfcnaaGreatDoor.AI

def InvE (P : Program) (rs : Rnds) (cx : Cx) (ops : Array Oper) (late : Nat → Tmp → Bool) (M : Nat → Nat) (items : List Em) (tr0 : List Evt) (VAL OLD : Tmp → Option V) (g0 : G) (h0 hF : H) (w0 : World) (tm0 : Array Value) (S : Array Bool) (w : World) (tm : Array Value) : Prop :=
  ∃ l1 l2 hc g, Inv P rs cx ops late M items tr0 VAL OLD g0 h0 hF w0 tm0 S w tm l1 l2 hc g ∧ (l1 = [] ∨ ∃ q y, l1 = q ++ [y] ∧ Em.cl P ops y.em = some .x)

section
variable {P : Program} {rs : Rnds} {cx : Cx} {ops : Array Oper} {late : Nat → Tmp → Bool} {M : Nat → Nat} {items : List Em} {tr0 : List Evt} {VAL OLD : Tmp → Option V} {g0 : G} {h0 hF : H} {w0 : World} {ex : Nat → Bool} {fr0 : Fr} {tm0 : Array Value}

theorem has_lt {S : Array Bool} {i : Nat} (h : has S i) : i < S.size := by
  rcases Nat.lt_or_ge i S.size with hh | hh
  · exact hh
  · simp [has, Array.getD, Nat.not_lt.2 hh] at h

theorem has_of {S : Array Bool} {i : Nat} (hi : i < S.size) (h : S.getD i true = true) : has S i := by
  rw [Array.getD_eq_getD_getElem?, Array.getElem?_eq_getElem hi] at h
  unfold has
  rw [Array.getD_eq_getD_getElem?, Array.getElem?_eq_getElem hi]
  exact h

theorem InvE.step (U : Setup P rs cx ops late M items tr0 VAL OLD g0 h0 hF w0 ex fr0 tm0) (S : Array Bool) (w : World) (tm : Array Value) (i : Nat) (hI : InvE P rs cx ops late M items tr0 VAL OLD g0 h0 hF w0 tm0 S w tm) (hr : i ∈ Region.ready .any ops S) :
    ∃ w' tm', InvE P rs cx ops late M items tr0 VAL OLD g0 h0 hF w0 tm0 (S.setIfInBounds i true) w' tm' ∧ Goes P ops i w tm w' tm' := by
  obtain ⟨l1, l2, hc, g, I, hb⟩ := hI
  obtain ⟨r1, o, hi, r2⟩ := mem_ready.1 hr
  have hlt : i < ops.size := (Array.getElem?_eq_some_iff.1 hi).1
  have hnew : ¬ has S i := fun h => by
    have hsz := has_lt h
    simp only [has, Array.getD, hsz, dif_pos] at h r1
    rw [h] at r1; cases r1
  have hanc : ∀ j, anc M i j = true → has S j := fun j hj => by
    obtain ⟨e, e1, e2, e3⟩ := U.plan.law i o hi j hj
    have := r2 e e1 e2
    rcases e3 with rfl | e3
    · exact this
    · exact I.clos _ this j e3
  obtain ⟨x, hx, hxe⟩ := U.evt hlt
  by_cases hcl : cls P o.op = .x
  · have hxc : Em.cl P ops x.em = some .x := by rw [hxe]; simp [Em.cl, hi, hcl]
    have hxl : x ∈ l2 := by
      have := hx; rw [I.app] at this
      rcases List.mem_append.1 this with h1 | h1
      · have := I.inl1 x h1 (.inl hxc); rw [hxe] at this; exact absurd this hnew
      · exact h1
    obtain ⟨seg, l3, rfl⟩ := List.append_of_mem hxl
    have hm1 : items = (l1 ++ seg).map Evt.em ++ .op i :: l3.map Evt.em := by rw [← U.trm, I.app]; simp [hxe]
    have hh := U.plan.heavy _ _ _ hm1 (by rw [← hxe]; exact hxc)
    obtain ⟨hc', I'⟩ := Inv.adopts U seg l1 (x :: l3) hc I fun y hy => by
      have hy' : y.em ∈ (l1 ++ seg).map Evt.em := List.mem_map.2 ⟨y, List.mem_append_right _ hy, rfl⟩
      exact ⟨fun hc => I.inl2 y (List.mem_append_left _ hy) hc (hanc _ (hh y.em hy' (.inl hc))), fun hc => hanc _ (hh y.em hy' (.inr hc))⟩
    obtain ⟨g', w', k1, k2⟩ := I'.heavy U hi hxe hcl hnew hanc
    exact ⟨w', _, ⟨_, _, _, _, k1, .inr ⟨_, x, rfl, hxc⟩⟩, k2⟩
  · obtain ⟨g', w', tm', k1, k2⟩ := I.light U hb hi hx hxe hnew hanc hcl
    exact ⟨w', tm', ⟨_, _, _, _, k1, hb⟩, k2⟩

/-- when none may be the next, all have been -/
theorem all_listed (plan : Plan P ops late M items) {S : Array Bool} (hsz : S.size = ops.size) (hr : Region.ready .any ops S = []) : ∀ k i, i ≤ k → i < ops.size → has S i := by
  intro k
  induction k with
  | zero =>
    intro i hik hi
    have : i = 0 := by omega
    subst this
    cases hh : S.getD 0 true with
    | true => exact has_of (by omega) hh
    | false =>
      have : (0 : Nat) ∈ Region.ready .any ops S := mem_ready.2 ⟨hh, ops[0], by simp [hi], fun e he hb => by
        have := plan.acyc 0 ops[0] (by simp [hi]) e he hb; omega⟩
      rw [hr] at this; cases this
  | succ k ih =>
    intro i hik hi
    rcases Nat.lt_or_ge i (k + 1) with h | h
    · exact ih i (by omega) hi
    · cases hh : S.getD i true with
      | true => exact has_of (by omega) hh
      | false =>
        have : i ∈ Region.ready .any ops S := mem_ready.2 ⟨hh, ops[i], by simp [hi], fun e he hb => by
          have h1 := plan.acyc i ops[i] (by simp [hi]) e he hb
          exact ih e.on (by omega) (by omega)⟩
        rw [hr] at this; cases this

end

section
variable {P : Program} {rs : Rnds} {cx : Cx} {ops : Array Oper} {late : Nat → Tmp → Bool} {M : Nat → Nat} {items : List Em} {n : Nat} {ex : Nat → Bool} {fid : Nat}

/-- A DRAWN REGION -/
theorem region_draw_ok (hm : P.follows .mixedOrders = true) (hc : CallOk P rs P.globals.size cx.call) (plan : Plan P ops late M items) {id : Nat} :
    CodeOk P rs cx n ex fid (.region id ops true) (kReg (cItems P n ex ops items [])) := by
  intro fr h er fr' h' hs g w tm hw hf hn
  obtain ⟨h1, VAL, _, h2, tr, h3, h4, h5, h6⟩ := items_can (OLD := fun t => Tr.get (Pos.ofNat t) fr) items [] [] fr h er fr' h' plan.known (fun _ _ => rfl) hs
  subst h1
  have hwd := hw.world (w' := w.drew) (Nat.le_refl _) (fun _ _ => rfl) rfl rfl rfl
  have U : Setup P rs cx ops late M items tr VAL (fun t => Tr.get (Pos.ofNat t) fr) g h h' w.drew ex fr tm := ⟨plan, h3, h4, hc, hf, fun t ht => h2 t (by simp) ht, fun _ => rfl, fun t ht => Nat.lt_of_lt_of_le (h6 t ht) hn⟩
  have hnone : ∀ i, ¬ has (Array.replicate ops.size false) i := fun i hh => by
    have := has_lt hh; simp at this; simp [has, Array.getD, this] at hh
  have I0 : InvE P rs cx ops late M items tr VAL (fun t => Tr.get (Pos.ofNat t) fr) g h h' w.drew tm (Array.replicate ops.size false) w.drew tm :=
    ⟨[], tr, h, g, ⟨rfl, h4, hwd.1, Adv.refl _ _ _, rfl, by simp, by simp, fun y _ _ => hnone _, fun i hi => absurd hi (hnone i), rfl, fun _ _ => rfl, fun y _ i o d _ _ _ hh => absurd hh (hnone i), fun y hy => absurd hy.2.2 (hnone _), fun y z hy => absurd hy.2.2 (hnone _)⟩, .inl rfl⟩
  obtain ⟨S, w1, tm1, ⟨l1, l2, hc1, g1, I, _⟩, hr, hgo⟩ := lin_run (P := P) (ops := ops) (InvE P rs cx ops late M items tr VAL (fun t => Tr.get (Pos.ofNat t) fr) g h h' w.drew tm) (fun S w tm i a b => InvE.step U S w tm i a b) ops.size (w.tape w.drawn (.order fid id))
    (Array.replicate ops.size false) w.drew tm (by unfold unl; exact Nat.le_trans List.countP_le_length (by simp)) I0
  have hall : ∀ i, i < ops.size → has S i := fun i hi => all_listed plan I.ssz hr i i (Nat.le_refl _) hi
  have hcl : ∀ e : Em, ∀ c, Em.cl P ops e = some c → has S e.ix := fun e c he => by
    obtain ⟨i, o, rfl, h1, _⟩ := cl_op he
    exact hall i (Array.getElem?_eq_some_iff.1 h1).1
  obtain ⟨hc2, I2⟩ := Inv.adopts U l2 l1 [] hc1 (by simpa using I) fun y hy => ⟨fun hc => I.inl2 y hy hc (hcl _ _ hc), fun hc => hcl _ _ hc⟩
  have hF : hc2 = h' := by cases I2.can; rfl
  subst hF
  refine ⟨g1, w1, tm1, [], ⟨I2.wr, hwd.2.trans I2.adv, fun t v hv => ?_, I2.size⟩, by simpa using I2.marks, fun _ => rfl, fun b k cs hb _ => ?_⟩
  · rw [h5 t] at hv
    split at hv
    · rename_i hh
      obtain ⟨j, o, j1, j2, j3⟩ := mem_writes.1 hh.2
      obtain ⟨y, y1, y2⟩ := U.evt (Array.getElem?_eq_some_iff.1 j2).1
      obtain ⟨o', c1, c2, _⟩ := h4.at y1
      rw [y2] at c1; simp only [Em.ix, j2, Option.some.injEq] at c1; subst c1
      have hvv := c2 t j3
      rw [hv] at hvv; cases hvv
      obtain ⟨v1, v2⟩ := I2.val y y1 j o t y2 j2 j3 (hall j (Array.getElem?_eq_some_iff.1 j2).1)
      refine ⟨hh.1, V.on_mono ?_ _ v2, v1⟩
      rintro b (hb | ⟨z, ⟨hz, _⟩, _⟩)
      · exact hb
      · simp at hz
    · rename_i hh
      obtain ⟨k1, k2, k3⟩ := hf t v hv
      have hnw : t ∉ writes ops items := fun hw => hh ⟨k1, hw⟩
      exact ⟨k1, V.bd_mono I2.adv.mono v k2, by rw [I2.unw t (fun j oj j1 j2 _ => hnw (mem_writes.2 ⟨j, oj, plan.all j (Array.getElem?_eq_some_iff.1 j1).1, j1, j2⟩)), k3, conc_ext I2.adv.ext v k2]⟩
  · have hmk : hc2.marks = h.marks := I2.marks
    rw [hmk, D_ext I2.adv.ext hw.marks]
    refine Steps.head m_region_draw ?_
    rw [hb]
    have hsch : Region.schedule (P.follows .mixedOrders) ops (w.tape w.drawn (.order fid id)) = Region.linearise.go .any ops ops.size (w.tape w.drawn (.order fid id)) (Array.replicate ops.size false) [] := by
      simp only [Region.schedule, hm, Bool.true_or, if_true]; rfl
    rw [hsch]
    exact Steps.trans (hgo b _ k cs) (.one m_region_end)

end
end Go.Proofs.YtdojpbbdcgfcnaaGreatDoor.AI
/- THE ABSTRACT INTERPRETER, 29: what is asked of the order of our own, as a question that the kernel answers. -/
namespace Go.Proofs.YtdojpbbdcgfcnaaGreatDoor.AI

section
variable (P : Program) (ops : Array Oper) (L : List Oper) (C : List Cls) (M : List Nat)

def clC : Em → Option Cls
  | .op i => C[i]?
  | .chk _ => none
def isX (e : Em) : Bool := match clC C e with | some .x => true | _ => false
def isA (e : Em) : Bool := match clC C e with | some .a => true | _ => false
def ancB (i j : Nat) : Bool := (M.getD i 0).testBit j
/-- the operation i reads in the slot t what stood at first: what is written there comes from one that is not before it -/
def lateL (i : Nat) (t : Tmp) : List Oper → Nat → Bool
  | [], _ => false
  | o :: l, j => (match o.dst with | some d => Nat.beq d t && !ancB M i j | none => false) || lateL i t l (j + 1)
def isOp (i : Nat) : Em → Bool
  | .op j => Nat.beq i j
  | .chk _ => false

def writesL : List Em → List Tmp
  | [] => []
  | .op i :: l => ((L[i]?).bind (·.dst)).toList ++ writesL l
  | .chk _ :: l => writesL l
def readsL (o : Oper) : List Tmp :=
  (o.op.operands.toList.filterMap fun | .tmp t => some t | _ => none) ++ (match o.guard with | some (j, _) => ((L[j]?).bind (·.dst)).toList | none => [])
def hasN (t : Nat) : List Nat → Bool
  | [] => false
  | u :: l => Nat.beq t u || hasN t l
def hasO (t : Nat) : List (Option Nat) → Bool
  | [] => false
  | some u :: l => Nat.beq t u || hasO t l
  | none :: l => hasO t l

def rdOk (i : Nat) (t : Tmp) (env : List (Option Tmp)) (ws : List Tmp) : Bool := if lateL M i t L 0 then !hasO t env else (hasO t env || !hasN t ws)
def knownB : List Em → List (Option Tmp) → Bool
  | [], _ => true
  | .op i :: l, env => match L[i]? with
    | some o => (match o.dst with | some d => !hasO d env | none => true) && (readsL L o).all (fun t => rdOk L M i t env (writesL L (.op i :: l))) && knownB l (o.dst :: env)
    | none => true
  | .chk i :: l, env => (match L[i]? with
    | some o => (match C[i]? with | some .r => true | _ => false) && (match o.dst with | some d => hasO d env | none => true) && (readsL L o).all (fun t => rdOk L M i t env (writesL L l))
    | none => true) && knownB l env

def splitsB (f : List Em → Em → List Em → Bool) : List Em → List Em → Bool
  | _, [] => true
  | pre, x :: l => f pre x l && splitsB f (x :: pre) l

def quietHas (i : Nat) : List Em → Bool
  | [] => false
  | e :: l => Nat.beq e.ix i || (!isX C e && !isA C e && quietHas i l)

def onceB (pre : List Em) (x : Em) (post : List Em) : Bool := match x with
  | .op i => !pre.any (isOp i) && !post.any (isOp i)
  | .chk _ => true
def heavyB (pre : List Em) (x : Em) (_ : List Em) : Bool := match x with
  | .op i => !isX C (.op i) || pre.all fun e => !(isX C e || isA C e) || ancB M i e.ix
  | .chk _ => true
def rowB (_ : List Em) (x : Em) (post : List Em) : Bool := match x with
  | .op i => !(isX C (.op i) || isA C (.op i)) || post.all fun e => !isA C e || !ancB M i e.ix
  | .chk _ => true
def readB (pre post : List Em) : List Cls → Nat → Bool
  | [], _ => true
  | c :: l, i => (match c with
    | .r => !(post.all (fun e => !isX C e || !ancB M i e.ix) && pre.all (fun e => !isX C e || !ancB M e.ix i)) || (quietHas C i post && post.all fun e => !isA C e || !ancB M i e.ix)
    | _ => true) && readB pre post l (i + 1)
def readsB (pre : List Em) (x : Em) (post : List Em) : Bool := !isX C x || readB C M (x :: pre) post C 0

def rdB1 (i : Nat) (t : Tmp) (lt : Bool) : List Oper → Nat → Bool
  | [], _ => true
  | o :: l, j => (match o.dst with | some d => !Nat.beq d t || (if lt then Nat.beq j i || ancB M j i else ancB M i j && Nat.beq (Nat.land (M.getD j 0) (M.getD i 0)) (M.getD j 0)) | none => true) && rdB1 i t lt l (j + 1)
def eachB (f : Nat → Oper → Bool) : List Oper → Nat → Bool
  | [], _ => true
  | o :: l, i => f i o && eachB f l (i + 1)

def lawB (n i : Nat) (o : Oper) : Bool := Nat.blt (M.getD i 0) (2 ^ n) && (List.range n).all fun j => !ancB M i j || o.after.toList.any fun e => Region.binds .any e && (Nat.beq e.on j || ancB M e.on j)
def acycB (i : Nat) (o : Oper) : Bool := o.after.toList.all fun e => !Region.binds .any e || Nat.blt e.on i
def deferB (_ : Nat) (o : Oper) : Bool := match o.op with | .defer _ => false | _ => true
def dstB (i : Nat) (o : Oper) : Bool := match o.dst with
  | none => true
  | some d => eachB (fun j o' => Nat.beq i j || (match o'.dst with | some d' => !Nat.beq d' d | none => true)) L 0
def clsB : List Oper → List Cls → Bool
  | [], [] => true
  | o :: l, c :: m => (match cls P o.op, c with | .p, .p | .a, .a | .r, .r | .x, .x => true | _, _ => false) && clsB l m
  | _, _ => false

def planB (items : List Em) : Bool :=
  clsB P L C && knownB L C M items [] && (List.range L.length).all (fun i => items.any (isOp i)) && splitsB onceB [] items && splitsB (heavyB C M) [] items && splitsB (rowB C M) [] items
    && readB C M [] items C 0 && splitsB (readsB C M) [] items
    && eachB (fun i o => (readsL L o).all fun t => rdB1 M i t (lateL M i t L 0) L 0) L 0 && eachB (lawB M L.length) L 0 && eachB acycB L 0 && eachB deferB L 0 && eachB (dstB L) L 0

end

section
variable {P : Program} {ops : Array Oper} {C : List Cls} {M : List Nat}

theorem hasN_iff {t : Nat} {l : List Nat} : hasN t l = true ↔ t ∈ l := by
  induction l with
  | nil => simp [hasN]
  | cons u l ih => simp [hasN, ih]
theorem hasO_iff {t : Nat} {l : List (Option Nat)} : hasO t l = true ↔ some t ∈ l := by
  induction l with
  | nil => simp [hasO]
  | cons u l ih => cases u <;> simp [hasO, ih]
theorem splitsB_ok {f : List Em → Em → List Em → Bool} : ∀ (l pre : List Em), splitsB f pre l = true → ∀ a x b, l = a ++ x :: b → f (a.reverse ++ pre) x b = true
  | [], _, _, a, x, b, h => by simp at h
  | y :: l, pre, hs, a, x, b, h => by
    simp only [splitsB, Bool.and_eq_true] at hs
    cases a with
    | nil => simp at h; obtain ⟨rfl, rfl⟩ := h; exact hs.1
    | cons z a =>
      simp at h
      obtain ⟨rfl, rfl⟩ := h
      have := splitsB_ok _ (y :: pre) hs.2 a x b rfl
      simpa using this
theorem eachB_ok {f : Nat → Oper → Bool} : ∀ (l : List Oper) (k : Nat), eachB f l k = true → ∀ i o, l[i]? = some o → f (k + i) o = true
  | [], _, _, i, o, h => by simp at h
  | y :: l, k, hs, i, o, h => by
    simp only [eachB, Bool.and_eq_true] at hs
    cases i with
    | zero => simp at h; subst h; exact hs.1
    | succ i =>
      have := eachB_ok l (k + 1) hs.2 i o (by simpa using h)
      rwa [Nat.add_right_comm, Nat.add_assoc] at this
theorem readB_ok {pre post : List Em} : ∀ (l : List Cls) (k : Nat), readB C M pre post l k = true → ∀ i, l[i]? = some .r →
    (post.all (fun e => !isX C e || !ancB M (k + i) e.ix) = true) → (pre.all (fun e => !isX C e || !ancB M e.ix (k + i)) = true) → quietHas C (k + i) post = true ∧ post.all (fun e => !isA C e || !ancB M (k + i) e.ix) = true
  | [], _, _, i, h => by simp at h
  | y :: l, k, hs, i, h => by
    simp only [readB, Bool.and_eq_true] at hs
    cases i with
    | zero =>
      simp at h; subst h
      intro h1 h2
      have := hs.1
      simp only [Nat.add_zero] at h1 h2 ⊢
      rw [h1, h2] at this
      simpa using this
    | succ i =>
      have := readB_ok l (k + 1) hs.2 i (by simpa using h)
      rwa [Nat.add_right_comm, Nat.add_assoc] at this
theorem quietHas_ok {i : Nat} : ∀ (l : List Em), quietHas C i l = true → ∃ c e d, l = c ++ e :: d ∧ e.ix = i ∧ ∀ y ∈ c, isX C y = false ∧ isA C y = false
  | [], h => by simp [quietHas] at h
  | e :: l, h => by
    simp only [quietHas, Bool.or_eq_true, Bool.and_eq_true, Bool.not_eq_true'] at h
    rcases h with h | ⟨⟨h1, h2⟩, h3⟩
    · exact ⟨[], e, l, rfl, Nat.eq_of_beq_eq_true h, by simp⟩
    · obtain ⟨c, e', d, k1, k2, k3⟩ := quietHas_ok l h3
      exact ⟨e :: c, e', d, by rw [k1]; rfl, k2, fun y hy => by
        rcases List.mem_cons.1 hy with rfl | hy
        · exact ⟨h1, h2⟩
        · exact k3 y hy⟩
theorem rdB1_ok {i : Nat} {t : Tmp} {lt : Bool} : ∀ (l : List Oper) (k : Nat), rdB1 M i t lt l k = true → ∀ j o, l[j]? = some o → o.dst = some t → (lt = false → ancB M i (k + j) = true ∧ ∀ b, ancB M (k + j) b = true → ancB M i b = true) ∧ (lt = true → k + j = i ∨ ancB M (k + j) i = true)
  | [], _, _, j, o, h => by simp at h
  | y :: l, k, hs, j, o, h => by
    simp only [rdB1, Bool.and_eq_true] at hs
    cases j with
    | zero =>
      simp at h; subst h
      intro hd
      have := hs.1
      rw [hd] at this
      simp only [Nat.beq_refl, Bool.not_true, Bool.false_or] at this
      cases lt with
      | true =>
        simp only [if_true, Bool.or_eq_true] at this
        refine ⟨(fun h => by cases h), fun _ => ?_⟩
        rcases this with h | h
        · exact .inl (Nat.eq_of_beq_eq_true h)
        · exact .inr h
      | false =>
      simp only [Bool.false_eq_true, if_false, Bool.and_eq_true] at this
      refine ⟨fun _ => ?_, (fun h => by cases h)⟩
      obtain ⟨h1, h2⟩ := this
      refine ⟨h1, fun b hb => ?_⟩
      unfold ancB at *
      have h3 := congrArg (fun n => n.testBit b) (show Nat.land (M.getD k 0) (M.getD i 0) = M.getD k 0 from Nat.eq_of_beq_eq_true h2)
      have h4 : ((M.getD k 0) &&& (M.getD i 0)).testBit b = (M.getD k 0).testBit b := h3
      rw [Nat.testBit_and] at h4
      simp only [Nat.add_zero] at hb
      rw [hb] at h4
      simpa using h4
    | succ j =>
      have := rdB1_ok l (k + 1) hs.2 j o (by simpa using h)
      rwa [Nat.add_right_comm, Nat.add_assoc] at this
theorem clsB_ok : ∀ (l : List Oper) (m : List Cls), clsB P l m = true → ∀ i : Nat, (l[i]?).map (fun o => cls P o.op) = m[i]?
  | [], [], _, i => by simp
  | [], _ :: _, h, _ => by simp [clsB] at h
  | _ :: _, [], h, _ => by simp [clsB] at h
  | o :: l, c :: m, h, i => by
    simp only [clsB, Bool.and_eq_true] at h
    cases i with
    | zero =>
      have h1 := h.1
      simp only [List.getElem?_cons_zero, Option.map_some, Option.some.injEq]
      revert h1
      cases cls P o.op <;> cases c <;> simp
    | succ i => simpa using clsB_ok l m h.2 i

theorem writesL_eq (l : List Em) : writesL ops.toList l = writes ops l := by
  induction l with
  | nil => rfl
  | cons e l ih => cases e <;> simp [writesL, writes, ih]
theorem readsL_eq (o : Oper) : readsL ops.toList o = reads ops o := by
  unfold readsL reads
  cases o.guard with
  | none => rfl
  | some g => simp only [Array.getElem?_toList]; rfl

theorem rdOk_ok {i : Nat} {t : Tmp} {L : List Oper} {env : List (Option Tmp)} {ws : List Tmp} (h : rdOk L M i t env ws = true) : (lateL M i t L 0 = false ∧ (some t ∈ env ∨ t ∉ ws)) ∨ (lateL M i t L 0 = true ∧ some t ∉ env) := by
  unfold rdOk at h
  cases hl : lateL M i t L 0 with
  | true =>
    rw [hl] at h
    simp only [if_true, Bool.not_eq_true'] at h
    exact .inr ⟨rfl, fun hm => by rw [hasO_iff.2 hm] at h; cases h⟩
  | false =>
    rw [hl] at h
    simp only [Bool.false_eq_true, if_false, Bool.or_eq_true, Bool.not_eq_true'] at h
    refine .inl ⟨rfl, ?_⟩
    rcases h with h | h
    · exact .inl (hasO_iff.1 h)
    · exact .inr fun hm => by rw [hasN_iff.2 hm] at h; cases h

theorem knownB_ok (hcl : ∀ i : Nat, (ops[i]?).map (fun o => cls P o.op) = C[i]?) : ∀ (l : List Em) (env : List (Option Tmp)), knownB ops.toList C M l env = true → Known P ops (fun i t => lateL M i t ops.toList 0) l env
  | [], _, _ => trivial
  | .op i :: l, env, h => by
    intro o ho
    simp only [knownB, Array.getElem?_toList, ho, Bool.and_eq_true, List.all_eq_true, readsL_eq, writesL_eq] at h
    obtain ⟨⟨h1, h2⟩, h3⟩ := h
    refine ⟨fun d hd hm => ?_, fun t ht => rdOk_ok (h2 t ht), knownB_ok hcl l _ h3⟩
    rw [hd] at h1
    simp only [Bool.not_eq_true'] at h1
    rw [hasO_iff.2 hm] at h1; cases h1
  | .chk i :: l, env, h => by
    simp only [knownB, Bool.and_eq_true] at h
    refine ⟨fun o ho => ?_, knownB_ok hcl l env h.2⟩
    have h1 := h.1
    simp only [Array.getElem?_toList, ho, Bool.and_eq_true, List.all_eq_true, readsL_eq, writesL_eq] at h1
    obtain ⟨⟨h1, h2⟩, h3⟩ := h1
    refine ⟨?_, fun d hd => ?_, fun t ht => rdOk_ok (h3 t ht)⟩
    · have := hcl i
      rw [ho] at this
      rw [← this] at h1
      simp only [Option.map_some] at h1
      revert h1
      cases cls P o.op <;> simp
    · rw [hd] at h2; exact hasO_iff.1 h2

theorem isX_iff (hcl : ∀ i : Nat, (ops[i]?).map (fun o => cls P o.op) = C[i]?) {e : Em} : isX C e = true ↔ Em.cl P ops e = some .x := by
  cases e with
  | op i =>
    simp only [isX, clC, Em.cl]
    rw [hcl i]
    cases C[i]? with
    | none => simp
    | some c => cases c <;> simp
  | chk i => simp [isX, clC, Em.cl]
theorem isA_iff (hcl : ∀ i : Nat, (ops[i]?).map (fun o => cls P o.op) = C[i]?) {e : Em} : isA C e = true ↔ Em.cl P ops e = some .a := by
  cases e with
  | op i =>
    simp only [isA, clC, Em.cl]
    rw [hcl i]
    cases C[i]? with
    | none => simp
    | some c => cases c <;> simp
  | chk i => simp [isA, clC, Em.cl]
theorem isOp_iff {i : Nat} {e : Em} : isOp i e = true ↔ e = .op i := by
  cases e with
  | op j => simp only [isOp, Em.op.injEq]; exact ⟨fun h => (Nat.eq_of_beq_eq_true h).symm, fun h => by rw [h]; exact Nat.beq_refl i⟩
  | chk j => simp [isOp]

theorem plan_of {items : List Em} (h : planB P ops.toList C M items = true) : Plan P ops (fun i t => lateL M i t ops.toList 0) (fun i => M.getD i 0) items := by
  simp only [planB, Bool.and_eq_true] at h
  obtain ⟨⟨⟨⟨⟨⟨⟨⟨⟨⟨⟨⟨h1, h2⟩, h3⟩, h4⟩, h5⟩, h6⟩, h7⟩, h8⟩, h9⟩, h10⟩, h11⟩, h12⟩, h13⟩ := h
  have hcl : ∀ i : Nat, (ops[i]?).map (fun o => cls P o.op) = C[i]? := fun i => by have := clsB_ok _ _ h1 i; simpa using this
  have hX : ∀ e, isX C e = true ↔ Em.cl P ops e = some .x := fun e => isX_iff hcl
  have hA : ∀ e, isA C e = true ↔ Em.cl P ops e = some .a := fun e => isA_iff hcl
  have each : ∀ {f : Nat → Oper → Bool}, eachB f ops.toList 0 = true → ∀ (i : Nat) (o : Oper), ops[i]? = some o → f i o = true := fun hf i o ho => by
    have := eachB_ok _ 0 hf i o (by simpa using ho); simpa using this
  refine ⟨knownB_ok hcl _ _ h2, fun i hi => ?_, fun pre i post hs => ?_, fun pre i post hs hx e he hc => ?_, fun pre i post hs hx e he hc => ?_, fun i o ho c hc => ?_, fun pre post hs hb i o ho hr ha hp => ?_, fun i o ho t ht j oj hj hd => ?_, fun i o ho j hj => ?_, fun i o ho e he hb => ?_, fun i j oi oj d hi hdi hj hdj => ?_⟩
  · rw [List.all_eq_true] at h3
    have := h3 i (by simpa using hi)
    rw [List.any_eq_true] at this
    obtain ⟨e, e1, e2⟩ := this
    rw [isOp_iff] at e2; rwa [e2] at e1
  · have := splitsB_ok _ _ h4 pre (.op i) post hs
    simp only [onceB, Bool.and_eq_true, Bool.not_eq_true', List.append_nil] at this
    refine ⟨fun hm => ?_, fun hm => ?_⟩
    · have h := List.any_eq_true.2 ⟨Em.op i, List.mem_reverse.2 hm, isOp_iff.2 rfl⟩
      rw [this.1] at h; cases h
    · have h := List.any_eq_true.2 ⟨Em.op i, hm, isOp_iff.2 rfl⟩
      rw [this.2] at h; cases h
  · have := splitsB_ok _ _ h5 pre (.op i) post hs
    simp only [heavyB, (hX _).2 hx, Bool.not_true, Bool.false_or, List.append_nil, List.all_eq_true, List.mem_reverse] at this
    have := this e he
    rcases hc with hc | hc
    · have h : ancB M i e.ix = true := by simpa [(hX _).2 hc] using this
      exact h
    · have h : ancB M i e.ix = true := by simpa [(hA _).2 hc] using this
      exact h
  · have := splitsB_ok _ _ h6 pre (.op i) post hs
    have hxx : (isX C (.op i) || isA C (.op i)) = true := by
      rcases hx with hx | hx
      · rw [(hX _).2 hx]; rfl
      · rw [(hA _).2 hx]; simp
    simp only [rowB, hxx, Bool.not_true, Bool.false_or, List.all_eq_true] at this
    have := this e he
    have h : ancB M i e.ix = false := by simpa [(hA _).2 hc] using this
    exact h
  · have := each h12 i o ho
    simp [deferB, hc] at this
  · have hCi : C[i]? = some .r := by rw [← hcl i, ho]; simp [hr]
    have key : ∀ pre', (∀ e, e ∈ pre' ↔ e ∈ pre) → readB C M pre' post C 0 = true → (∃ c e d, post = c ++ e :: d ∧ e.ix = i ∧ ∀ y ∈ c, Em.cl P ops y ≠ some .x ∧ Em.cl P ops y ≠ some .a) ∧ ∀ e ∈ post, Em.cl P ops e = some .a → anc (fun i => M.getD i 0) i e.ix = false := by
      intro pre' hpm hrb
      have := readB_ok _ 0 hrb i hCi (List.all_eq_true.2 fun e he => by
        cases hx : isX C e with
        | false => rfl
        | true =>
          have := ha e he ((hX e).1 hx)
          simp only [Nat.zero_add]
          show (false || !ancB M i e.ix) = true
          have h : ancB M i e.ix = false := this
          rw [h]; rfl) (List.all_eq_true.2 fun e he => by
        cases hx : isX C e with
        | false => rfl
        | true =>
          have := hp e ((hpm e).1 he) ((hX e).1 hx)
          simp only [Nat.zero_add]
          show (false || !ancB M e.ix i) = true
          have h : ancB M e.ix i = false := this
          rw [h]; rfl)
      simp only [Nat.zero_add] at this
      obtain ⟨q1, q2⟩ := this
      obtain ⟨c, e, d, k1, k2, k3⟩ := quietHas_ok _ q1
      refine ⟨⟨c, e, d, k1, k2, fun y hy => ⟨fun hh => ?_, fun hh => ?_⟩⟩, fun e he hc => ?_⟩
      · have := (k3 y hy).1; rw [(hX y).2 hh] at this; cases this
      · have := (k3 y hy).2; rw [(hA y).2 hh] at this; cases this
      · rw [List.all_eq_true] at q2
        have := q2 e he
        rw [(hA e).2 hc] at this
        simpa [anc, ancB] using this
    rcases hb with rfl | ⟨q, x, rfl, hx⟩
    · simp only [List.nil_append] at hs; subst hs
      exact key [] (by simp) h7
    · have := splitsB_ok _ _ h8 q x post (by rw [hs]; simp)
      simp only [readsB, (hX x).2 hx, Bool.not_true, Bool.false_or, List.append_nil] at this
      exact key _ (by simp [or_comm]) this
  · have := each h9 i o ho
    simp only [List.all_eq_true, readsL_eq] at this
    have := rdB1_ok _ 0 (this t ht) j oj (by simpa using hj) hd
    simp only [Nat.zero_add] at this
    exact this
  · have := each h10 i o ho
    simp only [lawB, Bool.and_eq_true, List.all_eq_true, Nat.blt_eq] at this
    obtain ⟨l1, l2⟩ := this
    have hjl : j < ops.toList.length := by
      rcases Nat.lt_or_ge j ops.toList.length with h | h
      · exact h
      · have hj' : (M.getD i 0).testBit j = true := hj
        rw [Nat.testBit_lt_two_pow (Nat.lt_of_lt_of_le l1 (Nat.pow_le_pow_right (by omega) h))] at hj'
        cases hj'
    have := l2 j (by simpa using hjl)
    have hj' : ancB M i j = true := hj
    rw [hj'] at this
    simp only [Bool.not_true, Bool.false_or, List.any_eq_true, Bool.and_eq_true, Bool.or_eq_true] at this
    obtain ⟨e, e1, e2, e3⟩ := this
    refine ⟨e, by simpa using e1, e2, ?_⟩
    rcases e3 with e3 | e3
    · exact .inl (Nat.eq_of_beq_eq_true e3)
    · exact .inr e3
  · have := each h11 i o ho
    simp only [acycB, List.all_eq_true] at this
    have := this e (by simpa using he)
    simpa [hb] using this
  · have := each h13 i oi hi
    simp only [dstB, hdi] at this
    have := each this j oj hj
    rw [hdj] at this
    simpa using this

end
end Go.Proofs.YtdojpbbdcgfcnaaGreatDoor.AI
/- THE ABSTRACT INTERPRETER, 30: tables of words, and what makes them those of a program. -/
namespace Go.Proofs.YtdojpbbdcgfcnaaGreatDoor.AI

/-! ### tables by number, searched as the kernel searches them -/
inductive BT (α : Type) where
  | leaf
  | node (l : BT α) (k : Nat) (v : α) (r : BT α)
section
variable {α : Type}
noncomputable def BT.get (n : Nat) (t : BT α) : Option α :=
  BT.rec none (fun _ k v _ a b => Bool.casesOn (Nat.ble k n) a (Bool.casesOn (Nat.beq k n) b (some v))) t
/-- Q holds of all that the table has -/
def BT.All (Q : Nat → α → Prop) : BT α → Prop
  | .leaf => True
  | .node l k v r => l.All Q ∧ Q k v ∧ r.All Q
theorem BT.all_leaf {Q : Nat → α → Prop} : (BT.leaf : BT α).All Q := trivial
theorem BT.all_node {Q : Nat → α → Prop} {l r : BT α} {k : Nat} {v : α} (a : l.All Q) (b : Q k v) (c : r.All Q) : (BT.node l k v r).All Q := ⟨a, b, c⟩
theorem BT.get_node (n k : Nat) (v : α) (l r : BT α) : (BT.node l k v r).get n = bif Nat.ble k n then (bif Nat.beq k n then some v else r.get n) else l.get n := by
  show (Bool.casesOn (Nat.ble k n) (l.get n) (Bool.casesOn (Nat.beq k n) (r.get n) (some v)) : Option α) = _
  cases Nat.ble k n <;> cases Nat.beq k n <;> rfl
theorem BT.all_get {Q : Nat → α → Prop} {n : Nat} {v : α} : ∀ (t : BT α), t.All Q → t.get n = some v → Q n v
  | .leaf, _, h => by cases h
  | .node l k u r, ha, h => by
    obtain ⟨h1, h2, h3⟩ := ha
    rw [BT.get_node] at h
    cases hb : Nat.ble k n with
    | false => rw [hb] at h; exact BT.all_get l h1 h
    | true =>
      rw [hb] at h
      cases he : Nat.beq k n with
      | false => rw [he] at h; exact BT.all_get r h3 h
      | true =>
        rw [he] at h
        have := Nat.eq_of_beq_eq_true he
        subst this
        cases h; exact h2
end

/-! ### what is asked of code -/
structure Hint where
  items : List Em
  C : List Cls
  M : List Nat
def ordOf (T : Nat → Option Hint) (id : Nat) : List Em := match T id with
  | some h => h.items
  | none => []
def codeB (P : Program) (T : Nat → Option Hint) : Code → Bool
  | .seq a b => codeB P T a && codeB P T b
  | .cond _ a b => codeB P T a && codeB P T b
  | .block _ b => codeB P T b
  | .loop b => codeB P T b
  | .scope b => codeB P T b
  | .region id ops true => match T id with
    | some h => planB P ops.toList h.C h.M h.items
    | none => false
  | _ => true
/-- the loops over functions in code, but for those in their rounds -/
def rngs (fid : Nat) : Code → List (Nat × Array Tmp × Code × Code)
  | .seq a b => rngs fid a ++ rngs fid b
  | .cond _ a b => rngs fid a ++ rngs fid b
  | .block _ b => rngs fid b
  | .loop b => rngs fid b
  | .scope b => rngs fid b
  | .rangeFunc f ps a b => [(ridOf fid f, ps, a, b)]
  | _ => []
/-- where the rounds come from -/
def rsOf (P : Program) (X : Nat → Nat → Bool) : Rnds := fun rid => (P.funcs[rid / 65536]?).bind fun fn => fn.body.bind fun c =>
  ((rngs (rid / 65536) c).find? fun x => Nat.beq x.1 rid).map fun x => ⟨rid / 65536, X (rid / 65536), fn.ntmps, x.2.1, x.2.2.1, x.2.2.2⟩
def apartB : List Nat → Bool
  | [] => true
  | a :: l => !hasN a l && apartB l
def fnB (P : Program) (f np : Nat) (fn : Func) (code : Code) (T : Nat → Option Hint) (X : Nat → Bool) : Bool :=
  codeB P T code && (rngs f code).all (fun x => Nat.beq (x.1 / 65536) f) && apartB ((rngs f code).map (·.1)) && !(fn.name == "runtime.NumGoroutine") && (List.range np).all X

section
variable {P : Program} {rs : Rnds} {cx : Cx} {n : Nat} {ex : Nat → Bool} {fid : Nat} {T : Nat → Option Hint}

theorem codeIn_of (hm : P.follows .mixedOrders = true) (hc : CallOk P rs P.globals.size cx.call) : ∀ (c : Code), codeB P T c = true →
    (∀ x ∈ rngs fid c, cx.round = false → rs x.1 = some ⟨fid, ex, n, x.2.1, x.2.2.1, x.2.2.2⟩) → CodeIn P rs cx n ex (ordOf T) fid c
  | .skip, _, _ => trivial
  | .label _, _, _ => trivial
  | .region id ops false, _, _ => trivial
  | .region id ops true, h, _ => by
    simp only [codeB] at h
    cases hT : T id with
    | none => rw [hT] at h; cases h
    | some x =>
      rw [hT] at h
      have : ordOf T id = x.items := by simp [ordOf, hT]
      show CodeOk P rs cx n ex fid (.region id ops true) (kReg (cItems P n ex ops (ordOf T id) []))
      rw [this]
      exact region_draw_ok hm hc (plan_of h)
  | .seq a b, h, hr => by
    simp only [codeB, Bool.and_eq_true] at h
    exact ⟨codeIn_of hm hc a h.1 fun x hx => hr x (List.mem_append_left _ hx), codeIn_of hm hc b h.2 fun x hx => hr x (List.mem_append_right _ hx)⟩
  | .cond c a b, h, hr => by
    simp only [codeB, Bool.and_eq_true] at h
    exact ⟨codeIn_of hm hc a h.1 fun x hx => hr x (List.mem_append_left _ hx), codeIn_of hm hc b h.2 fun x hx => hr x (List.mem_append_right _ hx)⟩
  | .block id b, h, hr => codeIn_of hm hc b h hr
  | .loop b, h, hr => codeIn_of hm hc b h hr
  | .scope b, h, hr => codeIn_of hm hc b h hr
  | .rangeFunc f ps a b, _, hr => fun hh => hr (ridOf fid f, ps, a, b) (by simp [rngs]) hh
  | .exit id, _, _ => trivial
  | .ret, _, _ => trivial
  | .goto _, _, _ => trivial
  | .refuse _, _, _ => trivial

theorem find_apart : ∀ (l : List (Nat × Array Tmp × Code × Code)), apartB (l.map (·.1)) = true → ∀ x ∈ l, l.find? (fun y => Nat.beq y.1 x.1) = some x
  | [], _, x, hx => by simp at hx
  | y :: l, h, x, hx => by
    simp only [List.map_cons, apartB, Bool.and_eq_true, Bool.not_eq_true'] at h
    rcases List.mem_cons.1 hx with rfl | hx
    · simp
    · have hne : Nat.beq y.1 x.1 = false := by
        cases hb : Nat.beq y.1 x.1 with
        | false => rfl
        | true =>
          have := Nat.eq_of_beq_eq_true hb
          have hm : hasN y.1 (l.map (·.1)) = true := hasN_iff.2 (List.mem_map.2 ⟨x, hx, this.symm⟩)
          rw [hm] at h; cases h.1
      rw [List.find?_cons_of_neg (by simp [hne])]
      exact find_apart l h.2 x hx

variable {X : Nat → Nat → Bool}

/-- A FUNCTION's WORD -/
theorem fnOk_of {f : Nat} {fk : FK} (fn : Func) (code : Code) (T : Nat → Option Hint) (hm : P.follows .mixedOrders = true) (hf : P.funcs[f]? = some fn) (hb : fn.body = some code)
    (hB : fnB P f fk.params.length fn code T (X f) = true) (hp : fk.params = (List.range fk.params.length).map Pos.ofNat) (hr : fn.results.toList.mapM (cRes P) = some fk.results)
    (hw : cCode P fn.ntmps (X f) (ordOf T) f code = fk.body) : FnOk P (rsOf P X) f fk := by
  simp only [fnB, Bool.and_eq_true, Bool.not_eq_true', List.all_eq_true] at hB
  obtain ⟨⟨⟨⟨h1, h2⟩, h3⟩, h4⟩, h5⟩ := hB
  refine ⟨fn, code, X f, fn.ntmps, hf, hb, h4, hp, fun t ht => h5 t (by simpa using ht), Nat.le_refl _, hr, fun call m hc => ?_⟩
  rw [← hw]
  refine code_ok hc code (codeIn_of hm hc code h1 fun x hx _ => ?_)
  have hq := Nat.eq_of_beq_eq_true (h2 x hx)
  simp only [rsOf, hq, hf, hb, Option.bind_some, find_apart _ h3 x hx, Option.map_some]

def rndB (P : Program) (r : Rnd) (T : Nat → Option Hint) : Bool := codeB P T r.assign && codeB P T r.body && r.params.toList.all fun t => r.ex t && Nat.blt t r.size
/-- A LOOP's ROUNDS' WORDS -/
theorem roundOk_of {rid : Nat} {x : List Pos × K × K} (r : Rnd) (T : Nat → Option Hint) (hm : P.follows .mixedOrders = true) (hr : rs rid = some r) (hB : rndB P r T = true) (hp : x.1 = r.params.toList.map Pos.ofNat)
    (ha : cCode P r.size r.ex (ordOf T) r.fn r.assign = x.2.1) (hb : cCode P r.size r.ex (ordOf T) r.fn r.body = x.2.2) : RoundOk P rs rid x := by
  simp only [rndB, Bool.and_eq_true, List.all_eq_true, Nat.blt_eq] at hB
  obtain ⟨⟨h1, h2⟩, h3⟩ := hB
  refine ⟨r, hr, hp, h3, fun call m hc => ?_, fun call m hc => ?_⟩
  · rw [← ha]; exact code_ok hc _ (codeIn_of hm hc _ h1 fun x hx h => by cases h)
  · rw [← hb]; exact code_ok hc _ (codeIn_of hm hc _ h2 fun x hx h => by cases h)

end
end Go.Proofs.YtdojpbbdcgfcnaaGreatDoor.AI
/- THE ABSTRACT INTERPRETER, 31: functions without a body: what the model's entries do. -/
namespace Go.Proofs.YtdojpbbdcgfcnaaGreatDoor.AI

/-- x + y + carry, and what is carried on -/
noncomputable def natAdd (l : List V) (h : H) : Option (V × H) :=
  match l with
  | [.int _ (.ofNat a), .int _ (.ofNat b), .int _ (.ofNat c)] => Bool.casesOn (Nat.ble c 1) none (natK ((a + b + c) % 18446744073709551616) fun x => natK ((a + b + c) / 18446744073709551616) fun y => some (.tup [.int .u64 (.ofNat x), .int .u64 (.ofNat y)], h))
  | _ => none
noncomputable def natSub (l : List V) (h : H) : Option (V × H) :=
  match l with
  | [.int _ (.ofNat a), .int _ (.ofNat b), .int _ (.ofNat c)] => Bool.casesOn (Nat.ble c 1) none (natK ((a + 18446744073709551616 - b - c) % 18446744073709551616) fun x => natK (Bool.casesOn (Nat.ble (b + c) a) 1 0) fun y => some (.tup [.int .u64 (.ofNat x), .int .u64 (.ofNat y)], h))
  | _ => none
noncomputable def natSame (l : List V) (h : H) : Option (V × H) :=
  match l with
  | [x] => some (x, h)
  | _ => none
noncomputable def natMake (ty : TypeId) (l : List V) (h : H) : Option (V × H) :=
  match l with
  | [.int .i64 (.ofNat n)] => Bool.casesOn (Nat.ble n 1073741824) none (repK n [.junk] fun cs => h.newK (.cells cs (.opn 1) ty) fun p h => some (.slc p 0 n (.rest 0), h))
  | _ => none

section
variable {P : Program} {rs : Rnds} {f : Nat} {fn : Func}

theorem bool_opt {α : Type} {b : Bool} {x : Option α} {r : α} (h : (Bool.casesOn b none x : Option α) = some r) : b = true ∧ x = some r := by
  cases b with
  | false => cases h
  | true => exact ⟨rfl, h⟩

theorem run_three (name : String) (k1 k2 k3 : IntKind) (a b c : Nat) (hc : ¬ (1 < c)) (w : World) : (Extern.MathBitsCarry.three name #[.int k1 (Int.ofNat a), .int k2 (Int.ofNat b), .int k3 (Int.ofNat c)]).run P w = .ok (a, b, c) w := by
  have hd : Extern.MathBitsCarry.three name #[.int k1 (Int.ofNat a), .int k2 (Int.ofNat b), .int k3 (Int.ofNat c)] = (do
        let c' := (← asInt (.int k3 (Int.ofNat c))).toNat
        if c' > 1 then unsupported (.noEntry ("extern/math/bits." ++ name ++ ": a carry that is neither 0 nor 1"))
        pure ((← asInt (.int k1 (Int.ofNat a))).toNat, (← asInt (.int k2 (Int.ofNat b))).toNat, c')) := rfl
  rw [hd]
  simp [asInt, asIntOf]
  omega
theorem conc_pair (g : G) (a b : Nat) : Extern.MathBitsCarry.pair a b = conc g (.tup [.int .u64 (.ofNat a), .int .u64 (.ofNat b)]) := rfl
theorem m64_eq : Extern.MathBitsCarry.m64 = 18446744073709551616 := rfl

theorem natAdd_ok (hf : P.funcs[f]? = some fn) (hname : (fn.name == "runtime.NumGoroutine") = false) (hb : fn.body.isNone = true) (hn : Extern.findNext fn = none)
    (he : Extern.find fn = some (fun args => do let (x, y, c) ← Extern.MathBitsCarry.three "Add64" args; pure (Extern.MathBitsCarry.pair ((x + y + c) % Extern.MathBitsCarry.m64) ((x + y + c) / Extern.MathBitsCarry.m64)))) : NatOk P rs f natAdd := by
  intro args h v h' hs g w hw ha
  unfold natAdd at hs
  split at hs
  · rename_i k1 a k2 b k3 c
    obtain ⟨h1, h2⟩ := bool_opt hs
    rw [natK_eq, natK_eq] at h2
    cases h2
    have hc : c ≤ 1 := Nat.le_of_ble_eq_true h1
    refine ⟨g, w, hw, Adv.refl _ _ _, by simp [V.on, ons], rfl, does_value ?_⟩
    rw [run_callFunc_extern hf hname hb hn he]
    have hc' : ¬ (1 < c) := by omega
    have hargs : (concs g [V.int k1 (Int.ofNat a), V.int k2 (Int.ofNat b), V.int k3 (Int.ofNat c)]).toArray = #[.int k1 (Int.ofNat a), .int k2 (Int.ofNat b), .int k3 (Int.ofNat c)] := rfl
    simp only [hargs, Sem.run_bind, run_three _ k1 k2 k3 a b c hc', Result.andThen_ok, Sem.run_pure, conc_pair g, m64_eq]
  · cases hs

theorem natSub_ok (hf : P.funcs[f]? = some fn) (hname : (fn.name == "runtime.NumGoroutine") = false) (hb : fn.body.isNone = true) (hn : Extern.findNext fn = none)
    (he : Extern.find fn = some (fun args => do let (x, y, b) ← Extern.MathBitsCarry.three "Sub64" args; pure (Extern.MathBitsCarry.pair ((x + Extern.MathBitsCarry.m64 - y - b) % Extern.MathBitsCarry.m64) (if x < y + b then 1 else 0)))) : NatOk P rs f natSub := by
  intro args h v h' hs g w hw ha
  unfold natSub at hs
  split at hs
  · rename_i k1 a k2 b k3 c
    obtain ⟨h1, h2⟩ := bool_opt hs
    rw [natK_eq, natK_eq] at h2
    cases h2
    have hc : c ≤ 1 := Nat.le_of_ble_eq_true h1
    refine ⟨g, w, hw, Adv.refl _ _ _, by simp [V.on, ons], rfl, does_value ?_⟩
    rw [run_callFunc_extern hf hname hb hn he]
    have hc' : ¬ (1 < c) := by omega
    have hbl : (Bool.casesOn (Nat.ble (b + c) a) 1 0 : Nat) = if a < b + c then 1 else 0 := by
      cases hx : Nat.ble (b + c) a with
      | true => have := Nat.le_of_ble_eq_true hx; rw [if_neg (by omega)]
      | false =>
        have : ¬ (b + c ≤ a) := fun hh => by rw [Nat.ble_eq_true_of_le hh] at hx; cases hx
        rw [if_pos (by omega)]
    rw [hbl]
    have hargs : (concs g [V.int k1 (Int.ofNat a), V.int k2 (Int.ofNat b), V.int k3 (Int.ofNat c)]).toArray = #[.int k1 (Int.ofNat a), .int k2 (Int.ofNat b), .int k3 (Int.ofNat c)] := rfl
    simp only [hargs, Sem.run_bind, run_three _ k1 k2 k3 a b c hc', Result.andThen_ok, Sem.run_pure, conc_pair g, m64_eq]
  · cases hs

theorem natSame_ok (hf : P.funcs[f]? = some fn) (hname : (fn.name == "runtime.NumGoroutine") = false) (hb : fn.body.isNone = true) (hn : Extern.findNext fn = none)
    (he : Extern.find fn = some Extern.AbiNoEscape.same) : NatOk P rs f natSame := by
  intro args h v h' hs g w hw ha
  unfold natSame at hs
  split at hs
  · rename_i x
    cases hs
    refine ⟨g, w, hw, Adv.refl _ _ _, by simpa [ons] using ha, rfl, does_value ?_⟩
    rw [run_callFunc_extern hf hname hb hn he]
    have hd : Extern.AbiNoEscape.same (concs g [v]).toArray = pure (conc g v) := by
      have : (concs g [v]).toArray = #[conc g v] := by simp [concs]
      rw [this]; rfl
    rw [hd]; simp
  · cases hs

theorem natMake_ok {sl ty : TypeId} (hf : P.funcs[f]? = some fn) (hname : (fn.name == "runtime.NumGoroutine") = false) (hb : fn.body.isNone = true) (hn : Extern.findNext fn = none)
    (he : Extern.find fn = some (Extern.BytealgMakeNoZero.makeNoZero fn.params fn.resultTypes)) (hr : fn.resultTypes = #[sl]) (ht : P.underlying sl = some (.slice ty)) : NatOk P rs f (natMake ty) := by
  intro args h v h' hs g w hw ha
  unfold natMake at hs
  split at hs
  · rename_i n
    obtain ⟨h1, h2⟩ := bool_opt hs
    have hn' : n ≤ 1073741824 := Nat.le_of_ble_eq_true h1
    rw [repK_eq, H.newK_eq] at h2
    cases h2
    obtain ⟨cs, r1, r2, _⟩ := Lib.run_makeNoZero (P := P) w fn.params sl ty ht n (by omega)
    have hlen : (repL n [V.junk]).length = n := by rw [repL_length]; simp
    have hjk : ∀ v ∈ repL n [V.junk], v = .junk := fun v hv => by
      have : ∀ m, v ∈ repL m [V.junk] → v = .junk := fun m => by
        induction m with
        | zero => intro h; simp [repL] at h
        | succ m ih =>
          intro h
          simp only [repL, List.mem_append, List.mem_singleton] at h
          rcases h with h | h
          · exact h
          · exact ih h
      exact this n hv
    obtain ⟨a1, a2⟩ := grown_ok (A := cs) (ty := ty) (sz := 1) (cap := cs.size) (fz := (0, 0)) (w' := w.drew.drew.alloc (.cells cs ty)) hw (l := repL n [V.junk])
      ((bds_iff _ _).2 fun v hv => by rw [hjk v hv]; simp [V.on]) (fun i v hv => by
        rw [hjk v (List.mem_of_getElem? hv)]
        have hi : i < n := by rw [← hlen]; exact (List.getElem?_eq_some_iff.1 hv).1
        simp [CellRel, V.isJunk]; omega) (by rw [hlen]; omega) (by omega) (by simp) rfl rfl rfl rfl
    refine ⟨_, _, a1, a2, by simp [V.on, below, H.next_new], rfl, does_value ?_⟩
    rw [run_callFunc_extern hf hname hb hn he, hr]
    have : (concs g [V.int .i64 (Int.ofNat n)]).toArray = #[.int .i64 n] := by simp [concs, conc]
    rw [this, r1]
    simp [conc]
  · cases hs

end
end Go.Proofs.YtdojpbbdcgfcnaaGreatDoor.AI
/- THE ABSTRACT INTERPRETER, 32: runs of the kernel, as what a function is known for. -/
namespace Go.Proofs.YtdojpbbdcgfcnaaGreatDoor.AI

mutual
/-- a value that names no block -/
def closed : Nat → V → Bool
  | 0, _ => false
  | n + 1, v => match v with
    | .ptr .. | .slc .. | .map _ | .yield _ | .odd _ => false
    | .fn _ a c => closeds n a && closeds n c
    | .ifc _ v => closed n v
    | .agg l => closeds n l
    | .tup l => closeds n l
    | _ => true
def closeds : Nat → List V → Bool
  | 0, _ => false
  | _ + 1, [] => true
  | n + 1, v :: l => closed n v && closeds n l
end
theorem closed_ok (p : Pos → Prop) : ∀ n, (∀ v, closed n v = true → v.on p) ∧ (∀ l, closeds n l = true → ons p l) := by
  intro n
  induction n with
  | zero => exact ⟨fun v h => by simp [closed] at h, fun l h => by simp [closeds] at h⟩
  | succ n ih =>
    refine ⟨fun v h => ?_, fun l h => ?_⟩
    · cases v with
      | fn f a c => simp only [closed, Bool.and_eq_true] at h; exact ⟨ih.2 _ h.1, ih.2 _ h.2⟩
      | ifc t u => simp only [closed] at h; show u.on p; exact ih.1 u h
      | agg l => simp only [closed] at h; show ons p l; exact ih.2 l h
      | tup l => simp only [closed] at h; show ons p l; exact ih.2 l h
      | ptr b o => simp [closed] at h
      | slc b o n c => simp [closed] at h
      | map b => simp [closed] at h
      | yield b => simp [closed] at h
      | odd b => simp [closed] at h
      | _ => trivial
    · cases l with
      | nil => trivial
      | cons v l => simp only [closeds, Bool.and_eq_true] at h; exact ⟨ih.1 _ h.1, ih.2 _ h.2⟩

/-- package-level tables, as they are laid -/
abbrev Need := List (Pos × List V)
def baseT : Need → Tr Blk
  | [] => .leaf
  | (p, l) :: r => Tr.set (some (.cells l .ro 0)) p (baseT r)
/-- the heap of which nothing is known but that there are n package-level variables, and these tables -/
def H.bare (n : Pos) (nd : Need) : H := ⟨n, baseT nd, []⟩
/-- a heap has these tables -/
noncomputable def hasK (h : H) (nd : Need) : Bool :=
  List.rec true (fun x _ ih => Prod.casesOn x fun p l => Bool.casesOn (Option.casesOn (Tr.get p h.t) false fun b => Blk.casesOn b (fun l' k _ => Bool.casesOn k.isRo false (eqDs 1000 l l')) (fun _ _ => false) (fun _ _ => false) (fun _ _ _ _ _ => false) false) false ih) nd
def needB : Need → Bool
  | [] => true
  | (_, l) :: r => closeds 1000 l && needB r

theorem bool_and {a b : Bool} (h : (Bool.casesOn a false b : Bool) = true) : a = true ∧ b = true := by cases a <;> simp_all

theorem baseT_get : ∀ {nd : Need} {b : Pos} {x : Blk}, Tr.get b (baseT nd) = some x → ∃ l, (b, l) ∈ nd ∧ x = .cells l .ro 0
  | [], b, x, h => by cases b <;> simp [baseT, Tr.get] at h
  | (p, l) :: r, b, x, h => by
    simp only [baseT] at h
    rw [Tr.get_set] at h
    split at h
    · rename_i e; subst e; cases h; exact ⟨l, by simp, rfl⟩
    · obtain ⟨l', h1, h2⟩ := baseT_get h
      exact ⟨l', List.mem_cons_of_mem _ h1, h2⟩
theorem hasK_ok {h : H} : ∀ {nd : Need}, hasK h nd = true → ∀ p l, (p, l) ∈ nd → ∃ ty, h.get p = some (.cells l .ro ty)
  | [], _, p, l, hm => by cases hm
  | (p0, l0) :: r, hh, p, l, hm => by
    obtain ⟨h1, h2⟩ := bool_and (b := hasK h r) hh
    rcases List.mem_cons.1 hm with he | hm
    · cases he
      cases hg : Tr.get p0 h.t with
      | none => rw [hg] at h1; cases h1
      | some b =>
        rw [hg] at h1
        cases b with
        | cells l' k ty =>
          obtain ⟨h3, h4⟩ := bool_and (a := k.isRo) (b := eqDs 1000 l0 l') h1
          have := (eqD_ok 1000).2 _ _ h4
          subst this
          cases k with
          | ro => exact ⟨ty, hg⟩
          | own => cases h3
          | opn s => cases h3
        | map es c => cases h1
        | siter s p => cases h1
        | loop a b c d e => cases h1
        | defs => cases h1
    · exact hasK_ok h2 p l hm
theorem needB_ok : ∀ {nd : Need}, needB nd = true → ∀ q l, (q, l) ∈ nd → closeds 1000 l = true
  | [], _, q, l, hm => by cases hm
  | (p0, l0) :: r, hh, q, l, hm => by
    simp only [needB, Bool.and_eq_true] at hh
    rcases List.mem_cons.1 hm with he | hm
    · cases he; exact hh.1
    · exact needB_ok hh.2 q l hm

section
variable {P : Program} {rs : Rnds} {p : Prg} {nd : Need}

theorem WR.bare {g : G} {h : H} {w : World} (hw : WR rs P.globals.size g h w) {n : Pos} (hn : n.toNat = P.globals.size) (hnd : hasK h nd = true) (hcl : needB nd = true) (hlt : ∀ p l, (p, l) ∈ nd → p.toNat < n.toNat) : WR rs P.globals.size g (H.bare n nd) w where
  blk b x hb := by
    obtain ⟨l, h1, rfl⟩ := baseT_get hb
    obtain ⟨ty, h2⟩ := hasK_ok hnd b l h1
    obtain ⟨h3, h4, c, el, fz, h5, h6, h7, h8, h9⟩ := hw.blk b _ h2
    exact ⟨hlt b l h1, h4, c, el, fz, h5, h6, (closed_ok _ 1000).2 _ (needB_ok hcl b l h1), fun hh => absurd rfl hh, trivial⟩
  inj b b' x x' hb _ hx := by
    obtain ⟨l, h1, rfl⟩ := baseT_get hb
    cases hx
  glob := ⟨by show _ ≤ n.toNat; omega, hw.glob.2⟩
  marks m hm := by cases hm

/-- the tables are package-level variables -/
def needLt (n : Pos) : Need → Bool
  | [] => true
  | (p, _) :: r => Nat.blt p.toNat n.toNat && needLt n r
theorem needLt_ok {n : Pos} : ∀ {nd : Need}, needLt n nd = true → ∀ q l, (q, l) ∈ nd → q.toNat < n.toNat
  | [], _, q, l, hm => by cases hm
  | (p0, l0) :: r, hh, q, l, hm => by
    simp only [needLt, Bool.and_eq_true, Nat.blt_eq] at hh
    rcases List.mem_cons.1 hm with he | hm
    · cases he; exact hh.1
    · exact needLt_ok hh.2 q l hm

/-- what a run of the kernel tells of a function: its arguments and its value name no block -/
theorem run_ok (hp : PrgOk P rs p) {n : Pos} (hn : n.toNat = P.globals.size) {m k f : Nat} {args : List V} {v : V} {h1 : H} (ha : closeds 1000 args = true) (hv : closed 1000 v = true) (hcl : needB nd = true) (hlt : needLt n nd = true)
    (hr : goK p (callK p m) k f args (H.bare n nd) = some (v, h1)) {g : G} {h : H} {w : World} (hw : WR rs P.globals.size g h w) (hnd : hasK h nd = true) :
    OpOk rs P.globals.size P g h w (callFunc f (concs g args).toArray) v h := by
  obtain ⟨g', w', a1, a2, a3, a4, a5⟩ := go_ok hp (call_ok hp m) hr (hw.bare hn hnd hcl (needLt_ok hlt)) ((closed_ok _ 1000).2 _ ha)
  obtain ⟨b1, b2⟩ := hw.world a2.size (fun k hk => a2.keep k hk fun b x hb hx => by
    obtain ⟨l, h1, rfl⟩ := baseT_get hb
    cases hx) a2.os a2.tape a2.output
  refine ⟨g, w', b1, b2, (closed_ok _ 1000).1 _ hv, rfl, ?_⟩
  have : conc g' v = conc g v := conc_same (p := fun _ => False) (fun _ hb => hb.elim) v ((closed_ok _ 1000).1 _ hv)
  rwa [this] at a5

/-! ### a table of runs -/
mutual
def keyV : Nat → V → Nat → Nat
  | 0, _, a => a
  | n + 1, v, a => match v with
    | .int _ i => Int.casesOn i (fun m => Nat.add (Nat.mul a 37) m) (fun m => Nat.add (Nat.mul a 41) (Nat.add m 7))
    | .bool b => Bool.casesOn b (Nat.mul a 3) (Nat.add (Nat.mul a 3) 1)
    | .agg l => keyVs n l a
    | .str s => Nat.add (Nat.mul a 43) s.length
    | _ => a
def keyVs : Nat → List V → Nat → Nat
  | 0, _, a => a
  | _ + 1, [], a => a
  | n + 1, v :: l, a => keyVs n l (keyV n v a)
end
abbrev Runs := BT (List (List V × V))
noncomputable def pickK (args : List V) (h : H) (l : List (List V × V)) : Option (V × H) :=
  List.rec none (fun x _ ih => Prod.casesOn x fun a v => Bool.casesOn (eqDs 1000 a args) ih (some (v, h))) l
noncomputable def natRuns (nd : Need) (t : Runs) (args : List V) (h : H) : Option (V × H) := Bool.casesOn (hasK h nd) none (Option.casesOn (t.get (keyVs 1000 args 1)) none (pickK args h))

noncomputable def runB (p : Prg) (m k : Nat) (n : Pos) (nd : Need) (f : Nat) (x : List V × V) : Bool :=
  Bool.casesOn (closeds 1000 x.1) false (Bool.casesOn (closed 1000 x.2) false (Option.casesOn (goK p (callK p m) k f x.1 (H.bare n nd)) false fun r => Prod.casesOn r fun v _ => eqD 1000 v x.2))
noncomputable def runsL (p : Prg) (m k : Nat) (n : Pos) (nd : Need) (f : Nat) (l : List (List V × V)) : Bool := List.rec true (fun x _ ih => Bool.casesOn (runB p m k n nd f x) false ih) l
noncomputable def runsB (p : Prg) (m k : Nat) (n : Pos) (nd : Need) (f : Nat) (t : Runs) : Bool := BT.rec true (fun _ _ l _ a b => Bool.casesOn a false (Bool.casesOn (runsL p m k n nd f l) false b)) t

noncomputable def natConst (nd : Need) (v : V) (args : List V) (h : H) : Option (V × H) := Bool.casesOn (hasK h nd) none (List.casesOn args (some (v, h)) fun _ _ => none)
theorem runB_ok (hp : PrgOk P rs p) {n : Pos} (hn : n.toNat = P.globals.size) {m k f : Nat} {x : List V × V} (hcl : needB nd = true) (hlt : needLt n nd = true) (h : runB p m k n nd f x = true) {g : G} {h0 : H} {w : World} (hw : WR rs P.globals.size g h0 w) (hnd : hasK h0 nd = true) :
    OpOk rs P.globals.size P g h0 w (callFunc f (concs g x.1).toArray) x.2 h0 := by
  obtain ⟨h1, h⟩ := bool_and h
  obtain ⟨h2, h⟩ := bool_and h
  cases hr : goK p (callK p m) k f x.1 (H.bare n nd) with
  | none => rw [hr] at h; cases h
  | some r =>
    rw [hr] at h
    obtain ⟨v, h3⟩ := r
    have := (eqD_ok 1000).1 v x.2 h
    subst this
    exact run_ok hp hn h1 h2 hcl hlt hr hw hnd
theorem runsL_ok {m k f : Nat} {n : Pos} : ∀ {l : List (List V × V)}, runsL p m k n nd f l = true → ∀ x ∈ l, runB p m k n nd f x = true
  | [], _, x, hx => by cases hx
  | y :: l, h, x, hx => by
    obtain ⟨h1, h2⟩ := bool_and (a := runB p m k n nd f y) (b := runsL p m k n nd f l) h
    rcases List.mem_cons.1 hx with rfl | hx
    · exact h1
    · exact runsL_ok h2 x hx
theorem runsB_ok {m k f : Nat} {n : Pos} : ∀ {t : Runs}, runsB p m k n nd f t = true → t.All fun _ l => ∀ x ∈ l, runB p m k n nd f x = true
  | .leaf, _ => trivial
  | .node l i y r, h => by
    obtain ⟨h1, h2⟩ := bool_and (a := runsB p m k n nd f l) h
    obtain ⟨h3, h4⟩ := bool_and (a := runsL p m k n nd f y) (b := runsB p m k n nd f r) h2
    exact ⟨runsB_ok h1, runsL_ok h3, runsB_ok h4⟩

/-- A TABLE OF RUNS -/
theorem natRuns_ok (hp : PrgOk P rs p) {n : Pos} (hn : n.toNat = P.globals.size) {m k f : Nat} {t : Runs} (hcl : needB nd = true) (hlt : needLt n nd = true) (h : runsB p m k n nd f t = true) : NatOk P rs f (natRuns nd t) := by
  intro args h0 v h' hs g w hw _
  have hs0 : (Bool.casesOn (hasK h0 nd) none (Option.casesOn (t.get (keyVs 1000 args 1)) none (pickK args h0)) : Option (V × H)) = some (v, h') := hs
  obtain ⟨hnd, hs⟩ := bool_opt hs0
  cases ht : t.get (keyVs 1000 args 1) with
  | none => rw [ht] at hs; cases hs
  | some l =>
    rw [ht] at hs
    have hall := BT.all_get t (runsB_ok h) ht
    have key : ∀ l : List (List V × V), (∀ x ∈ l, runB p m k n nd f x = true) → pickK args h0 l = some (v, h') → OpOk rs P.globals.size P g h0 w (callFunc f (concs g args).toArray) v h' := by
      intro l
      induction l with
      | nil => intro _ hs; cases hs
      | cons x l ih =>
        intro hl hs
        have hs' : (Bool.casesOn (eqDs 1000 x.1 args) (pickK args h0 l) (some (x.2, h0)) : Option (V × H)) = some (v, h') := hs
        cases he : eqDs 1000 x.1 args with
        | false => rw [he] at hs'; exact ih (fun y hy => hl y (List.mem_cons_of_mem _ hy)) hs'
        | true =>
          rw [he] at hs'
          cases hs'
          have := (eqD_ok 1000).2 _ _ he
          subst this
          exact runB_ok hp hn hcl hlt (hl x (by simp)) hw hnd
    exact key l hall hs

/-- a function without arguments, run once -/
theorem natConst_ok (hp : PrgOk P rs p) {n : Pos} (hn : n.toNat = P.globals.size) {m k f : Nat} {v : V} (hcl : needB nd = true) (hlt : needLt n nd = true) (h : runB p m k n nd f ([], v) = true) : NatOk P rs f (natConst nd v) := by
  intro args h0 u h' hs g w hw _
  have hs0 : (Bool.casesOn (hasK h0 nd) none (List.casesOn args (some (v, h0)) fun _ _ => none) : Option (V × H)) = some (u, h') := hs
  obtain ⟨hnd, hs⟩ := bool_opt hs0
  cases args with
  | nil => cases hs; exact runB_ok hp hn hcl hlt h hw hnd
  | cons a l => cases hs

end
end Go.Proofs.YtdojpbbdcgfcnaaGreatDoor.AI
/- THE ABSTRACT INTERPRETER, 33: runs of the kernel that make rows of cells. -/
namespace Go.Proofs.YtdojpbbdcgfcnaaGreatDoor.AI

def nthP : List Pos → Nat → Pos
  | [], _ => .h
  | p :: _, 0 => p
  | _ :: l, n + 1 => nthP l n
mutual
/-- a value of a template: its blocks by number -/
def renV : Nat → List Pos → V → V
  | 0, _, _ => .junk
  | n + 1, qs, v => match v with
    | .ptr b o => .ptr (nthP qs b.toNat) o
    | .slc b o l c => .slc (nthP qs b.toNat) o l c
    | .map b => .map (nthP qs b.toNat)
    | .yield b => .yield (nthP qs b.toNat)
    | .odd b => .odd (nthP qs b.toNat)
    | .fn f a c => .fn f (renVs n qs a) (renVs n qs c)
    | .ifc t v => .ifc t (renV n qs v)
    | .agg l => .agg (renVs n qs l)
    | .tup l => .tup (renVs n qs l)
    | v => v
def renVs : Nat → List Pos → List V → List V
  | 0, _, _ => []
  | _ + 1, _, [] => []
  | n + 1, qs, v :: l => renV n qs v :: renVs n qs l
end
mutual
/-- its blocks are below r -/
def inV : Nat → Nat → V → Bool
  | 0, _, _ => true
  | n + 1, r, v => match v with
    | .ptr b _ | .slc b _ _ _ | .map b | .yield b | .odd b => Nat.blt b.toNat r
    | .fn _ a c => inVs n r a && inVs n r c
    | .ifc _ v => inV n r v
    | .agg l => inVs n r l
    | .tup l => inVs n r l
    | _ => true
def inVs : Nat → Nat → List V → Bool
  | 0, _, _ => true
  | _ + 1, _, [] => true
  | n + 1, r, v :: l => inV n r v && inVs n r l
end

theorem ren_ok {g1 g2 : G} {ps qs : List Pos} {r : Nat} {p : Pos → Prop} (hg : ∀ i, i < r → g2.blk (nthP qs i) = g1.blk (nthP ps i) ∧ g2.off (nthP qs i) = g1.off (nthP ps i) ∧ g2.cap (nthP qs i) = g1.cap (nthP ps i) ∧ p (nthP qs i)) :
    ∀ n, (∀ v, inV n r v = true → conc g2 (renV n qs v) = conc g1 (renV n ps v) ∧ (renV n qs v).isJunk = (renV n ps v).isJunk ∧ (renV n qs v).on p) ∧
      (∀ l, inVs n r l = true → concs g2 (renVs n qs l) = concs g1 (renVs n ps l) ∧ (renVs n qs l).length = (renVs n ps l).length ∧ ons p (renVs n qs l) ∧ ∀ (i : Nat) (u : V), (renVs n qs l)[i]? = some u → ∃ u' : V, (renVs n ps l)[i]? = some u' ∧ u.isJunk = u'.isJunk ∧ conc g2 u = conc g1 u') := by
  intro n
  induction n with
  | zero => exact ⟨fun v _ => ⟨by simp [renV, conc], rfl, by simp [renV, V.on]⟩, fun l _ => ⟨by simp [renVs, concs], rfl, by simp [renVs, ons], fun i u hu => by simp [renVs] at hu⟩⟩
  | succ n ih =>
    refine ⟨fun v hv => ?_, fun l hl => ?_⟩
    · cases v with
      | ptr b o => simp only [inV, Nat.blt_eq] at hv; obtain ⟨h1, h2, _, h3⟩ := hg _ hv; exact ⟨by simp only [renV, conc, h1, h2], rfl, h3⟩
      | slc b o m c => simp only [inV, Nat.blt_eq] at hv; obtain ⟨h1, h2, h4, h3⟩ := hg _ hv; exact ⟨by cases c <;> simp only [renV, conc, h1, h2, h4], rfl, h3⟩
      | map b => simp only [inV, Nat.blt_eq] at hv; obtain ⟨h1, h2, _, h3⟩ := hg _ hv; exact ⟨by simp only [renV, conc, h1], rfl, h3⟩
      | yield b => simp only [inV, Nat.blt_eq] at hv; obtain ⟨h1, h2, _, h3⟩ := hg _ hv; exact ⟨by simp only [renV, conc, h1], rfl, h3⟩
      | odd b => simp only [inV, Nat.blt_eq] at hv; obtain ⟨h1, h2, h4, h3⟩ := hg _ hv; exact ⟨by simp only [renV, conc, h1, h2, h4], rfl, h3⟩
      | fn f a c => simp only [inV, Bool.and_eq_true] at hv; obtain ⟨a1, a2, a3, _⟩ := ih.2 a hv.1; obtain ⟨c1, c2, c3, _⟩ := ih.2 c hv.2; exact ⟨by simp only [renV, conc, a1, c1], rfl, a3, c3⟩
      | ifc t u => simp only [inV] at hv; obtain ⟨a1, a2, a3⟩ := ih.1 u hv; exact ⟨by simp only [renV, conc, a1], rfl, a3⟩
      | agg l => simp only [inV] at hv; obtain ⟨a1, a2, a3, _⟩ := ih.2 l hv; exact ⟨by simp only [renV, conc, a1], rfl, a3⟩
      | tup l => simp only [inV] at hv; obtain ⟨a1, a2, a3, _⟩ := ih.2 l hv; exact ⟨by simp only [renV, conc, a1], rfl, a3⟩
      | _ => exact ⟨by simp [renV, conc], rfl, by simp [renV, V.on]⟩
    · cases l with
      | nil => exact ⟨by simp [renVs, concs], rfl, by simp [renVs, ons], fun i u hu => by simp [renVs] at hu⟩
      | cons v l =>
        simp only [inVs, Bool.and_eq_true] at hl
        obtain ⟨a1, a2, a3⟩ := ih.1 v hl.1
        obtain ⟨b1, b2, b3, b4⟩ := ih.2 l hl.2
        refine ⟨by simp only [renVs, concs, a1, b1], by simp only [renVs, List.length_cons, b2], ⟨a3, b3⟩, fun i u hu => ?_⟩
        simp only [renVs] at hu ⊢
        cases i with
        | zero => simp at hu; subst hu; exact ⟨_, by simp, a2, a1⟩
        | succ i => exact b4 i u (by simpa using hu)

/-- the next places -/
def fresh : Nat → Pos → List Pos
  | 0, _ => []
  | n + 1, p => p :: fresh n p.succ
abbrev Rows := List (List V × Kind × TypeId)
/-- rows are laid at their places -/
def lay (ps : List Pos) : List Pos → Rows → Tr Blk → Tr Blk
  | q :: qs, (l, k, ty) :: r, t => lay ps qs r (Tr.set (some (.cells (renVs 1000 ps l) k ty)) q t)
  | _, _, t => t
def ups : Nat → Pos → Pos
  | 0, p => p
  | n + 1, p => ups n p.succ
def layH (r : Rows) (h : H) : H := ⟨ups r.length h.next, lay (fresh r.length h.next) (fresh r.length h.next) r h.t, h.marks⟩

theorem ups_toNat : ∀ n p, (ups n p).toNat = p.toNat + n
  | 0, p => rfl
  | n + 1, p => by rw [ups, ups_toNat n, Pos.toNat_succ]; omega
theorem nth_fresh : ∀ (n : Nat) (p : Pos) (i : Nat), i < n → (nthP (fresh n p) i).toNat = p.toNat + i
  | 0, _, _, h => by omega
  | n + 1, p, 0, _ => rfl
  | n + 1, p, i + 1, h => by rw [fresh, nthP, nth_fresh n p.succ i (by omega), Pos.toNat_succ]; omega
theorem get_lay (ps : List Pos) : ∀ (n : Nat) (q : Pos) (r : Rows) (t : Tr Blk) (b : Pos) (x : Blk), r.length = n → Tr.get b (lay ps (fresh n q) r t) = some x →
    (Tr.get b t = some x ∧ (b.toNat < q.toNat ∨ q.toNat + n ≤ b.toNat)) ∨ ∃ (i : Nat) (l : List V) (k : Kind) (ty : TypeId), i < n ∧ b.toNat = q.toNat + i ∧ r[i]? = some (l, k, ty) ∧ x = .cells (renVs 1000 ps l) k ty
  | 0, q, [], t, b, x, _, h => by
    simp only [fresh, lay] at h
    refine .inl ⟨h, ?_⟩
    omega
  | n + 1, q, (l, k, ty) :: r, t, b, x, hr, h => by
    simp only [fresh, lay] at h
    rcases get_lay ps n q.succ r _ b x (by simpa using hr) h with ⟨h1, h2⟩ | ⟨i, l', k', ty', h1, h2, h3, h4⟩
    · rw [Tr.get_set] at h1
      split at h1
      · rename_i e; subst e; cases h1
        exact .inr ⟨0, l, k, ty, by omega, by omega, rfl, rfl⟩
      · rename_i e
        rw [Pos.toNat_succ] at h2
        refine .inl ⟨h1, ?_⟩
        have : b.toNat ≠ q.toNat := fun hh => e (Pos.toNat_inj hh)
        omega
    · rw [Pos.toNat_succ] at h2
      exact .inr ⟨i + 1, l', k', ty', by omega, by omega, by simpa using h3, h4⟩

/-- what the kernel checks of a run -/
def kindB : Kind → Kind → Bool
  | .own, .own => true
  | .opn a, .opn b => Nat.beq a b
  | _, _ => false
noncomputable def rowsB (ps : List Pos) (h : H) : List Pos → Rows → Bool
  | [], [] => true
  | p :: qs, (l, k, ty) :: r => Bool.casesOn (Option.casesOn (Tr.get p h.t) false fun b => Blk.casesOn b (fun l' k' ty' => Bool.casesOn (kindB k k') false (Bool.casesOn (Nat.beq ty ty') false (eqDs 1000 (renVs 1000 ps l) l'))) (fun _ _ => false) (fun _ _ => false) (fun _ _ _ _ _ => false) false) false (rowsB ps h qs r)
  | _, _ => false
def inRows (r : Nat) : Rows → Bool
  | [] => true
  | x :: l => inVs 1000 r x.1 && inRows r l
def awayP (p : Pos) : List Pos → Bool
  | [] => true
  | q :: l => !Nat.beq p.toNat q.toNat && awayP p l
def apartP : List Pos → Bool
  | [] => true
  | p :: l => awayP p l && apartP l
theorem rowsB_ok {ps : List Pos} {h : H} : ∀ {qs : List Pos} {r : Rows}, rowsB ps h qs r = true → qs.length = r.length ∧ ∀ (i : Nat) (l : List V) (k : Kind) (ty : TypeId), r[i]? = some (l, k, ty) → h.get (nthP qs i) = some (.cells (renVs 1000 ps l) k ty) ∧ k ≠ .ro
  | [], [], _ => ⟨rfl, fun i l k ty hh => by simp at hh⟩
  | [], _ :: _, h => by simp [rowsB] at h
  | _ :: _, [], h => by simp [rowsB] at h
  | p :: qs, (l, k, ty) :: r, hh => by
    simp only [rowsB] at hh
    obtain ⟨h1, h2⟩ := bool_and hh
    obtain ⟨k1, k2⟩ := rowsB_ok h2
    refine ⟨by simp [k1], fun i l' k' ty' hi => ?_⟩
    cases i with
    | succ i => exact k2 i l' k' ty' (by simpa using hi)
    | zero =>
      simp at hi
      obtain ⟨rfl, rfl, rfl⟩ := hi
      show Tr.get p h.t = _ ∧ _
      cases hg : Tr.get p h.t with
      | none => rw [hg] at h1; cases h1
      | some b =>
        rw [hg] at h1
        cases b with
        | cells l2 k2 ty2 =>
          obtain ⟨h3, h4⟩ := bool_and (a := kindB k k2) h1
          obtain ⟨h5, h6⟩ := bool_and (a := Nat.beq ty ty2) (b := eqDs 1000 (renVs 1000 ps l) l2) h4
          have e1 := (eqD_ok 1000).2 _ _ h6
          have e2 := Nat.eq_of_beq_eq_true h5
          subst e1; subst e2
          have e3 : k = k2 ∧ k ≠ .ro := by
            cases k <;> cases k2 <;> simp [kindB] at h3 <;> simp_all
          rw [← e3.1]
          exact ⟨rfl, e3.2⟩
        | map es c => cases h1
        | siter s p => cases h1
        | loop a b c d e => cases h1
        | defs => cases h1
theorem awayP_ok {p : Pos} : ∀ {l : List Pos}, awayP p l = true → ∀ i, i < l.length → nthP l i ≠ p
  | [], _, i, hi => by simp at hi
  | q :: l, h, 0, _ => by
    simp only [awayP, Bool.and_eq_true, Bool.not_eq_true'] at h
    intro e
    have e' : q = p := e
    subst e'
    rw [Nat.beq_refl] at h; cases h.1
  | q :: l, h, i + 1, hi => by
    simp only [awayP, Bool.and_eq_true] at h
    exact awayP_ok h.2 i (by simpa using hi)
theorem apartP_ok : ∀ {l : List Pos}, apartP l = true → ∀ i j, i < l.length → j < l.length → nthP l i = nthP l j → i = j
  | [], _, i, j, hi, _, _ => by simp at hi
  | p :: l, h, 0, 0, _, _, _ => rfl
  | p :: l, h, 0, j + 1, _, hj, e => by simp only [apartP, Bool.and_eq_true] at h; exact absurd e.symm (awayP_ok h.1 j (by simpa using hj))
  | p :: l, h, i + 1, 0, hi, _, e => by simp only [apartP, Bool.and_eq_true] at h; exact absurd e (awayP_ok h.1 i (by simpa using hi))
  | p :: l, h, i + 1, j + 1, hi, hj, e => by simp only [apartP, Bool.and_eq_true] at h; rw [apartP_ok h.2 i j (by simpa using hi) (by simpa using hj) e]
theorem inRows_ok {r : Nat} : ∀ {l : Rows}, inRows r l = true → ∀ (i : Nat) (c : List V) (k : Kind) (ty : TypeId), l[i]? = some (c, k, ty) → inVs 1000 r c = true
  | [], _, i, c, k, ty, hi => by simp at hi
  | x :: l, h, i, c, k, ty, hi => by
    simp only [inRows, Bool.and_eq_true] at h
    cases i with
    | zero => simp at hi; subst hi; exact h.1
    | succ i => exact inRows_ok h.2 i c k ty (by simpa using hi)

section
variable {P : Program} {rs : Rnds} {p : Prg} {nd : Need}

/-- what a run of the kernel tells of a function that makes rows -/
theorem makes_ok (hp : PrgOk P rs p) {n : Pos} (hn : n.toNat = P.globals.size) {m k f : Nat} {args : List V} {v v1 : V} {r : Rows} {ps : List Pos} {h1 : H} (ha : closeds 1000 args = true) (hcl : needB nd = true) (hlt : needLt n nd = true)
    (hr : goK p (callK p m) k f args (H.bare n nd) = some (v1, h1)) (hv : eqD 1000 (renV 1000 ps v) v1 = true) (hrows : rowsB ps h1 ps r = true) (hap : apartP ps = true) (hiv : inV 1000 r.length v = true) (hir : inRows r.length r = true)
    {g : G} {h : H} {w : World} (hw : WR rs P.globals.size g h w) (hnd : hasK h nd = true) :
    OpOk rs P.globals.size P g h w (callFunc f (concs g args).toArray) (renV 1000 (fresh r.length h.next) v) (layH r h) := by
  obtain ⟨g1, w1, a1, a2, a3, a4, a5⟩ := go_ok hp (call_ok hp m) hr (hw.bare hn hnd hcl (needLt_ok hlt)) ((closed_ok _ 1000).2 _ ha)
  obtain ⟨b1, b2⟩ := hw.world a2.size (fun k hk => a2.keep k hk fun b x hb hx => by
    obtain ⟨l, h1, rfl⟩ := baseT_get hb
    cases hx) a2.os a2.tape a2.output
  have hv1 := (eqD_ok 1000).1 _ _ hv
  subst hv1
  obtain ⟨hpl, hrw⟩ := rowsB_ok hrows
  have hN : h.next.toNat ≤ (layH r h).next.toNat := by show _ ≤ (ups _ _).toNat; rw [ups_toNat]; omega
  -- the reading
  let g2 : G := ⟨fun b => if b.toNat < h.next.toNat then g.blk b else g1.blk (nthP ps (b.toNat - h.next.toNat)), fun b => if b.toNat < h.next.toNat then g.off b else g1.off (nthP ps (b.toNat - h.next.toNat)),
    fun b => if b.toNat < h.next.toNat then g.cap b else g1.cap (nthP ps (b.toNat - h.next.toNat))⟩
  have hag : g.agree g2 h.next.toNat := fun b hb => by
    have hb' : b.toNat < h.next.toNat := hb
    exact ⟨if_pos hb', if_pos hb', if_pos hb'⟩
  have hnew : ∀ b : Pos, ∀ i, b.toNat = h.next.toNat + i → g2.blk b = g1.blk (nthP ps i) ∧ g2.off b = g1.off (nthP ps i) ∧ g2.cap b = g1.cap (nthP ps i) := fun b i hb => by
    have hb' : ¬ b.toNat < h.next.toNat := by omega
    have hi : b.toNat - h.next.toNat = i := by omega
    refine ⟨?_, ?_, ?_⟩
    · show (if _ then _ else _) = _; rw [if_neg hb', hi]
    · show (if _ then _ else _) = _; rw [if_neg hb', hi]
    · show (if _ then _ else _) = _; rw [if_neg hb', hi]
  have hren := ren_ok (g1 := g1) (g2 := g2) (ps := ps) (qs := fresh r.length h.next) (r := r.length) (p := below (layH r h).next.toNat) (fun i hi => by
    have e := nth_fresh r.length h.next i hi
    obtain ⟨e1, e2, e3⟩ := hnew _ i e
    refine ⟨e1, e2, e3, ?_⟩
    show (nthP _ _).toNat < (ups _ _).toNat
    rw [ups_toNat, e]; omega)
  have hsz : ∀ i, i < r.length → w.heap.size ≤ g1.blk (nthP ps i) ∧ g1.blk (nthP ps i) < w1.heap.size := fun i hi => by
    obtain ⟨⟨l, k, ty⟩, hx⟩ : ∃ x, r[i]? = some x := ⟨r[i], List.getElem?_eq_getElem hi⟩
    obtain ⟨k1, k2⟩ := hrw i l k ty hx
    refine ⟨?_, (a1.blk _ _ k1).2.1⟩
    rcases a2.fresh _ _ k1 with h2 | ⟨b0, x0, h2, h3, h4⟩
    · exact h2
    · exfalso
      obtain ⟨l0, _, rfl⟩ := baseT_get h2
      have := h3 (by cases k <;> simp_all [Blk.writable])
      cases this
  have hget : ∀ b x, (layH r h).get b = some x → (h.get b = some x ∧ b.toNat < h.next.toNat) ∨ ∃ i l k ty, i < r.length ∧ b.toNat = h.next.toNat + i ∧ r[i]? = some (l, k, ty) ∧ x = .cells (renVs 1000 (fresh r.length h.next) l) k ty := fun b x hb => by
    rcases get_lay _ r.length h.next r h.t b x rfl hb with ⟨k1, _⟩ | k1
    · exact .inl ⟨k1, (hw.blk b x k1).1⟩
    · exact .inr k1
  refine ⟨g2, w1, ⟨fun b x hb => ?_, fun b b' x x' hb hb' hwx he => ?_, ⟨Nat.le_trans hw.glob.1 hN, fun i hi => ?_⟩, fun q hq => Nat.lt_of_lt_of_le (hw.marks q hq) hN⟩, ⟨hag, hN, a2.size, b2.keep, fun b x hb => ?_, a2.os, a2.tape, a2.output⟩, (hren 1000).1 v hiv |>.2.2, rfl, ?_⟩
  · rcases hget b x hb with ⟨k1, k2⟩ | ⟨i, l, k, ty, k1, k2, k3, rfl⟩
    · obtain ⟨c1, c2, c3⟩ := b1.blk b x k1
      exact ⟨Nat.lt_of_lt_of_le c1 hN, by rw [(hag b c1).1]; exact c2, c3.ext hag hN c1 rfl⟩
    · obtain ⟨e1, e2, e3⟩ := hnew b i k2
      obtain ⟨d1, d2⟩ := hrw i l k ty k3
      obtain ⟨_, _, c, el, fz, c1, c2, c3, c4, c5⟩ := a1.blk _ _ d1
      obtain ⟨f1, f2, f3, f4⟩ := (hren 1000).2 l (inRows_ok hir i l k ty k3)
      refine ⟨by show _ < (ups _ _).toNat; rw [ups_toNat]; omega, by rw [e1]; exact (hsz i k1).2, c, el, fz, by rw [e1]; exact c1, fun j u hu => ?_, f3, c4, ?_⟩
      · obtain ⟨u', q1, q2, q3⟩ := f4 j u hu
        have := c2 j u' q1
        rw [e2]
        unfold CellRel at this ⊢
        rw [q2, q3]; exact this
      · cases k with
        | ro => trivial
        | own => simp only [Ours] at c5 ⊢; rw [e2, f2]; exact c5
        | opn sz => simp only [Ours] at c5 ⊢; rw [e2, e3, f2]; exact c5
  · rcases hget b x hb with ⟨k1, k2⟩ | ⟨i, l, k, ty, k1, k2, k3, rfl⟩
    · rcases hget b' x' hb' with ⟨j1, j2⟩ | ⟨i', l', k', ty', j1, j2, j3, rfl⟩
      · rw [(hag b k2).1, (hag b' j2).1] at he
        exact hw.inj b b' x x' k1 j1 hwx he
      · exfalso
        rw [(hag b k2).1, (hnew b' i' j2).1] at he
        have := (hsz i' j1).1
        have := (hw.blk b x k1).2.1
        omega
    · rcases hget b' x' hb' with ⟨j1, j2⟩ | ⟨i', l', k', ty', j1, j2, j3, rfl⟩
      · exfalso
        rw [(hag b' j2).1, (hnew b i k2).1] at he
        have := (hsz i k1).1
        have := (hw.blk b' x' j1).2.1
        omega
      · rw [(hnew b i k2).1, (hnew b' i' j2).1] at he
        obtain ⟨d1, d2⟩ := hrw i l k ty k3
        obtain ⟨d1', d2'⟩ := hrw i' l' k' ty' j3
        have e1 := a1.inj _ _ _ _ d1 d1' (by cases k <;> simp_all [Blk.writable]) he
        have := apartP_ok hap i i' (by omega) (by omega) e1
        exact Pos.toNat_inj (by omega)
  · have hlt : (Pos.ofNat i).toNat < h.next.toNat := by rw [Pos.toNat_ofNat]; have := hw.glob.1; omega
    rw [(hag _ hlt).1, (hag _ hlt).2.1]
    exact hw.glob.2 i hi
  · rcases hget b x hb with ⟨k1, k2⟩ | ⟨i, l, k, ty, k1, k2, k3, rfl⟩
    · exact .inr ⟨b, x, k1, id, ((hag b k2).1).symm⟩
    · exact .inl (by rw [(hnew b i k2).1]; exact (hsz i k1).1)
  · rw [((hren 1000).1 v hiv).1]; exact a5

/-- a table of such runs: arguments, value, rows, the rows' places in the run -/
abbrev Makes := BT (List (List V × V × Rows × List Pos))
noncomputable def pickM (args : List V) (h : H) (l : List (List V × V × Rows × List Pos)) : Option (V × H) :=
  List.rec none (fun x _ ih => Bool.casesOn (eqDs 1000 x.1 args) ih (some (renV 1000 (fresh x.2.2.1.length h.next) x.2.1, layH x.2.2.1 h))) l
noncomputable def natMakes (nd : Need) (t : Makes) (args : List V) (h : H) : Option (V × H) := Bool.casesOn (hasK h nd) none (Option.casesOn (t.get (keyVs 1000 args 1)) none (pickM args h))
noncomputable def madeB (p : Prg) (m k : Nat) (n : Pos) (nd : Need) (f : Nat) (x : List V × V × Rows × List Pos) : Bool :=
  Bool.casesOn (closeds 1000 x.1) false (Bool.casesOn (apartP x.2.2.2) false (Bool.casesOn (inV 1000 x.2.2.1.length x.2.1) false (Bool.casesOn (inRows x.2.2.1.length x.2.2.1) false
    (Option.casesOn (goK p (callK p m) k f x.1 (H.bare n nd)) false fun r => Prod.casesOn r fun v h1 => Bool.casesOn (eqD 1000 (renV 1000 x.2.2.2 x.2.1) v) false (rowsB x.2.2.2 h1 x.2.2.2 x.2.2.1)))))
noncomputable def madesL (p : Prg) (m k : Nat) (n : Pos) (nd : Need) (f : Nat) (l : List (List V × V × Rows × List Pos)) : Bool := List.rec true (fun x _ ih => Bool.casesOn (madeB p m k n nd f x) false ih) l
noncomputable def madesB (p : Prg) (m k : Nat) (n : Pos) (nd : Need) (f : Nat) (t : Makes) : Bool := BT.rec true (fun _ _ l _ a b => Bool.casesOn a false (Bool.casesOn (madesL p m k n nd f l) false b)) t

theorem madeB_ok (hp : PrgOk P rs p) {n : Pos} (hn : n.toNat = P.globals.size) {m k f : Nat} {x : List V × V × Rows × List Pos} (hcl : needB nd = true) (hlt : needLt n nd = true) (h : madeB p m k n nd f x = true) {g : G} {h0 : H} {w : World} (hw : WR rs P.globals.size g h0 w) (hnd : hasK h0 nd = true) :
    OpOk rs P.globals.size P g h0 w (callFunc f (concs g x.1).toArray) (renV 1000 (fresh x.2.2.1.length h0.next) x.2.1) (layH x.2.2.1 h0) := by
  obtain ⟨h1, h⟩ := bool_and h
  obtain ⟨h2, h⟩ := bool_and h
  obtain ⟨h3, h⟩ := bool_and h
  obtain ⟨h4, h⟩ := bool_and h
  cases hr : goK p (callK p m) k f x.1 (H.bare n nd) with
  | none => rw [hr] at h; cases h
  | some r =>
    rw [hr] at h
    obtain ⟨v, hh⟩ := r
    obtain ⟨h5, h6⟩ := bool_and (a := eqD 1000 (renV 1000 x.2.2.2 x.2.1) v) (b := rowsB x.2.2.2 hh x.2.2.2 x.2.2.1) h
    exact makes_ok hp hn h1 hcl hlt hr h5 h6 h2 h3 h4 hw hnd
theorem madesL_ok {m k f : Nat} {n : Pos} : ∀ {l : List (List V × V × Rows × List Pos)}, madesL p m k n nd f l = true → ∀ x ∈ l, madeB p m k n nd f x = true
  | [], _, x, hx => by cases hx
  | y :: l, h, x, hx => by
    obtain ⟨h1, h2⟩ := bool_and (a := madeB p m k n nd f y) (b := madesL p m k n nd f l) h
    rcases List.mem_cons.1 hx with rfl | hx
    · exact h1
    · exact madesL_ok h2 x hx
theorem madesB_ok {m k f : Nat} {n : Pos} : ∀ {t : Makes}, madesB p m k n nd f t = true → t.All fun _ l => ∀ x ∈ l, madeB p m k n nd f x = true
  | .leaf, _ => trivial
  | .node l i y r, h => by
    obtain ⟨h1, h2⟩ := bool_and (a := madesB p m k n nd f l) h
    obtain ⟨h3, h4⟩ := bool_and (a := madesL p m k n nd f y) (b := madesB p m k n nd f r) h2
    exact ⟨madesB_ok h1, madesL_ok h3, madesB_ok h4⟩

/-- A TABLE OF RUNS THAT MAKE ROWS -/
theorem natMakes_ok (hp : PrgOk P rs p) {n : Pos} (hn : n.toNat = P.globals.size) {m k f : Nat} {t : Makes} (hcl : needB nd = true) (hlt : needLt n nd = true) (h : madesB p m k n nd f t = true) : NatOk P rs f (natMakes nd t) := by
  intro args h0 v h' hs g w hw _
  have hs0 : (Bool.casesOn (hasK h0 nd) none (Option.casesOn (t.get (keyVs 1000 args 1)) none (pickM args h0)) : Option (V × H)) = some (v, h') := hs
  obtain ⟨hnd, hs⟩ := bool_opt hs0
  cases ht : t.get (keyVs 1000 args 1) with
  | none => rw [ht] at hs; cases hs
  | some l =>
    rw [ht] at hs
    have hall := BT.all_get t (madesB_ok h) ht
    have key : ∀ l : List (List V × V × Rows × List Pos), (∀ x ∈ l, madeB p m k n nd f x = true) → pickM args h0 l = some (v, h') → OpOk rs P.globals.size P g h0 w (callFunc f (concs g args).toArray) v h' := by
      intro l
      induction l with
      | nil => intro _ hs; cases hs
      | cons x l ih =>
        intro hl hs
        have hs' : (Bool.casesOn (eqDs 1000 x.1 args) (pickM args h0 l) (some (renV 1000 (fresh x.2.2.1.length h0.next) x.2.1, layH x.2.2.1 h0)) : Option (V × H)) = some (v, h') := hs
        cases he : eqDs 1000 x.1 args with
        | false => rw [he] at hs'; exact ih (fun y hy => hl y (List.mem_cons_of_mem _ hy)) hs'
        | true =>
          rw [he] at hs'
          cases hs'
          have := (eqD_ok 1000).2 _ _ he
          subst this
          exact madeB_ok hp hn hcl hlt (hl x (by simp)) hw hnd
    exact key l hall hs
end
end Go.Proofs.YtdojpbbdcgfcnaaGreatDoor.AI
/- RUNS WITH UNKNOWN INPUTS: the words' plain equations, as rules. -/
namespace Go.Proofs.YtdojpbbdcgfcnaaGreatDoor.AI

/-- a run ends so -/
def Ends (r : Res) (Q : E → Fr → H → Prop) : Prop := ∃ e fr h, r = some (e, fr, h) ∧ Q e fr h

section
variable {cx : Cx} {e : List V} {fr : Fr} {h : H} {k : V → H → Res} {s : S} {Q : E → Fr → H → Prop}

@[simp, simp ↓] theorem ends_some {x : E} : Ends (some (x, fr, h)) Q ↔ Q x fr h := ⟨fun ⟨_, _, _, h1, h2⟩ => by cases h1; exact h2, fun h1 => ⟨_, _, _, rfl, h1⟩⟩
theorem Ends.mono {r : Res} {Q Q' : E → Fr → H → Prop} (h : Ends r Q) (hq : ∀ e fr h, Q e fr h → Q' e fr h) : Ends r Q' := let ⟨e, fr, h', h1, h2⟩ := h; ⟨e, fr, h', h1, hq _ _ _ h2⟩
theorem Ends.bind {r : Res} {norm : Fr → H → Res} {jump : Jump → Fr → H → Res} {Q1 : E → Fr → H → Prop} (h : Ends r Q1)
    (h1 : ∀ fr h, Q1 .norm fr h → Ends (norm fr h) Q) (h2 : ∀ j fr h, Q1 (.jump j) fr h → Ends (jump j fr h) Q) : Ends (resK r norm jump none) Q := by
  obtain ⟨x, fr, h', rfl, hq⟩ := h
  cases x with
  | norm => exact h1 _ _ hq
  | jump j => exact h2 _ _ _ hq

@[congr] theorem resK_congr {β : Type} {r r' : Res} {norm : Fr → H → β} {jump : Jump → Fr → H → β} {z : β} (hr : r = r') : resK r norm jump z = resK r' norm jump z := by rw [hr]
/-- go on with what there is -/
def onSome {α : Type} (o : Option α) (f : α → Res) : Res := match o with
  | some v => f v
  | none => none
@[congr] theorem onSome_congr {α : Type} {o o' : Option α} {f : α → Res} (ho : o = o') : onSome o f = onSome o' f := by rw [ho]
@[simp, simp ↓] theorem onSome_s {α : Type} {v : α} {f : α → Res} : onSome (some v) f = f v := Eq.trans rfl rfl
def onTruth (o : Option V) (a b : Unit → Res) : Res := match o with
  | some (.bool t) => if t = true then a () else b ()
  | _ => none
@[congr] theorem onTruth_congr {o o' : Option V} {a b : Unit → Res} (ho : o = o') : onTruth o a b = onTruth o' a b := by rw [ho]
@[simp, simp ↓] theorem onTruth_s {t : Bool} {a b : Unit → Res} : onTruth (some (.bool t)) a b = if t = true then a () else b () := Eq.trans rfl rfl
@[simp, simp ↓] theorem resK_norm_s {β : Type} {norm : Fr → H → β} {jump : Jump → Fr → H → β} {z : β} : resK (some (.norm, fr, h)) norm jump z = norm fr h := Eq.trans rfl rfl
@[simp, simp ↓] theorem resK_jump_s {β : Type} {norm : Fr → H → β} {jump : Jump → Fr → H → β} {z : β} {j : Jump} : resK (some (.jump j, fr, h)) norm jump z = jump j fr h := Eq.trans rfl rfl
@[simp, simp ↓] theorem kSeq_s {a b : K} : kSeq a b cx fr h = resK (a cx fr h) (fun fr h => b cx fr h) (fun j fr h => some (.jump j, fr, h)) none := Eq.trans rfl rfl
@[simp, simp ↓] theorem kReg_s {b : B} : kReg b cx fr h = b cx [] fr h := Eq.trans rfl rfl
@[simp, simp ↓] theorem kSkip_s : kSkip cx fr h = some (.norm, fr, h) := Eq.trans rfl rfl
@[simp, simp ↓] theorem kRet_s : kRet cx fr h = some (.jump .ret, fr, h) := Eq.trans rfl rfl
@[simp, simp ↓] theorem kExit_s {i : Nat} : kExit i cx fr h = some (.jump (.exit i), fr, h) := Eq.trans rfl rfl
@[simp, simp ↓] theorem oE_s : oE cx e fr h = some (.norm, fr, h) := Eq.trans rfl rfl
@[simp, simp ↓] theorem oP_s {b : B} : oP s b cx e fr h = s cx e fr h fun v h => b cx (v :: e) fr h := Eq.trans rfl rfl
@[simp, simp ↓] theorem oS_s {b : B} {p : Pos} : oS p s b cx e fr h = s cx e fr h fun v h => b cx (v :: e) (Tr.set (some v) p fr) h := by
  show s cx e fr h (fun v h => Tr.setK (some v) p fr fun fr => b cx (v :: e) fr h) = _
  simp only [Tr.setK_eq]
@[simp, simp ↓] theorem oC_s {b : B} {x : O} : oC x s b cx e fr h = s cx e fr h fun v _ => evK e fr x fun u => if eqD 1000 v u = true then b cx e fr h else none := by
  show s cx e fr h (fun v _ => evK e fr x fun u => (Bool.casesOn (eqD 1000 v u) none (b cx e fr h) : Res)) = _
  congr 1; funext v _; congr 1; funext u
  cases eqD 1000 v u <;> rfl
@[simp, simp ↓] theorem sUp_s : sUp s cx e fr h k = s cx e fr h fun v h1 => if h.next.toNat ≤ h1.next.toNat then k v h1 else none := by
  show s cx e fr h (fun v h1 => (Bool.casesOn (Nat.ble h.next.nat h1.next.nat) none (k v h1) : Res)) = _
  congr 1; funext v h1
  rw [Pos.nat_eq, Pos.nat_eq]
  by_cases hh : h.next.toNat ≤ h1.next.toNat
  · rw [Nat.ble_eq_true_of_le hh, if_pos hh]
  · have : Nat.ble h.next.toNat h1.next.toNat = false := by
      cases hb : Nat.ble h.next.toNat h1.next.toNat with
      | false => rfl
      | true => exact absurd (Nat.le_of_ble_eq_true hb) hh
    rw [this, if_neg hh]

/-! operands -/
@[congr] theorem evK_congr {x x' : O} {f : V → Res} (hx : x = x') : evK e fr x f = evK e fr x' f := by rw [hx]
@[congr] theorem onBool_congr {β : Type} {v v' : V} {f : Bool → β} {z : β} (hv : v = v') : v.onBool f z = v'.onBool f z := by rw [hv]
@[congr] theorem onInt_congr {β : Type} {v v' : V} {f : IntKind → Int → β} {z : β} (hv : v = v') : v.onInt f z = v'.onInt f z := by rw [hv]
@[congr] theorem onPtr_congr {β : Type} {v v' : V} {f : Pos → Nat → β} {z : β} (hv : v = v') : v.onPtr f z = v'.onPtr f z := by rw [hv]
@[congr] theorem onAgg_congr {β : Type} {v v' : V} {f : List V → β} {z : β} (hv : v = v') : v.onAgg f z = v'.onAgg f z := by rw [hv]
@[congr] theorem onTup_congr {β : Type} {v v' : V} {f : List V → β} {z : β} (hv : v = v') : v.onTup f z = v'.onTup f z := by rw [hv]
@[congr] theorem int2K_congr {β : Type} {v v' w w' : V} {f : IntKind → Int → Int → β} {z : β} (hv : v = v') (hw : w = w') : int2K v w f z = int2K v' w' f z := by rw [hv, hw]
@[congr] theorem loadK_congr {h h' : H} {sz : Option Nat} {b b' : Pos} {o o' : Nat} {f : V → Res} (hh : h = h') (hb : b = b') (ho : o = o') : h.loadK sz b o f = h'.loadK sz b' o' f := by rw [hh, hb, ho]

@[simp, simp ↓] theorem evK_c {v : V} {k : V → Res} : evK e fr (.c v) k = k v := Eq.trans rfl rfl
@[simp, simp ↓] theorem evK_l0 {v : V} {k : V → Res} : evK (v :: e) fr (.l 0) k = k v := Eq.trans rfl rfl
@[simp, simp ↓] theorem evK_ls {v : V} {n : Nat} {k : V → Res} : evK (v :: e) fr (.l (n + 1)) k = evK e fr (.l n) k := Eq.trans rfl rfl
@[simp, simp ↓] theorem evK_t {p : Pos} {k : V → Res} : evK e fr (.t p) k = onSome (Tr.get p fr) k := by
  show (Option.casesOn (Tr.get p fr) none k : Res) = _
  cases Tr.get p fr <;> rfl
@[simp, simp ↓] theorem evsK_nil {k : List V → Res} : evsK e fr [] k = k [] := Eq.trans rfl rfl
@[simp, simp ↓] theorem evsK_cons {x : O} {xs : List O} {k : List V → Res} : evsK e fr (x :: xs) k = evK e fr x fun v => evsK e fr xs fun vs => k (v :: vs) := Eq.trans rfl rfl

@[simp, simp ↓] theorem ev_l {n : Nat} : ev e fr (.l n) = e[n]? := Eq.trans rfl rfl
@[simp, simp ↓] theorem ev_t {p : Pos} : ev e fr (.t p) = Tr.get p fr := Eq.trans rfl rfl
@[simp, simp ↓] theorem ev_c {v : V} : ev e fr (.c v) = some v := Eq.trans rfl rfl
@[simp, simp ↓] theorem get_set_n {v : Option V} {m n : Nat} {t : Fr} : Tr.get (Pos.ofNat m) (Tr.set v (Pos.ofNat n) t) = if m = n then v else Tr.get (Pos.ofNat m) t := by
  rw [Tr.get_set]
  by_cases hh : m = n
  · simp [hh]
  · rw [if_neg (fun he => hh (Pos.ofNat_inj he)), if_neg hh]
@[simp, simp ↓] theorem get_leaf_n {m : Nat} : Tr.get (Pos.ofNat m) (.leaf : Fr) = none := Tr.get_leaf _

/-! operations -/
@[simp, simp ↓] theorem sMv_s {x : O} : sMv x cx e fr h k = evK e fr x fun v => k v h := Eq.trans rfl rfl
@[simp, simp ↓] theorem sPick_s {c a b : O} : sPick c a b cx e fr h k = evK e fr c fun v => v.onBool (fun t => if t = true then evK e fr a (fun v => k v h) else evK e fr b (fun v => k v h)) none := by
  show evK e fr c (fun v => v.onBool (fun t => (Bool.casesOn t (evK e fr b fun v => k v h) (evK e fr a fun v => k v h) : Res)) none) = _
  congr 1; funext v; congr 1; funext t; cases t <;> rfl
@[simp, simp ↓] theorem onBool_s {β : Type} {b : Bool} {f : Bool → β} {z : β} : (V.bool b).onBool f z = f b := Eq.trans rfl rfl
@[simp, simp ↓] theorem onInt_s {β : Type} {kd : IntKind} {i : Int} {f : IntKind → Int → β} {z : β} : (V.int kd i).onInt f z = f kd i := Eq.trans rfl rfl
@[simp, simp ↓] theorem onPtr_s {β : Type} {b : Pos} {o : Nat} {f : Pos → Nat → β} {z : β} : (V.ptr b o).onPtr f z = f b o := Eq.trans rfl rfl
@[simp, simp ↓] theorem onSlc_s {β : Type} {b : Pos} {o n : Nat} {c : Cap} {f : Pos → Nat → Nat → Cap → β} {z : β} : (V.slc b o n c).onSlc f z = f b o n c := Eq.trans rfl rfl
@[simp, simp ↓] theorem onSlc_nils {β : Type} {f : Pos → Nat → Nat → Cap → β} {z : β} : (V.nils).onSlc f z = z := Eq.trans rfl rfl
@[simp, simp ↓] theorem onAgg_s {β : Type} {l : List V} {f : List V → β} {z : β} : (V.agg l).onAgg f z = f l := Eq.trans rfl rfl
@[simp, simp ↓] theorem onTup_s {β : Type} {l : List V} {f : List V → β} {z : β} : (V.tup l).onTup f z = f l := Eq.trans rfl rfl
@[simp, simp ↓] theorem cellsK_s {β : Type} {v : V} {f : List V → β} : v.cellsK f = f v.cells := cellsK_eq v f
@[simp, simp ↓] theorem cells_agg {l : List V} : (V.agg l).cells = l := Eq.trans rfl rfl
@[simp, simp ↓] theorem cells_int {kd : IntKind} {i : Int} : (V.int kd i).cells = [.int kd i] := Eq.trans rfl rfl
@[simp, simp ↓] theorem cells_bool {b : Bool} : (V.bool b).cells = [.bool b] := Eq.trans rfl rfl
@[simp, simp ↓] theorem cells_slc {b : Pos} {o n : Nat} {c : Cap} : (V.slc b o n c).cells = [.slc b o n c] := Eq.trans rfl rfl
@[simp, simp ↓] theorem cells_nils : (V.nils).cells = [.nils] := Eq.trans rfl rfl
@[simp, simp ↓] theorem cells_ptr {b : Pos} {o : Nat} : (V.ptr b o).cells = [.ptr b o] := Eq.trans rfl rfl
@[simp, simp ↓] theorem int2K_s {β : Type} {kd : IntKind} {a b : Int} {f : IntKind → Int → Int → β} {z : β} : int2K (.int kd a) (.int kd b) f z = f kd a b := by simp [int2K]
@[simp, simp ↓] theorem int2K_bool {β : Type} {a : Bool} {w : V} {f : IntKind → Int → Int → β} {z : β} : int2K (.bool a) w f z = z := Eq.trans rfl rfl
@[simp, simp ↓] theorem int2K_agg {β : Type} {a : List V} {w : V} {f : IntKind → Int → Int → β} {z : β} : int2K (.agg a) w f z = z := Eq.trans rfl rfl
@[simp, simp ↓] theorem int2K_nils {β : Type} {w : V} {f : IntKind → Int → Int → β} {z : β} : int2K .nils w f z = z := Eq.trans rfl rfl
@[simp, simp ↓] theorem int2K_slc {β : Type} {b : Pos} {o n : Nat} {c : Cap} {w : V} {f : IntKind → Int → Int → β} {z : β} : int2K (.slc b o n c) w f z = z := Eq.trans rfl rfl
@[simp, simp ↓] theorem sAdd_s {x y : O} : sAdd x y cx e fr h k = evK e fr x fun v => evK e fr y fun w => int2K v w (fun kd a b => k (.int kd (kd.wrap (a + b))) h) (v.onStr (fun s => w.onStr (fun t => Bool.casesOn (Nat.ble (s.length + t.length) 1099511627776) none (appK s t fun r => k (.str r) h)) none) none) := by
  show evK e fr x (fun v => evK e fr y fun w => int2K v w (fun kd a b => wrapK kd (addI a b) fun n => k (.int kd n) h) _) = _
  congr 1; funext v; congr 1; funext w; congr 1; funext kd a b; rw [wrapK_eq, addI_eq]

@[simp, simp ↓] theorem sSub_s {x y : O} : sSub x y cx e fr h k = evK e fr x fun v => evK e fr y fun w => int2K v w (fun kd a b => k (.int kd (kd.wrap (a - b))) h) none := by
  show evK e fr x (fun v => evK e fr y fun w => int2K v w (fun kd a b => wrapK kd (addI a (negI b)) fun n => k (.int kd n) h) _) = _
  congr 1; funext v; congr 1; funext w; congr 1; funext kd a b; rw [wrapK_eq, addI_eq, negI_eq, Int.sub_eq_add_neg]
@[simp, simp ↓] theorem sLss_s {x y : O} : sLss x y cx e fr h k = evK e fr x fun v => evK e fr y fun w => int2K v w (fun _ a b => k (.bool (decide (a < b))) h) (v.onStr (fun s => w.onStr (fun t => k (.bool (bytesLess s t)) h) none) none) := by
  show evK e fr x (fun v => evK e fr y fun w => int2K v w (fun _ a b => boolK (ltI a b) fun b => k (.bool b) h) (v.onStr (fun s => w.onStr (fun t => boolK (bytesLess s t) fun b => k (.bool b) h) none) none)) = _
  simp only [boolK_eq, ltI_eq]
@[simp, simp ↓] theorem sGtr_s {x y : O} : sGtr x y cx e fr h k = evK e fr x fun v => evK e fr y fun w => int2K v w (fun _ a b => k (.bool (decide (b < a))) h) (v.onStr (fun s => w.onStr (fun t => k (.bool (bytesLess t s)) h) none) none) := by
  show evK e fr x (fun v => evK e fr y fun w => int2K v w (fun _ a b => boolK (ltI b a) fun b => k (.bool b) h) (v.onStr (fun s => w.onStr (fun t => boolK (bytesLess t s) fun b => k (.bool b) h) none) none)) = _
  simp only [boolK_eq, ltI_eq]
@[simp, simp ↓] theorem sLeq_s {x y : O} : sLeq x y cx e fr h k = evK e fr x fun v => evK e fr y fun w => int2K v w (fun _ a b => k (.bool (!decide (b < a))) h) (v.onStr (fun s => w.onStr (fun t => k (.bool (!bytesLess t s)) h) none) none) := by
  show evK e fr x (fun v => evK e fr y fun w => int2K v w (fun _ a b => boolK (ltI b a).not fun b => k (.bool b) h) (v.onStr (fun s => w.onStr (fun t => boolK (bytesLess t s).not fun b => k (.bool b) h) none) none)) = _
  simp only [boolK_eq, ltI_eq]
@[simp, simp ↓] theorem sGeq_s {x y : O} : sGeq x y cx e fr h k = evK e fr x fun v => evK e fr y fun w => int2K v w (fun _ a b => k (.bool (!decide (a < b))) h) (v.onStr (fun s => w.onStr (fun t => k (.bool (!bytesLess s t)) h) none) none) := by
  show evK e fr x (fun v => evK e fr y fun w => int2K v w (fun _ a b => boolK (ltI a b).not fun b => k (.bool b) h) (v.onStr (fun s => w.onStr (fun t => boolK (bytesLess s t).not fun b => k (.bool b) h) none) none)) = _
  simp only [boolK_eq, ltI_eq]
@[simp, simp ↓] theorem sEq_s {q : _root_.Go.Proofs.YtdojpbbdcgfcnaaGreatDoor.AI.Q} {neg : Bool} {x y : O} : sEq q neg x y cx e fr h k = evK e fr x fun v => evK e fr y fun w =>
    int2K v w (fun _ a b => k (.bool (xor (decide (a = b)) neg)) h) (onSome (eqV q v w) fun r => k (.bool (xor r neg)) h) := by
  show evK e fr x (fun v => evK e fr y fun w => int2K v w (fun _ a b => boolK (xor (eqI a b) neg) fun b => k (.bool b) h) (Option.casesOn (eqV q v w) none fun r => boolK (xor r neg) fun b => k (.bool b) h)) = _
  congr 1; funext v; congr 1; funext w; congr 1
  · funext kd a b; rw [boolK_eq, eqI_eq]
  · cases eqV q v w with
    | none => rfl
    | some r => exact boolK_eq _ _
@[simp, simp ↓] theorem eqV_b {a b : Bool} : eqV (.s .b) (.bool a) (.bool b) = some (a == b) := Eq.trans rfl rfl
@[simp, simp ↓] theorem sNot_s {x : O} : sNot x cx e fr h k = evK e fr x fun v => v.onBool (fun b => k (.bool (!b)) h) none := by
  show evK e fr x (fun v => v.onBool (fun b => boolK b.not fun b => k (.bool b) h) none) = _
  simp only [boolK_eq]
@[simp, simp ↓] theorem sIf_s {x : O} {w : Bool} : sIf x w s cx e fr h k = evK e fr x fun v => v.onBool (fun b => if b = w then s cx e fr h k else k undefV h) (k undefV h) := by
  show evK e fr x (fun v => v.onBool (fun b => (Bool.casesOn b (Bool.casesOn w (s cx e fr h k) (k undefV h)) (Bool.casesOn w (k undefV h) (s cx e fr h k)) : Res)) (k undefV h)) = _
  congr 1; funext v; congr 1; funext b; cases b <;> cases w <;> rfl

/-! memory -/
/-- b is one of the heap's numbers -/
def Old (h : H) (b : Pos) : Prop := b.toNat < h.next.toNat
@[simp, simp ↓] theorem old_next {x : Blk} : Old (h.new x) h.next := by simp [Old, H.next_new]
@[simp, simp ↓] theorem old_new {x : Blk} {b : Pos} (hb : Old h b) : Old (h.new x) b := by simp only [Old, H.next_new] at *; omega
@[simp, simp ↓] theorem get_new_old {x : Blk} {b : Pos} (hb : Old h b) : (h.new x).get b = h.get b := by
  rw [H.get_new, if_neg (fun he => by subst he; simp [Old] at hb)]
@[simp, simp ↓] theorem get_new_next {x : Blk} : (h.new x).get h.next = some x := H.get_new_same h x
@[simp, simp ↓] theorem marks_new {x : Blk} : (h.new x).marks = h.marks := Eq.trans rfl rfl
@[simp, simp ↓] theorem marks_put {p : Pos} {x : Option Blk} : (h.put p x).marks = h.marks := Eq.trans rfl rfl
@[simp, simp ↓] theorem next_put {p : Pos} {x : Option Blk} : (h.put p x).next = h.next := Eq.trans rfl rfl
@[simp, simp ↓] theorem old_put {p b : Pos} {x : Option Blk} : Old (h.put p x) b ↔ Old h b := Iff.rfl
@[simp, simp ↓] theorem get_put_same {p : Pos} {x : Option Blk} : (h.put p x).get p = x := by simp [H.get_put]

@[simp, simp ↓] theorem sBox_s {ty : TypeId} {x : O} : sBox ty x cx e fr h k = evK e fr x fun v => k (.ptr h.next 0) (h.new (.cells v.cells .own ty)) := by
  show evK e fr x (fun v => v.cellsK fun l => h.newK (.cells l .own ty) fun p h => k (.ptr p 0) h) = _
  simp only [cellsK_eq, H.newK_eq]
@[simp, simp ↓] theorem sAlloc_s {ty : TypeId} {l : List V} : sAlloc ty l cx e fr h k = k (.ptr h.next 0) (h.new (.cells l .own ty)) := H.newK_eq h _ _
@[simp, simp ↓] theorem sFieldAddr_s {x : O} {off : Nat} : sFieldAddr x off cx e fr h k = evK e fr x fun v => v.onPtr (fun b o => k (.ptr b (o + off)) h) none := by
  show evK e fr x (fun v => v.onPtr (fun b o => natK (Nat.add o off) fun o => k (.ptr b o) h) none) = _
  simp only [natK_eq]; rfl
noncomputable def idxS (sz : Nat) (v w : V) (k : Pos → Nat → Res) : Res := v.onSlc (fun b o n _ => w.onIndex n (fun i => k b (o + i * sz)) none) none
@[congr] theorem idxS_congr {sz : Nat} {v v' w w' : V} {f : Pos → Nat → Res} (hv : v = v') (hw : w = w') : idxS sz v w f = idxS sz v' w' f := by rw [hv, hw]
@[simp, simp ↓] theorem sIndexAddr_s {sz : Nat} {x i : O} : sIndexAddr sz x i cx e fr h k = evK e fr x fun v => evK e fr i fun w => idxS sz v w fun b o => k (.ptr b o) h := by
  show evK e fr x (fun v => evK e fr i fun w => v.onSlc (fun b o n _ => w.onIndex n (fun i => natK (Nat.add o (Nat.mul i sz)) fun o => k (.ptr b o) h) none) none) = _
  simp only [natK_eq]; rfl
@[simp, simp ↓] theorem sLoad_s {sz : Option Nat} {x : O} : sLoad sz x cx e fr h k = evK e fr x fun v => v.onPtr (fun b o => h.loadK sz b o fun v => k v h) none := Eq.trans rfl rfl
theorem onIndex_nat {β : Type} {kd : IntKind} {i n : Nat} {f : Nat → β} {z : β} (hi : i < n) : (V.int kd (i : Int)).onIndex n f z = f i := by
  show (Bool.casesOn (Nat.ble (.succ i) n) z (f i) : β) = f i
  rw [Nat.ble_eq_true_of_le (show Nat.succ i ≤ n from hi)]
theorem loadK_none {b : Pos} {off : Nat} {f : V → Res} : h.loadK none b off f = (match h.get b with | some (.cells l _ _) => (match l[off]? with | some v => if v.isJunk = true then none else f v | none => none) | _ => none) := by
  unfold H.loadK
  rw [H.getK_eq]
  cases h.get b with
  | none => rfl
  | some x =>
    cases x with
    | cells l kd ty =>
      show dropK off l (fun l => takeK 1 l (fun l => (List.casesOn l none fun v _ => f v : Res)) none) none = _
      rw [dropK_eq]
      simp only [takeK_eq]
      by_cases hl : off < l.length
      · rw [if_pos (by omega)]
        have hd : l.drop off = l[off] :: l.drop (off + 1) := List.drop_eq_getElem_cons hl
        rw [hd]
        simp only [List.getElem?_eq_getElem hl]
        generalize l.drop (off + 1) = rest
        cases hj : l[off].isJunk with
        | true => simp [noJunk, hj]
        | false => simp [noJunk, hj]
      · have hn : l[off]? = none := List.getElem?_eq_none (by omega)
        simp only [hn]
        split
        · rename_i h1
          have hd : l.drop off = [] := List.drop_eq_nil_of_le (by omega)
          rw [hd]; simp
        · rfl
    | _ => rfl
theorem loadK_take {b : Pos} {off n : Nat} {f : V → Res} : h.loadK (some n) b off f = (match h.get b with | some (.cells l _ _) => if off ≤ l.length ∧ n ≤ (l.drop off).length ∧ noJunk ((l.drop off).take n) = true then f (.agg ((l.drop off).take n)) else none | _ => none) := by
  unfold H.loadK
  rw [H.getK_eq]
  cases h.get b with
  | none => rfl
  | some x =>
    cases x with
    | cells l kd ty =>
      show dropK off l (fun l => takeK n l (fun l => f (.agg l)) none) none = _
      rw [dropK_eq]
      simp only [takeK_eq]
      by_cases h1 : off ≤ l.length
      · simp only [h1, if_true, true_and]
      · simp [h1]
    | _ => rfl
@[simp, simp ↓] theorem loadK_new {sz : Option Nat} {b : Pos} {off : Nat} {x : Blk} {f : V → Res} (hb : Old h b) : (h.new x).loadK sz b off f = h.loadK sz b off f := by
  unfold H.loadK
  rw [H.getK_eq, H.getK_eq, get_new_old hb]

@[simp, simp ↓] theorem loadK_box {l : List V} {kd : Kind} {ty : TypeId} {o : Nat} {f : V → Res} : (h.new (.cells l kd ty)).loadK none h.next o f = onSome l[o]? fun v => if v.isJunk = true then none else f v := by
  rw [loadK_none, get_new_next]
  show (match l[o]? with | some v => if v.isJunk = true then none else f v | none => none) = _
  cases l[o]? <;> rfl
@[simp, simp ↓] theorem loadK_box_take {l : List V} {kd : Kind} {ty : TypeId} {o n : Nat} {f : V → Res} : (h.new (.cells l kd ty)).loadK (some n) h.next o f = (if o ≤ l.length ∧ n ≤ (l.drop o).length ∧ noJunk ((l.drop o).take n) = true then f (.agg ((l.drop o).take n)) else none) := by
  rw [loadK_take, get_new_next]
@[simp, simp ↓] theorem junk_int {kd : IntKind} {i : Int} : (V.int kd i).isJunk = false := Eq.trans rfl rfl
@[simp, simp ↓] theorem junk_bool {b : Bool} : (V.bool b).isJunk = false := Eq.trans rfl rfl
@[simp, simp ↓] theorem junk_slc {b : Pos} {o n : Nat} {c : Cap} : (V.slc b o n c).isJunk = false := Eq.trans rfl rfl
@[simp, simp ↓] theorem junk_nils : (V.nils).isJunk = false := Eq.trans rfl rfl
@[simp, simp ↓] theorem noJunk_nil : noJunk [] = true := Eq.trans rfl rfl
@[simp, simp ↓] theorem noJunk_cons {v : V} {l : List V} : noJunk (v :: l) = (!v.isJunk && noJunk l) := Eq.trans rfl rfl

/-- a later heap that has all of the earlier one -/
structure Ext (h h' : H) : Prop where
  next : h.next.toNat ≤ h'.next.toNat
  get : ∀ b, Old h b → h'.get b = h.get b
  marks : h'.marks = h.marks
theorem Ext.refl (h : H) : Ext h h := ⟨Nat.le_refl _, fun _ _ => rfl, rfl⟩
theorem Ext.new {h h' : H} (hh : Ext h h') {x : Blk} : Ext h (h'.new x) := ⟨by rw [H.next_new]; have := hh.next; omega, fun b hb => by
  rw [get_new_old (by have := hh.next; simp only [Old] at *; omega)]; exact hh.get b hb, hh.marks⟩
theorem Ext.old {h h' : H} (hh : Ext h h') {b : Pos} (hb : Old h b) : Old h' b := by have := hh.next; simp only [Old] at *; omega
theorem Ext.load {h h' : H} (hh : Ext h h') {b : Pos} (hb : Old h b) (sz : Option Nat) (o : Nat) (f : V → Res) : h'.loadK sz b o f = h.loadK sz b o f := by
  unfold H.loadK; rw [H.getK_eq, H.getK_eq, hh.get b hb]

/-- the length of a slice -/
noncomputable def lenS (v : V) (k : V → Res) : Res :=
  V.casesOn v (fun _ => none) (fun _ _ => none) (fun _ => none) none (fun _ _ => none) (k (.int .i64 0)) (fun _ _ n _ => k (.int .i64 n)) none (fun _ => none) (fun _ _ _ => none) (fun _ => none) none (fun _ _ => none) none (fun _ => none) (fun _ => none) none (fun _ => k (.int .i64 0))
@[congr] theorem lenS_congr {v v' : V} {f : V → Res} (hv : v = v') : lenS v f = lenS v' f := by rw [hv]
@[simp, simp ↓] theorem sLen_s {x : O} : sLen x cx e fr h k = evK e fr x fun v => lenS v fun n => k n h := Eq.trans rfl rfl
@[simp, simp ↓] theorem sFn_s {f : Fn} {a b : List O} : sFn f a b cx e fr h k = evsK e fr a fun a => evsK e fr b fun b => k (.fn f a b) h := Eq.trans rfl rfl
@[simp, simp ↓] theorem sCall_s {f : O} {args : List O} : sCall f args cx e fr h k = evK e fr f fun f => evsK e fr args fun args => onSome (cx.call f args h) fun r => k r.1 r.2 := by
  show evK e fr f (fun f => evsK e fr args fun args => (Option.casesOn (cx.call f args h) none fun r => Prod.casesOn r k : Res)) = _
  congr 1; funext f; congr 1; funext args; cases cx.call f args h <;> rfl
@[simp, simp ↓] theorem sExtract_s {x : O} {i : Nat} : sExtract x i cx e fr h k = evK e fr x fun v => v.onTup (fun l => onSome l[i]? fun v => k v h) none := by
  show evK e fr x (fun v => v.onTup (fun l => nthK i l (fun v => k v h) none) none) = _
  congr 1; funext v; congr 1; funext l; rw [nthK_eq]; cases l[i]? <;> rfl
@[simp, simp ↓] theorem fillK_nil {l : List V} {f : List V → Res} : fillK e fr [] l f = f l := Eq.trans rfl rfl
@[simp, simp ↓] theorem fillK_cons {off sz : Nat} {x : O} {ps : List (Nat × Nat × O)} {l : List V} {f : List V → Res} : fillK e fr ((off, sz, x) :: ps) l f = evK e fr x fun v => if v.cells.length = sz then (if off + v.cells.length ≤ l.length then fillK e fr ps (setAt off v.cells l) f else none) else none := by
  show evK e fr x (fun v => v.cellsK fun cs => lenK cs fun n => (Bool.casesOn (Nat.beq n sz) none (setAtK off cs l (fun l => fillK e fr ps l f) none) : Res)) = _
  congr 1; funext v
  rw [cellsK_eq, lenK_eq, setAtK_eq]
  by_cases hh : v.cells.length = sz
  · rw [if_pos hh, hh, Nat.beq_refl]
  · have : Nat.beq v.cells.length sz = false := by
      cases hb : Nat.beq v.cells.length sz with
      | false => rfl
      | true => exact absurd (Nat.eq_of_beq_eq_true hb) hh
    rw [if_neg hh, this]
@[simp, simp ↓] theorem sBuildSlice_s {ty : TypeId} {cells : List V} {len : Nat} {ps : List (Nat × Nat × O)} : sBuildSlice ty cells len ps cx e fr h k = fillK e fr ps cells fun l => k (.slc h.next 0 len (.known len)) (h.new (.cells l .own ty)) := by
  show fillK e fr ps cells (fun l => h.newK (.cells l .own ty) fun p h => k (.slc p 0 len (.known len)) h) = _
  simp only [H.newK_eq]
@[simp, simp ↓] theorem kCond_s {p : Pos} {a b : K} : kCond (.t p) a b cx fr h = onTruth (Tr.get p fr) (fun _ => a cx fr h) (fun _ => b cx fr h) := by
  show evK [] fr (.t p) (fun v => v.onBool (fun t => (Bool.casesOn t (b cx fr h) (a cx fr h) : Res)) none) = _
  rw [evK_t]
  cases Tr.get p fr with
  | none => rfl
  | some v => cases v <;> first | rfl | (rename_i t; cases t <;> rfl)

/-! ### slices of one cell an element -/
def SlcAt (h : H) (v : V) (vs : List V) : Prop :=
  ((v = .nils ∨ ∃ b, v = .odd b) ∧ vs = []) ∨ ∃ b o c l kd ty, v = .slc b o vs.length (.known c) ∧ vs.length ≤ c ∧ h.get b = some (.cells l kd ty) ∧ Old h b ∧ ∀ (i : Nat) (u : V), vs[i]? = some u → l[o + i]? = some u ∧ u.isJunk = false
theorem SlcAt.len {v : V} {vs : List V} (hs : SlcAt h v vs) (f : V → Res) : lenS v f = f (.int .i64 vs.length) := by
  rcases hs with ⟨rfl | ⟨b, rfl⟩, rfl⟩ | ⟨b, o, c, l, kd, ty, rfl, _⟩ <;> rfl
theorem SlcAt.at {v : V} {vs : List V} (hs : SlcAt h v vs) {i : Nat} {u : V} (hi : vs[i]? = some u) : ∃ b o, Old h b ∧ (∀ kd f, idxS 1 v (.int kd i) f = f b o) ∧ ∀ f, h.loadK none b o f = f u := by
  rcases hs with ⟨_, rfl⟩ | ⟨b, o, c, l, kd, ty, rfl, hc, hb, hold, hl⟩
  · simp at hi
  · have hlt : i < vs.length := (List.getElem?_eq_some_iff.1 hi).1
    obtain ⟨h1, h2⟩ := hl i u hi
    refine ⟨b, o + i * 1, hold, fun kd f => ?_, fun f => ?_⟩
    · simp only [idxS, onSlc_s]; rw [onIndex_nat hlt]
    · rw [loadK_none, hb]; simp [h1, h2]
theorem SlcAt.new {v : V} {vs : List V} {x : Blk} (hs : SlcAt h v vs) : SlcAt (h.new x) v vs := by
  rcases hs with h1 | ⟨b, o, c, l, kd, ty, h1, h2, h3, h4, h5⟩
  · exact .inl h1
  · exact .inr ⟨b, o, c, l, kd, ty, h1, h2, by rw [get_new_old h4]; exact h3, old_new h4, h5⟩

theorem SlcAt.ext {h h' : H} {v : V} {vs : List V} (hs : SlcAt h v vs) (hh : Ext h h') : SlcAt h' v vs := by
  rcases hs with h1 | ⟨b, o, c, l, kd, ty, h1, h2, h3, h4, h5⟩
  · exact .inl h1
  · exact .inr ⟨b, o, c, l, kd, ty, h1, h2, by rw [hh.get b h4]; exact h3, hh.old h4, h5⟩
theorem SlcAt.junk {v : V} {vs : List V} (hs : SlcAt h v vs) : v.isJunk = false := by
  rcases hs with ⟨rfl | ⟨b, rfl⟩, rfl⟩ | ⟨b, o, c, l, kd, ty, rfl, _⟩ <;> rfl
theorem SlcAt.cells {v : V} {vs : List V} (hs : SlcAt h v vs) : v.cells = [v] := by
  rcases hs with ⟨rfl | ⟨b, rfl⟩, rfl⟩ | ⟨b, o, c, l, kd, ty, rfl, _⟩ <;> rfl
theorem SlcAt.bare {v : V} {vs : List V} (hs : SlcAt h v vs) : SlcAt ⟨h.next, h.t, []⟩ v vs := hs
/-- the first n elements -/
theorem SlcAt.take {v : V} {vs : List V} (hs : SlcAt h v vs) {n : Nat} (hn : n ≤ vs.length) : ∃ v', SlcAt h v' (vs.take n) ∧ ∀ (cx : Cx) (e : List V) (fr : Fr) (x i : O) (k : V → H → Res), ev e fr x = some v → ev e fr i = some (.int .i64 n) → sSlice 1 x none (some i) none cx e fr h k = k v' h := by
  rcases hs with ⟨rfl | ⟨b, rfl⟩, rfl⟩ | ⟨b, o, c, l, kd, ty, rfl, hc, hb, hold, hl⟩
  · have : n = 0 := by simpa using hn
    subst this
    refine ⟨.nils, .inl ⟨.inl rfl, rfl⟩, fun cx e fr x i k hx hi => ?_⟩
    show evK e fr x (fun v => (V.casesOn v _ _ _ _ _ _ _ _ _ _ _ _ _ _ _ _ _ _ : Res)) = _
    rw [evK_eq, hx]
    show (bndK (β := Res) e fr (some i) 0 0 fun _ => bndK (β := Res) e fr none 0 0 fun _ => k .nils h) = _
    show evK e fr i (fun v => v.onIndex 1 (fun _ => k .nils h) none) = _
    rw [evK_eq, hi]
    exact onIndex_nat (by omega)
  · have : n = 0 := by simpa using hn
    subst this
    refine ⟨.odd b, .inl ⟨.inr ⟨b, rfl⟩, rfl⟩, fun cx e fr x i k hx hi => ?_⟩
    show evK e fr x (fun v => (V.casesOn v _ _ _ _ _ _ _ _ _ _ _ _ _ _ _ _ _ _ : Res)) = _
    rw [evK_eq, hx]
    show (bndK (β := Res) e fr (some i) 0 0 fun _ => bndK (β := Res) e fr none 0 0 fun _ => k (.odd b) h) = _
    show evK e fr i (fun v => v.onIndex 1 (fun _ => k (.odd b) h) none) = _
    rw [evK_eq, hi]
    exact onIndex_nat (by omega)
  · refine ⟨.slc b o n (.known c), .inr ⟨b, o, c, l, kd, ty, by simp [List.length_take, Nat.min_eq_left hn], by simp; omega, hb, hold, fun i u hi => ?_⟩, fun cx e fr x i k hx hi => ?_⟩
    · rw [List.getElem?_take] at hi
      split at hi
      · exact hl i u hi
      · cases hi
    · show evK e fr x (fun v => (V.casesOn v _ _ _ _ _ _ _ _ _ _ _ _ _ _ _ _ _ _ : Res)) = _
      rw [evK_eq, hx]
      show sliceK h e fr 1 b o vs.length (.known c) none (some i) none k = _
      show (bndK (β := Res) e fr (some i) vs.length c fun hh => bndK (β := Res) e fr none 0 hh fun l => (Bool.casesOn (Nat.beq c l)
          (natK (Nat.add o (Nat.mul l 1)) fun o => natK (Nat.sub hh l) fun n => natK (Nat.sub c l) fun c => k (.slc b o n (.known c)) h)
          (natK (Nat.sub hh l) fun n => k (.slc b o n (.known 0)) h) : Res)) = _
      show (evK e fr i fun v => v.onIndex (Nat.succ c) (fun hh => (Bool.casesOn (Nat.beq c 0)
          (natK (Nat.add o (Nat.mul 0 1)) fun o => natK (Nat.sub hh 0) fun n => natK (Nat.sub c 0) fun c => k (.slc b o n (.known c)) h)
          (natK (Nat.sub hh 0) fun n => k (.slc b o n (.known 0)) h) : Res)) none) = _
      rw [evK_eq, hi]
      show (V.int .i64 (n : Int)).onIndex (Nat.succ c) _ none = _
      rw [onIndex_nat (by omega)]
      simp only [natK_eq]
      cases hb0 : Nat.beq c 0 with
      | false => simp
      | true =>
        have := Nat.eq_of_beq_eq_true hb0
        subst this; simp

/-! ### loops -/
theorem Ends.loop {a : K} (I : Nat → Fr → H → Prop) (hI : ∀ n fr h, I n fr h → Ends (a cx fr h) fun x fr' h' => match x with | .norm => ∃ m, m < n ∧ I m fr' h' | .jump j => Q (.jump j) fr' h') :
    ∀ (n : Nat) (fr : Fr) (h : H), I n fr h → n < cx.fuel → Ends (kLoop a cx fr h) Q := by
  have key : ∀ (fuel n : Nat) (fr : Fr) (h : H), I n fr h → n < fuel → Ends (loopK a cx fuel fr h) Q := by
    intro fuel
    induction fuel with
    | zero => intro n fr h _ hn; omega
    | succ fuel ih =>
      intro n fr h hi hn
      have : loopK a cx (fuel + 1) fr h = resK (a cx fr h) (loopK a cx fuel) (fun j fr h => some (.jump j, fr, h)) none := rfl
      rw [this]
      refine Ends.bind (hI n fr h hi) (fun fr' h' hq => ?_) (fun j fr' h' hq => by simpa using hq)
      obtain ⟨m, h1, h2⟩ := hq
      exact ih m fr' h' h2 (by omega)
  exact fun n fr h hi hn => key cx.fuel n fr h hi hn
theorem Ends.block {id : Nat} {a : K} (hh : Ends (a cx fr h) fun x fr' h' => match x with | .norm => Q .norm fr' h' | .jump (.exit i) => if i = id then Q .norm fr' h' else Q (.jump (.exit i)) fr' h' | .jump .ret => Q (.jump .ret) fr' h') : Ends (kBlock id a cx fr h) Q := by
  have : kBlock id a cx fr h = resK (a cx fr h) (fun fr h => some (.norm, fr, h)) (fun j fr h => (Jump.casesOn j (fun i => (Bool.casesOn (Nat.beq i id) (some (.jump (.exit i), fr, h)) (some (.norm, fr, h)) : Res)) (some (.jump .ret, fr, h)) : Res)) none := rfl
  rw [this]
  refine Ends.bind hh (fun fr' h' hq => by simpa using hq) (fun j fr' h' hq => ?_)
  cases j with
  | exit i =>
    by_cases hi : i = id
    · subst hi
      have hb : Nat.beq i i = true := Nat.beq_refl i
      show Ends (Bool.casesOn (Nat.beq i i) _ _ : Res) Q
      rw [hb]; simpa using hq
    · have hb : Nat.beq i id = false := by
        cases hb : Nat.beq i id with
        | false => rfl
        | true => exact absurd (Nat.eq_of_beq_eq_true hb) hi
      show Ends (Bool.casesOn (Nat.beq i id) _ _ : Res) Q
      rw [hb]; simpa [hi] using hq
  | ret => simpa using hq
theorem Ends.seq {a b : K} {Q1 : E → Fr → H → Prop} (h1 : Ends (a cx fr h) Q1) (h2 : ∀ fr h, Q1 .norm fr h → Ends (b cx fr h) Q) (h3 : ∀ j fr h, Q1 (.jump j) fr h → Q (.jump j) fr h) : Ends (kSeq a b cx fr h) Q :=
  Ends.bind h1 h2 fun j fr h hq => by simpa using h3 j fr h hq

@[simp, simp ↓] theorem kBlock_s {id : Nat} {a : K} : kBlock id a cx fr h = resK (a cx fr h) (fun fr h => some (.norm, fr, h)) (fun j fr h => match j with | .exit i => if i = id then some (.norm, fr, h) else some (.jump (.exit i), fr, h) | .ret => some (.jump .ret, fr, h)) none := by
  show resK (a cx fr h) (fun fr h => some (.norm, fr, h)) (fun j fr h => (Jump.casesOn j (fun i => (Bool.casesOn (Nat.beq i id) (some (.jump (.exit i), fr, h)) (some (.norm, fr, h)) : Res)) (some (.jump .ret, fr, h)) : Res)) none = _
  congr 1; funext j fr h
  cases j with
  | ret => rfl
  | exit i =>
    by_cases hi : i = id
    · subst hi
      show (Bool.casesOn (Nat.beq i i) _ _ : Res) = _
      rw [Nat.beq_refl]; simp
    · have hb : Nat.beq i id = false := by
        cases hb : Nat.beq i id with
        | false => rfl
        | true => exact absurd (Nat.eq_of_beq_eq_true hb) hi
      show (Bool.casesOn (Nat.beq i id) _ _ : Res) = _
      rw [hb]; simp [hi]
@[simp, simp ↓] theorem resK_none_s {β : Type} {norm : Fr → H → β} {jump : Jump → Fr → H → β} {z : β} : resK none norm jump z = z := Eq.trans rfl rfl
@[simp, simp ↓] theorem resK_assoc {β : Type} {r : Res} {f : Fr → H → Res} {g : Jump → Fr → H → Res} {f2 : Fr → H → β} {g2 : Jump → Fr → H → β} {z : β} : resK (resK r f g none) f2 g2 z = resK r (fun fr h => resK (f fr h) f2 g2 z) (fun j fr h => resK (g j fr h) f2 g2 z) z := by
  cases r with
  | none => rfl
  | some x => obtain ⟨x, fr, h⟩ := x; cases x <;> rfl
@[simp, simp ↓] theorem resK_ite {β : Type} {c : Prop} [Decidable c] {r r' : Res} {f : Fr → H → β} {g : Jump → Fr → H → β} {z : β} : resK (if c then r else r') f g z = if c then resK r f g z else resK r' f g z := by split <;> rfl
/-- A LOOP: I holds ahead of each round, with so many rounds to come; R when it is left -/
theorem Ends.looped {a : K} {norm : Fr → H → Res} {jump : Jump → Fr → H → Res} (I : Nat → Fr → H → Prop) (R : Jump → Fr → H → Prop) (n : Nat) (hi : I n fr h) (hn : n < cx.fuel)
    (step : ∀ n fr h, I n fr h → Ends (a cx fr h) fun x fr' h' => match x with | .norm => ∃ m, m < n ∧ I m fr' h' | .jump j => R j fr' h')
    (after : ∀ j fr h, R j fr h → Ends (jump j fr h) Q) : Ends (resK (kLoop a cx fr h) norm jump none) Q := by
  have h1 : Ends (kLoop a cx fr h) fun x fr' h' => match x with | .norm => False | .jump j => R j fr' h' :=
    Ends.loop (Q := fun x fr' h' => match x with | .norm => False | .jump j => R j fr' h') I (fun n fr h hh => (step n fr h hh).mono fun x fr' h' hq => by cases x <;> exact hq) n fr h hi hn
  exact Ends.bind h1 (fun _ _ hq => hq.elim) fun j fr' h' hq => after j fr' h' hq
@[simp, simp ↓] theorem ends_ite {c : Prop} [Decidable c] {r r' : Res} : Ends (if c then r else r') Q ↔ (c → Ends r Q) ∧ (¬ c → Ends r' Q) := by
  by_cases hc : c <;> simp [hc]

/-! ### functions -/
theorem body_tmp {call : Call} {n : Nat} {ps : List Pos} {p : Pos} {K : K} {args : List V} {v : V} (hl : ps.length = args.length)
    (hh : Ends (K ⟨call, n, false⟩ (setAll .leaf ps args) ⟨h.next, h.t, []⟩) fun x fr' h' => x = .jump .ret ∧ h' = ⟨h.next, h.t, []⟩ ∧ Tr.get p fr' = some v) : bodyK call n ⟨ps, [.tmp p], K⟩ args h = some (v, h) := by
  obtain ⟨x, fr', h', h1, rfl, rfl, h2⟩ := hh
  have he : ∀ (ps : List Pos) (args : List V) (fr : Fr) (f : Fr → Option (V × H)), ps.length = args.length → enterK ps args fr f none = f (setAll fr ps args) := by
    intro ps
    induction ps with
    | nil => intro args fr f hl; cases args with
      | nil => rfl
      | cons => simp at hl
    | cons p ps ih => intro args fr f hl; cases args with
      | nil => simp at hl
      | cons a args =>
        show Tr.setK (some a) p fr (fun fr => enterK ps args fr f none) = _
        rw [Tr.setK_eq, ih _ _ _ (by simpa using hl)]; rfl
  show enterK ps args .leaf (fun fr => resK (K ⟨call, n, false⟩ fr ⟨h.next, h.t, []⟩) (fun fr h' => leaveK h.marks [.tmp p] fr h') (fun j fr h' => (Jump.casesOn j (fun _ => none) (leaveK h.marks [.tmp p] fr h') : Option (V × H))) none) none = _
  rw [he _ _ _ _ hl, h1]
  show (Option.casesOn (Tr.get p fr') none fun v => some (resOf [v], ⟨h.next, h.t, h.marks⟩) : Option (V × H)) = _
  rw [h2]; rfl
@[simp, simp ↓] theorem setAll_nil {ps : List Pos} : setAll fr ps [] = fr := by cases ps <;> rfl
@[simp, simp ↓] theorem setAll_cons {p : Pos} {ps : List Pos} {v : V} {vs : List V} : setAll fr (p :: ps) (v :: vs) = setAll (Tr.set (some v) p fr) ps vs := Eq.trans rfl rfl

end
end Go.Proofs.YtdojpbbdcgfcnaaGreatDoor.AI
/- FUNCTIONS THAT ONLY READ: what they answer is known, and the heap is as it was. -/
namespace Go.Proofs.YtdojpbbdcgfcnaaGreatDoor.AI

def Blk.ro : Blk → Option Blk
  | .cells l _ ty => some (.cells l .ro ty)
  | _ => none
def Tr.ro : Tr Blk → Tr Blk
  | .leaf => .leaf
  | .node l v r => .node l.ro (v.bind Blk.ro) r.ro
theorem Tr.get_ro (p : Pos) : ∀ t : Tr Blk, Tr.get p t.ro = (Tr.get p t).bind Blk.ro := by
  induction p with
  | h => intro t; cases t <;> rfl
  | o p ih => intro t; cases t with
    | leaf => rfl
    | node l v r => exact ih l
  | i p ih => intro t; cases t with
    | leaf => rfl
    | node l v r => exact ih r
/-- a heap of which nothing may be written -/
def H.ro (h : H) : H := ⟨h.next, h.t.ro, []⟩
theorem H.get_ro (h : H) (b : Pos) : h.ro.get b = (h.get b).bind Blk.ro := Tr.get_ro b h.t
theorem H.get_ro_cells {h : H} {b : Pos} {l : List V} {kd : Kind} {ty : TypeId} (hb : h.get b = some (.cells l kd ty)) : h.ro.get b = some (.cells l .ro ty) := by rw [H.get_ro, hb]; rfl
theorem ro_cells {h : H} {b : Pos} {x : Blk} (hb : h.ro.get b = some x) : ∃ l kd ty, h.get b = some (.cells l kd ty) ∧ x = .cells l .ro ty := by
  rw [H.get_ro] at hb
  cases hg : h.get b with
  | none => rw [hg] at hb; cases hb
  | some y =>
    rw [hg] at hb
    cases y with
    | cells l kd ty => cases hb; exact ⟨l, kd, ty, rfl, rfl⟩
    | _ => cases hb

/-- a function that answers so, and leaves the heap -/
noncomputable def natOf (R : List V → H → V → Prop) (args : List V) (h : H) : Option (V × H) :=
  @dite _ (∃ v, R args h v) (Classical.propDecidable _) (fun hh => some (Classical.choose hh, h)) fun _ => none
theorem natOf_some {R : List V → H → V → Prop} {args : List V} {h : H} {v : V} (hr : R args h v) (hu : ∀ u, R args h u → u = v) : natOf R args h = some (v, h) := by
  unfold natOf
  have hh : ∃ v, R args h v := ⟨v, hr⟩
  rw [dif_pos hh, hu _ (Classical.choose_spec hh)]
theorem natOf_spec {R : List V → H → V → Prop} {args : List V} {h : H} {v : V} {h' : H} (hs : natOf R args h = some (v, h')) : R args h v ∧ h' = h := by
  unfold natOf at hs
  split at hs
  · rename_i hh
    cases hs
    exact ⟨Classical.choose_spec hh, rfl⟩
  · cases hs

section
variable {P : Program} {rs : Rnds} {p : Prg}

theorem WR.ro {ng : Nat} {g : G} {h : H} {w : World} (hw : WR rs ng g h w) : WR rs ng g h.ro w where
  blk b x hb := by
    obtain ⟨l, kd, ty, h1, rfl⟩ := ro_cells hb
    obtain ⟨h2, h3, c, el, fz, h4, h5, h6, h7, h8⟩ := hw.blk b _ h1
    exact ⟨h2, h3, c, el, fz, h4, h5, h6, fun hh => absurd rfl hh, trivial⟩
  inj b b' x x' hb _ hx := by
    obtain ⟨l, kd, ty, h1, rfl⟩ := ro_cells hb
    cases hx
  glob := hw.glob
  marks m hm := by cases hm

/-- A FUNCTION THAT ONLY READS, by a run on a heap of which nothing may be written -/
theorem natOf_ok {f : Nat} {R : List V → H → V → Prop} (hp : PrgOk P rs p) (hR : ∀ args h v, R args h v → closed 1000 v = true ∧ ∃ m k h1, goK p (callK p m) k f args h.ro = some (v, h1)) : NatOk P rs f (natOf R) := by
  intro args h v h' hs g w hw ha
  obtain ⟨hr, rfl⟩ := natOf_spec hs
  obtain ⟨hv, m, k, h1, hrun⟩ := hR args _ v hr
  obtain ⟨g', w', a1, a2, a3, a4, a5⟩ := go_ok hp (call_ok hp m) hrun hw.ro ha
  obtain ⟨b1, b2⟩ := hw.world a2.size (fun k hk => a2.keep k hk fun b x hb hx => by
    obtain ⟨l, kd, ty, _, rfl⟩ := ro_cells hb
    cases hx) a2.os a2.tape a2.output
  refine ⟨g, w', b1, b2, (closed_ok _ 1000).1 _ hv, rfl, ?_⟩
  have : conc g' v = conc g v := conc_same (p := fun _ => False) (fun _ hb => hb.elim) v ((closed_ok _ 1000).1 _ hv)
  rwa [this] at a5

theorem go_body {call : Call} {m f : Nat} {fk : FK} {args : List V} {h : H} (hn : p.nat f = none) (hf : p.fs f = some fk) : goK p call m f args h = bodyK call m fk args h := by
  unfold goK; rw [hn, hf]
theorem go_nat {call : Call} {m f : Nat} {nt : List V → H → Option (V × H)} {args : List V} {h : H} (hn : p.nat f = some nt) : goK p call m f args h = nt args h := by
  unfold goK; rw [hn]
theorem call_go {m f : Nat} {cap args : List V} {h : H} : callK p (m + 1) (.fn (.func f) [] cap) args h = goK p (callK p m) m f (args ++ cap) h := by
  show appK args cap (fun args => appK [] args fun args => goK p (callK p m) m f args h) = _
  rw [appK_eq]; rfl
end

theorem SlcAt.ro {h : H} {v : V} {vs : List V} (hs : SlcAt h v vs) : SlcAt h.ro v vs := by
  rcases hs with h1 | ⟨b, o, c, l, kd, ty, h1, h2, h3, h4, h5⟩
  · exact .inl h1
  · exact .inr ⟨b, o, c, l, .ro, ty, h1, h2, H.get_ro_cells h3, h4, h5⟩
theorem SlcAt.uniq {h : H} {v : V} {vs us : List V} (hs : SlcAt h v vs) (ht : SlcAt h v us) : vs = us := by
  rcases hs with ⟨hv, rfl⟩ | ⟨b, o, c, l, kd, ty, rfl, h2, h3, h4, h5⟩
  · rcases ht with ⟨_, rfl⟩ | ⟨b, o, c, l, kd, ty, h1, _⟩
    · rfl
    · subst h1
      rcases hv with hv | ⟨_, hv⟩ <;> cases hv
  · rcases ht with ⟨h1, _⟩ | ⟨b', o', c', l', kd', ty', h1, k2, k3, k4, k5⟩
    · rcases h1 with h1 | ⟨_, h1⟩ <;> cases h1
    · obtain ⟨rfl, rfl, hlen, _⟩ := V.slc.inj h1
      rw [h3] at k3; cases k3
      refine List.ext_getElem? fun i => ?_
      cases hi : vs[i]? with
      | none =>
        have : us[i]? = none := by
          rw [List.getElem?_eq_none_iff] at hi ⊢; omega
        rw [this]
      | some u =>
        have hlt := (List.getElem?_eq_some_iff.1 hi).1
        have hu : us[i]? = some us[i] := List.getElem?_eq_getElem (by omega)
        rw [hu]
        have e1 := (h5 i u hi).1
        have e2 := (k5 i _ hu).1
        rw [e1] at e2; exact e2

section
variable {cx : Cx} {e : List V} {fr : Fr} {h : H} {k : V → H → Res}
@[simp, simp ↓] theorem sStore_s {sz : Nat} {a x : O} : sStore sz a x cx e fr h k = evK e fr a fun v => evK e fr x fun w => v.onPtr (fun b off => if w.cells.length = sz then h.storeK b off w.cells (fun h => k undefV h) else none) none := by
  show evK e fr a (fun v => evK e fr x fun w => v.onPtr (fun b off => w.cellsK fun cs => lenK cs fun n => (Bool.casesOn (Nat.beq n sz) none (h.storeK b off cs fun h => k undefV h) : Res)) none) = _
  congr 1; funext v; congr 1; funext w; congr 1; funext b off
  rw [cellsK_eq, lenK_eq]
  by_cases hh : w.cells.length = sz
  · rw [if_pos hh, hh, Nat.beq_refl]
  · have : Nat.beq w.cells.length sz = false := by
      cases hb : Nat.beq w.cells.length sz with
      | false => rfl
      | true => exact absurd (Nat.eq_of_beq_eq_true hb) hh
    rw [if_neg hh, this]
/-- a block of ours is written -/
theorem storeK_box {b : Pos} {l cs : List V} {kd : Kind} {ty : TypeId} {off : Nat} {f : H → Res} (hb : h.get b = some (.cells l kd ty)) (hk : kd.isRo = false) (ho : onesK cs = true) (hl : off + cs.length ≤ l.length) :
    h.storeK b off cs f = f (h.put b (some (.cells (setAt off cs l) kd ty))) := by
  unfold H.storeK
  rw [ho]
  show (h.getK b (fun x => x.onCells (fun l kd ty => (Bool.casesOn kd.isRo (setAtK off cs l (fun l => h.putK b (some (.cells l kd ty)) f) none) none : Res)) none) none : Res) = _
  rw [H.getK_eq, hb]
  show (Bool.casesOn kd.isRo (setAtK off cs l (fun l => h.putK b (some (.cells l kd ty)) f) none) none : Res) = _
  rw [hk]
  show setAtK off cs l (fun l => h.putK b (some (.cells l kd ty)) f) none = _
  rw [setAtK_eq, if_pos hl, H.putK_eq]
theorem Ext.put {h h' : H} (hh : Ext h h') {p : Pos} {x : Option Blk} (hp : ¬ Old h p) : Ext h (h'.put p x) := ⟨hh.next, fun b hb => by
  rw [H.get_put, if_neg (fun he => hp (by rw [← he]; exact hb))]; exact hh.get b hb, hh.marks⟩
theorem Ext.trans {h h' h'' : H} (a : Ext h h') (b : Ext h' h'') : Ext h h'' := ⟨Nat.le_trans a.next b.next, fun x hx => (b.get x (a.old hx)).trans (a.get x hx), b.marks.trans a.marks⟩
theorem SlcAt.eqD {v : V} {vs : List V} (hs : SlcAt h v vs) {n : Nat} : eqD (n + 1) v v = true := by
  rcases hs with ⟨rfl | ⟨b, rfl⟩, rfl⟩ | ⟨b, o, c, l, kd, ty, rfl, _⟩
  · rfl
  · simp [Go.Proofs.YtdojpbbdcgfcnaaGreatDoor.AI.eqD]
  · simp [Go.Proofs.YtdojpbbdcgfcnaaGreatDoor.AI.eqD]
theorem SlcAt.one {v : V} {vs : List V} (hs : SlcAt h v vs) : v.isOne = true := by
  rcases hs with ⟨rfl | ⟨b, rfl⟩, rfl⟩ | ⟨b, o, c, l, kd, ty, rfl, _⟩ <;> rfl
@[simp] theorem eqD_int {n : Nat} {k : IntKind} {i : Int} : eqD (n + 1) (.int k i) (.int k i) = true := by simp [Go.Proofs.YtdojpbbdcgfcnaaGreatDoor.AI.eqD]
@[simp] theorem eqD_bool {n : Nat} {b : Bool} : eqD (n + 1) (.bool b) (.bool b) = true := by simp [Go.Proofs.YtdojpbbdcgfcnaaGreatDoor.AI.eqD]
theorem eqD_agg2 {n : Nat} {a b : V} (ha : eqD (n + 2) a a = true) (hb : eqD (n + 1) b b = true) : eqD (n + 4) (.agg [a, b]) (.agg [a, b]) = true := by
  show eqDs (n + 3) [a, b] [a, b] = true
  show (eqD (n + 2) a a && (eqD (n + 1) b b && eqDs (n + 1) [] [])) = true
  rw [ha, hb]; rfl
end
end Go.Proofs.YtdojpbbdcgfcnaaGreatDoor.AI
/- FROM WHAT A ROW TELLS OF ITS ARGUMENTS TO AN ABSTRACT HEAP. -/
namespace Go.Proofs.YtdojpbbdcgfcnaaGreatDoor.AI

section
variable {P : Program} {rs : Rnds} {ng : Nat} {W : World}

/-- the heap is the world's, and nothing of it may be written -/
def St (P : Program) (rs : Rnds) (ng : Nat) (W : World) (g : G) (h : H) : Prop := WR rs ng g h W ∧ ∀ b y, h.get b = some y → y.writable = false
structure Grow (g : G) (h : H) (g' : G) (h' : H) : Prop where
  agree : g.agree g' h.next.toNat
  ext : Ext h h'
theorem Grow.refl (g : G) (h : H) : Grow g h g h := ⟨g.agree_refl _, Ext.refl h⟩
theorem Grow.trans {g g' g'' : G} {h h' h'' : H} (a : Grow g h g' h') (b : Grow g' h' g'' h'') : Grow g h g'' h'' := ⟨G.agree_trans a.agree b.agree a.ext.next, a.ext.trans b.ext⟩

/-- a row of the world is taken in, to be read alone -/
theorem St.add {g : G} {h : H} (hs : St P rs ng W g h) (x : Blk) (n off : Nat) (hn : n < W.heap.size) (hro : x.writable = false) (hx : BR rs (g.upd h.next n off 0) (h.next.toNat + 1) W h.next x) :
    St P rs ng W (g.upd h.next n off 0) (h.new x) ∧ Grow g h (g.upd h.next n off 0) (h.new x) := by
  obtain ⟨hw, hr⟩ := hs
  have ha : g.agree (g.upd h.next n off 0) h.next.toNat := g.agree_upd _ _ _ _
  have hall : ∀ b y, (h.new x).get b = some y → y.writable = false := fun b y hb => by
    rw [H.get_new] at hb
    split at hb
    · cases hb; exact hro
    · exact hr b y hb
  refine ⟨⟨⟨fun b y hb => ?_, fun b b' y y' hb hb' hy he => ?_, ⟨by rw [H.next_new]; have := hw.glob.1; omega, fun i hi => ?_⟩, fun m hm => by rw [H.next_new]; have := hw.marks m hm; omega⟩, hall⟩, ⟨ha, (Ext.refl h).new⟩⟩
  · rw [H.get_new] at hb
    rw [H.next_new]
    split at hb
    · rename_i e; subst e; cases hb; exact ⟨by omega, by simpa using hn, hx⟩
    · rename_i e
      obtain ⟨h1, h2, h3⟩ := hw.blk b y hb
      exact ⟨by omega, by rw [(ha b h1).1]; exact h2, h3.ext ha (by omega) h1 rfl⟩
  · have := hall b y hb; rw [this] at hy; cases hy
  · have hlt : (Pos.ofNat i).toNat < h.next.toNat := by rw [Pos.toNat_ofNat]; have := hw.glob.1; omega
    obtain ⟨e1, e2, _⟩ := ha _ hlt
    rw [e1, e2]; exact hw.glob.2 i hi
/-- a number more, that no block stands for -/
def H.skip (h : H) : H := ⟨h.next.succ, h.t, h.marks⟩
theorem St.skip {g : G} {h : H} (hs : St P rs ng W g h) (n off cap : Nat) : St P rs ng W (g.upd h.next n off cap) h.skip ∧ Grow g h (g.upd h.next n off cap) h.skip := by
  obtain ⟨hw, hr⟩ := hs
  have ha : g.agree (g.upd h.next n off cap) h.next.toNat := g.agree_upd _ _ _ _
  have hnx : h.skip.next.toNat = h.next.toNat + 1 := Pos.toNat_succ _
  refine ⟨⟨⟨fun b y hb => ?_, fun b b' y y' hb hb' hy he => ?_, ⟨by rw [hnx]; have := hw.glob.1; omega, fun i hi => ?_⟩, fun m hm => by rw [hnx]; have := hw.marks m hm; omega⟩, hr⟩, ⟨ha, ⟨by omega, fun _ _ => rfl, rfl⟩⟩⟩
  · obtain ⟨h1, h2, h3⟩ := hw.blk b y hb
    rw [hnx]
    exact ⟨by omega, by rw [(ha b h1).1]; exact h2, h3.ext ha (by omega) h1 rfl⟩
  · have := hr b y hb; rw [this] at hy; cases hy
  · have hlt : (Pos.ofNat i).toNat < h.next.toNat := by rw [Pos.toNat_ofNat]; have := hw.glob.1; omega
    obtain ⟨e1, e2, _⟩ := ha _ hlt
    rw [e1, e2]; exact hw.glob.2 i hi

/-- what cells of a type are, when they are read -/
def Reads (P : Program) (h : H) : Nat → TypeId → List V → Prop
  | 0, _, _ => False
  | k + 1, t, vs => match P.underlying t with
    | some .bool => ∃ b, vs = [.bool b]
    | some (.int kd) => ∃ n, vs = [.int kd n]
    | some .string => ∃ s, vs = [.str s]
    | some (.slice e) => vs = [.nils] ∨ (∃ b, vs = [.odd b]) ∨ ∃ b n c l, vs = [.slc b 0 n (.known c)] ∧ n ≤ c ∧ c ≤ maxLen ∧ h.get b = some (.cells l .ro 0) ∧ Old h b ∧ l.length = n * P.cellsOf e ∧ ∀ i, i < n → Reads P h k e ((l.drop (i * P.cellsOf e)).take (P.cellsOf e))
    | some (.struct fs) => vs.length = P.cellsOf t ∧ ∀ f ∈ fs.toList, Reads P h k f.type ((vs.drop f.offset).take (P.cellsOf f.type))
    | some (.array n e) => vs.length = P.cellsOf t ∧ ∀ i, i < n → Reads P h k e ((vs.drop (i * P.cellsOf e)).take (P.cellsOf e))
    | _ => False

theorem Reads.ext {h h' : H} (hh : Ext h h') : ∀ (k : Nat) (t : TypeId) (vs : List V), Reads P h k t vs → Reads P h' k t vs
  | 0, _, _, hr => hr.elim
  | k + 1, t, vs, hr => by
    unfold Reads at hr ⊢
    split at hr
    · exact hr
    · exact hr
    · exact hr
    · rcases hr with h1 | h1 | ⟨b, n, c, l, h1, h2, h3, h4, h5, h6, h7⟩
      · exact .inl h1
      · exact .inr (.inl h1)
      · exact .inr (.inr ⟨b, n, c, l, h1, h2, h3, by rw [hh.get b h5]; exact h4, hh.old h5, h6, fun i hi => Reads.ext hh k _ _ (h7 i hi)⟩)
    · exact ⟨hr.1, fun f hf => Reads.ext hh k _ _ (hr.2 f hf)⟩
    · exact ⟨hr.1, fun i hi => Reads.ext hh k _ _ (hr.2 i hi)⟩
    · exact hr

/-- parts that lie side by side -/
def tileP (P : Program) : Nat → List (Nat × TypeId) → Option Nat
  | off, [] => some off
  | off, (o, t) :: r => if o = off then tileP P (off + P.cellsOf t) r else none
/-- types of plain data without pointers -/
def flat (P : Program) : Nat → TypeId → Bool
  | 0, _ => false
  | k + 1, t => match P.underlying t with
    | some .bool | some (.int _) | some .string => true
    | some (.slice e) => decide (0 < P.cellsOf e) && flat P k e
    | some (.struct fs) => (tileP P 0 (fs.toList.map fun f => (f.offset, f.type)) == some (P.cellsOf t)) && fs.toList.all fun f => flat P k f.type
    | some (.array n e) => decide (P.cellsOf t = n * P.cellsOf e) && flat P k e
    | _ => false

theorem mapM_all {α β : Type} {f : α → Option β} : ∀ {l : List α} {ys : List β}, l.mapM f = some ys → ∀ x ∈ l, ∃ y, f x = some y
  | [], _, _, x, hx => by cases hx
  | a :: l, ys, h, x, hx => by
    rw [List.mapM_cons] at h
    cases ha : f a with
    | none => simp [ha] at h
    | some b =>
      cases hl : l.mapM f with
      | none => simp [ha, hl] at h
      | some bs =>
        rcases List.mem_cons.1 hx with rfl | hx
        · exact ⟨b, ha⟩
        · exact mapM_all hl x hx


/-- parts, one after the other -/
theorem absorb_parts {k : Nat} {D : TypeId → List Value → Prop}
    (one : ∀ t cs g h, D t cs → St P rs ng W g h → ∃ g' h' vs, St P rs ng W g' h' ∧ Grow g h g' h' ∧ concs g' vs = cs ∧ bds h'.next.toNat vs ∧ Reads P h' k t vs) :
    ∀ (ps : List (Nat × TypeId)) (off tot : Nat) (cs : List Value) (g : G) (h : H) (pre : List V), tileP P off ps = some tot → tot ≤ cs.length → (∀ x ∈ ps, D x.2 ((cs.drop x.1).take (P.cellsOf x.2))) → St P rs ng W g h → concs g pre = cs.take off → pre.length = off → bds h.next.toNat pre →
      ∃ g' h' post, St P rs ng W g' h' ∧ Grow g h g' h' ∧ concs g' (pre ++ post) = cs.take tot ∧ (pre ++ post).length = tot ∧ bds h'.next.toNat (pre ++ post) ∧ ∀ x ∈ ps, Reads P h' k x.2 (((pre ++ post).drop x.1).take (P.cellsOf x.2))
  | [], off, tot, cs, g, h, pre, ht, hl, _, hs, hc, hp, hb => by
    simp [tileP] at ht; subst ht
    exact ⟨g, h, [], hs, Grow.refl g h, by simpa using hc, by simpa using hp, by simpa using hb, by simp⟩
  | (o, t) :: r, off, tot, cs, g, h, pre, ht, hl, hd, hs, hc, hp, hb => by
    simp only [tileP] at ht
    split at ht
    · rename_i ho; subst ho
      obtain ⟨g1, h1, vs, a1, a2, a3, a4, a5⟩ := one t _ g h (hd (o, t) (by simp)) hs
      have hmono : ∀ (q : List (Nat × TypeId)) (a b : Nat), tileP P a q = some b → a ≤ b := by
        intro q
        induction q with
        | nil => intro a b h; simp [tileP] at h; omega
        | cons x q ih => intro a b h; simp only [tileP] at h; split at h; have := ih _ _ h; omega; cases h
      have hle := hmono r _ _ ht
      have hvl : vs.length = P.cellsOf t := by
        have := congrArg List.length a3
        rw [concs_length] at this
        rw [this]; simp; omega
      obtain ⟨g2, h2, post, b1, b2, b3, b4, b5, b6⟩ := absorb_parts one r (o + P.cellsOf t) tot cs g1 h1 (pre ++ vs) ht hl (fun x hx => hd x (List.mem_cons_of_mem _ hx)) a1 (by
          rw [concs_append, concs_ext a2.agree pre hb, hc, a3, List.take_add]) (by simp [hp, hvl]) (bds_append.2 ⟨bds_mono a2.ext.next _ hb, a4⟩)
      rw [List.append_assoc] at b3 b4 b5 b6
      refine ⟨g2, h2, vs ++ post, b1, a2.trans b2, b3, b4, b5, fun x hx => ?_⟩
      rcases List.mem_cons.1 hx with rfl | hx
      · have : ((pre ++ (vs ++ post)).drop o).take (P.cellsOf t) = vs := by
          rw [← hp, List.drop_left, ← hvl, List.take_left]
        rw [this]; exact Reads.ext b2.ext _ _ _ a5
      · exact b6 x hx
    · cases ht

theorem tile_range (P : Program) (e : TypeId) : ∀ (n i : Nat), tileP P (i * P.cellsOf e) ((List.range' i n).map fun j => (j * P.cellsOf e, e)) = some ((i + n) * P.cellsOf e)
  | 0, i => by simp [tileP]
  | n + 1, i => by
    rw [List.range'_succ]
    simp only [List.map_cons, tileP, if_true]
    have : i * P.cellsOf e + P.cellsOf e = (i + 1) * P.cellsOf e := by rw [Nat.succ_mul]
    rw [this, tile_range P e n (i + 1)]
    congr 2; omega

/-- the cells behind an address -/
theorem cells_of {w : World} {a : Addr} {n : Nat} {cs : List Value} (h : w.cells? 0 a n = some cs) : cs.length = n ∧ ∀ j, j < n → w.cell? (a.add j) = cs[j]? := by
  unfold World.cells? at h
  rw [if_pos (Nat.zero_le _)] at h
  have key : ∀ (m i : Nat) (cs : List Value), (List.range' i m).mapM (fun j => w.cell? (a.add j)) = some cs → cs.length = m ∧ ∀ j, j < m → w.cell? (a.add (i + j)) = cs[j]? := by
    intro m
    induction m with
    | zero => intro i cs h; simp at h; subst h; simp
    | succ m ih =>
      intro i cs h
      rw [List.range'_succ, List.mapM_cons] at h
      cases h1 : w.cell? (a.add i) with
      | none => simp [h1] at h
      | some c =>
        cases h2 : (List.range' (i + 1) m).mapM (fun j => w.cell? (a.add j)) with
        | none => simp [h1, h2] at h
        | some r =>
          simp [h1, h2] at h; subst h
          obtain ⟨k1, k2⟩ := ih (i + 1) r h2
          refine ⟨by simp [k1], fun j hj => ?_⟩
          cases j with
          | zero => simpa using h1
          | succ j => have := k2 j (by omega); rw [show i + (j + 1) = i + 1 + j by omega]; simpa using this
  have := key n 0 cs (by rwa [List.range_eq_range'] at h)
  simpa using this
end
end Go.Proofs.YtdojpbbdcgfcnaaGreatDoor.AI
/- FROM WHAT A ROW TELLS OF ITS ARGUMENTS TO AN ABSTRACT HEAP, 2. -/
namespace Go.Proofs.YtdojpbbdcgfcnaaGreatDoor.AI

section
variable {P : Program} {rs : Rnds} {ng : Nat} {W : World}

theorem absorb {α : Type} (enc : TypeId × Value → α) (held : Bool) : ∀ (k : Nat) (t : TypeId), flat P k t = true → ∀ (fuel : Nat) (cs : List Value) (x : DataW α × List MemPlace) (g : G) (h : H), DataW.trod enc P W 0 (fun _ => true) held fuel t cs = some x → St P rs ng W g h →
    ∃ g' h' vs, St P rs ng W g' h' ∧ Grow g h g' h' ∧ concs g' vs = cs ∧ bds h'.next.toNat vs ∧ Reads P h' k t vs := by
  intro k
  induction k with
  | zero => intro t hf; simp [flat] at hf
  | succ k ih =>
    intro t hf fuel cs x g h hx hs
    cases fuel with
    | zero => simp [DataW.trod] at hx
    | succ fuel =>
      have one : ∀ t cs g h, (∃ fuel x, flat P k t = true ∧ DataW.trod enc P W 0 (fun _ => true) held fuel t cs = some x) → St P rs ng W g h → ∃ g' h' vs, St P rs ng W g' h' ∧ Grow g h g' h' ∧ concs g' vs = cs ∧ bds h'.next.toNat vs ∧ Reads P h' k t vs := fun t cs g h ⟨f, x, h1, h2⟩ hs => ih t h1 f cs x g h h2 hs
      unfold DataW.trod at hx
      split at hx
      · rename_i b hu
        exact ⟨g, h, [.bool b], hs, Grow.refl g h, by simp [concs, conc], by simp [ons, V.on], by simp [Reads, hu]⟩
      · rename_i kd k' n hu
        split at hx
        · rename_i hk
          obtain ⟨hk1, _⟩ := hk
          subst hk1
          exact ⟨g, h, [.int k' n], hs, Grow.refl g h, by simp [concs, conc], by simp [ons, V.on], by simp [Reads, hu]⟩
        · cases hx
      · rename_i hu; simp [flat, hu] at hf
      · rename_i s hu
        exact ⟨g, h, [.str s.data.toList], hs, Grow.refl g h, by simp [concs, conc], by simp [ons, V.on], by simp [Reads, hu]⟩
      · rename_i hu; simp [flat, hu] at hf
      · rename_i hu; simp [flat, hu] at hf
      · rename_i hu
        exact ⟨g, h, [.nils], hs, Grow.refl g h, by simp [concs, conc], by simp [ons, V.on], by simp [Reads, hu]⟩
      · -- a slice
        rename_i e a len cap hu
        simp only [flat, hu, Bool.and_eq_true, decide_eq_true_eq] at hf
        obtain ⟨hpos, hfe⟩ := hf
        dsimp only at hx
        split at hx
        · rename_i hb
          obtain ⟨_, hlc, hcm⟩ := hb
          cases hE : (List.range len).mapM (fun i => (W.cells? 0 (a.add (i * P.cellsOf e)) (P.cellsOf e)).bind (DataW.trod enc P W 0 (fun _ => true) held fuel e)) with
          | none => rw [hE] at hx; cases hx
          | some elems =>
            rw [hE] at hx
            simp only [Option.bind_some, if_true] at hx
            cases hR : (List.range (cap - len)).mapM (fun j => (W.cells? 0 (a.add ((len + j) * P.cellsOf e)) (P.cellsOf e)).bind (DataW.trod enc P W 0 (fun _ => true) held fuel e)) with
            | none => rw [hR] at hx; cases hx
            | some rest =>
              clear hx
              have hel : ∀ i, i < cap → ∃ cs x, W.cells? 0 (a.add (i * P.cellsOf e)) (P.cellsOf e) = some cs ∧ DataW.trod enc P W 0 (fun _ => true) held fuel e cs = some x := by
                intro i hi
                rcases Nat.lt_or_ge i len with hl | hl
                · obtain ⟨y, hy⟩ := mapM_all hE i (by simpa using hl)
                  obtain ⟨cs, h1, h2⟩ := Option.bind_eq_some_iff.1 hy
                  exact ⟨cs, y, h1, h2⟩
                · obtain ⟨y, hy⟩ := mapM_all hR (i - len) (by simp; omega)
                  obtain ⟨cs, h1, h2⟩ := Option.bind_eq_some_iff.1 hy
                  rw [show len + (i - len) = i by omega] at h1
                  exact ⟨cs, y, h1, h2⟩
              rcases Nat.eq_zero_or_pos cap with hc0 | hc0
              · subst hc0
                have : len = 0 := by omega
                subst this
                obtain ⟨s1, s2⟩ := hs.skip a.block a.off (match a.spot with | none => 0 | some s => s + 1)
                refine ⟨_, _, [.odd h.next], s1, s2, ?_, ?_, ?_⟩
                · simp only [concs, conc, G.upd_blk, G.upd_off, G.upd_cap]
                  obtain ⟨ab, ao, as⟩ := a
                  cases as <;> simp
                · simp [ons, V.on, H.skip, Pos.toNat_succ]
                · simp [Reads, hu]
              · obtain ⟨cs0, x0, hc, _⟩ := hel 0 hc0
                obtain ⟨hcl, hcc⟩ := cells_of hc
                have h00 : W.cell? a = cs0[0]? := by have := hcc 0 hpos; simpa [Addr.add] using this
                have hsome : cs0[0]? = some cs0[0] := List.getElem?_eq_getElem (by omega)
                rw [hsome] at h00
                unfold World.cell? at h00
                cases hh : W.heap[a.block]? with
                | none => rw [hh] at h00; cases h00
                | some ob =>
                  rw [hh] at h00
                  cases ob with
                  | cells c el fz =>
                    have hsp : a.spot = none := by
                      cases hq : a.spot with
                      | none => rfl
                      | some s => simp [hq] at h00
                    have ha : a = ⟨a.block, a.off, none⟩ := by cases a; simp at hsp; simp [hsp]
                    have hcell : ∀ j, W.cell? (a.add j) = c[a.off + j]? := fun j => by
                      unfold World.cell?
                      by_cases hj : j = 0
                      · subst hj; simp [Addr.add, hh, hsp]
                      · simp [Addr.add, hj, hh]
                    have hcell2 : ∀ i j, W.cell? ((a.add i).add j) = c[a.off + i + j]? := fun i j => by
                      by_cases hi : i = 0
                      · subst hi; simpa [Addr.add] using hcell j
                      · by_cases hj : j = 0
                        · subst hj; simpa [Addr.add] using hcell i
                        · unfold World.cell?; simp [Addr.add, hi, hj, hh]
                    -- all cells of the slice
                    have hroom : a.off + len * P.cellsOf e ≤ c.size ∨ len = 0 := by
                      rcases Nat.eq_zero_or_pos len with h0 | h0
                      · exact .inr h0
                      · left
                        obtain ⟨cs1, x1, k1, _⟩ := hel (len - 1) (by omega)
                        obtain ⟨k2, k3⟩ := cells_of k1
                        have := k3 (P.cellsOf e - 1) (by omega)
                        rw [hcell2, List.getElem?_eq_getElem (by omega)] at this
                        have hlt := (Array.getElem?_eq_some_iff.1 this).1
                        have : (len - 1) * P.cellsOf e + P.cellsOf e = len * P.cellsOf e := by
                          rw [← Nat.succ_mul]; congr 1; omega
                        omega
                    have hall : ∀ i, i < len → ∃ cs x, ((((c.toList.drop a.off).take (len * P.cellsOf e)).drop (i * P.cellsOf e)).take (P.cellsOf e)) = cs ∧ DataW.trod enc P W 0 (fun _ => true) held fuel e cs = some x := fun i hi => by
                      obtain ⟨cs1, x1, k1, k2⟩ := hel i (by omega)
                      obtain ⟨k3, k4⟩ := cells_of k1
                      refine ⟨cs1, x1, ?_, k2⟩
                      have hm : i * P.cellsOf e + P.cellsOf e ≤ len * P.cellsOf e := by
                        rw [← Nat.succ_mul]; exact Nat.mul_le_mul_right _ hi
                      refine List.ext_getElem? fun j => ?_
                      rw [List.getElem?_take]
                      by_cases hj : j < P.cellsOf e
                      · rw [if_pos hj, List.getElem?_drop, List.getElem?_take, if_pos (by omega), List.getElem?_drop]
                        have := k4 j hj
                        rw [hcell2] at this
                        rw [← this]; simp [Nat.add_assoc]
                      · rw [if_neg hj]
                        exact (List.getElem?_eq_none (by omega)).symm
                    obtain ⟨g1, h1, l, a1, a2, a3, a4, a5, a6⟩ := absorb_parts (D := fun t cs => ∃ fuel x, flat P k t = true ∧ DataW.trod enc P W 0 (fun _ => true) held fuel t cs = some x) one ((List.range' 0 len).map fun j => (j * P.cellsOf e, e)) 0 (len * P.cellsOf e) ((c.toList.drop a.off).take (len * P.cellsOf e)) g h []
                      (by have := tile_range P e len 0; simpa using this) (by simp; rcases hroom with hr | hr; omega; subst hr; simp) (fun x hx => by
                        obtain ⟨j, hj, rfl⟩ := List.mem_map.1 hx
                        rw [List.mem_range'] at hj
                        obtain ⟨j', hj1, hj2⟩ := hj
                        obtain ⟨cs, y, q1, q2⟩ := hall j (by omega)
                        exact ⟨fuel, y, hfe, by rw [q1]; exact q2⟩) hs (by simp [concs]) rfl (by simp [ons])
                    simp only [List.nil_append] at a3 a4 a5 a6
                    have hsz : a.block < W.heap.size := (Array.getElem?_eq_some_iff.1 hh).1
                    have hbr : BR rs (g1.upd h1.next a.block a.off 0) (h1.next.toNat + 1) W h1.next (.cells l .ro 0) := by
                      refine ⟨c, el, fz, by rw [G.upd_blk]; exact hh, fun j v hv => ?_, bds_mono (by omega) l a5, fun hq => absurd rfl hq, trivial⟩
                      have hbd : v.bd h1.next.toNat := (bds_iff _ l).1 a5 v (List.mem_of_getElem? hv)
                      have h2 : (concs g1 l)[j]? = some (conc g1 v) := by rw [concs_map, List.getElem?_map, hv]; rfl
                      rw [a3, List.take_take, Nat.min_self] at h2
                      rw [List.getElem?_take] at h2
                      split at h2
                      · rw [List.getElem?_drop] at h2
                        have h3 : c[a.off + j]? = some (conc g1 v) := by simpa using h2
                        rw [G.upd_off, h3]
                        unfold CellRel
                        rw [conc_ext (g1.agree_upd _ _ _ _) v hbd]
                        split <;> rfl
                      · cases h2
                    obtain ⟨s1, s2⟩ := a1.add (.cells l .ro 0) a.block a.off hsz rfl hbr
                    refine ⟨_, _, [.slc h1.next 0 len (.known cap)], s1, a2.trans s2, ?_, ?_, ?_⟩
                    · simp only [concs, conc, G.upd_blk, G.upd_off]
                      rw [ha]; rfl
                    · simp [ons, V.on, H.next_new]
                    · simp only [Reads, hu]
                      refine .inr (.inr ⟨h1.next, len, cap, l, rfl, hlc, hcm, get_new_next, old_next, a4, fun i hi => ?_⟩)
                      exact Reads.ext s2.ext _ _ _ (a6 (i * P.cellsOf e, e) (List.mem_map.2 ⟨i, by rw [List.mem_range']; exact ⟨i, hi, by omega⟩, rfl⟩))
                  | _ => cases h00
        · cases hx
      · -- a struct
        rename_i cs _ _ fs hu
        simp only [flat, hu, Bool.and_eq_true, beq_iff_eq, List.all_eq_true] at hf
        obtain ⟨ht, hfs⟩ := hf
        split at hx
        · rename_i hl
          cases hM : fs.toList.mapM (fun f => DataW.trod enc P W 0 (fun _ => true) held fuel f.type ((cs.drop f.offset).take (P.cellsOf f.type))) with
          | none => rw [hM] at hx; cases hx
          | some xs =>
            obtain ⟨g1, h1, l, a1, a2, a3, a4, a5, a6⟩ := absorb_parts (D := fun t cs => ∃ fuel x, flat P k t = true ∧ DataW.trod enc P W 0 (fun _ => true) held fuel t cs = some x) one (fs.toList.map fun f => (f.offset, f.type)) 0 (P.cellsOf t) cs g h [] ht (by omega) (fun x hx => by
              obtain ⟨f, hf1, rfl⟩ := List.mem_map.1 hx
              obtain ⟨y, hy⟩ := mapM_all hM f hf1
              exact ⟨fuel, y, hfs f hf1, hy⟩) hs (by simp [concs]) rfl (by simp [ons])
            simp only [List.nil_append] at a3 a4 a5 a6
            refine ⟨g1, h1, l, a1, a2, by rw [a3, List.take_of_length_le (by omega)], a5, ?_⟩
            simp only [Reads, hu]
            exact ⟨a4, fun f hf => a6 (f.offset, f.type) (List.mem_map.2 ⟨f, hf, rfl⟩)⟩
        · cases hx
      · -- an array
        rename_i cs _ _ n e hu
        simp only [flat, hu, Bool.and_eq_true, decide_eq_true_eq] at hf
        obtain ⟨ht, hfe⟩ := hf
        split at hx
        · rename_i hl
          cases hM : (List.range n).mapM (fun i => DataW.trod enc P W 0 (fun _ => true) held fuel e ((cs.drop (i * P.cellsOf e)).take (P.cellsOf e))) with
          | none => rw [hM] at hx; cases hx
          | some xs =>
            obtain ⟨g1, h1, l, a1, a2, a3, a4, a5, a6⟩ := absorb_parts (D := fun t cs => ∃ fuel x, flat P k t = true ∧ DataW.trod enc P W 0 (fun _ => true) held fuel t cs = some x) one ((List.range' 0 n).map fun j => (j * P.cellsOf e, e)) 0 (P.cellsOf t) cs g h [] (by have := tile_range P e n 0; rw [ht]; simpa using this) (by omega) (fun x hx => by
              obtain ⟨j, hj, rfl⟩ := List.mem_map.1 hx
              rw [List.mem_range'] at hj
              obtain ⟨j', hj1, hj2⟩ := hj
              obtain ⟨y, hy⟩ := mapM_all hM j (by simp; omega)
              exact ⟨fuel, y, hfe, hy⟩) hs (by simp [concs]) rfl (by simp [ons])
            simp only [List.nil_append] at a3 a4 a5 a6
            refine ⟨g1, h1, l, a1, a2, by rw [a3, List.take_of_length_le (by omega)], a5, ?_⟩
            simp only [Reads, hu]
            exact ⟨a4, fun i hi => a6 (i * P.cellsOf e, e) (List.mem_map.2 ⟨i, by rw [List.mem_range']; exact ⟨i, hi, by omega⟩, rfl⟩)⟩
        · cases hx
      all_goals (rename_i hu; first | (simp [flat, hu] at hf; done) | (cases hx; done) | (exfalso; cases hx) | skip)
end
end Go.Proofs.YtdojpbbdcgfcnaaGreatDoor.AI
