import Derived.Laws.BytesString
import Derived.Lib.UnsafeStr
import Derived.Orders
import Derived.Test.YtdojpbbdcgfcnaaGreatDoorAiOne
set_option linter.all false
/- THE ABSTRACT INTERPRETER: append, copy, bytes and strings. -/
namespace Go.Proofs.YtdojpbbdcgfcnaaGreatDoor.AI

section
variable {P : Program} {rs : Rnds} {ng : Nat} {g : G} {h : H} {w : World} {cx : Cx} {e : List V} {fr : Fr} {k : V → H → Res} {r : E × Fr × H}
  {ρ : Operand → Value} {o : Oper} {x y z : O} {a b c : Operand}

theorem repL_length (n : Nat) (l : List V) : (repL n l).length = n * l.length := by
  induction n with
  | zero => simp [repL]
  | succ n ih => rw [repL, List.length_append, ih, Nat.add_mul, Nat.one_mul, Nat.add_comm]
theorem bytesV_on (p : Pos → Prop) (s : List UInt8) : ons p (bytesV s) := by
  rw [ons_iff]; intro v hv
  simp only [bytesV, List.mem_map] at hv
  obtain ⟨_, _, rfl⟩ := hv
  simp [V.on]
theorem bytesV_conc (g : G) (s : List UInt8) : concs g (bytesV s) = s.map fun c => .int .u8 (c.toNat : Int) := by
  simp [concs_map, bytesV, conc]

theorem firstK_some {sz n : Nat} {v : V} {f : List V → Res} (hs : firstK h sz n v f = some r) (hl : ∀ s, v = .str s → n ≤ s.length) (hn : v = .nils → n = 0) :
    ∃ new, f new = some r ∧ ∀ (rs : Rnds) (ng : Nat) (g : G) (w : World), WR rs ng g h w → bds h.next.toNat new ∧ new.length = n * sz ∧ (∀ w', w'.heap = w.heap → (Builtin.firstCells sz n (conc g v)).run P w' = .ok (concs g new).toArray w') := by
  cases v with
  | str s =>
    have h1 : (Bool.casesOn (Nat.beq sz 1) none (takeBytesK n s fun s => bytesK s f) : Res) = some r := hs
    obtain ⟨hb, h2⟩ := bool_some h1
    have hsz : sz = 1 := Nat.eq_of_beq_eq_true hb
    subst hsz
    rw [takeBytesK_eq, bytesK_eq] at h2
    have hle := hl s rfl
    refine ⟨_, h2, fun rs ng g w hw => ⟨bytesV_on _ _, by simp [bytesV]; omega, fun w' _ => ?_⟩⟩
    rw [bytesV_conc]
    simp only [conc, Builtin.firstCells, Sem.run_pure]
    congr 1
    apply Array.ext'
    simp [ByteArray.data_extract]
  | nils =>
    have := hn rfl; subst this
    refine ⟨_, hs, fun rs ng g w hw => ⟨by simp [ons], by simp, fun w' _ => by simp [conc, Builtin.firstCells, concs]⟩⟩
  | slc b off len cap =>
    have h1 : h.cellsK b off (n * sz) f = some r := hs
    unfold H.cellsK at h1
    obtain ⟨bb, hbb, h6⟩ := getK_some h1
    obtain ⟨l, kd, ty', rfl, h7⟩ := cells_some (b := bb) h6
    rw [dropK_eq] at h7
    obtain ⟨hd, h8⟩ := ite_some h7
    rw [takeK_eq] at h8
    obtain ⟨⟨hl1, hl2⟩, h9⟩ := ite_some h8
    refine ⟨_, h9, fun rs ng g w hw => ?_⟩
    obtain ⟨_, _, cc, el, fz, hh, hc, hbd, _, _⟩ := hw.blk b _ hbb
    refine ⟨(ons_iff _ _).2 fun v hv => (ons_iff _ _).1 hbd v (List.mem_of_mem_drop (List.mem_of_mem_take hv)), by rw [List.length_take]; omega, fun w' he => ?_⟩
    rw [conc_slc]
    simp only [Builtin.firstCells]
    exact run_cells (P := P) (w := w') (n := n * sz) (o := off) (by rw [he]; exact hh) hc (by simp at hl1; omega) hl2
  | _ => cases hs

theorem sAppend_ok {cl : Go.Call} {t t1 el : TypeId} {d : TypeDesc} {s by_ : Nat} {zv : V} (ho : o.op = .call cl) (hc : cl.callee = .builtin .append) (ha : cl.args = #[a, b]) (ht0 : cl.argTypes[0]? = some t) (ht1 : cl.argTypes[1]? = some t1)
    (ht : P.underlying t = some (.slice el)) (hd : P.underlying t1 = some d) (hni : ∀ kd, d ≠ .int kd) (hsz : szOf P el = some s) (hby : bytesOfT P el = some by_) (hz : zeroOf P el = some zv) (hpos : 0 < s) (hb : by_ ≤ 4096) (hlen : zv.cells.length = s)
    (hs : sAppend s el x y cx e fr h k = some r) :
    ∃ v h', k v h' = some r ∧ ∀ (rs : Rnds) (ng : Nat) (g : G) (w : World) (ρ : Operand → Value), WR rs ng g h w → Opd g (below h.next.toNat) e fr x (ρ a) → Opd g (below h.next.toNat) e fr y (ρ b) → OpOk rs ng P g h w (execOp ρ o) v h' := by
  obtain ⟨v, hv, h1⟩ := evK_some hs
  obtain ⟨u, hu, h2⟩ := evK_some (x := y) h1
  have hi : ∃ i, P.info? el = some i ∧ i.size = s ∧ i.bytes = by_ ∧ ∃ zr, i.zero = some zr ∧ toV 1000 zr = some zv := by
    unfold szOf at hsz; unfold bytesOfT at hby; unfold zeroOf at hz
    cases hi : P.info? el with
    | none => simp [hi] at hsz
    | some i =>
      refine ⟨i, rfl, by simpa [hi] using hsz, by simpa [hi] using hby, ?_⟩
      cases hzz : i.zero with
      | none => simp [hi, hzz] at hz
      | some zr => exact ⟨zr, rfl, by simpa [hi, hzz] using hz⟩
  obtain ⟨i, hi, his, hib, zr, hzr, hzv⟩ := hi
  have go : ∀ n, (∀ s, u = .str s → n ≤ s.length) → (u = .nils → n = 0) → (∀ g w, (Builtin.lenOf (conc g u)).run P w = .ok n w) → firstK h s n u (fun new => growK h s el n new v k) = some r →
      ∃ v h', k v h' = some r ∧ ∀ (rs : Rnds) (ng : Nat) (g : G) (w : World) (ρ : Operand → Value), WR rs ng g h w → Opd g (below h.next.toNat) e fr x (ρ a) → Opd g (below h.next.toNat) e fr y (ρ b) → OpOk rs ng P g h w (execOp ρ o) v h' := by
    intro n hn1 hn2 hlo hf
    obtain ⟨new, h3, h4⟩ := firstK_some (P := P) hf hn1 hn2
    obtain ⟨v', h', k1, k2⟩ := growK_ok (P := P) h3
    refine ⟨v', h', k1, fun rs ng g w ρ hw hx hy => ?_⟩
    obtain ⟨e1, e2⟩ := hx _ hv
    obtain ⟨e3, e4⟩ := hy _ hu
    obtain ⟨n1, n2, n3⟩ := h4 rs ng g w hw
    have hzc : zr.cells.size = s := by
      obtain ⟨z1, _⟩ := toV_ok g (fun _ => True) 1000 zr zv hzv
      rw [← z1, conc_cells]; simp [concs_length, hlen]
    obtain ⟨g', w', a1, a2, a3, a4, a5⟩ := k2 rs ng g w cl.argTypes t t1 o.type i zr (conc g u) hw e2 n1 n2 ht0 ht1 ht hi hzr his hzc (by omega) hpos (.inl ⟨d, hd, hni, hlo g w, by rw [his]; exact n3⟩)
    refine ⟨g', w', a1, a2, a3, a4, does_value ?_⟩
    obtain ⟨cs, hr⟩ := callee_builtin (P := P) (ρ := ρ) hc w ho
    rw [hr, ha]; simp [Go.builtin, e1, e3, a5]
  rcases lenK_some h2 with ⟨s', rfl, h3⟩ | ⟨rfl, h3⟩ | ⟨b', o', n, c', rfl, h3⟩
  · exact go _ (fun _ hh => by cases hh; exact Nat.le_refl _) (fun hh => by cases hh) (fun g w => by simp [conc, Builtin.lenOf, conc_str_size]) h3
  · exact go _ (fun _ hh => by cases hh) (fun _ => rfl) (fun g w => by simp [conc, Builtin.lenOf]) h3
  · exact go _ (fun _ hh => by cases hh) (fun hh => by cases hh) (fun g w => by rw [conc_slc]; simp [Builtin.lenOf]) h3

theorem sAppendZ_ok {cl : Go.Call} {t t1 el : TypeId} {kd : IntKind} {s by_ : Nat} {zv : V} (ho : o.op = .call cl) (hc : cl.callee = .builtin .append) (ha : cl.args = #[a, b]) (ht0 : cl.argTypes[0]? = some t) (ht1 : cl.argTypes[1]? = some t1)
    (ht : P.underlying t = some (.slice el)) (hd : P.underlying t1 = some (.int kd)) (hsz : szOf P el = some s) (hby : bytesOfT P el = some by_) (hz : zeroOf P el = some zv) (hpos : 0 < s) (hb : by_ ≤ 4096) (hlen : zv.cells.length = s)
    (hs : sAppendZ s el zv.cells x y cx e fr h k = some r) :
    ∃ v h', k v h' = some r ∧ ∀ (rs : Rnds) (ng : Nat) (g : G) (w : World) (ρ : Operand → Value), WR rs ng g h w → Opd g (below h.next.toNat) e fr x (ρ a) → Opd g (below h.next.toNat) e fr y (ρ b) → OpOk rs ng P g h w (execOp ρ o) v h' := by
  obtain ⟨v, hv, h1⟩ := evK_some hs
  obtain ⟨u, hu, h2⟩ := evK_some (x := y) h1
  have hi : ∃ i, P.info? el = some i ∧ i.size = s ∧ i.bytes = by_ ∧ ∃ zr, i.zero = some zr ∧ toV 1000 zr = some zv := by
    unfold szOf at hsz; unfold bytesOfT at hby; unfold zeroOf at hz
    cases hi : P.info? el with
    | none => simp [hi] at hsz
    | some i =>
      refine ⟨i, rfl, by simpa [hi] using hsz, by simpa [hi] using hby, ?_⟩
      cases hzz : i.zero with
      | none => simp [hi, hzz] at hz
      | some zr => exact ⟨zr, rfl, by simpa [hi, hzz] using hz⟩
  obtain ⟨i, hi, his, hib, zr, hzr, hzv⟩ := hi
  obtain ⟨kd', n, rfl, hn, h3⟩ := index_of (v := u) h2
  rw [repK_eq] at h3
  obtain ⟨v', h', k1, k2⟩ := growK_ok (P := P) h3
  refine ⟨v', h', k1, fun rs ng g w ρ hw hx hy => ?_⟩
  obtain ⟨e1, e2⟩ := hx _ hv
  obtain ⟨e3, _⟩ := hy _ hu
  simp only [conc] at e3
  obtain ⟨z1, z2⟩ := toV_ok g (below h.next.toNat) 1000 zr zv hzv
  have hcs : zr.cells = (concs g zv.cells).toArray := by rw [← z1, conc_cells]
  have hzc : zr.cells.size = s := by rw [hcs]; simp [concs_length, hlen]
  have hrow : (concs g (repL n zv.cells)).toArray = Builtin.zeroCells zr.cells n := by
    have := zeros_row (g := g) (n := n) hpos (zc := concs g zv.cells) (by rw [concs_length, hlen]) zv.cells rfl
    rw [← this, hcs]
    simp [Builtin.zeroCells, concs_length, hlen]
  have hrl : (repL n zv.cells).length = n * s := by rw [repL_length, hlen]
  obtain ⟨g', w', a1, a2, a3, a4, a5⟩ := k2 rs ng g w cl.argTypes t t1 o.type i zr (.int kd' (n : Int)) hw e2 (ons_rep (on_cells z2) n) hrl ht0 ht1 ht hi hzr his hzc (by omega) hpos (.inr ⟨kd, kd', zr, hd, rfl, hzr, hrow, by rw [hzc, his]⟩)
  refine ⟨g', w', a1, a2, a3, a4, does_value ?_⟩
  obtain ⟨cs, hr⟩ := callee_builtin (P := P) (ρ := ρ) hc w ho
  rw [hr, ha]; simp [Go.builtin, e1, e3, a5]

theorem sCopy_ok {cl : Go.Call} {t el : TypeId} {s : Nat} (ho : o.op = .call cl) (hc : cl.callee = .builtin .copy) (ha : cl.args = #[a, b]) (ht0 : cl.argTypes[0]? = some t)
    (ht : P.underlying t = some (.slice el)) (hsz : szOf P el = some s) (hs : sCopy s x y cx e fr h k = some r) :
    ∃ v h', k v h' = some r ∧ ∀ (rs : Rnds) (ng : Nat) (g : G) (w : World) (ρ : Operand → Value), WR rs ng g h w → Opd g (below h.next.toNat) e fr x (ρ a) → Opd g (below h.next.toNat) e fr y (ρ b) → OpOk rs ng P g h w (execOp ρ o) v h' := by
  obtain ⟨d, hd, h1⟩ := evK_some hs
  obtain ⟨u, hu, h2⟩ := evK_some (x := y) h1
  have go : ∀ n, (∀ s, u = .str s → n ≤ s.length) → (u = .nils → n = 0) → (∀ g w, (Builtin.lenOf (conc g u)).run P w = .ok n w) →
      d.onSlc (fun b off m _ => natK (Bool.casesOn (Nat.ble n m) m n) fun n => firstK h s n u fun cs => h.storeK b off cs fun h => k (.int .i64 (.ofNat n)) h)
        (d.onNils (firstK h s 0 u fun _ => k (.int .i64 (.ofNat 0)) h) none) = some r →
      ∃ v h', k v h' = some r ∧ ∀ (rs : Rnds) (ng : Nat) (g : G) (w : World) (ρ : Operand → Value), WR rs ng g h w → Opd g (below h.next.toNat) e fr x (ρ a) → Opd g (below h.next.toNat) e fr y (ρ b) → OpOk rs ng P g h w (execOp ρ o) v h' := by
    intro n hn1 hn2 hlo h4
    cases d with
    | nils =>
      have h4' : firstK h s 0 u (fun _ => k (.int .i64 (.ofNat 0)) h) = some r := h4
      obtain ⟨new, h5, h6⟩ := firstK_some (P := P) h4' (fun s hh => Nat.zero_le _) (fun hh => rfl)
      refine ⟨_, _, h5, fun rs ng g w ρ hw hx hy => ?_⟩
      obtain ⟨e1, e2⟩ := hx _ hd
      obtain ⟨e3, e4⟩ := hy _ hu
      obtain ⟨n1, n2, n3⟩ := h6 rs ng g w hw
      refine ok_pure hw (by simp [V.on]) ?_
      obtain ⟨cs, hr⟩ := callee_builtin (P := P) (ρ := ρ) hc w ho
      have n3 := n3 w rfl
      rw [hr, ha]; simp only [conc] at e1; simp [Go.builtin, Builtin.copy_, ht0, run_underlying ht, e1, e3, hlo, n3, run_sizeOf' hsz, conc, goInt]
    | slc bk off m cp =>
      have h4' : natK (Bool.casesOn (Nat.ble n m) m n : Nat) (fun n => firstK h s n u fun cs => h.storeK bk off cs fun h => k (.int .i64 (.ofNat n)) h) = some r := h4
      rw [natK_eq] at h4'
      have hmin : (Bool.casesOn (Nat.ble n m) m n : Nat) = Nat.min n m := by
        cases hb : Nat.ble n m with
        | true => have := Nat.le_of_ble_eq_true hb; exact (Nat.min_eq_left this).symm
        | false =>
          have : m ≤ n := by
            rcases Nat.lt_or_ge n m with hh | hh
            · rw [Nat.ble_eq_true_of_le (by omega)] at hb; cases hb
            · exact hh
          exact (Nat.min_eq_right this).symm
      rw [hmin] at h4'
      have hml : Nat.min n m ≤ n := Nat.min_le_left _ _
      obtain ⟨new, h5, h6⟩ := firstK_some (P := P) h4' (fun s hh => Nat.le_trans hml (hn1 s hh)) (fun hh => by have := hn2 hh; omega)
      have h7 : h.storeK bk off new (fun h => k (.int .i64 (.ofNat (Nat.min n m))) h) = some r := h5
      obtain ⟨l, kd, ty', g1, g2, g3, g4, g5⟩ := storeK_some h7
      refine ⟨_, _, g5, fun rs ng g w ρ hw hx hy => ?_⟩
      obtain ⟨e1, e2⟩ := hx _ hd
      obtain ⟨e3, e4⟩ := hy _ hu
      obtain ⟨n1, n2, n3⟩ := h6 rs ng g w hw
      obtain ⟨w', hr', hw', ha'⟩ := store_ok (P := P) hw g1 g2 g3 g4 n1
      refine ⟨g, w', hw', ha', by simp [V.on], rfl, does_value ?_⟩
      obtain ⟨cs, hr⟩ := callee_builtin (P := P) (ρ := ρ) hc w ho
      rw [conc_slc] at e1
      rw [hr, ha]; simp [Go.builtin, Builtin.copy_, ht0, run_underlying ht, e1, e3, hlo, n3 w rfl, run_sizeOf' hsz, conc, goInt, hr']
    | _ => cases h4
  rcases lenK_some h2 with ⟨s', rfl, h3⟩ | ⟨rfl, h3⟩ | ⟨b', o', n, c', rfl, h3⟩
  · exact go _ (fun _ hh => by cases hh; exact Nat.le_refl _) (fun hh => by cases hh) (fun g w => by simp [conc, Builtin.lenOf, conc_str_size]) h3
  · exact go _ (fun _ hh => by cases hh) (fun _ => rfl) (fun g w => by simp [conc, Builtin.lenOf]) h3
  · exact go _ (fun _ hh => by cases hh) (fun hh => by cases hh) (fun g w => by rw [conc_slc]; simp [Builtin.lenOf]) h3

/-! ### bytes and strings -/
theorem sBytes_ok {s d el : TypeId} (ho : o.op = .convert s d a) (hs' : P.underlying s = some .string) (hd : P.underlying d = some (.slice el)) (he : P.underlying el = some (.int .u8)) (hs : sBytes el x cx e fr h k = some r) :
    ∃ v h', k v h' = some r ∧ ∀ (rs : Rnds) (ng : Nat) (g : G) (w : World) (ρ : Operand → Value), WR rs ng g h w → Opd g (below h.next.toNat) e fr x (ρ a) → OpOk rs ng P g h w (execOp ρ o) v h' := by
  obtain ⟨v, hv, h1⟩ := evK_some hs
  obtain ⟨t, rfl, h2⟩ := onStr_some (v := v) h1
  rw [bytesK_eq, lenK_eq, H.newK_eq] at h2
  refine ⟨_, _, h2, fun rs ng g w ρ hw hx => ?_⟩
  obtain ⟨e1, _⟩ := hx _ hv
  simp only [conc] at e1
  have hge := grownCap_ge w t.length 0 el
  have hlb : (bytesV t).length = t.length := by simp [bytesV]
  generalize hcap : grownCap w t.length 0 el = cap at hge
  have hsz : ((concs g (bytesV t)).toArray ++ Array.replicate (cap - t.length) (Value.int .u8 0)).size = cap * 1 := by
    simp only [Array.size_append, List.size_toArray, concs_length, hlb, Array.size_replicate]; omega
  have hA : ((ByteArray.mk t.toArray).data.map fun b : UInt8 => Value.int .u8 (b.toNat : Int)) = (concs g (bytesV t)).toArray := by
    rw [bytesV_conc]; simp
  obtain ⟨a1, a2⟩ := grown_ok hw (bytesV_on _ t) (cap := cap) (sz := 1) (ty := el) (fz := (cap, cap + 1)) (cells_conc g (bytesV t) (Array.replicate (cap - t.length) (Value.int .u8 0))) (by rw [hlb]; omega) hsz (.inl (by rw [hsz]; simp))
    (w' := (w.drew.alloc (.cells ((concs g (bytesV t)).toArray ++ Array.replicate (cap - t.length) (Value.int .u8 0)) el)).freeze ⟨w.heap.size, cap, none⟩ 1) (by
      apply Array.ext_getElem?
      intro i
      simp only [World.freeze, Nat.one_ne_zero, if_false, Array.getElem?_modify, heap_alloc, World.drew, Array.getElem?_push]
      by_cases hi : i = w.heap.size
      · simp [hi]
      · have : ¬ w.heap.size = i := fun hh => hi hh.symm
        simp [hi, this]) rfl rfl rfl
  refine ⟨_, _, a1, a2, by simp [V.on, below, H.next_new], rfl, does_value ?_⟩
  have hshape : (w.drew.alloc (.cells ((concs g (bytesV t)).toArray ++ Array.replicate (cap - t.length) (Value.int .u8 0)) el)).shape? w.heap.size = some (el, cap) := by
    rw [Nat.mul_one] at hsz
    simp only [World.shape?, heap_alloc, World.drew]
    rw [Array.getElem?_push_size]
    simp only [hsz]
  unfold grownCap at hcap
  have hr : (Conv.stringToBytes el ⟨t.toArray⟩).run P w = .ok (.slice (some ⟨w.heap.size, 0, none⟩) t.length cap) ((w.drew.alloc (.cells ((concs g (bytesV t)).toArray ++ Array.replicate (cap - t.length) (Value.int .u8 0)) el)).freeze ⟨w.heap.size, cap, none⟩ 1) := by
    have hA' : Array.map (fun b : UInt8 => Value.int .u8 (b.toNat : Int)) t.toArray = (concs g (bytesV t)).toArray := hA
    simp only [Conv.stringToBytes, Sem.run_bind, run_choose, Question.forced, Bool.false_eq_true, if_false, Result.andThen_ok, conc_str_size, hcap, newRow, run_newObj, Sem.run_pure, hA', markStringish]
    have hshape' := hshape
    simp only [World.drew, World.alloc] at hshape'
    simp only [run_shape, hshape', Result.andThen_ok, Sem.run_bind, run_freeze, Sem.run_pure]
    rfl
  simp [execOp, ho, e1, Go.convert, run_underlying hs', run_underlying hd, run_underlying he, hr, conc]

/-- cells that are characters -/
theorem charsK_some {l : List V} {f : List UInt8 → Res} (hs : charsK l f = some r) : ∃ ns : List Nat, f (ns.map UInt8.ofNat) = some r ∧ l = ns.map fun n => .int .u8 (.ofNat n) := by
  induction l generalizing f with
  | nil => exact ⟨[], hs, rfl⟩
  | cons v l ih =>
    have h1 : (Option.casesOn (charOf v) none fun c => natK c.toNat fun n => charsK l fun l => f (UInt8.ofNat n :: l) : Res) = some r := hs
    obtain ⟨cc, hc, h2⟩ := opt_some h1
    rw [natK_eq] at h2
    obtain ⟨ns, h3, h4⟩ := ih h2
    have hcc : UInt8.ofNat cc.toNat = cc := by simp
    rw [hcc] at h3
    unfold charOf at hc
    split at hc
    · rename_i n
      cases hc
      exact ⟨n :: ns, h3, by rw [h4]; rfl⟩
    · cases hc

theorem fold_push (ns : List Nat) : ∀ (s : List UInt8), (ns.map fun n => ((n : Nat) : Int)).foldl (fun r n => r.push (UInt8.ofNat n.toNat)) (ByteArray.mk s.toArray) = ⟨(s ++ ns.map UInt8.ofNat).toArray⟩ := by
  induction ns with
  | nil => intro s; simp
  | cons n ns ih =>
    intro s
    have : (ByteArray.mk s.toArray).push (UInt8.ofNat n) = ⟨(s ++ [UInt8.ofNat n]).toArray⟩ := by
      apply ByteArray.ext; simp [ByteArray.push]
    simp only [List.map_cons, List.foldl_cons, Int.toNat_natCast, this, ih]
    simp

theorem sString_ok {s d el : TypeId} (ho : o.op = .convert s d a) (hs' : P.underlying s = some (.slice el)) (hd : P.underlying d = some .string) (he : P.underlying el = some (.int .u8)) (hs : sString x cx e fr h k = some r) :
    ∃ v, k v h = some r ∧ ∀ (rs : Rnds) (ng : Nat) (g : G) (w : World) (p : Pos → Prop) (ρ : Operand → Value), WR rs ng g h w → Opd g p e fr x (ρ a) → Re P ρ o g h w v := by
  obtain ⟨v, hv, h1⟩ := evK_some hs
  cases v with
  | nils =>
    refine ⟨_, h1, fun rs ng g w p ρ hw hx => ⟨by simp [V.on], ?_⟩⟩
    obtain ⟨e1, _⟩ := hx _ hv
    simp only [conc] at e1
    simp [execOp, ho, e1, Go.convert, run_underlying hs', run_underlying hd, run_underlying he, Conv.bytesToString, conc]
    rfl
  | slc b off n cap =>
    have h2 : h.cellsK b off n (fun l => charsK l fun s => k (.str s) h) = some r := h1
    unfold H.cellsK at h2
    obtain ⟨bb, hbb, h6⟩ := getK_some h2
    obtain ⟨l, kd, ty', rfl, h7⟩ := cells_some (b := bb) h6
    rw [dropK_eq] at h7
    obtain ⟨hd', h8⟩ := ite_some h7
    rw [takeK_eq] at h8
    obtain ⟨⟨hl1, hl2⟩, h9⟩ := ite_some h8
    obtain ⟨ns, h10, h11⟩ := charsK_some h9
    refine ⟨_, h10, fun rs ng g w p ρ hw hx => ⟨by simp [V.on], ?_⟩⟩
    obtain ⟨e1, _⟩ := hx _ hv
    rw [conc_slc] at e1
    obtain ⟨_, _, cc, el', fz, hh, hc, hbd, _, _⟩ := hw.blk b _ hbb
    have hr := run_cells (P := P) (w := w) (n := n) (o := off) hh hc (by simp at hl1; omega) hl2
    rw [h11] at hr
    have hcn : concs g (ns.map fun n => V.int .u8 (.ofNat n)) = (ns.map fun n => ((n : Nat) : Int)).map (Value.int .u8) := by simp [concs_map, conc]
    rw [hcn] at hr
    have hb := run_bytesToString (P := P) w ⟨g.blk b, g.off b + off, none⟩ n (capOf g b cap) _ hr
    have hf := fold_push ns []
    simp only [List.nil_append] at hf
    have hf' : (ns.map fun n => ((n : Nat) : Int)).foldl (fun r n => r.push (UInt8.ofNat n.toNat)) ByteArray.empty = ⟨(ns.map UInt8.ofNat).toArray⟩ := hf
    rw [hf'] at hb
    simp only [execOp, ho, e1, Go.convert, Sem.run_bind, run_underlying hs', run_underlying hd, Result.andThen_ok, run_underlying he]
    simp [hb, conc]
  | _ => cases h1

end
end Go.Proofs.YtdojpbbdcgfcnaaGreatDoor.AI
/- THE ABSTRACT INTERPRETER: unsafe. -/
namespace Go.Proofs.YtdojpbbdcgfcnaaGreatDoor.AI

section
variable {P : Program} {rs : Rnds} {ng : Nat} {g : G} {h : H} {w : World} {cx : Cx} {e : List V} {fr : Fr} {k : V → H → Res} {r : E × Fr × H}
  {ρ : Operand → Value} {o : Oper} {x y z : O} {a b c : Operand}

theorem shape_of {bk : Nat} {c : Array Value} {el : TypeId} {fz : Nat × Nat} (hh : w.heap[bk]? = some (.cells c el fz)) : w.shape? bk = some (el, c.size) := by simp [World.shape?, hh]

theorem run_viewAt_cells {bk : Nat} {c : Array Value} {el : TypeId} {fz : Nat × Nat} (hh : w.heap[bk]? = some (.cells c el fz)) : (viewAt bk).run P w = .ok none w := by
  simp [viewAt, shape_of hh]

theorem run_seenAt_cells {bk off : Nat} {c : Array Value} {el : TypeId} {fz : Nat × Nat} (hh : w.heap[bk]? = some (.cells c el fz)) : (Conv.seenAt ⟨bk, off, none⟩).run P w = .ok ⟨bk, off, none⟩ w := by
  simp [Conv.seenAt, run_viewAt_cells hh]

theorem sToUnsafe_ok {s d t : TypeId} {n : Nat} (ho : o.op = .convert s d a) (hs' : P.underlying s = some (.pointer t)) (hd : P.underlying d = some .unsafePointer) (hsz : szOf P t = some (n + 1)) (hs : sToUnsafe x cx e fr h k = some r) :
    ∃ v, k v h = some r ∧ ∀ (rs : Rnds) (ng : Nat) (g : G) (w : World) (p : Pos → Prop) (ρ : Operand → Value), WR rs ng g h w → Opd g p e fr x (ρ a) → v.on p ∧ (execOp ρ o).run P w = .ok (.value (conc g v)) w := by
  obtain ⟨v, hv, h1⟩ := evK_some hs
  obtain ⟨bk, off, rfl, h2⟩ := onPtr_some (v := v) h1
  obtain ⟨bb, hbb, h3⟩ := getK_some h2
  obtain ⟨l, kd, ty, rfl, h4⟩ := cells_some (b := bb) h3
  obtain ⟨hb, h5⟩ := bool_some h4
  have hlt := Nat.le_of_ble_eq_true hb
  refine ⟨_, h5, fun rs ng g w p ρ hw hx => ?_⟩
  obtain ⟨e1, e2⟩ := hx _ hv
  simp only [conc] at e1
  refine ⟨by simpa [V.on] using e2, ?_⟩
  obtain ⟨_, _, cc, el, fz, hh, hc, hbd, _, _⟩ := hw.blk bk _ hbb
  have hroom := cells_room hc
  have hin : ¬ (cc.size ≤ g.off bk + off) := by omega
  simp [execOp, ho, e1, Go.convert, run_underlying hs', run_underlying hd, Conv.unsafePointer, run_seenAt_cells hh, cellsIn, shape_of hh, run_sizeOf' hsz, hin, conc]

theorem cellsOf_of {t : TypeId} {s : Nat} (hs : szOf P t = some s) : P.cellsOf t = s := by
  unfold szOf at hs
  unfold Program.cellsOf
  cases hi : P.info? t with
  | none => simp [hi] at hs
  | some i => simp [hi] at hs ⊢; exact hs

/-- variables of a type lie in a row of them -/
theorem lies_row {t : TypeId} {s : Nat} (hs : szOf P t = some s) (hp : 0 < s) {c off n : Nat} (hoff : off % s = 0) (hn : off / s + n ≤ c) : liesAt P P.depth t c off t n = true := by
  have hd : P.depth = (2 * (P.types.size + Made.depth) + 1) + 1 := rfl
  have hc := cellsOf_of hs
  rw [hd]
  simp only [liesAt, Bool.or_eq_true]
  left
  rw [hd]
  have hne : ¬ s = 0 := by omega
  simp [rowAt, hc, hn, hoff, hne, sameLayout]

theorem sOfUnsafe_ok {s d u : TypeId} {n : Nat} (ho : o.op = .convert s d a) (hs' : P.underlying s = some .unsafePointer) (hd : P.underlying d = some (.pointer u)) (hsz : szOf P u = some (n + 1)) (hs : sOfUnsafe u (n + 1) x cx e fr h k = some r) :
    ∃ v, k v h = some r ∧ ∀ (rs : Rnds) (ng : Nat) (g : G) (w : World) (p : Pos → Prop) (ρ : Operand → Value), WR rs ng g h w → Opd g p e fr x (ρ a) → v.on p ∧ (execOp ρ o).run P w = .ok (.value (conc g v)) w := by
  obtain ⟨v, hv, h1⟩ := evK_some hs
  obtain ⟨bk, off, rfl, h2⟩ := onPtr_some (v := v) h1
  obtain ⟨bb, hbb, h3⟩ := getK_some h2
  obtain ⟨l, kd, ty, rfl, h4⟩ := cells_some (b := bb) h3
  obtain ⟨hb, h5⟩ := bool_some h4
  rw [Bool.and_eq_true, Bool.and_eq_true, Bool.and_eq_true] at hb
  obtain ⟨hb1, hb2, hb3, hb4⟩ := hb
  have ht : ty = u := Nat.eq_of_beq_eq_true hb1
  have h0 : off = 0 := Nat.eq_of_beq_eq_true hb2
  have hle := Nat.le_of_ble_eq_true hb4
  subst ht; subst h0
  have hk : kd = .own := by cases kd <;> simp [Kind.isOwn] at hb3; rfl
  subst hk
  refine ⟨_, h5, fun rs ng g w p ρ hw hx => ?_⟩
  obtain ⟨e1, e2⟩ := hx _ hv
  simp only [conc] at e1
  refine ⟨by simpa [V.on] using e2, ?_⟩
  obtain ⟨_, _, cc, el, fz, hh, hc, hbd, hel, ho'⟩ := hw.blk bk _ hbb
  have hel : el = ty := hel (by simp)
  subst hel
  have hroom := cells_room hc
  rw [ho'.1] at hroom e1
  have hco := cellsOf_of hsz
  have hdiv : 0 / (n + 1) + 1 ≤ cc.size / (n + 1) := by
    rw [Nat.zero_div]
    exact (Nat.le_div_iff_mul_le (by omega)).2 (by omega)
  have hl := lies_row hsz (by omega) (Nat.zero_mod _) hdiv
  have hva : (variablesAt ⟨g.blk bk, 0, none⟩ el 1).run P w = .ok true w := by
    simp only [variablesAt, Sem.run_bind, run_program, Result.andThen_ok, run_shape, shape_of hh, hco, Sem.run_pure, hl]
  simp [execOp, ho, e1, Go.convert, run_underlying hs', run_underlying hd, Conv.unsafePointer, run_seenAt_cells hh, run_sizeOf' hsz, hva, conc, ho'.1]

theorem usd_nil (ts : Array TypeId) (ty : TypeId) (m n : Nat) (w : World) : (Builtin.unsafeSliceData_ ts ty #[.slice none m n]).run P w = .ok (.pointer none) w := rfl
theorem usd_some (ts : Array TypeId) (ty : TypeId) (q : Addr) (m n : Nat) (hn : n ≠ 0) (w : World) : (Builtin.unsafeSliceData_ ts ty #[.slice (some q) m n]).run P w = .ok (.pointer (some q)) w := by
  cases n with
  | zero => exact absurd rfl hn
  | succ n => rfl

theorem sUsd_ok {cl : Go.Call} (ho : o.op = .call cl) (hc : cl.callee = .builtin .unsafeSliceData) (ha : cl.args = #[a]) (hs : sUsd x cx e fr h k = some r) :
    ∃ v, k v h = some r ∧ ∀ (rs : Rnds) (ng : Nat) (g : G) (w : World) (p : Pos → Prop) (ρ : Operand → Value), WR rs ng g h w → Opd g p e fr x (ρ a) → v.on p ∧ (execOp ρ o).run P w = .ok (.value (conc g v)) w := by
  obtain ⟨v, hv, h1⟩ := evK_some hs
  cases v with
  | nils =>
    refine ⟨_, h1, fun rs ng g w p ρ hw hx => ⟨by simp [V.on], ?_⟩⟩
    obtain ⟨e1, _⟩ := hx _ hv
    simp only [conc] at e1
    obtain ⟨cs, hr⟩ := callee_builtin (P := P) (ρ := ρ) hc w ho
    rw [hr, ha]; simp [Go.builtin, usd_nil, e1, conc]
  | slc b off len cap =>
    cases cap with
    | known c =>
      cases c with
      | zero => cases h1
      | succ c =>
        refine ⟨_, h1, fun rs ng g w p ρ hw hx => ?_⟩
        obtain ⟨e1, e2⟩ := hx _ hv
        refine ⟨by simpa [V.on] using e2, ?_⟩
        rw [conc_slc] at e1
        obtain ⟨cs, hr⟩ := callee_builtin (P := P) (ρ := ρ) hc w ho
        rw [hr, ha]; simp [Go.builtin, usd_some, e1, conc, capOf]
    | rest d =>
      have h2 : h.getK b (fun y => y.onCells (fun l kd _ => Kind.casesOn kd none none fun s => Bool.casesOn (and (Nat.beq off (Nat.mul d s)) (and (Nat.ble 1 s) (Nat.ble (Nat.add off s) l.length))) none (k (.ptr b off) h)) none) none = some r := h1
      obtain ⟨bb, hbb, h3⟩ := getK_some h2
      obtain ⟨l, kd, ty, rfl, h4⟩ := cells_some (b := bb) h3
      cases kd with
      | ro => cases h4
      | own => cases h4
      | opn s =>
        obtain ⟨hb, h5⟩ := bool_some h4
        rw [Bool.and_eq_true, Bool.and_eq_true] at hb
        obtain ⟨hb1, hb2, hb3⟩ := hb
        have q1 : off = d * s := Nat.eq_of_beq_eq_true hb1
        have q2 : 1 ≤ s := Nat.le_of_ble_eq_true hb2
        have q3 : off + s ≤ l.length := Nat.le_of_ble_eq_true hb3
        refine ⟨_, h5, fun rs ng g w p ρ hw hx => ?_⟩
        obtain ⟨e1, e2⟩ := hx _ hv
        refine ⟨by simpa [V.on] using e2, ?_⟩
        rw [conc_slc] at e1
        obtain ⟨_, _, cc, el, fz, hh, hc', hbd, hel, ho'⟩ := hw.blk b _ hbb
        have hcap : ¬ (g.cap b - d = 0) := by
          have h6 : (d + 1) * s ≤ g.cap b * s := by rw [Nat.add_mul]; have := ho'.1; omega
          have := Nat.le_of_mul_le_mul_right h6 (by omega)
          omega
        obtain ⟨cs, hr⟩ := callee_builtin (P := P) (ρ := ρ) hc w ho
        rw [hr, ha]; simp [Go.builtin, usd_some _ _ _ _ _ hcap, e1, conc, capOf]
  | _ => cases h1

theorem run_loadBytesN : ∀ (ns : List Nat) (b off : Nat) (acc : ByteArray), (∀ (j : Nat) (n : Nat), ns[j]? = some n → w.cell? ⟨b, off + j, none⟩ = some (.int .u8 (n : Int))) →
    (loadBytes ⟨b, off, none⟩ acc ns.length).run P w = .ok ⟨acc.data ++ (ns.map UInt8.ofNat).toArray⟩ w
  | [], b, off, acc, _ => by simp [loadBytes]
  | n :: ns, b, off, acc, hc => by
    have h0 : w.cell? ⟨b, off, none⟩ = some (.int .u8 (n : Int)) := hc 0 n rfl
    have ih := run_loadBytesN ns b (off + 1) (acc.push (UInt8.ofNat n)) (fun j y hy => by
      have := hc (j + 1) y (by simpa using hy)
      rwa [show off + 1 + j = off + (j + 1) by omega])
    simp only [List.length_cons, loadBytes, Sem.run_bind, run_load, h0, Result.andThen, addr_add, Int.toNat_natCast, Nat.toUInt8]
    rw [ih]
    congr 1
    apply ByteArray.ext
    simp [ByteArray.push]

theorem ustr_zero (ts : Array TypeId) (ty t : TypeId) (q : Option Addr) (kd : IntKind) (h0 : ts[0]? = some t) (w : World) : (Builtin.unsafeString_ ts ty #[.pointer q, .int kd 0]).run P w = .ok (.string .empty) w := by
  show (do let n ← asInt (.int kd 0); _ : Sem Value).run P w = _
  cases q <;> simp [asInt, asIntOf, h0]
theorem ustr_some (ts : Array TypeId) (ty t u : TypeId) (q : Addr) (kd : IntKind) (n : Nat) (s : ByteArray) (h0 : ts[0]? = some t) (ht : P.underlying t = some (.pointer u)) (hn : n ≠ 0) (hn2 : n ≤ 1099511627776) (w : World)
    (hv : (variablesAt q u n).run P w = .ok true w) (hl : (loadBytes q .empty n).run P w = .ok s w) : (Builtin.unsafeString_ ts ty #[.pointer (some q), .int kd (n : Int)]).run P w = .ok (.string s) (w.freeze q n) := by
  show (do let n ← asInt (.int kd (n : Int)); _ : Sem Value).run P w = _
  have h1 : ¬ ((n : Int) < 0) := by omega
  have h2 : ¬ (9223372036854775807 < (n : Int)) := by omega
  simp [asInt, asIntOf, h0, h1, h2, hn, elemOf, run_underlying ht, hv, hl]

theorem sUstr_ok {cl : Go.Call} {t u : TypeId} (ho : o.op = .call cl) (hc : cl.callee = .builtin .unsafeString) (ha : cl.args = #[a, b]) (ht0 : cl.argTypes[0]? = some t) (ht : P.underlying t = some (.pointer u)) (hsz : szOf P u = some 1) (hs : sUstr u x y cx e fr h k = some r) :
    ∃ v h', k v h' = some r ∧ ∀ (rs : Rnds) (ng : Nat) (g : G) (w : World) (ρ : Operand → Value), WR rs ng g h w → Opd g (below h.next.toNat) e fr x (ρ a) → Opd g (below h.next.toNat) e fr y (ρ b) → OpOk rs ng P g h w (execOp ρ o) v h' := by
  obtain ⟨v, hv, h1⟩ := evK_some hs
  obtain ⟨u', hu, h2⟩ := evK_some (x := y) h1
  obtain ⟨kd', n, rfl, hn, h3⟩ := index_of (v := u') h2
  have zero : n = 0 → (∀ g, ∃ q, conc g v = .pointer q) → k (.str []) h = some r → ∃ v h', k v h' = some r ∧ ∀ (rs : Rnds) (ng : Nat) (g : G) (w : World) (ρ : Operand → Value), WR rs ng g h w → Opd g (below h.next.toNat) e fr x (ρ a) → Opd g (below h.next.toNat) e fr y (ρ b) → OpOk rs ng P g h w (execOp ρ o) v h' := by
    intro hn0 hq hk
    subst hn0
    refine ⟨_, _, hk, fun rs ng g w ρ hw hx hy => ?_⟩
    obtain ⟨e1, _⟩ := hx _ hv
    obtain ⟨e2, _⟩ := hy _ hu
    obtain ⟨q, hq⟩ := hq g
    rw [hq] at e1
    simp only [conc] at e2
    refine ok_pure hw (by simp [V.on]) ?_
    obtain ⟨cs, hr⟩ := callee_builtin (P := P) (ρ := ρ) hc w ho
    have e2' : ρ b = .int kd' 0 := e2
    rw [hr, ha]; simp [Go.builtin, e1, e2', ustr_zero _ _ _ _ _ ht0, conc]; rfl
  cases v with
  | nilp =>
    have h4 : (Nat.casesOn n (k (.str []) h) fun _ => none : Res) = some r := h3
    cases n with
    | zero => exact zero rfl (fun g => ⟨none, by simp [conc]⟩) h4
    | succ n => cases h4
  | ptr bk off =>
    have h4 : (Nat.casesOn n (k (.str []) h) fun m => h.getK bk (fun y => y.onCells (fun l kd t => Bool.casesOn (Nat.beq t u) none <| Bool.casesOn kd.isRo
      (dropK off l (fun l' => takeK (.succ m) l' (fun cs => charsK cs fun s => h.putK bk (some (.cells l .ro t)) fun h => k (.str s) h) none) none) none) none) none : Res) = some r := h3
    cases n with
    | zero => exact zero rfl (fun g => ⟨some ⟨g.blk bk, g.off bk + off, none⟩, by simp [conc]⟩) h4
    | succ m =>
      have h5 : h.getK bk (fun y => y.onCells (fun l kd t => Bool.casesOn (Nat.beq t u) none <| Bool.casesOn kd.isRo
        (dropK off l (fun l' => takeK (m + 1) l' (fun cs => charsK cs fun s => h.putK bk (some (.cells l .ro t)) fun h => k (.str s) h) none) none) none) none) none = some r := h4
      obtain ⟨bb, hbb, h6⟩ := getK_some h5
      obtain ⟨l, kd, ty, rfl, h7⟩ := cells_some (b := bb) h6
      obtain ⟨hb1, h8⟩ := bool_some h7
      have hty : ty = u := Nat.eq_of_beq_eq_true hb1
      subst hty
      obtain ⟨hro, h9⟩ := bool_some' h8
      rw [dropK_eq] at h9
      obtain ⟨hd', h10⟩ := ite_some h9
      rw [takeK_eq] at h10
      obtain ⟨⟨hl1, hl2⟩, h11⟩ := ite_some h10
      obtain ⟨ns, h12, h13⟩ := charsK_some h11
      rw [H.putK_eq] at h12
      refine ⟨_, _, h12, fun rs ng g w ρ hw hx hy => ?_⟩
      obtain ⟨e1, e2⟩ := hx _ hv
      obtain ⟨e3, _⟩ := hy _ hu
      simp only [conc] at e1 e3
      obtain ⟨hb0, hbw, cc, el', fz, hh, hc', hbd, hel, _⟩ := hw.blk bk _ hbb
      have hkr : kd ≠ .ro := fun he => by subst he; simp [Kind.isRo] at hro
      have hel := hel hkr
      subst hel
      have hroom := cells_room hc'
      have hll : off + (m + 1) ≤ l.length := by simp at hl1; omega
      have hnl : ns.length = m + 1 := by
        have := congrArg List.length h13
        simp at this; omega
      have hlb : (loadBytes ⟨g.blk bk, g.off bk + off, none⟩ .empty (m + 1)).run P w = .ok ⟨(ns.map UInt8.ofNat).toArray⟩ w := by
        have := run_loadBytesN (P := P) (w := w) ns (g.blk bk) (g.off bk + off) .empty (fun j n hj => by
          have hjm : j < m + 1 := by
            rcases Nat.lt_or_ge j ns.length with hq | hq
            · omega
            · rw [List.getElem?_eq_none hq] at hj; cases hj
          have hv : ((l.drop off).take (m + 1))[j]? = some (.int .u8 (.ofNat n)) := by rw [h13]; simp [hj]
          rw [List.getElem?_take, if_pos hjm, List.getElem?_drop] at hv
          have := hc' (off + j) _ hv
          rw [cell_of hh, Nat.add_assoc]
          simpa [CellRel, V.isJunk, conc] using this)
        rw [hnl] at this
        simpa using this
      have hva : (variablesAt ⟨g.blk bk, g.off bk + off, none⟩ el' (m + 1)).run P w = .ok true w := by
        have hl := lies_row hsz (by omega) (c := cc.size / 1) (off := g.off bk + off) (n := m + 1) (Nat.mod_one _) (by simp only [Nat.div_one]; omega)
        simp only [variablesAt, Sem.run_bind, run_program, Result.andThen_ok, run_shape, shape_of hh, cellsOf_of hsz, Sem.run_pure, hl]
      obtain ⟨a1, a2⟩ := hw.put (w' := w.freeze ⟨g.blk bk, g.off bk + off, none⟩ (m + 1)) (y := .cells l .ro el') hbb (by cases kd <;> simp_all [Blk.writable]) (by simp [World.freeze]) (fun k hk => by
          have : ¬ g.blk bk = k := fun hq => hk hq.symm
          simp [World.freeze, Array.getElem?_modify, this]) rfl rfl rfl
        ⟨cc, el', (if fz.1 == fz.2 then (g.off bk + off, g.off bk + off + (m + 1)) else (min fz.1 (g.off bk + off), max fz.2 (g.off bk + off + (m + 1)))), by
          simp [World.freeze, Array.getElem?_modify, hh], hc', hbd, fun hq => absurd rfl hq, trivial⟩
      refine ⟨g, _, a1, a2, by simp [V.on], rfl, does_value ?_⟩
      obtain ⟨cs, hr⟩ := callee_builtin (P := P) (ρ := ρ) hc w ho
      have e3' : ρ b = .int kd' ((m + 1 : Nat) : Int) := e3
      rw [hr, ha]
      have := ustr_some (P := P) cl.argTypes o.type t el' ⟨g.blk bk, g.off bk + off, none⟩ kd' (m + 1) _ ht0 ht (by omega) (by omega) w hva hlb
      simp only [Go.builtin, List.map_toArray, List.map_cons, List.map_nil, e1, e3', Sem.run_bind, this, Result.andThen_ok, Sem.run_pure, conc]
  | _ => cases h3

end
end Go.Proofs.YtdojpbbdcgfcnaaGreatDoor.AI
/- THE ABSTRACT INTERPRETER: maps. -/
namespace Go.Proofs.YtdojpbbdcgfcnaaGreatDoor.AI

section
variable {P : Program} {rs : Rnds} {ng : Nat} {g : G} {h : H} {w : World} {cx : Cx} {e : List V} {fr : Fr} {k : V → H → Res} {r : E × Fr × H}
  {ρ : Operand → Value} {o : Oper} {x y z : O} {a b c : Operand}

theorem run_getMap {r : Nat} {es : Array MapEntry} {clock : Nat} (hb : w.heap[r]? = some (.map es clock)) : (getObj r).run P w = .ok (.map es clock) w := by simp [getObj, Sem.run, hb]
theorem run_setMap {r : Nat} {es : Array MapEntry} {clock : Nat} (ob : Obj) (hb : w.heap[r]? = some (.map es clock)) : (setObj r ob).run P w = .ok () { w with heap := w.heap.setIfInBounds r ob } := by simp [setObj, Sem.run, hb]

theorem keyQ_of {kt : TypeId} {q : Bool} (hq : keyQ P kt = some q) : ∃ d, P.underlying kt = some d ∧ ((q = false ∧ ∃ kd, d = .int kd) ∨ (q = true ∧ d = .string)) := by
  unfold keyQ at hq
  split at hq
  · rename_i kd hu; cases hq; exact ⟨_, hu, .inl ⟨rfl, kd, rfl⟩⟩
  · rename_i hu; cases hq; exact ⟨_, hu, .inr ⟨rfl, rfl⟩⟩
  · cases hq

theorem eqKey_some {q : Bool} {u v : V} {t : Bool} (hh : eqKey q u v = some t) :
    (q = false ∧ ∃ kd m n, u = .int kd m ∧ v = .int kd n ∧ t = decide (m = n)) ∨ (q = true ∧ ∃ s s', u = .str s ∧ v = .str s' ∧ t = (s == s')) := by
  cases q with
  | false =>
    have h1 : int2K u v (fun _ x y => some (eqI x y)) none = some t := hh
    obtain ⟨kd, m, n, rfl, rfl, h2⟩ := int2K_some h1
    rw [eqI_eq] at h2
    exact .inl ⟨rfl, kd, m, n, rfl, rfl, by cases h2; rfl⟩
  | true =>
    have h1 : u.onStr (fun s => v.onStr (fun t => some (bytesEq s t)) none) none = some t := hh
    obtain ⟨s, rfl, h2⟩ := onStr_some h1
    obtain ⟨s', rfl, h3⟩ := onStr_some (v := v) h2
    rw [bytesEq_eq] at h3
    exact .inr ⟨rfl, s, s', rfl, rfl, by cases h3; rfl⟩

/-- a key is the same: what the model says at once -/
theorem eqKey_now {q : Bool} {u v : V} {t : Bool} (hh : eqKey q u v = some t) {d : TypeDesc} (hd : (q = false ∧ ∃ kd, d = .int kd) ∨ (q = true ∧ d = .string)) (g : G) :
    Instr.sameNow d (conc g u) (conc g v) = some t ∧ (t = true → conc g v = conc g u ∧ Instr.sameBits 10000 (conc g v) (conc g u) = true) := by
  rcases eqKey_some hh with ⟨rfl, kd, m, n, rfl, rfl, rfl⟩ | ⟨rfl, s, s', rfl, rfl, rfl⟩
  · rcases hd with ⟨_, kd', rfl⟩ | ⟨h1, _⟩
    · refine ⟨by simp [conc, Instr.sameNow]; rfl, fun ht => ?_⟩
      have : m = n := by simpa using ht
      subst this
      simp [Instr.sameBits, conc]
    · cases h1
  · rcases hd with ⟨h1, _⟩ | ⟨_, rfl⟩
    · cases h1
    · simp only [conc, Instr.sameNow]
      have hbe : ((ByteArray.mk s.toArray) == (ByteArray.mk s'.toArray)) = (s == s') := by
        show (s.toArray == s'.toArray) = (s == s')
        simp
      refine ⟨by rw [hbe], fun ht => ?_⟩
      have : s = s' := by simpa using ht
      subst this
      simp [Instr.sameBits, hbe]

theorem findK_some {q : Bool} {u : V} {hit : Nat → V → Nat → Res} {miss : Res} : ∀ (es : List (V × V × Nat)) (i : Nat),
    (List.rec (fun _ => miss) (fun y _ ih i => Prod.casesOn y fun k y => Prod.casesOn y fun v b => Option.casesOn (eqKey q u k) none fun r => Bool.casesOn r (natK (Nat.succ i) ih) (hit i v b)) es i : Res) = some r →
    (∃ j a v b, es[j]? = some (a, v, b) ∧ hit (i + j) v b = some r ∧ eqKey q u a = some true ∧ ∀ g d, ((q = false ∧ ∃ kd, d = .int kd) ∨ (q = true ∧ d = .string)) → Instr.findNow d (conc g u) (es.map (entryOf g)) i = some (some (i + j, conc g v))) ∨
    (miss = some r ∧ ∀ g d, ((q = false ∧ ∃ kd, d = .int kd) ∨ (q = true ∧ d = .string)) → Instr.findNow d (conc g u) (es.map (entryOf g)) i = some none)
  | [], i, hs => .inr ⟨hs, fun g d _ => rfl⟩
  | (a, v, b) :: es, i, hs => by
    have h1 : (Option.casesOn (eqKey q u a) none fun r => Bool.casesOn r (natK (Nat.succ i) (List.rec (fun _ => miss) (fun y _ ih i => Prod.casesOn y fun k y => Prod.casesOn y fun v b => Option.casesOn (eqKey q u k) none fun r => Bool.casesOn r (natK (Nat.succ i) ih) (hit i v b)) es)) (hit i v b) : Res) = some r := hs
    obtain ⟨t, ht, h2⟩ := opt_some h1
    cases t with
    | true => exact .inl ⟨0, a, v, b, rfl, h2, ht, fun g d hd => by simp [Instr.findNow, entryOf, (eqKey_now ht hd g).1]⟩
    | false =>
      have h2' : natK (Nat.succ i) (List.rec (fun _ => miss) (fun y _ ih i => Prod.casesOn y fun k y => Prod.casesOn y fun v b => Option.casesOn (eqKey q u k) none fun r => Bool.casesOn r (natK (Nat.succ i) ih) (hit i v b)) es : Nat → Res) = some r := h2
      rw [natK_eq] at h2'
      rcases findK_some es (i + 1) h2' with ⟨j, a', v', b', k1, k2, k3, k4⟩ | ⟨k1, k2⟩
      · refine .inl ⟨j + 1, a', v', b', by simpa using k1, by rw [← k2]; congr 1; omega, k3, fun g d hd => ?_⟩
        have := k4 g d hd
        simp only [List.map_cons, Instr.findNow]
        rw [show Instr.sameNow d (conc g u) (entryOf g (a, v, b)).key = some false from (eqKey_now ht hd g).1]
        simp only [this]
        congr 3; omega
      · refine .inr ⟨k1, fun g d hd => ?_⟩
        have := k2 g d hd
        simp only [List.map_cons, Instr.findNow]
        rw [show Instr.sameNow d (conc g u) (entryOf g (a, v, b)).key = some false from (eqKey_now ht hd g).1]
        simp only [this]

theorem run_checkKey {kt : TypeId} {d : TypeDesc} {q : Bool} (hu : P.underlying kt = some d) (hd : (q = false ∧ ∃ kd, d = .int kd) ∨ (q = true ∧ d = .string)) (emp : Bool) (v : Value) (w : World) : (Instr.checkKey emp 10000 kt v).run P w = .ok () w := by
  have key : ∀ n, (Instr.checkKey emp (n + 1) kt v).run P w = .ok () w := fun n => by
    rcases hd with ⟨_, kd, rfl⟩ | ⟨_, rfl⟩ <;> simp [Instr.checkKey, run_underlying hu]
  exact key 9999

theorem run_findKey {kt : TypeId} {d : TypeDesc} (hu : P.underlying kt = some d) {v : Value} {es : List MapEntry} {res : Option (Nat × Value)} (hf : Instr.findNow d v es 0 = some res) (w : World) : (Instr.findKey kt v es).run P w = .ok res w := by
  simp [Instr.findKey, run_underlying hu, hf]

theorem sLenMap_ok {cl : Go.Call} {t kt et : TypeId} (ho : o.op = .call cl) (hc : cl.callee = .builtin .len) (ha : cl.args = #[a]) (ht : cl.argTypes[0]? = some t)
    (hd : P.underlying t = some (.map kt et)) (hs : sLenMap x cx e fr h k = some r) :
    ∃ v, k v h = some r ∧ ∀ (rs : Rnds) (ng : Nat) (g : G) (w : World) (p : Pos → Prop) (ρ : Operand → Value), WR rs ng g h w → Opd g p e fr x (ρ a) → Re P ρ o g h w v := by
  obtain ⟨v, hv, h1⟩ := evK_some hs
  cases v with
  | nilm =>
    refine ⟨_, h1, fun rs ng g w p ρ hw hx => ⟨by simp [V.on], ?_⟩⟩
    obtain ⟨e1, _⟩ := hx _ hv
    obtain ⟨cs, hr⟩ := callee_builtin (P := P) (ρ := ρ) hc w ho
    rw [hr, ha]; simp [Go.builtin, Builtin.len_, ht, run_underlying hd, e1, conc, goInt]
  | map m =>
    have h2 : h.getK m (fun b => b.onMap (fun es _ => lenK es fun n => k (.int .i64 (.ofNat n)) h) none) none = some r := h1
    obtain ⟨bb, hbb, h3⟩ := getK_some h2
    obtain ⟨es, clk, rfl, h4⟩ := map_some (b := bb) h3
    rw [lenK_eq] at h4
    refine ⟨_, h4, fun rs ng g w p ρ hw hx => ⟨by simp [V.on], ?_⟩⟩
    obtain ⟨e1, _⟩ := hx _ hv
    obtain ⟨_, _, hh, _⟩ := hw.blk m _ hbb
    obtain ⟨cs, hr⟩ := callee_builtin (P := P) (ρ := ρ) hc w ho
    rw [hr, ha]; simp [Go.builtin, Builtin.len_, ht, run_underlying hd, e1, conc, goInt, run_getMap hh]
  | _ => cases h1

theorem sLookup_ok {t kt et : TypeId} {q ok : Bool} {zv : V} (ho : o.op = .lookup t a b ok) (ht : P.underlying t = some (.map kt et)) (hq : keyQ P kt = some q) (hz : zeroOf P et = some zv) (hs : sLookup q zv x y ok cx e fr h k = some r) :
    ∃ v, k v h = some r ∧ ∀ (rs : Rnds) (ng : Nat) (g : G) (w : World) (p : Pos → Prop) (ρ : Operand → Value), WR rs ng g h w → Opd g p e fr x (ρ a) → Opd g p e fr y (ρ b) → Re P ρ o g h w v := by
  obtain ⟨v, hv, h1⟩ := evK_some hs
  obtain ⟨u, hu, h2⟩ := evK_some (x := y) h1
  obtain ⟨d, hd, hdq⟩ := keyQ_of hq
  have okc : ∀ (g : G) (v : V) (t : Bool), conc g (okV ok v t) = if ok then .tuple #[conc g v, .bool t] else conc g v := fun g v t => by
    cases ok <;> simp [okV, conc, concs]
  have okb : ∀ (n : Nat) (v : V) (t : Bool), v.bd n → (okV ok v t).bd n := fun n v t hb => by
    cases ok
    · exact hb
    · simpa [okV, V.on, ons] using hb
  cases v with
  | nilm =>
    have h3 : k (okV ok zv false) h = some r := h2
    refine ⟨_, h3, fun rs ng g w p ρ hw hx hy => ?_⟩
    obtain ⟨e1, _⟩ := hx _ hv
    obtain ⟨e2, _⟩ := hy _ hu
    obtain ⟨z1, z2⟩ := zero_ok hz g (below h.next.toNat)
    refine ⟨okb _ _ _ z2, ?_⟩
    rw [okc]
    have hf := run_findKey (P := P) hd (v := conc g u) (es := []) (res := none) rfl w
    simp only [conc] at e1
    simp [execOp, ho, e1, e2, Instr.lookup, run_underlying ht, run_checkKey hd hdq, hf, z1]
  | map m =>
    have h3 : h.getK m (fun b => b.onMap (fun es _ => findK q u es (fun _ v _ => k (okV ok v true) h) (k (okV ok zv false) h)) none) none = some r := h2
    obtain ⟨bb, hbb, h4⟩ := getK_some h3
    obtain ⟨es, clk, rfl, h5⟩ := map_some (b := bb) h4
    rcases findK_some (hit := fun _ v _ => k (okV ok v true) h) es 0 h5 with ⟨j, a', v', b', k1, k2, k3, k4⟩ | ⟨k1, k2⟩
    · refine ⟨_, k2, fun rs ng g w p ρ hw hx hy => ?_⟩
      obtain ⟨e1, _⟩ := hx _ hv
      obtain ⟨e2, _⟩ := hy _ hu
      obtain ⟨_, _, hh, hes⟩ := hw.blk m _ hbb
      refine ⟨okb _ _ _ (hes _ (List.mem_of_getElem? k1)).2, ?_⟩
      rw [okc]
      have hf := run_findKey (P := P) hd (k4 g d hdq) w
      simp only [conc] at e1
      simp [execOp, ho, e1, e2, Instr.lookup, run_underlying ht, run_checkKey hd hdq, hf, run_getMap hh]
    · refine ⟨_, k1, fun rs ng g w p ρ hw hx hy => ?_⟩
      obtain ⟨e1, _⟩ := hx _ hv
      obtain ⟨e2, _⟩ := hy _ hu
      obtain ⟨_, _, hh, hes⟩ := hw.blk m _ hbb
      obtain ⟨z1, z2⟩ := zero_ok hz g (below h.next.toNat)
      refine ⟨okb _ _ _ z2, ?_⟩
      rw [okc]
      have hf := run_findKey (P := P) hd (k2 g d hdq) w
      simp only [conc] at e1
      simp [execOp, ho, e1, e2, Instr.lookup, run_underlying ht, run_checkKey hd hdq, hf, run_getMap hh, z1]
  | _ => cases h2

/-! ### writes -/
/-- the entry i with a new value -/
def modL (i : Nat) (x : V) (es : List (V × V × Nat)) : List (V × V × Nat) := es.modify i fun y => (y.1, x, y.2.2)
theorem modK_eq {β : Type} (i : Nat) (x : V) (es : List (V × V × Nat)) (k : List (V × V × Nat) → β) : modK i x es k = k (modL i x es) := by
  induction i generalizing es k with
  | zero =>
    cases es with
    | nil => rfl
    | cons y es => obtain ⟨a, v, b⟩ := y; rfl
  | succ i ih =>
    cases es with
    | nil => rfl
    | cons y es => exact (ih es _).trans rfl

/-- a map of ours has turned -/
theorem map_put (hw : WR rs ng g h w) {m : Pos} {es es' : List (V × V × Nat)} {clk clk' : Nat} (hb : h.get m = some (.map es clk)) (hes : ∀ x ∈ es', x.1.bd h.next.toNat ∧ x.2.1.bd h.next.toNat) :
    WR rs ng g (h.put m (some (.map es' clk'))) { w with heap := w.heap.setIfInBounds (g.blk m) (.map (es'.map (entryOf g)).toArray clk') } ∧
    Adv g h w g (h.put m (some (.map es' clk'))) { w with heap := w.heap.setIfInBounds (g.blk m) (.map (es'.map (entryOf g)).toArray clk') } := by
  obtain ⟨_, hlt, hh, _⟩ := hw.blk m _ hb
  refine hw.put (y := .map es' clk') hb (by simp [Blk.writable]) (by simp) (fun k hk => ?_) rfl rfl rfl ⟨by simp [hlt], hes⟩
  simp only
  rw [Array.getElem?_setIfInBounds_ne (fun he => hk he.symm)]

theorem modL_bd {n : Nat} {i : Nat} {x : V} {es : List (V × V × Nat)} (hes : ∀ y ∈ es, y.1.bd n ∧ y.2.1.bd n) (hx : x.bd n) : ∀ y ∈ modL i x es, y.1.bd n ∧ y.2.1.bd n := by
  intro y hy
  unfold modL at hy
  obtain ⟨j, hj⟩ := List.mem_iff_getElem?.1 hy
  rw [List.getElem?_modify] at hj
  cases hz : es[j]? with
  | none => simp [hz] at hj
  | some z =>
    have := hes z (List.mem_of_getElem? hz)
    simp only [hz, Option.map_eq_map, Option.map_some, Option.some.injEq] at hj
    subst hj
    split
    · exact ⟨this.1, hx⟩
    · exact this

/-- the model's entry with a new key (the same) and value -/
theorem modify_entries (g : G) {es : List (V × V × Nat)} {i : Nat} {a v x : V} {b : Nat} (hi : es[i]? = some (a, v, b)) {key : Value} (hk : key = conc g a) :
    (es.map (entryOf g)).toArray.modify i (fun e => { e with key := key, val := conc g x }) = ((modL i x es).map (entryOf g)).toArray := by
  apply Array.ext_getElem?
  intro j
  simp only [Array.getElem?_modify, List.getElem?_toArray, List.getElem?_map, modL, List.getElem?_modify]
  by_cases hij : i = j
  · subst hij; subst hk
    simp [hi, entryOf]
  · simp [hij]

theorem modify_key (g : G) {es : List (V × V × Nat)} {i : Nat} {a v : V} {b : Nat} (hi : es[i]? = some (a, v, b)) {key : Value} (hk : key = conc g a) :
    (es.map (entryOf g)).toArray.modify i (fun e => { e with key := key }) = (es.map (entryOf g)).toArray := by
  apply Array.ext_getElem?
  intro j
  simp only [Array.getElem?_modify, List.getElem?_toArray, List.getElem?_map]
  by_cases hij : i = j
  · subst hij; subst hk
    simp [hi, entryOf]
  · simp [hij]

theorem sMapUpdate_ok {t kt et : TypeId} {q : Bool} (ho : o.op = .mapUpdate t a b c ∨ o.op = .insert t a b c) (ht : P.underlying t = some (.map kt et)) (hq : keyQ P kt = some q) (hs : sMapUpdate q x y z cx e fr h k = some r) :
    ∃ v h', k v h' = some r ∧ ∀ (rs : Rnds) (ng : Nat) (g : G) (w : World) (ρ : Operand → Value), WR rs ng g h w → Opd g (below h.next.toNat) e fr x (ρ a) → Opd g (below h.next.toNat) e fr y (ρ b) → Opd g (below h.next.toNat) e fr z (ρ c) → OpOk rs ng P g h w (execOp ρ o) v h' := by
  obtain ⟨v, hv, h1⟩ := evK_some hs
  obtain ⟨u, hu, h2⟩ := evK_some (x := y) h1
  obtain ⟨s, hz, h3⟩ := evK_some (x := z) h2
  obtain ⟨d, hd, hdq⟩ := keyQ_of hq
  obtain ⟨m, rfl, h4⟩ := onMap_some (v := v) h3
  obtain ⟨bb, hbb, h5⟩ := getK_some h4
  obtain ⟨es, clk, rfl, h6⟩ := map_some (b := bb) h5
  rcases findK_some (hit := fun j _ _ => modK j s es fun es => h.putK m (some (.map es clk)) fun h => k undefV h) es 0 h6 with ⟨j, a', v', b', k1, k2, k3, k4⟩ | ⟨k1, k2⟩
  · rw [modK_eq, H.putK_eq, Nat.zero_add] at k2
    refine ⟨_, _, k2, fun rs ng g w ρ hw hx hy hzz => ?_⟩
    obtain ⟨e1, _⟩ := hx _ hv
    obtain ⟨e2, e2'⟩ := hy _ hu
    obtain ⟨e3, e3'⟩ := hzz _ hz
    simp only [conc] at e1
    obtain ⟨_, _, hh, hes⟩ := hw.blk m _ hbb
    obtain ⟨a1, a2⟩ := map_put hw (clk' := clk) hbb (modL_bd (i := j) hes e3')
    refine ⟨g, _, a1, a2, bd_undef _, rfl, ?_⟩
    rw [undef_conc]
    refine does_skip ?_
    have hk4 := k4 g d hdq
    rw [Nat.zero_add] at hk4
    have hf := run_findKey (P := P) hd hk4 w
    obtain ⟨hk1, hk2⟩ := (eqKey_now k3 hdq g).2 rfl
    have hm := modify_entries g (x := s) k1 (key := conc g u) hk1.symm
    have hst : (Instr.mapUpdate t (.map (some (g.blk m))) (conc g u) (conc g s)).run P w = .ok () { w with heap := w.heap.setIfInBounds (g.blk m) (.map ((modL j s es).map (entryOf g)).toArray clk) } := by
      simp only [Instr.mapUpdate, Sem.run_bind, run_underlying ht, Result.andThen_ok, run_getMap hh, run_checkKey hd hdq, hf]
      have hget : (((es.map (entryOf g)).toArray[j]?).map (·.key)).getD (conc g u) = conc g a' := by simp [k1, entryOf]
      simp only [hget, Instr.keyThatStays, hk2, if_true, Sem.run_bind, Sem.run_pure, Result.andThen_ok, Nat.zero_add]
      rw [run_setMap _ hh, hm]
    rcases ho with ho | ho <;> simp [execOp, ho, e1, e2, e3, hst]
  · rw [appK_eq, natK_eq, H.putK_eq] at k1
    refine ⟨_, _, k1, fun rs ng g w ρ hw hx hy hzz => ?_⟩
    obtain ⟨e1, _⟩ := hx _ hv
    obtain ⟨e2, e2'⟩ := hy _ hu
    obtain ⟨e3, e3'⟩ := hzz _ hz
    simp only [conc] at e1
    obtain ⟨_, _, hh, hes⟩ := hw.blk m _ hbb
    obtain ⟨a1, a2⟩ := map_put hw (clk' := clk + 1) hbb (es' := es ++ [(u, s, clk)]) (fun x hx => by
      rcases List.mem_append.1 hx with hx | hx
      · exact hes x hx
      · simp at hx; subst hx; exact ⟨e2', e3'⟩)
    refine ⟨g, _, a1, a2, bd_undef _, rfl, ?_⟩
    rw [undef_conc]
    refine does_skip ?_
    have hf := run_findKey (P := P) hd (k2 g d hdq) w
    have hst : (Instr.mapUpdate t (.map (some (g.blk m))) (conc g u) (conc g s)).run P w = .ok () { w with heap := w.heap.setIfInBounds (g.blk m) (.map ((es ++ [(u, s, clk)]).map (entryOf g)).toArray (clk + 1)) } := by
      simp only [Instr.mapUpdate, Sem.run_bind, run_underlying ht, Result.andThen_ok, run_getMap hh, run_checkKey hd hdq, hf]
      rw [run_setMap _ hh]
      simp [entryOf]
    rcases ho with ho | ho <;> simp [execOp, ho, e1, e2, e3, hst]

theorem sMapEntry_ok {t kt et : TypeId} {q : Bool} {zv : V} (ho : o.op = .mapEntry t a b) (ht : P.underlying t = some (.map kt et)) (hq : keyQ P kt = some q) (hz : zeroOf P et = some zv) (hs : sMapEntry q zv x y cx e fr h k = some r) :
    ∃ v h', k v h' = some r ∧ ∀ (rs : Rnds) (ng : Nat) (g : G) (w : World) (ρ : Operand → Value), WR rs ng g h w → Opd g (below h.next.toNat) e fr x (ρ a) → Opd g (below h.next.toNat) e fr y (ρ b) → OpOk rs ng P g h w (execOp ρ o) v h' := by
  obtain ⟨v, hv, h1⟩ := evK_some hs
  obtain ⟨u, hu, h2⟩ := evK_some (x := y) h1
  obtain ⟨d, hd, hdq⟩ := keyQ_of hq
  obtain ⟨m, rfl, h4⟩ := onMap_some (v := v) h2
  obtain ⟨bb, hbb, h5⟩ := getK_some h4
  obtain ⟨es, clk, rfl, h6⟩ := map_some (b := bb) h5
  rcases findK_some (hit := fun _ v n => k (.tup [v, .int .i64 (.ofNat n)]) h) es 0 h6 with ⟨j, a', v', b', k1, k2, k3, k4⟩ | ⟨k1, k2⟩
  · refine ⟨_, _, k2, fun rs ng g w ρ hw hx hy => ?_⟩
    obtain ⟨e1, _⟩ := hx _ hv
    obtain ⟨e2, e2'⟩ := hy _ hu
    simp only [conc] at e1
    obtain ⟨_, hlt, hh, hes⟩ := hw.blk m _ hbb
    refine ok_pure hw (by simp only [V.on, ons]; exact ⟨(hes _ (List.mem_of_getElem? k1)).2, trivial, trivial⟩) ?_
    have hk4 := k4 g d hdq
    rw [Nat.zero_add] at hk4
    have hf := run_findKey (P := P) hd hk4 w
    obtain ⟨hk1, hk2⟩ := (eqKey_now k3 hdq g).2 rfl
    have hm := modify_key g k1 (key := conc g u) hk1.symm
    have hsame : ({ w with heap := w.heap.setIfInBounds (g.blk m) (.map (es.map (entryOf g)).toArray clk) } : World) = w := by
      have : w.heap.setIfInBounds (g.blk m) (.map (es.map (entryOf g)).toArray clk) = w.heap := by
        apply Array.ext_getElem?
        intro i
        rw [Array.getElem?_setIfInBounds]
        split
        · rename_i hi; subst hi; rw [hh]
        · rfl
      rw [this]
    have hst : (Instr.mapEntry t (.map (some (g.blk m))) (conc g u)).run P w = .ok (.tuple #[conc g v', goInt b']) w := by
      simp only [Instr.mapEntry, Sem.run_bind, run_underlying ht, Result.andThen_ok, run_getMap hh, run_checkKey hd hdq, hf]
      have hget : (((es.map (entryOf g)).toArray[j]?).map (·.key)).getD (conc g u) = conc g a' := by simp [k1, entryOf]
      have hget2 : (((es.map (entryOf g)).toArray[j]?).map (·.born)).getD 0 = b' := by simp [k1, entryOf]
      simp only [hget, hget2, Instr.keyThatStays, hk2, if_true, Sem.run_bind, Sem.run_pure, Result.andThen_ok, Nat.zero_add]
      rw [run_setMap _ hh, hm, hsame]
      simp [k1, entryOf]
    simp [execOp, ho, e1, e2, hst, conc, concs, goInt]
  · rw [appK_eq, natK_eq, H.putK_eq] at k1
    refine ⟨_, _, k1, fun rs ng g w ρ hw hx hy => ?_⟩
    obtain ⟨e1, _⟩ := hx _ hv
    obtain ⟨e2, e2'⟩ := hy _ hu
    simp only [conc] at e1
    obtain ⟨_, _, hh, hes⟩ := hw.blk m _ hbb
    obtain ⟨z1, z2⟩ := zero_ok hz g (below h.next.toNat)
    obtain ⟨a1, a2⟩ := map_put hw (clk' := clk + 1) hbb (es' := es ++ [(u, zv, clk)]) (fun x hx => by
      rcases List.mem_append.1 hx with hx | hx
      · exact hes x hx
      · simp at hx; subst hx; exact ⟨e2', z2⟩)
    refine ⟨g, _, a1, a2, by simp only [V.bd, V.on, ons]; exact ⟨z2, trivial, trivial⟩, rfl, does_value ?_⟩
    have hf := run_findKey (P := P) hd (k2 g d hdq) w
    have hst : (Instr.mapEntry t (.map (some (g.blk m))) (conc g u)).run P w = .ok (.tuple #[conc g zv, goInt clk]) { w with heap := w.heap.setIfInBounds (g.blk m) (.map ((es ++ [(u, zv, clk)]).map (entryOf g)).toArray (clk + 1)) } := by
      simp only [Instr.mapEntry, Sem.run_bind, run_underlying ht, Result.andThen_ok, run_getMap hh, run_checkKey hd hdq, hf, z1]
      rw [run_setMap _ hh]
      simp [entryOf]
    simp [execOp, ho, e1, e2, hst, conc, concs, goInt]

theorem bornK_some {n : Nat} {hit : Nat → Res} : ∀ (es : List (V × V × Nat)) (i : Nat),
    (List.rec (fun _ => none) (fun y _ ih i => Prod.casesOn y fun _ y => Prod.casesOn y fun _ b => Bool.casesOn (Nat.beq b n) (natK (Nat.succ i) ih) (hit i)) es i : Res) = some r →
    ∃ j, hit (i + j) = some r ∧ (∃ a v, es[j]? = some (a, v, n)) ∧ ∀ g, (es.map (entryOf g)).findIdx? (fun e => (e.born : Int) == (n : Int)) = some j
  | [], i, hs => by cases hs
  | (a, v, b) :: es, i, hs => by
    have h1 : (Bool.casesOn (Nat.beq b n) (natK (Nat.succ i) (List.rec (fun _ => none) (fun y _ ih i => Prod.casesOn y fun _ y => Prod.casesOn y fun _ b => Bool.casesOn (Nat.beq b n) (natK (Nat.succ i) ih) (hit i)) es : Nat → Res)) (hit i) : Res) = some r := hs
    cases hb : Nat.beq b n with
    | true =>
      rw [hb] at h1
      have : b = n := Nat.eq_of_beq_eq_true hb
      subst this
      exact ⟨0, h1, ⟨a, v, rfl⟩, fun g => by simp [List.findIdx?_cons, entryOf]⟩
    | false =>
      rw [hb] at h1
      have h2 : natK (Nat.succ i) (List.rec (fun _ => none) (fun y _ ih i => Prod.casesOn y fun _ y => Prod.casesOn y fun _ b => Bool.casesOn (Nat.beq b n) (natK (Nat.succ i) ih) (hit i)) es : Nat → Res) = some r := h1
      rw [natK_eq] at h2
      obtain ⟨j, k1, k2, k3⟩ := bornK_some es (i + 1) h2
      have hne : ¬ b = n := fun he => by subst he; rw [Nat.beq_refl] at hb; cases hb
      refine ⟨j + 1, by rw [← k1]; congr 1; omega, by simpa using k2, fun g => ?_⟩
      have hf : (((entryOf g (a, v, b)).born : Int) == (n : Int)) = false := by simp [entryOf]; omega
      simp only [List.map_cons, List.findIdx?_cons, hf, k3 g]
      simp

theorem sEntryStore_ok {t : TypeId} (ho : o.op = .entryStore t a b c) (hs : sEntryStore x y z cx e fr h k = some r) :
    ∃ v h', k v h' = some r ∧ ∀ (rs : Rnds) (ng : Nat) (g : G) (w : World) (ρ : Operand → Value), WR rs ng g h w → Opd g (below h.next.toNat) e fr x (ρ a) → Opd g (below h.next.toNat) e fr y (ρ b) → Opd g (below h.next.toNat) e fr z (ρ c) → OpOk rs ng P g h w (execOp ρ o) v h' := by
  obtain ⟨v, hv, h1⟩ := evK_some hs
  obtain ⟨u, hu, h2⟩ := evK_some (x := y) h1
  obtain ⟨s, hz, h3⟩ := evK_some (x := z) h2
  obtain ⟨m, rfl, h4⟩ := onMap_some (v := v) h3
  obtain ⟨bb, hbb, h5⟩ := getK_some h4
  obtain ⟨es, clk, rfl, h6⟩ := map_some (b := bb) h5
  obtain ⟨kd, n, rfl, hn, h7⟩ := index_of (v := u) h6
  obtain ⟨j, k1, ⟨a', v', k2⟩, k3⟩ := bornK_some (hit := fun j => modK j s es fun es => h.putK m (some (.map es clk)) fun h => k undefV h) es 0 h7
  rw [modK_eq, H.putK_eq, Nat.zero_add] at k1
  refine ⟨_, _, k1, fun rs ng g w ρ hw hx hy hzz => ?_⟩
  obtain ⟨e1, _⟩ := hx _ hv
  obtain ⟨e2, _⟩ := hy _ hu
  obtain ⟨e3, e3'⟩ := hzz _ hz
  simp only [conc] at e1 e2
  obtain ⟨_, _, hh, hes⟩ := hw.blk m _ hbb
  obtain ⟨a1, a2⟩ := map_put hw (clk' := clk) hbb (modL_bd (i := j) hes e3')
  refine ⟨g, _, a1, a2, bd_undef _, rfl, ?_⟩
  rw [undef_conc]
  refine does_skip ?_
  have hm : (es.map (entryOf g)).toArray.modify j (fun e => { e with val := conc g s }) = ((modL j s es).map (entryOf g)).toArray := by
    apply Array.ext_getElem?
    intro i
    simp only [Array.getElem?_modify, List.getElem?_toArray, List.getElem?_map, modL, List.getElem?_modify]
    by_cases hij : j = i
    · subst hij; simp [k2, entryOf]
    · simp [hij]
  have hst : (Instr.entryStore t (.map (some (g.blk m))) (.int kd (n : Int)) (conc g s)).run P w = .ok () { w with heap := w.heap.setIfInBounds (g.blk m) (.map ((modL j s es).map (entryOf g)).toArray clk) } := by
    have k3' := k3 g
    simp only [Instr.entryStore, Sem.run_bind, Result.andThen_ok, run_getMap hh, asInt, asIntOf, Sem.run_pure]
    rw [List.findIdx?_toArray, k3']
    simp only
    rw [run_setMap _ hh, hm]
  simp [execOp, ho, e1, e2, e3, hst]

theorem map_erase {α β : Type} (f : α → β) (l : List α) (j : Nat) : (l.map f).eraseIdx j = (l.eraseIdx j).map f := by
  induction l generalizing j with
  | nil => simp
  | cons x l ih => cases j <;> simp [ih]

theorem sDelete_ok {cl : Go.Call} {t kt et : TypeId} {q : Bool} (ho : o.op = .call cl) (hc : cl.callee = .builtin .delete) (ha : cl.args = #[a, b]) (ht0 : cl.argTypes[0]? = some t) (ht : P.underlying t = some (.map kt et)) (hq : keyQ P kt = some q)
    (hs : sDelete q x y cx e fr h k = some r) :
    ∃ v h', k v h' = some r ∧ ∀ (rs : Rnds) (ng : Nat) (g : G) (w : World) (ρ : Operand → Value), WR rs ng g h w → Opd g (below h.next.toNat) e fr x (ρ a) → Opd g (below h.next.toNat) e fr y (ρ b) → OpOk rs ng P g h w (execOp ρ o) v h' := by
  obtain ⟨v, hv, h1⟩ := evK_some hs
  obtain ⟨u, hu, h2⟩ := evK_some (x := y) h1
  obtain ⟨d, hd, hdq⟩ := keyQ_of hq
  obtain ⟨m, rfl, h4⟩ := onMap_some (v := v) h2
  obtain ⟨bb, hbb, h5⟩ := getK_some h4
  obtain ⟨es, clk, rfl, h6⟩ := map_some (b := bb) h5
  have und : ∀ g : G, conc g undefV = .tuple #[] := fun g => by simp [undefV, conc, concs]
  rcases findK_some (hit := fun j _ _ => listK (es.eraseIdx j) fun es => h.putK m (some (.map es clk)) fun h => k undefV h) es 0 h6 with ⟨j, a', v', b', k1, k2, k3, k4⟩ | ⟨k1, k2⟩
  · rw [listK_eq, H.putK_eq, Nat.zero_add] at k2
    refine ⟨_, _, k2, fun rs ng g w ρ hw hx hy => ?_⟩
    obtain ⟨e1, _⟩ := hx _ hv
    obtain ⟨e2, e2'⟩ := hy _ hu
    simp only [conc] at e1
    obtain ⟨_, _, hh, hes⟩ := hw.blk m _ hbb
    obtain ⟨a1, a2⟩ := map_put hw (clk' := clk) hbb (es' := es.eraseIdx j) (fun x hx => hes x (List.mem_of_mem_eraseIdx hx))
    refine ⟨g, _, a1, a2, bd_undef _, rfl, does_value ?_⟩
    rw [und]
    have hk4 := k4 g d hdq
    rw [Nat.zero_add] at hk4
    have hf := run_findKey (P := P) hd hk4 w
    obtain ⟨cs, hr⟩ := callee_builtin (P := P) (ρ := ρ) hc w ho
    have hst : (Builtin.delete_ cl.argTypes o.type #[.map (some (g.blk m)), conc g u]).run P w = .ok (.tuple #[]) { w with heap := w.heap.setIfInBounds (g.blk m) (.map ((es.eraseIdx j).map (entryOf g)).toArray clk) } := by
      have her : (es.map (entryOf g)).toArray.eraseIdxIfInBounds j = ((es.eraseIdx j).map (entryOf g)).toArray := by
        have hj : j < es.length := by
          rcases Nat.lt_or_ge j es.length with hh | hh
          · exact hh
          · rw [List.getElem?_eq_none hh] at k1; cases k1
        simp [Array.eraseIdxIfInBounds, hj, map_erase]
      have her' : Array.eraseIdxIfInBounds (List.map (entryOf g) es).toArray j = ((es.eraseIdx j).map (entryOf g)).toArray := her
      simp only [Builtin.delete_, ht0]
      simp only [Sem.run_bind, run_underlying ht, Result.andThen_ok, List.getElem?_toArray, List.getElem?_cons_zero, List.getElem?_cons_succ, run_getMap hh, run_checkKey hd hdq, hf, her', run_setMap _ hh, Sem.run_pure]
    rw [hr, ha]; simp [Go.builtin, e1, e2, hst]
  · refine ⟨_, _, k1, fun rs ng g w ρ hw hx hy => ?_⟩
    obtain ⟨e1, _⟩ := hx _ hv
    obtain ⟨e2, e2'⟩ := hy _ hu
    simp only [conc] at e1
    obtain ⟨_, hlt, hh, hes⟩ := hw.blk m _ hbb
    have hsame : ({ w with heap := w.heap.setIfInBounds (g.blk m) (.map (es.map (entryOf g)).toArray clk) } : World) = w := by
      have : w.heap.setIfInBounds (g.blk m) (.map (es.map (entryOf g)).toArray clk) = w.heap := by
        apply Array.ext_getElem?
        intro i
        rw [Array.getElem?_setIfInBounds]
        split
        · rename_i hi; subst hi; rw [hh]
        · rfl
      rw [this]
    refine ok_pure hw (bd_undef _) ?_
    rw [und]
    have hf := run_findKey (P := P) hd (k2 g d hdq) w
    obtain ⟨cs, hr⟩ := callee_builtin (P := P) (ρ := ρ) hc w ho
    have hst : (Builtin.delete_ cl.argTypes o.type #[.map (some (g.blk m)), conc g u]).run P w = .ok (.tuple #[]) w := by
      simp only [Builtin.delete_, ht0]
      simp [run_underlying ht, run_getMap hh, run_checkKey hd hdq, hf, run_setMap _ hh, hsame]
    rw [hr, ha]; simp [Go.builtin, e1, e2, hst]

end
end Go.Proofs.YtdojpbbdcgfcnaaGreatDoor.AI
/- THE ABSTRACT INTERPRETER: ==. -/
namespace Go.Proofs.YtdojpbbdcgfcnaaGreatDoor.AI

section
variable {P : Program} {rs : Rnds} {ng : Nat} {g : G} {h : H} {w : World} {cx : Cx} {e : List V} {fr : Fr} {k : V → H → Res} {r : E × Fr × H}
  {ρ : Operand → Value} {o : Oper} {x y z : O} {a b c : Operand}

theorem eqS_ok {t : TypeId} {q : QS} (hq : qsOf P t = some q) {u v : V} {s : Bool} (hh : eqS q u v = some s) (g : G) (n : Nat) (w : World) : (Op.equalIn (n + 1) t (conc g u) (conc g v)).run P w = .ok s w := by
  unfold qsOf at hq
  split at hq
  · rename_i hu; cases hq
    unfold eqS at hh
    dsimp only at hh
    split at hh
    · cases hh; simp [Op.equalIn, run_underlying hu, conc]
    · cases hh
  · rename_i kd hu; cases hq
    unfold eqS at hh
    dsimp only at hh
    split at hh
    · split at hh
      · rename_i hk; subst hk; cases hh; simp [Op.equalIn, run_underlying hu, conc, eqI_eq]; rfl
      · cases hh
    · cases hh
  · rename_i hu; cases hq
    unfold eqS at hh
    dsimp only at hh
    split at hh
    · rename_i s1 s2
      cases hh
      have hbe : ((ByteArray.mk s1.toArray) == (ByteArray.mk s2.toArray)) = bytesEq s1 s2 := by
        rw [bytesEq_eq]
        show (s1.toArray == s2.toArray) = (s1 == s2)
        simp
      simp [Op.equalIn, run_underlying hu, conc, hbe]
    · cases hh
  · rename_i el hu; cases hq
    unfold eqS at hh
    dsimp only at hh
    split at hh <;> first | (cases hh; simp [Op.equalIn, run_underlying hu, conc]; done) | cases hh
  · rename_i k1 v1 hu; cases hq
    unfold eqS at hh
    dsimp only at hh
    split at hh <;> first | (cases hh; simp [Op.equalIn, run_underlying hu, conc]; done) | cases hh
  · rename_i k1 v1 b1 hu; cases hq
    unfold eqS at hh
    dsimp only at hh
    split at hh <;> first | (cases hh; simp [Op.equalIn, run_underlying hu, conc]; done) | cases hh
  · rename_i el hu
    split at hq
    · rename_i m hsz
      cases hq
      unfold eqS at hh
      dsimp only at hh
      split at hh
      · cases hh; simp [Op.equalIn, run_underlying hu, conc]
      · cases hh; simp [Op.equalIn, run_underlying hu, conc]
      · cases hh; simp [Op.equalIn, run_underlying hu, conc]
      · rename_i b1 i b2 j
        split at hh
        · rename_i hb
          subst hb; cases hh
          have : (({ block := g.blk b1, off := g.off b1 + i, spot := none } : Addr) == { block := g.blk b1, off := g.off b1 + j, spot := none }) = Nat.beq i j := by
            rw [Bool.eq_iff_iff]
            simp [Nat.beq_eq]
          simp [Op.equalIn, run_underlying hu, conc, run_sizeOf' hsz, sameAddr, this]
        · cases hh
      · cases hh
    · cases hq
  · cases hq

theorem conc_float {g : G} {v : V} (kd : FloatKind) (n : Nat) : conc g v ≠ .float kd n := by cases v <;> simp [conc]
theorem conc_complex {g : G} {v : V} (kd : FloatKind) (m n : Nat) : conc g v ≠ .complex kd m n := by cases v <;> simp [conc]

theorem run_part_scalar {t : TypeId} {q : QS} (hq : qsOf P t = some q) {xs : List V} {off : Nat} {v : V} (hx : xs[off]? = some v) (g : G) (w : World) : (part t (concs g xs).toArray off).run P w = .ok (conc g v) w := by
  have ha : (isAgg t).run P w = .ok false w := by
    unfold qsOf at hq
    simp only [isAgg, Sem.run_bind]
    split at hq <;> first
      | (rename_i hu; rw [run_underlying hu]; rfl)
      | (rename_i el hu; rw [run_underlying hu]; rfl)
      | (rename_i k1 v1 hu; rw [run_underlying hu]; rfl)
      | (rename_i k1 v1 b1 hu; rw [run_underlying hu]; rfl)
      | cases hq
  simp [part, ha, concs_map, hx]

theorem eqFields_ok {xs ys : List V} (g : G) (n : Nat) (w : World) : ∀ (fs : List Field) (ps : List (Nat × QS)) (s : Bool), qFields P fs = some ps → eqParts ps xs ys = some s →
    (forIn fs ((none, ()) : Option Bool × Unit) fun f (__s : Option Bool × Unit) =>
            if f.name ≠ "_" then do
              let __do_lift ← part f.type (concs g xs).toArray f.offset
              let __do_lift_1 ← part f.type (concs g ys).toArray f.offset
              let __do_lift ← Op.equalIn (n + 1) f.type __do_lift __do_lift_1
              if (!__do_lift) = true then pure (ForInStep.done (some false, ())) else pure (ForInStep.yield (none, ()))
            else (pure (ForInStep.yield (none, ())) : Sem (ForInStep (Option Bool × Unit)))).run P w = .ok (if s then none else some false, ()) w
  | [], ps, s, hq, hh => by
    simp [qFields] at hq; subst hq
    simp [eqParts] at hh; subst hh
    simp
  | f :: fs, ps, s, hq, hh => by
    simp only [qFields] at hq
    simp only [List.forIn_cons, Sem.run_bind]
    split at hq
    · rename_i hn
      simp only [hn, ne_eq, not_true_eq_false, if_false, Sem.run_pure, Result.andThen_ok]
      exact eqFields_ok g n w fs ps s hq hh
    · rename_i hn
      cases hqf : qsOf P f.type with
      | none => simp [hqf] at hq
      | some q =>
        cases hqr : qFields P fs with
        | none => simp [hqf, hqr] at hq
        | some ps' =>
          simp [hqf, hqr] at hq; subst hq
          simp only [eqParts] at hh
          split at hh
          · rename_i u v hu hv
            have p1 := run_part_scalar hqf hu g w
            have p2 := run_part_scalar hqf hv g w
            cases he : eqS q u v with
            | none => rw [he] at hh; cases hh
            | some t =>
              have p3 := eqS_ok hqf he g n w
              rw [he] at hh
              simp only [ne_eq, hn, not_false_eq_true, if_true, Sem.run_bind, p1, p2, p3, Result.andThen_ok]
              cases t with
              | false =>
                cases hh
                simp
              | true =>
                simp only [Bool.not_true, Bool.false_eq_true, if_false, Sem.run_pure, Result.andThen_ok]
                exact eqFields_ok g n w fs ps' s hqr hh
          · cases hh

theorem eqParts_ok {t : TypeId} {fs : Array Field} {ps : List (Nat × QS)} (ht : P.underlying t = some (.struct fs)) (hst : P.stoodInHeld t = false) (hq : qFields P fs.toList = some ps) {xs ys : List V} {s : Bool} (hh : eqParts ps xs ys = some s) (g : G) (n : Nat) (w : World) :
    (Op.equalIn (n + 1 + 1) t (conc g (.agg xs)) (conc g (.agg ys))).run P w = .ok s w := by
  have key := eqFields_ok (P := P) (xs := xs) (ys := ys) g n w fs.toList ps s hq hh
  rw [Array.forIn_toList] at key
  unfold Op.equalIn
  simp only [conc, Sem.run_bind, run_underlying ht, Result.andThen_ok, run_program, hst, Bool.false_eq_true, if_false]
  rw [key]
  cases s <;> simp

theorem eqElems_ok {xs ys : List V} {el : TypeId} {q : QS} {sz : Nat} (hq : qsOf P el = some q) (g : G) (n : Nat) (w : World) : ∀ (c i : Nat) (s : Bool), eqParts (qElems q sz i c) xs ys = some s →
    (forIn (List.range' i c) ((none, ()) : Option Bool × Unit) fun i (__s : Option Bool × Unit) => do
              let __do_lift ← part el (concs g xs).toArray (i * sz)
              let __do_lift_1 ← part el (concs g ys).toArray (i * sz)
              let __do_lift ← Op.equalIn (n + 1) el __do_lift __do_lift_1
              if (!__do_lift) = true then (pure (ForInStep.done (some false, ())) : Sem (ForInStep (Option Bool × Unit))) else pure (ForInStep.yield (none, ()))).run P w = .ok (if s then none else some false, ()) w
  | 0, i, s, hh => by
    simp [qElems, eqParts] at hh; subst hh
    simp
  | c + 1, i, s, hh => by
    simp only [qElems, eqParts] at hh
    rw [List.range'_succ]
    simp only [List.forIn_cons, Sem.run_bind]
    split at hh
    · rename_i u v hu hv
      have p1 := run_part_scalar hq hu g w
      have p2 := run_part_scalar hq hv g w
      cases he : eqS q u v with
      | none => rw [he] at hh; cases hh
      | some t =>
        have p3 := eqS_ok hq he g n w
        rw [he] at hh
        simp only [p1, p2, p3, Result.andThen_ok]
        cases t with
        | false => cases hh; simp
        | true =>
          simp only [Bool.not_true, Bool.false_eq_true, if_false, Sem.run_pure, Result.andThen_ok]
          exact eqElems_ok hq g n w c (i + 1) s hh
    · cases hh

theorem eqArr_ok {t el : TypeId} {len sz : Nat} {q : QS} (ht : P.underlying t = some (.array len el)) (hq : qsOf P el = some q) (hsz : szOf P el = some sz) {xs ys : List V} {s : Bool} (hh : eqParts (qElems q sz 0 len) xs ys = some s) (g : G) (n : Nat) (w : World) :
    (Op.equalIn (n + 1 + 1) t (conc g (.agg xs)) (conc g (.agg ys))).run P w = .ok s w := by
  have key := eqElems_ok (P := P) (xs := xs) (ys := ys) hq g n w len 0 s hh
  unfold Op.equalIn
  simp only [conc, Sem.run_bind, run_underlying ht, Result.andThen_ok, run_sizeOf' hsz]
  rw [Std.Legacy.Range.forIn_eq_forIn_range']
  simp only [Std.Legacy.Range.size, Nat.sub_zero, Nat.add_sub_cancel, Nat.div_one]
  rw [key]
  cases s <;> simp

theorem sEq_ok {t yt : TypeId} {q : Q} {neg : Bool} (ho : o.op = .binOp (if neg then .neq else .eql) t a b yt) (hq : qOf P t = some q) (hs : sEq q neg x y cx e fr h k = some r) :
    ∃ v, k v h = some r ∧ ∀ (g : G) (p : Pos → Prop) (ρ : Operand → Value), Opd g p e fr x (ρ a) → Opd g p e fr y (ρ b) → v.on p ∧ Pu P ρ o g v := by
  obtain ⟨v, hv, h1⟩ := evK_some hs
  obtain ⟨u, hu, h2⟩ := evK_some (x := y) h1
  rcases int2K_or h2 with ⟨kd, m, n, rfl, rfl, h3⟩ | h3
  · rw [boolK_eq, eqI_eq] at h3
    refine ⟨_, h3, fun g p ρ hx hy => ?_⟩
    obtain ⟨e1, _⟩ := hx _ hv
    obtain ⟨e2, _⟩ := hy _ hu
    simp only [conc] at e1 e2
    refine ⟨(by simp [V.on]), fun w => ?_⟩
    simp only [execOp, ho, e1, e2, Sem.run_bind, conc]
    cases neg
    · simp [eqGuard, Go.binOp, Op.intCmp]; rfl
    · simp [eqGuard, Go.binOp, Op.intCmp]; rfl
  · obtain ⟨s, hs1, h4⟩ := opt_some h3
    rw [boolK_eq] at h4
    refine ⟨_, h4, fun g p ρ hx hy => ?_⟩
    obtain ⟨e1, _⟩ := hx _ hv
    obtain ⟨e2, _⟩ := hy _ hu
    refine ⟨(by simp [V.on]), fun w => ?_⟩
    have fin : (∀ kd n, conc g v ≠ .int kd n) → (∀ s, conc g v ≠ .string s) → (eqGuard (if neg then .neq else .eql) t a b (conc g v) (conc g u)).run P w = .ok () w → (Op.equal t (conc g v) (conc g u)).run P w = .ok s w →
        (execOp ρ o).run P w = .ok (.value (conc g (.bool (xor s neg)))) w := by
      intro hn1 hn2 hg he
      have hb : (Go.binOp (if neg then .neq else .eql) t (conc g v) (conc g u)).run P w = .ok (.bool (xor s neg)) w := by
        cases neg
        · simp only [Bool.false_eq_true, if_false]
          cases hcv : conc g v <;> first | exact absurd hcv (hn1 _ _) | exact absurd hcv (hn2 _) | exact absurd hcv (conc_float _ _) | exact absurd hcv (conc_complex _ _ _) | (rw [hcv] at he; simp [Go.binOp, he]; done) | (rw [hcv] at he; cases hcu : conc g u <;> rw [hcu] at he <;> simp [Go.binOp, he])
        · simp only [if_true]
          cases hcv : conc g v <;> first | exact absurd hcv (hn1 _ _) | exact absurd hcv (hn2 _) | exact absurd hcv (conc_float _ _) | exact absurd hcv (conc_complex _ _ _) | (rw [hcv] at he; simp [Go.binOp, he]; done) | (rw [hcv] at he; cases hcu : conc g u <;> rw [hcu] at he <;> simp [Go.binOp, he])
      simp only [execOp, ho, e1, e2, Sem.run_bind, hg, Result.andThen_ok, hb, conc, Sem.run_pure]
    have he9 : ∀ n, n = Op.maxDepth → ∃ m, n = m + 1 + 1 := fun n hn => ⟨9998, hn⟩
    obtain ⟨dm, hdm⟩ := he9 _ rfl
    have scal : ∀ {q' : QS}, qsOf P t = some q' → eqS q' v u = some s → (execOp ρ o).run P w = .ok (.value (conc g (.bool (xor s neg)))) w := by
      intro q' hq' hs1'
      have heq : (Op.equal t (conc g v) (conc g u)).run P w = .ok s w := by
        unfold Op.equal; rw [hdm]; exact eqS_ok hq' hs1' g _ w
      cases q' with
      | i =>
        unfold eqS at hs1'
        dsimp only at hs1'
        split at hs1'
        · split at hs1'
          · rename_i hk; subst hk; cases hs1'
            simp only [conc] at e1 e2
            simp only [execOp, ho, e1, e2, Sem.run_bind, conc]
            cases neg <;> (simp [eqGuard, Go.binOp, Op.intCmp, eqI_eq]; try rfl)
          · cases hs1'
        · cases hs1'
      | s =>
        unfold eqS at hs1'
        dsimp only at hs1'
        split at hs1'
        · cases hs1'
          simp only [conc] at e1 e2
          simp only [execOp, ho, e1, e2, Sem.run_bind, conc]
          cases neg <;> simp [eqGuard, Go.binOp, Op.stringOp, toList_mk, bytesEq_eq]
        · cases hs1'
      | _ =>
        unfold eqS at hs1'
        dsimp only at hs1'
        split at hs1' <;> first
          | (cases hs1'; done)
          | (refine fin (by simp [conc]) (by simp [conc]) (by cases neg <;> simp [eqGuard, conc]) heq)
    unfold qOf at hq
    split at hq
    · rename_i ms hu'
      cases hq
      unfold eqV at hs1
      dsimp only at hs1
      split at hs1
      · cases hs1
        refine fin (by simp [conc]) (by simp [conc]) (by cases neg <;> simp [eqGuard, conc]) ?_
        unfold Op.equal; rw [hdm]; simp [Op.equalIn, run_underlying hu', conc]
      · cases hs1
        refine fin (by simp [conc]) (by simp [conc]) (by cases neg <;> simp [eqGuard, conc]) ?_
        unfold Op.equal; rw [hdm]; simp [Op.equalIn, run_underlying hu', conc]
      · cases hs1
    · rename_i fs hu'
      split at hq
      · cases hq
      · rename_i hnot
        cases hps : qFields P fs.toList with
        | none => simp [hps] at hq
        | some ps =>
          simp [hps] at hq; subst hq
          unfold eqV at hs1
          dsimp only at hs1
          split at hs1
          · rename_i l1 l2
            have hno : P.stoodInHeld t = false ∧ P.eqGuardType P.depth t = false := by
              simpa [Bool.or_eq_true] using hnot
            refine fin (by simp [conc]) (by simp [conc]) (by cases neg <;> simp [eqGuard, conc, hno.2]) ?_
            unfold Op.equal; rw [hdm]; exact eqParts_ok hu' hno.1 hps hs1 g _ w
          · cases hs1
    · rename_i len el hu'
      split at hq
      · cases hq
      · rename_i hnot
        cases hqe : qsOf P el with
        | none => simp [hqe] at hq
        | some q' =>
          cases hsz : szOf P el with
          | none => simp [hqe, hsz] at hq
          | some sz =>
            simp [hqe, hsz] at hq; subst hq
            unfold eqV at hs1
            dsimp only at hs1
            split at hs1
            · rename_i l1 l2
              have hno : P.eqGuardType P.depth t = false := by simpa using hnot
              refine fin (by simp [conc]) (by simp [conc]) (by cases neg <;> simp [eqGuard, conc, hno]) ?_
              unfold Op.equal; rw [hdm]; exact eqArr_ok hu' hqe hsz hs1 g _ w
            · cases hs1
    · cases hqs : qsOf P t with
      | none => simp [hqs] at hq
      | some q' =>
        simp [hqs] at hq; subst hq
        exact scal hqs hs1

end
end Go.Proofs.YtdojpbbdcgfcnaaGreatDoor.AI
/- THE ABSTRACT INTERPRETER: strings, character by character; calls. -/
namespace Go.Proofs.YtdojpbbdcgfcnaaGreatDoor.AI

/-- how calls go: what the abstract call does, the machine does -/
def CallOk (P : Program) (rs : Rnds) (ng : Nat) (call : Call) : Prop :=
  ∀ (f : V) (args : List V) (h : H) (v : V) (h' : H), call f args h = some (v, h') → ∀ (g : G) (w : World), WR rs ng g h w → f.bd h.next.toNat → bds h.next.toNat args →
    OpOk rs ng P g h w (do let d ← Deferred.ofValue (conc g f) (concs g args).toArray; invoke d.target d.args) v h'

section
variable {P : Program} {rs : Rnds} {ng : Nat} {g : G} {h : H} {w : World} {cx : Cx} {e : List V} {fr : Fr} {k : V → H → Res} {r : E × Fr × H}
  {ρ : Operand → Value} {o : Oper} {x y z : O} {a b c : Operand}

theorem sRange_ok {t : TypeId} (ho : o.op = .range t a) (ht : P.underlying t = some .string) (hs : sRange x cx e fr h k = some r) :
    ∃ v h', k v h' = some r ∧ ∀ (rs : Rnds) (ng : Nat) (g : G) (w : World) (ρ : Operand → Value), WR rs ng g h w → Opd g (below h.next.toNat) e fr x (ρ a) → OpOk rs ng P g h w (execOp ρ o) v h' := by
  obtain ⟨v, hv, h1⟩ := evK_some hs
  obtain ⟨s, rfl, h2⟩ := onStr_some (v := v) h1
  rw [H.newK_eq] at h2
  refine ⟨_, _, h2, fun rs ng g w ρ hw hx => ?_⟩
  obtain ⟨e1, _⟩ := hx _ hv
  simp only [conc] at e1
  obtain ⟨a1, a2⟩ := hw.new (w' := w.alloc (.stringIter ⟨s.toArray⟩ 0)) (.siter s 0) w.heap.size 0 0 (by simp) (by simp) (fun k hk => by rw [heap_alloc, Array.getElem?_push, if_neg (by omega)]) rfl rfl rfl (Nat.le_refl _)
    (by simp only [BR]; rw [heap_alloc]; simp)
  refine ⟨_, _, a1, a2, by simp [V.on, below, H.next_new], rfl, does_value ?_⟩
  simp [execOp, ho, e1, Instr.range, run_underlying ht, conc]

theorem ascii_decode {s : List UInt8} {pos : Nat} {c : UInt8} (hc : s[pos]? = some c) (h7 : c.toNat ≤ 127) : Utf8.decode ⟨s.toArray⟩ pos = (c.toNat, 1) := by
  have hlt : pos < s.length := by
    rcases Nat.lt_or_ge pos s.length with hh | hh
    · exact hh
    · rw [List.getElem?_eq_none hh] at hc; cases hc
  have hg : (ByteArray.mk s.toArray).get! (pos + 0) = c := by
    simp [ByteArray.get!, getElem!_pos, hlt]
    rw [List.getElem?_eq_getElem hlt] at hc
    simpa using hc
  unfold Utf8.decode
  simp only [hg]
  rw [if_pos (by omega)]

theorem sNext_ok (ho : o.op = .next a true) (hs : sNext x cx e fr h k = some r) :
    ∃ v h', k v h' = some r ∧ ∀ (rs : Rnds) (ng : Nat) (g : G) (w : World) (ρ : Operand → Value), WR rs ng g h w → Opd g (below h.next.toNat) e fr x (ρ a) → OpOk rs ng P g h w (execOp ρ o) v h' := by
  obtain ⟨v, hv, h1⟩ := evK_some hs
  obtain ⟨bk, off, rfl, h2⟩ := onPtr_some (v := v) h1
  cases off with
  | succ n => cases h2
  | zero =>
    have h3 : h.getK bk (fun y => y.onSiter (fun s pos =>
      Bool.casesOn (Nat.ble (.succ pos) s.length) (k (.tup [.bool false]) h)
        (nthK pos s (fun c => natK c.toNat fun c => Bool.casesOn (Nat.ble c 127) none (natK (.succ pos) fun p => h.putK bk (some (.siter s p)) fun h => k (.tup [.bool true, .int .i64 (.ofNat pos), .int .i32 (.ofNat c)]) h)) none)) none) none = some r := h2
    obtain ⟨bb, hbb, h4⟩ := getK_some h3
    obtain ⟨s, pos, rfl, h5⟩ := siter_some (b := bb) h4
    cases hb : Nat.ble (.succ pos) s.length with
    | false =>
      rw [hb] at h5
      refine ⟨_, _, h5, fun rs ng g w ρ hw hx => ?_⟩
      obtain ⟨e1, _⟩ := hx _ hv
      obtain ⟨_, _, ho0, hh⟩ := hw.blk bk _ hbb
      simp only [conc, ho0] at e1
      have hge : ¬ (pos < (ByteArray.mk s.toArray).size) := by
        rw [conc_str_size]; intro hlt
        rw [Nat.ble_eq_true_of_le hlt] at hb; cases hb
      refine ok_pure hw (by simp [V.on, ons]) ?_
      have hg : (getObj (g.blk bk)).run P w = .ok (.stringIter ⟨s.toArray⟩ pos) w := by simp [getObj, Sem.run, hh]
      simp only [execOp, ho, e1, Instr.next, Sem.run_bind, hg, Result.andThen_ok]
      rw [if_neg hge]
      simp [conc, concs]
    | true =>
      rw [hb] at h5
      have hlt := Nat.le_of_ble_eq_true hb
      have hc : s[pos]? = some s[pos] := List.getElem?_eq_getElem hlt
      have h5' : nthK pos s (fun c => natK c.toNat fun c => (Bool.casesOn (Nat.ble c 127) none (natK (.succ pos) fun p => h.putK bk (some (.siter s p)) fun h => k (.tup [.bool true, .int .i64 (.ofNat pos), .int .i32 (.ofNat c)]) h) : Res)) none = some r := h5
      rw [nthK_eq, hc] at h5'
      simp only [natK_eq] at h5'
      obtain ⟨h7, h6⟩ := bool_some h5'
      have h7 := Nat.le_of_ble_eq_true h7
      rw [H.putK_eq] at h6
      refine ⟨_, _, h6, fun rs ng g w ρ hw hx => ?_⟩
      obtain ⟨e1, _⟩ := hx _ hv
      obtain ⟨_, hlt2, ho0, hh⟩ := hw.blk bk _ hbb
      simp only [conc, ho0] at e1
      have hge : pos < (ByteArray.mk s.toArray).size := hlt
      have hg : (getObj (g.blk bk)).run P w = .ok (.stringIter ⟨s.toArray⟩ pos) w := by simp [getObj, Sem.run, hh]
      have hst : ∀ ob, (setObj (g.blk bk) ob).run P w = .ok () { w with heap := w.heap.setIfInBounds (g.blk bk) ob } := fun ob => by simp [setObj, Sem.run, hh]
      obtain ⟨a1, a2⟩ := hw.put (w' := { w with heap := w.heap.setIfInBounds (g.blk bk) (.stringIter ⟨s.toArray⟩ (pos + 1)) }) (y := .siter s (pos + 1)) hbb (by simp [Blk.writable]) (by simp) (fun k hk => by
        simp only
        rw [Array.getElem?_setIfInBounds_ne (fun he => hk he.symm)]) rfl rfl rfl ⟨ho0, by simp [hlt2]⟩
      refine ⟨g, _, a1, a2, by simp [V.on, ons], rfl, does_value ?_⟩
      simp only [execOp, ho, e1, Instr.next, Sem.run_bind, hg, Result.andThen_ok]
      rw [if_pos hge, ascii_decode hc h7]
      simp [hst, conc, concs, goInt]

theorem sCall_ok {cl : Go.Call} {fo : Operand} {f : Operand → O} (ho : o.op = .call cl) (hc : cl.callee = .value fo) (hs : sCall (f fo) (cl.args.toList.map f) cx e fr h k = some r) :
    ∃ v h', k v h' = some r ∧ ∀ (rs : Rnds) (ng : Nat) (g : G) (w : World) (ρ : Operand → Value), CallOk P rs ng cx.call → WR rs ng g h w → Opd g (below h.next.toNat) e fr (f fo) (ρ fo) → (∀ a ∈ cl.args, Opd g (below h.next.toNat) e fr (f a) (ρ a)) → OpOk rs ng P g h w (execOp ρ o) v h' := by
  obtain ⟨v, hv, h1⟩ := evK_some hs
  obtain ⟨vs, hvs, h2⟩ := evsK_some h1
  obtain ⟨⟨u, h'⟩, h3, h4⟩ := opt_some h2
  refine ⟨u, h', h4, fun rs ng g w ρ hco hw hf ha => ?_⟩
  obtain ⟨e1, e2⟩ := hf _ hv
  have hopds : ∀ (l : List Operand), (∀ a ∈ l, Opd g (below h.next.toNat) e fr (f a) (ρ a)) → Opds g (below h.next.toNat) e fr (l.map f) (l.map ρ) := by
    intro l
    induction l with
    | nil => intro _; trivial
    | cons a l ih => intro hl; exact ⟨hl a (by simp), ih fun b hb => hl b (by simp [hb])⟩
  obtain ⟨e3, e4⟩ := opds (hopds cl.args.toList (fun a h => ha a (by simpa using h))) hvs
  have hr := hco v vs h u h' h3 g w hw e2 e4
  have he : execOp ρ o = (do let d ← Deferred.ofValue (conc g v) (concs g vs).toArray; invoke d.target d.args) := by
    have ha : cl.args.map ρ = (concs g vs).toArray := by rw [← e3]; apply Array.ext'; simp
    simp only [execOp, ho, resolve, hc, e1, ha]
  rw [he]; exact hr

theorem sInvoke_ok {cl : Go.Call} {ro : Operand} {m : String} {f : Operand → O} (ho : o.op = .call cl) (hc : cl.callee = .invoke ro m) (hs : sInvoke (f ro) m (cl.args.toList.map f) cx e fr h k = some r) :
    ∃ v h', k v h' = some r ∧ ∀ (rs : Rnds) (ng : Nat) (g : G) (w : World) (ρ : Operand → Value), CallOk P rs ng cx.call → WR rs ng g h w → Opd g (below h.next.toNat) e fr (f ro) (ρ ro) → (∀ a ∈ cl.args, Opd g (below h.next.toNat) e fr (f a) (ρ a)) → OpOk rs ng P g h w (execOp ρ o) v h' := by
  obtain ⟨v, hv, h1⟩ := evK_some hs
  obtain ⟨vs, hvs, h2⟩ := evsK_some h1
  obtain ⟨⟨u, h'⟩, h3, h4⟩ := opt_some h2
  refine ⟨u, h', h4, fun rs ng g w ρ hco hw hf ha => ?_⟩
  obtain ⟨e1, e2⟩ := hf _ hv
  have hopds : ∀ (l : List Operand), (∀ a ∈ l, Opd g (below h.next.toNat) e fr (f a) (ρ a)) → Opds g (below h.next.toNat) e fr (l.map f) (l.map ρ) := by
    intro l
    induction l with
    | nil => intro _; trivial
    | cons a l ih => intro hl; exact ⟨hl a (by simp), ih fun b hb => hl b (by simp [hb])⟩
  obtain ⟨e3, e4⟩ := opds (hopds cl.args.toList (fun a h => ha a (by simpa using h))) hvs
  have hr := hco (.fn (.method m) [] []) (v :: vs) h u h' h3 g w hw (by simp [V.on, ons]) ⟨e2, e4⟩
  have he : (execOp ρ o) = (do let d ← Deferred.ofValue (conc g (.fn (.method m) [] [])) (concs g (v :: vs)).toArray; invoke d.target d.args) := by
    have ha : cl.args.map ρ = (concs g vs).toArray := by rw [← e3]; apply Array.ext'; simp
    simp only [execOp, ho, resolve, hc, e1, ha, conc, concs, Deferred.ofValue]
    simp
  rw [he]; exact hr

end
end Go.Proofs.YtdojpbbdcgfcnaaGreatDoor.AI
/- THE ABSTRACT INTERPRETER, 13: regions, one operation after the other; code. -/
namespace Go.Proofs.YtdojpbbdcgfcnaaGreatDoor.AI

/-- the word s for the operation o: a pure one, one that makes a row, one that reads, any -/
def PureW (P : Program) (f : Operand → O) (o : Oper) (s : S) : Prop :=
  ∀ cx e fr h k r, s cx e fr h k = some r → ∃ v, k v h = some r ∧ ∀ (g : G) (p : Pos → Prop) (ρ : Operand → Value), (∀ a ∈ o.op.operands, Opd g p e fr (f a) (ρ a)) → v.on p ∧ Pu P ρ o g v
def AllocW (P : Program) (f : Operand → O) (o : Oper) (s : S) : Prop :=
  ∀ cx e fr h k r, s cx e fr h k = some r → ∃ l ty m, k (Mk.v h.next m) (h.new (.cells l .own ty)) = some r ∧ ∀ (g : G) (p : Pos → Prop) (ρ : Operand → Value), (∀ a ∈ o.op.operands, Opd g p e fr (f a) (ρ a)) → ons p l ∧ Al P ρ o g l ty m
def ReadW (P : Program) (f : Operand → O) (o : Oper) (s : S) : Prop :=
  ∀ cx e fr h k r, s cx e fr h k = some r → ∃ v, k v h = some r ∧ ∀ (rs : Rnds) (ng : Nat) (g : G) (w : World) (ρ : Operand → Value), WR rs ng g h w → (∀ a ∈ o.op.operands, Opd g (below h.next.toNat) e fr (f a) (ρ a)) → Re P ρ o g h w v
def AnyW (P : Program) (f : Operand → O) (o : Oper) (s : S) : Prop :=
  ∀ cx e fr h k r, s cx e fr h k = some r → ∃ v h', k v h' = some r ∧ ∀ (rs : Rnds) (ng : Nat) (g : G) (w : World) (ρ : Operand → Value), CallOk P rs ng cx.call → WR rs ng g h w →
    (∀ a ∈ o.op.operands, Opd g (below h.next.toNat) e fr (f a) (ρ a)) → OpOk rs ng P g h w (execOp ρ o) v h'

section
variable {P : Program} {f : Operand → O} {o : Oper} {s : S}
theorem PureW.any (hp : PureW P f o s) : AnyW P f o s := fun cx e fr h k r hs => by
  obtain ⟨v, h1, h2⟩ := hp cx e fr h k r hs
  refine ⟨v, h, h1, fun rs ng g w ρ _ hw ho => ?_⟩
  obtain ⟨h3, h4⟩ := h2 g _ ρ ho
  exact ok_pure hw h3 (h4 w)
theorem AllocW.any (hp : AllocW P f o s) : AnyW P f o s := fun cx e fr h k r hs => by
  obtain ⟨l, ty, m, h1, h2⟩ := hp cx e fr h k r hs
  refine ⟨_, _, h1, fun rs ng g w ρ _ hw ho => ?_⟩
  obtain ⟨h3, h4⟩ := h2 g _ ρ ho
  exact new_ok hw h3 h4
theorem ReadW.any (hp : ReadW P f o s) : AnyW P f o s := fun cx e fr h k r hs => by
  obtain ⟨v, h1, h2⟩ := hp cx e fr h k r hs
  refine ⟨v, h, h1, fun rs ng g w ρ _ hw ho => ?_⟩
  obtain ⟨h3, h4⟩ := h2 rs ng g w ρ hw ho
  exact ok_pure hw h3 h4
end

/-- what of a region is at hand -/
def ER (g : G) (n : Nat) (env : List (Option Tmp)) (e : List V) (tm : Array Value) : Prop :=
  ∀ t i v, env.findIdx? (· == some t) = some i → e[i]? = some v → v.bd n ∧ tm.getD t undef = conc g v

section
variable {P : Program} {rs : Rnds} {ng : Nat} {g g' : G} {h h' : H} {w w' : World} {n : Nat} {ex : Nat → Bool} {fr : Fr} {e : List V} {tm : Array Value} {env : List (Option Tmp)}

theorem opd_cO (hw : WR rs P.globals.size g h w) (hf : FrRel g h.next.toNat ex fr tm) (he : ER g h.next.toNat env e tm) (ds : List Deferred) (a : Operand) :
    Opd g (below h.next.toNat) e fr (cO P env a) ((Act.mk tm ds).eval a) := by
  intro v hv
  cases a with
  | tmp t =>
    simp only [cO] at hv
    cases hi : env.findIdx? (· == some t) with
    | some i =>
      rw [hi] at hv
      obtain ⟨h1, h2⟩ := he t i v hi hv
      exact ⟨by simp [Act.eval, h2], h1⟩
    | none =>
      rw [hi] at hv
      obtain ⟨_, h1, h2⟩ := hf t v hv
      exact ⟨by simp [Act.eval, h2], h1⟩
  | const c =>
    simp only [cO] at hv
    cases hc : toV 1000 c with
    | none => rw [hc] at hv; cases hv
    | some u =>
      rw [hc] at hv; cases hv
      obtain ⟨h1, h2⟩ := toV_ok g (below h.next.toNat) 1000 c v hc
      exact ⟨by simp [Act.eval, h1], h2⟩
  | global i =>
    simp only [cO] at hv
    split at hv
    · rename_i hlt
      cases hv
      obtain ⟨h1, h2⟩ := hw.glob.2 i hlt
      refine ⟨by simp [Act.eval, conc, h1, h2], ?_⟩
      have := hw.glob.1
      simp only [V.on, below, Pos.toNat_ofNat]; omega
    · cases hv
  | func i =>
    cases hv
    exact ⟨by simp [Act.eval, conc, concs], by simp [V.on, ons]⟩

theorem FrRel.adv (hf : FrRel g h.next.toNat ex fr tm) (ha : Adv g h w g' h' w') : FrRel g' h'.next.toNat ex fr tm := hf.ext ha.ext ha.mono
theorem ER.adv (he : ER g h.next.toNat env e tm) (ha : Adv g h w g' h' w') : ER g' h'.next.toNat env e tm := fun t i v h1 h2 => by
  obtain ⟨h3, h4⟩ := he t i v h1 h2
  exact ⟨V.bd_mono ha.mono v h3, by rw [h4, conc_ext ha.ext v h3]⟩

/-- a result goes to the region's list -/
theorem ER.push (he : ER g n env e tm) {v : V} (hv : v.bd n) (dst : Option Tmp) (hd : ∀ d, dst = some d → d < tm.size) : ER g n (dst :: env) (v :: e) (putTm tm dst (conc g v)) := by
  intro t i u h1 h2
  rw [List.findIdx?_cons] at h1
  cases dst with
  | none =>
    simp at h1
    obtain ⟨j, h3, rfl⟩ := h1
    have h2' : e[j]? = some u := by simpa using h2
    exact he t j u h3 h2'
  | some d =>
    by_cases hdt : d = t
    · subst hdt
      simp at h1; subst h1
      simp at h2; subst h2
      refine ⟨hv, ?_⟩
      have := hd d rfl
      simp [putTm, Array.getD_eq_getD_getElem?, this]
    · simp [hdt] at h1
      obtain ⟨j, h3, rfl⟩ := h1
      have h2' : e[j]? = some u := by simpa using h2
      obtain ⟨h4, h5⟩ := he t j u h3 h2'
      refine ⟨h4, ?_⟩
      rw [← h5]
      simp [putTm, Array.getD_eq_getD_getElem?, Array.getElem?_setIfInBounds_ne hdt]

theorem FrRel.out (hf : FrRel g n ex fr tm) {d : Tmp} {v : V} (hv : v.bd n) (hd : d < tm.size) (hx : ex d = true) : FrRel g n ex (Tr.set (some v) (Pos.ofNat d) fr) (tm.setIfInBounds d (conc g v)) := by
  intro t u hu
  rw [Tr.get_set] at hu
  by_cases ht : t = d
  · subst ht
    simp at hu; subst hu
    exact ⟨hx, hv, by simp [hd]⟩
  · rw [if_neg (fun he => ht (Pos.ofNat_inj he))] at hu
    obtain ⟨h1, h2, h3⟩ := hf t u hu
    exact ⟨h1, h2, by rw [Array.getElem?_setIfInBounds_ne (fun he => ht he.symm)]; exact h3⟩
theorem FrRel.skip (hf : FrRel g n ex fr tm) {dst : Option Tmp} {v : Value} (hx : ∀ d, dst = some d → ex d = false) : FrRel g n ex fr (putTm tm dst v) := by
  intro t u hu
  obtain ⟨h1, h2, h3⟩ := hf t u hu
  cases dst with
  | none => exact ⟨h1, h2, h3⟩
  | some d =>
    have : d ≠ t := fun he => by subst he; have := hx d rfl; rw [h1] at this; cases this
    exact ⟨h1, h2, by simp only [putTm]; rw [Array.getElem?_setIfInBounds_ne this]; exact h3⟩

theorem putTm_size (dst : Option Tmp) (v : Value) : (putTm tm dst v).size = tm.size := by cases dst <;> simp [putTm]

end
end Go.Proofs.YtdojpbbdcgfcnaaGreatDoor.AI
/- THE ABSTRACT INTERPRETER: every operation by its word. -/
namespace Go.Proofs.YtdojpbbdcgfcnaaGreatDoor.AI

def ClsW (P : Program) (f : Operand → O) (o : Oper) (s : S) : Cls → Prop
  | .p => PureW P f o s
  | .a => AllocW P f o s
  | .r => ReadW P f o s
  | .x => AnyW P f o s

section
variable {P : Program} {f : Operand → O} {o : Oper} {s : S} {x y z : O} {a b c : Operand}

theorem ClsW.any {k : Cls} (h : ClsW P f o s k) : AnyW P f o s := by
  cases k with
  | p => exact PureW.any h
  | a => exact AllocW.any h
  | r => exact ReadW.any h
  | x => exact h

/-- one operand -/
theorem pure1 {s' : O → S} (ho : o.op.operands = #[a]) (h : ∀ cx e fr h k r, s' (f a) cx e fr h k = some r → ∃ v, k v h = some r ∧ ∀ (g : G) (p : Pos → Prop) (ρ : Operand → Value), Opd g p e fr (f a) (ρ a) → v.on p ∧ Pu P ρ o g v) : PureW P f o (s' (f a)) :=
  fun cx e fr h' k r hs => by
    obtain ⟨v, h1, h2⟩ := h cx e fr h' k r hs
    exact ⟨v, h1, fun g p ρ hh => h2 g p ρ (hh a (by rw [ho]; simp))⟩
theorem pure2 {s' : O → O → S} (ho : o.op.operands = #[a, b]) (h : ∀ cx e fr h k r, s' (f a) (f b) cx e fr h k = some r → ∃ v, k v h = some r ∧ ∀ (g : G) (p : Pos → Prop) (ρ : Operand → Value), Opd g p e fr (f a) (ρ a) → Opd g p e fr (f b) (ρ b) → v.on p ∧ Pu P ρ o g v) : PureW P f o (s' (f a) (f b)) :=
  fun cx e fr h' k r hs => by
    obtain ⟨v, h1, h2⟩ := h cx e fr h' k r hs
    exact ⟨v, h1, fun g p ρ hh => h2 g p ρ (hh a (by rw [ho]; simp)) (hh b (by rw [ho]; simp))⟩

theorem op_binop {op : BinOp} {t yt : TypeId} (ho : o.op = .binOp op t a b yt) (hs : cBin P op t (f a) (f b) = some s) : PureW P f o s := by
  have hop : o.op.operands = #[a, b] := by rw [ho]; rfl
  cases op
  case add => cases hs; exact pure2 (s' := sAdd) hop fun _ _ _ _ _ _ h => sAdd_ok ho h
  case sub => cases hs; exact pure2 (s' := sSub) hop fun _ _ _ _ _ _ h => sSub_ok ho h
  case mul => cases hs; exact pure2 (s' := sInt fMul) hop fun _ _ _ _ _ _ h => sMul_ok ho h
  case quo => cases hs; exact pure2 (s' := sInt fQuo) hop fun _ _ _ _ _ _ h => sQuo_ok ho h
  case rem => cases hs; exact pure2 (s' := sInt fRem) hop fun _ _ _ _ _ _ h => sRem_ok ho h
  case and => cases hs; exact pure2 (s' := sInt fAnd) hop fun _ _ _ _ _ _ h => sAnd_ok ho h
  case or => cases hs; exact pure2 (s' := sInt fOr) hop fun _ _ _ _ _ _ h => sOr_ok ho h
  case xor => cases hs; exact pure2 (s' := sInt fXor) hop fun _ _ _ _ _ _ h => sXor_ok ho h
  case andNot => cases hs; exact pure2 (s' := sInt fAndNot) hop fun _ _ _ _ _ _ h => sAndNot_ok ho h
  case shl => cases hs; exact pure2 (s' := sShl) hop fun _ _ _ _ _ _ h => sShl_ok ho h
  case shr => cases hs; exact pure2 (s' := sShr) hop fun _ _ _ _ _ _ h => sShr_ok ho h
  case lss => cases hs; exact pure2 (s' := sLss) hop fun _ _ _ _ _ _ h => sLss_ok ho h
  case leq => cases hs; exact pure2 (s' := sLeq) hop fun _ _ _ _ _ _ h => sLeq_ok ho h
  case gtr => cases hs; exact pure2 (s' := sGtr) hop fun _ _ _ _ _ _ h => sGtr_ok ho h
  case geq => cases hs; exact pure2 (s' := sGeq) hop fun _ _ _ _ _ _ h => sGeq_ok ho h
  case eql =>
    simp only [cBin] at hs
    cases hq : qOf P t with
    | none => simp [hq] at hs
    | some q => simp [hq] at hs; subst hs; exact pure2 (s' := sEq q false) hop fun _ _ _ _ _ _ h => sEq_ok (neg := false) (by simpa using ho) hq h
  case neq =>
    simp only [cBin] at hs
    cases hq : qOf P t with
    | none => simp [hq] at hs
    | some q => simp [hq] at hs; subst hs; exact pure2 (s' := sEq q true) hop fun _ _ _ _ _ _ h => sEq_ok (neg := true) (by simpa using ho) hq h

theorem op_convert {s1 d1 : TypeId} (ho : o.op = .convert s1 d1 a) (hs : cConv P s1 d1 (f a) = some s) : ClsW P f o s (cls P o.op) := by
  have hop : o.op.operands = #[a] := by rw [ho]; rfl
  have hmem : ∀ {p : Pos → Prop} {g : G} {e : List V} {fr : Fr} {ρ : Operand → Value}, (∀ b ∈ o.op.operands, Opd g p e fr (f b) (ρ b)) → Opd g p e fr (f a) (ρ a) := fun hh => hh a (by rw [hop]; simp)
  unfold cConv at hs
  split at hs
  · rename_i k1 k2 h1 h2; cases hs
    simp only [ho, cls, h1, h2, ClsW]
    exact pure1 (s' := sToInt k2) hop fun _ _ _ _ _ _ h => sToInt_ok ho h1 h2 h
  · rename_i h1 h2; cases hs
    simp only [ho, cls, h1, h2, ClsW]
    exact pure1 (s' := sStr) hop fun _ _ _ _ _ _ h => sStr_ok ho h1 h2 h
  · rename_i e1 h1 h2
    split at hs
    · rename_i h3; cases hs
      simp only [ho, cls, h1, h2, ClsW]
      intro cx e fr h k r hr
      obtain ⟨v, h', k1, k2⟩ := sBytes_ok ho h1 h2 h3 hr
      exact ⟨v, h', k1, fun rs ng g w ρ _ hw hh => k2 rs ng g w ρ hw (hmem hh)⟩
    · cases hs
  · rename_i e1 h1 h2
    split at hs
    · rename_i h3; cases hs
      simp only [ho, cls, h1, h2, ClsW]
      intro cx e fr h k r hr
      obtain ⟨v, k1, k2⟩ := sString_ok ho h1 h2 h3 hr
      exact ⟨v, k1, fun rs ng g w ρ hw hh => k2 rs ng g w _ ρ hw (hmem hh)⟩
    · cases hs
  · rename_i k1 h1 h2; cases hs
    simp only [ho, cls, h1, h2, ClsW]
    exact pure1 (s' := sRuneStr) hop fun _ _ _ _ _ _ h => sRuneStr_ok ho h1 h2 h
  · rename_i t h1 h2
    split at hs
    · rename_i n h3; cases hs
      simp only [ho, cls, h1, h2, ClsW]
      intro cx e fr h k r hr
      obtain ⟨v, k1, k2⟩ := sToUnsafe_ok ho h1 h2 h3 hr
      exact ⟨v, k1, fun rs ng g w ρ hw hh => k2 rs ng g w _ ρ hw (hmem hh)⟩
    · cases hs
  · rename_i u h1 h2
    split at hs
    · rename_i n h3; cases hs
      simp only [ho, cls, h1, h2, ClsW]
      intro cx e fr h k r hr
      obtain ⟨v, k1, k2⟩ := sOfUnsafe_ok ho h1 h2 h3 hr
      exact ⟨v, k1, fun rs ng g w ρ hw hh => k2 rs ng g w _ ρ hw (hmem hh)⟩
    · cases hs
  · cases hs

theorem op_builtin {cl : Go.Call} {bi : Builtin} (ho : o.op = .call cl) (hc : cl.callee = .builtin bi) (hs : cBi P bi cl.argTypes (cl.args.toList.map f) = some s) : ClsW P f o s (cls P o.op) := by
  have hop : o.op.operands = cl.args := by rw [ho]; simp [Op.operands, Call.operands, hc]
  have one : ∀ {x : O}, cl.args.toList.map f = [x] → ∃ a, cl.args = #[a] ∧ x = f a := by
    intro x hx
    match hl : cl.args.toList with
    | [] => simp [hl] at hx
    | [a] => simp [hl] at hx; exact ⟨a, by apply Array.ext'; simp [hl], hx.symm⟩
    | a :: b :: l => simp [hl] at hx
  have two : ∀ {x y : O}, cl.args.toList.map f = [x, y] → ∃ a b, cl.args = #[a, b] ∧ x = f a ∧ y = f b := by
    intro x y hx
    match hl : cl.args.toList with
    | [] => simp [hl] at hx
    | [a] => simp [hl] at hx
    | [a, b] => simp [hl] at hx; exact ⟨a, b, by apply Array.ext'; simp [hl], hx.1.symm, hx.2.symm⟩
    | a :: b :: c :: l => simp [hl] at hx
  unfold cBi at hs
  split at hs
  · -- append
    rename_i x y hargs
    obtain ⟨a, b, ha, rfl, rfl⟩ := two hargs
    have m1 : a ∈ o.op.operands := by rw [hop, ha]; simp
    have m2 : b ∈ o.op.operands := by rw [hop, ha]; simp
    have hcl : cls P o.op = .x := by simp [ho, cls, hc]
    rw [hcl]
    split at hs
    · rename_i el ht
      cases ht0 : cl.argTypes[0]? with
      | none => simp [ht0] at ht
      | some t =>
        simp [ht0] at ht
        cases h1 : szOf P el with
        | none => simp [h1] at hs
        | some sz =>
          cases h2 : bytesOfT P el with
          | none => simp [h1, h2] at hs
          | some by_ =>
            cases h3 : zeroOf P el with
            | none => simp [h1, h2, h3] at hs
            | some zv =>
              simp only [h1, h2, h3, Option.bind_some] at hs
              split at hs
              · cases hs
              · rename_i hno
                have q1 : 0 < sz := by rcases Nat.eq_zero_or_pos sz with hz | hz; exact absurd (.inl hz) hno; exact hz
                have q2 : by_ ≤ 4096 := by rcases Nat.lt_or_ge 4096 by_ with hz | hz; exact absurd (.inr (.inl hz)) hno; exact hz
                have q3 : zv.cells.length = sz := Decidable.byContradiction fun hz => hno (.inr (.inr hz))
                split at hs
                · rename_i t1 ht1
                  split at hs
                  · rename_i kd hd
                    cases hs
                    intro cx e fr h k r hr
                    obtain ⟨v, h', k1, k2⟩ := sAppendZ_ok ho hc ha ht0 ht1 ht hd h1 h2 h3 q1 q2 q3 hr
                    exact ⟨v, h', k1, fun rs ng g w ρ _ hw hh => k2 rs ng g w ρ hw (hh a m1) (hh b m2)⟩
                  · rename_i d hnd hd
                    cases hs
                    intro cx e fr h k r hr
                    obtain ⟨v, h', k1, k2⟩ := sAppend_ok ho hc ha ht0 ht1 ht hd (fun kd he => hnd kd (by rw [he])) h1 h2 h3 q1 q2 q3 hr
                    exact ⟨v, h', k1, fun rs ng g w ρ _ hw hh => k2 rs ng g w ρ hw (hh a m1) (hh b m2)⟩
                  · cases hs
                · cases hs
    · cases hs
  · -- copy
    rename_i x y hargs
    obtain ⟨a, b, ha, rfl, rfl⟩ := two hargs
    have m1 : a ∈ o.op.operands := by rw [hop, ha]; simp
    have m2 : b ∈ o.op.operands := by rw [hop, ha]; simp
    have hcl : cls P o.op = .x := by simp [ho, cls, hc]
    rw [hcl]
    split at hs
    · rename_i el ht
      cases ht0 : cl.argTypes[0]? with
      | none => simp [ht0] at ht
      | some t =>
        simp [ht0] at ht
        cases h1 : szOf P el with
        | none => simp [h1] at hs
        | some sz =>
          simp [h1] at hs; subst hs
          intro cx e fr h k r hr
          obtain ⟨v, h', k1, k2⟩ := sCopy_ok ho hc ha ht0 ht h1 hr
          exact ⟨v, h', k1, fun rs ng g w ρ _ hw hh => k2 rs ng g w ρ hw (hh a m1) (hh b m2)⟩
    · cases hs
  · -- len
    rename_i x hargs
    obtain ⟨a, ha, rfl⟩ := one hargs
    have m1 : a ∈ o.op.operands := by rw [hop, ha]; simp
    have hop1 : o.op.operands = #[a] := by rw [hop, ha]
    cases ht0 : cl.argTypes[0]? with
    | none => simp [ht0] at hs
    | some t =>
      simp only [ht0, Option.bind_some] at hs
      split at hs
      · rename_i kt et ht
        cases hs
        have hcl : cls P o.op = .r := by simp [ho, cls, hc, ht0, ht]
        rw [hcl]
        intro cx e fr h k r hr
        obtain ⟨v, k1, k2⟩ := sLenMap_ok ho hc ha ht0 ht hr
        exact ⟨v, k1, fun rs ng g w ρ hw hh => k2 rs ng g w _ ρ hw (hh a m1)⟩
      · rename_i el ht
        cases hs
        have hcl : cls P o.op = .p := by simp [ho, cls, hc, ht0, ht]
        rw [hcl]
        exact pure1 (s' := sLen) hop1 fun _ _ _ _ _ _ h => sLen_ok ho hc ha ht0 ht h
      · rename_i ht
        cases hs
        have hcl : cls P o.op = .p := by simp [ho, cls, hc, ht0, ht]
        rw [hcl]
        exact pure1 (s' := sLenStr) hop1 fun _ _ _ _ _ _ h => sLenStr_ok ho hc ha ht0 ht h
      · cases hs
  · -- cap
    rename_i x hargs
    obtain ⟨a, ha, rfl⟩ := one hargs
    have hop1 : o.op.operands = #[a] := by rw [hop, ha]
    have hcl : cls P o.op = .p := by simp [ho, cls, hc]
    rw [hcl]
    cases ht0 : cl.argTypes[0]? with
    | none => simp [ht0] at hs
    | some t =>
      simp only [ht0, Option.bind_some] at hs
      split at hs
      · rename_i el ht
        cases hs
        exact pure1 (s' := sCap) hop1 fun _ _ _ _ _ _ h => sCap_ok ho hc ha ht0 ht h
      · cases hs
  · rename_i x y hargs
    obtain ⟨a, b, ha, rfl, rfl⟩ := two hargs
    cases hs
    have hcl : cls P o.op = .p := by simp [ho, cls, hc]
    rw [hcl]
    exact pure2 (s' := sMinMax false) (by rw [hop, ha]) fun _ _ _ _ _ _ h => sMin_ok ho hc ha h
  · rename_i x y hargs
    obtain ⟨a, b, ha, rfl, rfl⟩ := two hargs
    cases hs
    have hcl : cls P o.op = .p := by simp [ho, cls, hc]
    rw [hcl]
    exact pure2 (s' := sMinMax true) (by rw [hop, ha]) fun _ _ _ _ _ _ h => sMax_ok ho hc ha h
  · -- delete
    rename_i x y hargs
    obtain ⟨a, b, ha, rfl, rfl⟩ := two hargs
    have m1 : a ∈ o.op.operands := by rw [hop, ha]; simp
    have m2 : b ∈ o.op.operands := by rw [hop, ha]; simp
    have hcl : cls P o.op = .x := by simp [ho, cls, hc]
    rw [hcl]
    cases ht0 : cl.argTypes[0]? with
    | none => simp [ht0] at hs
    | some t =>
      simp only [ht0, Option.bind_some] at hs
      split at hs
      · rename_i kt et ht
        cases hq : keyQ P kt with
        | none => simp [hq] at hs
        | some q =>
          simp [hq] at hs; subst hs
          intro cx e fr h k r hr
          obtain ⟨v, h', k1, k2⟩ := sDelete_ok ho hc ha ht0 ht hq hr
          exact ⟨v, h', k1, fun rs ng g w ρ _ hw hh => k2 rs ng g w ρ hw (hh a m1) (hh b m2)⟩
      · cases hs
  · -- unsafe.SliceData
    rename_i x hargs
    obtain ⟨a, ha, rfl⟩ := one hargs
    have m1 : a ∈ o.op.operands := by rw [hop, ha]; simp
    cases hs
    have hcl : cls P o.op = .r := by simp [ho, cls, hc]
    rw [hcl]
    intro cx e fr h k r hr
    obtain ⟨v, k1, k2⟩ := sUsd_ok ho hc ha hr
    exact ⟨v, k1, fun rs ng g w ρ hw hh => k2 rs ng g w _ ρ hw (hh a m1)⟩
  · -- unsafe.String
    rename_i x y hargs
    obtain ⟨a, b, ha, rfl, rfl⟩ := two hargs
    have m1 : a ∈ o.op.operands := by rw [hop, ha]; simp
    have m2 : b ∈ o.op.operands := by rw [hop, ha]; simp
    have hcl : cls P o.op = .x := by simp [ho, cls, hc]
    rw [hcl]
    cases ht0 : cl.argTypes[0]? with
    | none => simp [ht0] at hs
    | some t =>
      simp only [ht0, Option.bind_some] at hs
      split at hs
      · rename_i u ht
        split at hs
        · rename_i h1
          cases hs
          intro cx e fr h k r hr
          obtain ⟨v, h', k1, k2⟩ := sUstr_ok ho hc ha ht0 ht h1 hr
          exact ⟨v, h', k1, fun rs ng g w ρ _ hw hh => k2 rs ng g w ρ hw (hh a m1) (hh b m2)⟩
        · cases hs
      · cases hs
  · cases hs

theorem opds_of {l : List Operand} {p : Pos → Prop} {g : G} {e : List V} {fr : Fr} {ρ : Operand → Value} (h : ∀ a ∈ l, Opd g p e fr (f a) (ρ a)) : Opds g p e fr (l.map f) (l.map ρ) := by
  induction l with
  | nil => trivial
  | cons a l ih => exact ⟨h a (by simp), ih fun b hb => h b (by simp [hb])⟩

end
end Go.Proofs.YtdojpbbdcgfcnaaGreatDoor.AI
/- THE ABSTRACT INTERPRETER: every operation by its word, 2. -/
namespace Go.Proofs.YtdojpbbdcgfcnaaGreatDoor.AI

section
variable {P : Program}

set_option maxHeartbeats 1000000 in
theorem op_w (env : List (Option Tmp)) (o : Oper) (s : S) (hs : cOp P env o = some s) : ClsW P (cO P env) o s (cls P o.op) := by
  generalize hf : cO P env = f at *
  unfold cOp at hs
  simp only [hf] at hs
  split at hs
  · rename_i x ho; cases hs; simp only [ho, cls, ClsW]; exact pure1 (s' := sMv) (by rw [ho]; rfl) fun _ _ _ _ _ _ h => sMv_ok (.inl ho) h
  · rename_i x ho; cases hs; simp only [ho, cls, ClsW]; exact pure1 (s' := sMv) (by rw [ho]; rfl) fun _ _ _ _ _ _ h => sMv_ok (.inr ho) h
  · -- pick
    rename_i x a b ho; cases hs; simp only [ho, cls, ClsW]
    intro cx e fr h k r hr
    obtain ⟨v, h1, h2⟩ := sPick_ok ho hr
    exact ⟨v, h1, fun g p ρ hh => h2 g p ρ (hh x (by simp [ho, Op.operands])) (hh a (by simp [ho, Op.operands])) (hh b (by simp [ho, Op.operands]))⟩
  · -- alloc
    rename_i el ho; simp only [ho, cls, ClsW]
    cases hz : zeroOf P el with
    | none => simp [hz] at hs
    | some z =>
      simp [hz] at hs; subst hs
      intro cx e fr h k r hr
      obtain ⟨l, m, h1, h2⟩ := sAlloc_ok ho hz hr
      exact ⟨l, el, m, h1, fun g p ρ _ => h2 g p ρ⟩
  · -- box
    rename_i el x ho; cases hs; simp only [ho, cls, ClsW]
    intro cx e fr h k r hr
    obtain ⟨l, m, h1, h2⟩ := sBox_ok ho hr
    exact ⟨l, el, m, h1, fun g p ρ hh => h2 g p ρ (hh x (by simp [ho, Op.operands]))⟩
  · -- build
    rename_i t ps ho; simp only [ho, cls, ClsW]
    have hmem : ∀ {g : G} {p : Pos → Prop} {e : List V} {fr : Fr} {ρ : Operand → Value}, (∀ a ∈ o.op.operands, Opd g p e fr (f a) (ρ a)) → OpdF g p e fr f ρ ps.toList := fun hh x hx => hh x.2 (by rw [ho]; simp [Op.operands]; exact ⟨x.1, by simpa using hx⟩)
    cases hz : zeroOf P t with
    | none => simp [hz] at hs
    | some z =>
      simp only [hz, Option.bind_some] at hs
      split at hs
      · rename_i fs ht
        cases hpl : (fs.toList.mapM fun f => (szOf P f.type).map fun s => (f.offset, s)) with
        | none => simp [hpl] at hs
        | some pl =>
          simp only [hpl, Option.bind_some, cParts, hf] at hs
          cases hp : cPartsF (fun i => pl[i]?) f ps.toList with
          | none => simp [hp] at hs
          | some qs =>
            simp [hp] at hs; subst hs
            intro cx e fr h k r hr
            obtain ⟨v, h1, h2⟩ := sBuildStruct_ok ho ht hz hpl hp hr
            exact ⟨v, h1, fun g p ρ hh => h2 g p ρ (hmem hh)⟩
      · rename_i n el ht
        cases hsz : szOf P el with
        | none => simp [hsz] at hs
        | some sz =>
          simp only [hsz, Option.bind_some, cParts, hf] at hs
          cases hp : cPartsF (fun i => some (i * sz, sz)) f ps.toList with
          | none => simp [hp] at hs
          | some qs =>
            simp [hp] at hs; subst hs
            intro cx e fr h k r hr
            obtain ⟨v, h1, h2⟩ := sBuildArray_ok ho ht hz hsz hp hr
            exact ⟨v, h1, fun g p ρ hh => h2 g p ρ (hmem hh)⟩
      · cases hs
  · -- buildSlice
    rename_i t n ps ho; simp only [ho, cls, ClsW]
    have hmem : ∀ {g : G} {p : Pos → Prop} {e : List V} {fr : Fr} {ρ : Operand → Value}, (∀ a ∈ o.op.operands, Opd g p e fr (f a) (ρ a)) → OpdF g p e fr f ρ ps.toList := fun hh x hx => hh x.2 (by rw [ho]; simp [Op.operands]; exact ⟨x.1, by simpa using hx⟩)
    split at hs
    · rename_i el ht
      cases hsz : szOf P el with
      | none => simp [hsz] at hs
      | some sz =>
        cases hz : zeroOf P el with
        | none => simp [hsz, hz] at hs
        | some z =>
          simp only [hsz, hz, Option.bind_some] at hs
          split at hs
          · cases hs
          · rename_i hno
            simp only [cParts, hf] at hs
            cases hp : cPartsF (fun i => some (i * sz, sz)) f ps.toList with
            | none => simp [hp] at hs
            | some qs =>
              simp [hp] at hs; subst hs
              intro cx e fr h k r hr
              obtain ⟨l, m, h1, h2⟩ := sBuildSlice_ok ho ht hz hsz (Decidable.byContradiction fun hz => hno (.inr (.inr hz))) (by rcases Nat.eq_zero_or_pos sz with hz | hz; exact absurd (.inl hz) hno; exact hz) (by rcases Nat.lt_or_ge 65536 (n * sz) with hz | hz; exact absurd (.inr (.inl hz)) hno; exact hz) hp hr
              exact ⟨l, el, m, h1, fun g p ρ hh => h2 g p ρ (hmem hh)⟩
    · cases hs
  · -- load
    rename_i t a ho; simp only [ho, cls, ClsW]
    cases hz : optSz P t with
    | none => simp [hz] at hs
    | some z =>
      simp [hz] at hs; subst hs
      intro cx e fr h k r hr
      obtain ⟨v, h1, h2⟩ := sLoad_ok ho hz hr
      exact ⟨v, h1, fun rs ng g w ρ hw hh => h2 rs ng g w _ ρ hw (hh a (by simp [ho, Op.operands]))⟩
  · -- store
    rename_i t a x ho; simp only [ho, cls, ClsW]
    cases hz : szOf P t with
    | none => simp [hz] at hs
    | some z =>
      simp [hz] at hs; subst hs
      intro cx e fr h k r hr
      obtain ⟨v, h', h1, h2⟩ := sStore_ok ho hz hr
      exact ⟨v, h', h1, fun rs ng g w ρ _ hw hh => h2 rs ng g w ρ hw (hh a (by simp [ho, Op.operands])) (hh x (by simp [ho, Op.operands]))⟩
  · rename_i x ho; cases hs; simp only [ho, cls, ClsW]; exact pure1 (s' := sNil) (by rw [ho]; rfl) fun _ _ _ _ _ _ h => sNil_ok ho h
  · rename_i op t x y yt ho
    have := op_binop ho hs
    simp only [ho, cls, ClsW]; exact this
  · -- unOp
    rename_i op t x ho; simp only [ho, cls, ClsW]
    split at hs
    · cases hs; exact pure1 (s' := sNot) (by rw [ho]; rfl) fun _ _ _ _ _ _ h => sNot_ok ho h
    · cases hs; exact pure1 (s' := sNeg) (by rw [ho]; rfl) fun _ _ _ _ _ _ h => sNeg_ok ho h
    · cases hs; exact pure1 (s' := sCom) (by rw [ho]; rfl) fun _ _ _ _ _ _ h => sCom_ok ho h
    · cases hs
  · rename_i s1 d1 x ho; exact op_convert ho hs
  · -- makeInterface
    rename_i t x ho; simp only [ho, cls, ClsW]
    split at hs
    · cases hs
    · rename_i d hni hd
      cases hs; exact pure1 (s' := sIface t) (by rw [ho]; rfl) fun _ _ _ _ _ _ h => sIface_ok ho hd (fun m he => hni m (by rw [he])) h
    · cases hs
  · -- makeFunc
    rename_i fn as bs ho; simp only [ho, cls, ClsW]
    split at hs
    · rename_i fid
      cases hs
      intro cx e fr h k r hr
      obtain ⟨v, h1, h2⟩ := sFn_ok ho hr
      refine ⟨v, h1, fun g p ρ hh => h2 g p ρ ?_ ?_⟩
      · rw [Array.toList_map]; exact opds_of fun a ha => hh a (by rw [ho]; simp [Op.operands]; exact .inl (by simpa using ha))
      · rw [Array.toList_map]; exact opds_of fun a ha => hh a (by rw [ho]; simp [Op.operands]; exact .inr (by simpa using ha))
    · cases hs
  · -- makeMap
    rename_i t rr ho; simp only [ho, cls, ClsW]
    split at hs
    · cases hs
      intro cx e fr h k r hr
      obtain ⟨v, h', h1, h2⟩ := sMkMap_ok ho hr
      exact ⟨v, h', h1, fun rs ng g w ρ _ hw _ => h2 rs ng g w ρ hw⟩
    · cases hs
  · -- makeSlice
    rename_i t l m ho; simp only [ho, cls, ClsW]
    split at hs
    · rename_i el ht
      cases hsz : szOf P el with
      | none => simp [hsz] at hs
      | some sz =>
        cases hby : bytesOfT P el with
        | none => simp [hsz, hby] at hs
        | some by_ =>
          cases hz : zeroOf P el with
          | none => simp [hsz, hby, hz] at hs
          | some z =>
            simp only [hsz, hby, hz, Option.bind_some] at hs
            split at hs
            · cases hs
            · rename_i hno
              cases hs
              intro cx e fr h k r hr
              obtain ⟨cs, mk, h1, h2⟩ := sMkSlice_ok ho ht hz hsz hby (Decidable.byContradiction fun hz => hno (.inr hz)) (by rcases Nat.eq_zero_or_pos sz with hz | hz; exact absurd (.inl hz) hno; exact hz) hr
              exact ⟨cs, el, mk, h1, fun g p ρ hh => h2 g p ρ (hh l (by simp [ho, Op.operands])) (hh m (by simp [ho, Op.operands]))⟩
    · cases hs
  · -- slice
    rename_i t x lo hi mx ho
    have mo : ∀ {g : G} {p : Pos → Prop} {e : List V} {fr : Fr} {ρ : Operand → Value}, (∀ a ∈ o.op.operands, Opd g p e fr (f a) (ρ a)) → Opd g p e fr (f x) (ρ x) ∧ OpdO g p e fr f ρ lo ∧ OpdO g p e fr f ρ hi ∧ OpdO g p e fr f ρ mx := fun hh =>
      ⟨hh x (by simp [ho, Op.operands]), fun y hy => hh y (by subst hy; simp [ho, Op.operands]), fun y hy => hh y (by subst hy; simp [ho, Op.operands]), fun y hy => hh y (by subst hy; simp [ho, Op.operands])⟩
    split at hs
    · rename_i n el ht
      have hcl : cls P o.op = .p := by simp [ho, cls, ht]
      rw [hcl]
      cases hsz : szOf P el with
      | none => simp [hsz] at hs
      | some sz =>
        simp only [hsz, Option.bind_some] at hs
        split at hs
        · cases hs
        · rename_i hno
          cases hs
          intro cx e fr h k r hr
          obtain ⟨v, h1, h2⟩ := sSliceArr_ok ho ht hsz (by omega) hr
          refine ⟨v, h1, fun g p ρ hh => ?_⟩
          obtain ⟨q1, q2, q3, q4⟩ := mo hh
          exact h2 g p ρ q1 q2 q3 q4
    · rename_i el ht
      have hcl : cls P o.op = .r := by simp [ho, cls, ht]
      rw [hcl]
      cases hsz : szOf P el with
      | none => simp [hsz] at hs
      | some sz =>
        simp only [hsz, Option.bind_some] at hs
        split at hs
        · cases hs
        · rename_i hno
          cases hs
          intro cx e fr h k r hr
          obtain ⟨v, h1, h2⟩ := sSlice_ok ho ht hsz (by omega) hr
          refine ⟨v, h1, fun rs ng g w ρ hw hh => ?_⟩
          obtain ⟨q1, q2, q3, q4⟩ := mo hh
          exact h2 rs ng g w _ ρ hw q1 q2 q3 q4
    · rename_i ht
      have hcl : cls P o.op = .p := by simp [ho, cls, ht]
      rw [hcl]
      split at hs
      · cases hs
        intro cx e fr h k r hr
        obtain ⟨v, h1, h2⟩ := sSliceStr_ok ho ht hr
        refine ⟨v, h1, fun g p ρ hh => ?_⟩
        obtain ⟨q1, q2, q3, q4⟩ := mo hh
        exact h2 g p ρ q1 q2 q3
      · cases hs
    · cases hs
  · -- fieldAddr
    rename_i t x i ho; simp only [ho, cls, ClsW]
    split at hs
    · rename_i fs ht
      cases hg : fs[i]? with
      | none => simp [hg] at hs
      | some fd =>
        simp only [hg, Option.bind_some] at hs
        split at hs
        · rename_i n hsz
          cases hs
          exact pure1 (s' := fun x => sFieldAddr x fd.offset) (by rw [ho]; rfl) fun _ _ _ _ _ _ h => sFieldAddr_ok ho ht hg hsz h
        · cases hs
    · cases hs
  · -- field
    rename_i t x i ho; simp only [ho, cls, ClsW]
    split at hs
    · rename_i fs ht
      cases hg : fs[i]? with
      | none => simp [hg] at hs
      | some fd =>
        cases hz : optSz P fd.type with
        | none => simp [hg, hz] at hs
        | some z =>
          simp [hg, hz] at hs; subst hs
          exact pure1 (s' := fun x => sField x fd.offset z) (by rw [ho]; rfl) fun _ _ _ _ _ _ h => sField_ok ho ht hg hz h
    · cases hs
  · -- indexAddr
    rename_i t x i ho; simp only [ho, cls, ClsW]
    split at hs
    · rename_i n el ht
      cases hsz : szOf P el with
      | none => simp [hsz] at hs
      | some sz =>
        simp [hsz] at hs; subst hs
        exact pure2 (s' := fun x y => sIndexArr n sz x y) (by rw [ho]; rfl) fun _ _ _ _ _ _ h => sIndexArr_ok ho ht hsz h
    · rename_i el ht
      cases hsz : szOf P el with
      | none => simp [hsz] at hs
      | some sz =>
        simp [hsz] at hs; subst hs
        exact pure2 (s' := fun x y => sIndexAddr sz x y) (by rw [ho]; rfl) fun _ _ _ _ _ _ h => sIndexAddr_ok ho ht hsz h
    · cases hs
  · -- index
    rename_i t x i ho; simp only [ho, cls, ClsW]
    split at hs
    · rename_i n el ht
      cases hsz : szOf P el with
      | none => simp [hsz] at hs
      | some sz =>
        cases hz : optSz P el with
        | none => simp [hsz, hz] at hs
        | some z =>
          simp [hsz, hz] at hs; subst hs
          exact pure2 (s' := fun x y => sIndexAgg n sz z x y) (by rw [ho]; rfl) fun _ _ _ _ _ _ h => sIndexAgg_ok ho ht hsz hz h
    · rename_i ht
      cases hs
      exact pure2 (s' := sIndexStr) (by rw [ho]; rfl) fun _ _ _ _ _ _ h => sIndexStr_ok ho ht h
    · cases hs
  · -- lookup
    rename_i t x i ok ho; simp only [ho, cls, ClsW]
    split at hs
    · rename_i kt et ht
      cases hq : keyQ P kt with
      | none => simp [hq] at hs
      | some q =>
        cases hz : zeroOf P et with
        | none => simp [hq, hz] at hs
        | some z =>
          simp [hq, hz] at hs; subst hs
          intro cx e fr h k r hr
          obtain ⟨v, h1, h2⟩ := sLookup_ok ho ht hq hz hr
          exact ⟨v, h1, fun rs ng g w ρ hw hh => h2 rs ng g w _ ρ hw (hh x (by simp [ho, Op.operands])) (hh i (by simp [ho, Op.operands]))⟩
    · cases hs
  · -- mapUpdate
    rename_i t m i x ho; simp only [ho, cls, ClsW]
    split at hs
    · rename_i kt et ht
      cases hq : keyQ P kt with
      | none => simp [hq] at hs
      | some q =>
        simp [hq] at hs; subst hs
        intro cx e fr h k r hr
        obtain ⟨v, h', h1, h2⟩ := sMapUpdate_ok (.inl ho) ht hq hr
        exact ⟨v, h', h1, fun rs ng g w ρ _ hw hh => h2 rs ng g w ρ hw (hh m (by simp [ho, Op.operands])) (hh i (by simp [ho, Op.operands])) (hh x (by simp [ho, Op.operands]))⟩
    · cases hs
  · -- insert
    rename_i t m i x ho; simp only [ho, cls, ClsW]
    split at hs
    · rename_i kt et ht
      cases hq : keyQ P kt with
      | none => simp [hq] at hs
      | some q =>
        simp [hq] at hs; subst hs
        intro cx e fr h k r hr
        obtain ⟨v, h', h1, h2⟩ := sMapUpdate_ok (.inr ho) ht hq hr
        exact ⟨v, h', h1, fun rs ng g w ρ _ hw hh => h2 rs ng g w ρ hw (hh m (by simp [ho, Op.operands])) (hh i (by simp [ho, Op.operands])) (hh x (by simp [ho, Op.operands]))⟩
    · cases hs
  · -- mapEntry
    rename_i t m i ho; simp only [ho, cls, ClsW]
    split at hs
    · rename_i kt et ht
      cases hq : keyQ P kt with
      | none => simp [hq] at hs
      | some q =>
        cases hz : zeroOf P et with
        | none => simp [hq, hz] at hs
        | some z =>
          simp [hq, hz] at hs; subst hs
          intro cx e fr h k r hr
          obtain ⟨v, h', h1, h2⟩ := sMapEntry_ok ho ht hq hz hr
          exact ⟨v, h', h1, fun rs ng g w ρ _ hw hh => h2 rs ng g w ρ hw (hh m (by simp [ho, Op.operands])) (hh i (by simp [ho, Op.operands]))⟩
    · cases hs
  · -- entryStore
    rename_i t m st x ho; cases hs; simp only [ho, cls, ClsW]
    intro cx e fr h k r hr
    obtain ⟨v, h', h1, h2⟩ := sEntryStore_ok ho hr
    exact ⟨v, h', h1, fun rs ng g w ρ _ hw hh => h2 rs ng g w ρ hw (hh m (by simp [ho, Op.operands])) (hh st (by simp [ho, Op.operands])) (hh x (by simp [ho, Op.operands]))⟩
  · -- range
    rename_i t x ho; simp only [ho, cls, ClsW]
    split at hs
    · rename_i ht
      cases hs
      intro cx e fr h k r hr
      obtain ⟨v, h', h1, h2⟩ := sRange_ok ho ht hr
      exact ⟨v, h', h1, fun rs ng g w ρ _ hw hh => h2 rs ng g w ρ hw (hh x (by simp [ho, Op.operands]))⟩
    · cases hs
  · -- next
    rename_i x st ho; simp only [ho, cls, ClsW]
    cases st with
    | false => simp at hs
    | true =>
      simp at hs; subst hs
      intro cx e fr h k r hr
      obtain ⟨v, h', h1, h2⟩ := sNext_ok ho hr
      exact ⟨v, h', h1, fun rs ng g w ρ _ hw hh => h2 rs ng g w ρ hw (hh x (by simp [ho, Op.operands]))⟩
  · -- typeAssert
    rename_i x xt t ok ho; simp only [ho, cls, ClsW]
    split at hs
    · cases hs
    · rename_i d hni hd
      cases hz : zeroOf P t with
      | none => simp [hz] at hs
      | some z =>
        simp [hz] at hs; subst hs
        exact pure1 (s' := fun x => sAssert x t ok z) (by rw [ho]; rfl) fun _ _ _ _ _ _ h => sAssert_ok ho hd (fun m he => hni m (by rw [he])) hz h
    · cases hs
  · rename_i x i ho; cases hs; simp only [ho, cls, ClsW]; exact pure1 (s' := fun x => sExtract x i) (by rw [ho]; rfl) fun _ _ _ _ _ _ h => sExtract_ok ho h
  · -- call
    rename_i cl ho
    split at hs
    · rename_i fo hc
      cases hs
      have hcl : cls P o.op = .x := by simp [ho, cls, hc]
      rw [hcl]
      intro cx e fr h k r hr
      obtain ⟨v, h', h1, h2⟩ := sCall_ok ho hc hr
      exact ⟨v, h', h1, fun rs ng g w ρ hco hw hh => h2 rs ng g w ρ hco hw (hh fo (by simp [ho, Op.operands, Call.operands, hc])) fun a ha => hh a (by simp [ho, Op.operands, Call.operands, hc]; exact .inr ha)⟩
    · rename_i ro m hc
      cases hs
      have hcl : cls P o.op = .x := by simp [ho, cls, hc]
      rw [hcl]
      intro cx e fr h k r hr
      obtain ⟨v, h', h1, h2⟩ := sInvoke_ok ho hc hr
      exact ⟨v, h', h1, fun rs ng g w ρ hco hw hh => h2 rs ng g w ρ hco hw (hh ro (by simp [ho, Op.operands, Call.operands, hc])) fun a ha => hh a (by simp [ho, Op.operands, Call.operands, hc]; exact .inr ha)⟩
    · rename_i bi hc
      exact op_builtin ho hc hs
  · cases hs

theorem op_defer (env : List (Option Tmp)) (o : Oper) (s : S) (hs : cOp P env o = some s) : ∀ c, o.op ≠ .defer c := by
  intro c hc
  unfold cOp at hs
  rw [hc] at hs
  cases hs

end
end Go.Proofs.YtdojpbbdcgfcnaaGreatDoor.AI
/- THE ABSTRACT INTERPRETER, 14: a region in the order of the text. -/
namespace Go.Proofs.YtdojpbbdcgfcnaaGreatDoor.AI

/-- each operation that has a word is done by it -/
def OpsOk (P : Program) : Prop := ∀ env o s, cOp P env o = some s → AnyW P (cO P env) o s ∧ ∀ c, o.op ≠ .defer c

theorem ops_ok (P : Program) : OpsOk P := fun env o s hs => ⟨(op_w env o s hs).any, op_defer env o s hs⟩

section
variable {P : Program} {rs : Rnds} {cx : Cx} {n : Nat} {ex : Nat → Bool} {ops : Array Oper}

/-- the guard of an operation, as the model asks it -/
theorem wanted_of {o : Oper} {j : Nat} {want : Bool} {d : Tmp} {tm : Array Value} (hg : o.guard = some (j, want)) (hd : (ops[j]?).bind (·.dst) = some d) :
    Region.wanted o (yielded ops tm) = (match tm[d]? with | some (.bool b) => b == want | _ => false) := by
  simp only [Region.wanted, hg, yielded, hd, Option.bind_some]
  cases tm[d]? with
  | none => rfl
  | some v => cases v <;> rfl

theorem eval_ds {tm : Array Value} (ds ds' : List Deferred) : (Act.mk tm ds).eval = (Act.mk tm ds').eval := by funext a; cases a <;> rfl

/-- what an operation with its guard does -/
theorem oper_ok (hop : OpsOk P) {env : List (Option Tmp)} {o : Oper} {s : S} (hs : cOper P ops env o = some s) {i : Nat} (hi : ops[i]? = some o)
    {e : List V} {fr : Fr} {h : H} {k : V → H → Res} {r : E × Fr × H} (hr : s cx e fr h k = some r) (hc : CallOk P rs P.globals.size cx.call)
    {g : G} {w : World} {tm : Array Value} (hw : WR rs P.globals.size g h w) (ho : ∀ env' a, env' = env → Opd g (below h.next.toNat) e fr (cO P env' a) ((Act.mk tm []).eval a)) :
    ∃ v h' g' w', k v h' = some r ∧ WR rs P.globals.size g' h' w' ∧ Adv g h w g' h' w' ∧ v.bd h'.next.toNat ∧ h'.marks = h.marks ∧ ∀ (b : Frame) (ds : List Deferred) (rest : List Nat) (kk : List Item) (cs : List Frame),
      Steps P (lone (fat b tm ds (.inRegion ops (i :: rest) :: kk)) cs w) (lone (fat b (putTm tm o.dst (conc g' v)) ds (.inRegion ops rest :: kk)) cs w') := by
  unfold cOper at hs
  have go : ∀ s', cOp P env o = some s' → s' cx e fr h k = some r → Region.wanted o (yielded ops tm) = true → ∃ v h' g' w', k v h' = some r ∧ WR rs P.globals.size g' h' w' ∧ Adv g h w g' h' w' ∧ v.bd h'.next.toNat ∧ h'.marks = h.marks ∧ ∀ (b : Frame) (ds : List Deferred) (rest : List Nat) (kk : List Item) (cs : List Frame),
      Steps P (lone (fat b tm ds (.inRegion ops (i :: rest) :: kk)) cs w) (lone (fat b (putTm tm o.dst (conc g' v)) ds (.inRegion ops rest :: kk)) cs w') := by
    intro s' h1 h2 hwant
    obtain ⟨ha, hd⟩ := hop env o s' h1
    obtain ⟨v, h', h3, h4⟩ := ha cx e fr h k r h2
    obtain ⟨g', w', a1, a2, a3, a4, a5⟩ := h4 rs P.globals.size g w _ hc hw (fun a _ => ho env a rfl)
    exact ⟨v, h', g', w', h3, a1, a2, a3, a4, fun b ds rest kk cs => does_op hi hwant hd (by rw [eval_ds ds []]; exact a5)⟩
  split at hs
  · rename_i hg
    exact go s hs hr (by simp [Region.wanted, hg])
  · rename_i j want hg
    cases hd : (ops[j]?).bind (·.dst) with
    | none => rw [hd] at hs; cases hs
    | some d =>
      rw [hd] at hs
      cases hs' : cOp P env o with
      | none => simp [hs'] at hs
      | some s' =>
        simp [hs'] at hs
        subst hs
        have hr' : (evK e fr (cO P env (.tmp d)) fun v => v.onBool (fun b => (Bool.casesOn b (Bool.casesOn want (s' cx e fr h k) (k undefV h)) (Bool.casesOn want (k undefV h) (s' cx e fr h k)) : Res)) (k undefV h)) = some r := hr
        obtain ⟨v, hv, h1⟩ := evK_some hr'
        obtain ⟨e1, _⟩ := ho env (.tmp d) rfl v hv
        have e1' : tm.getD d undef = conc g v := e1
        have hwd := wanted_of (ops := ops) (tm := tm) hg hd
        have skip : k undefV h = some r → Region.wanted o (yielded ops tm) = false → ∃ v h' g' w', k v h' = some r ∧ WR rs P.globals.size g' h' w' ∧ Adv g h w g' h' w' ∧ v.bd h'.next.toNat ∧ h'.marks = h.marks ∧ ∀ (b : Frame) (ds : List Deferred) (rest : List Nat) (kk : List Item) (cs : List Frame),
            Steps P (lone (fat b tm ds (.inRegion ops (i :: rest) :: kk)) cs w) (lone (fat b (putTm tm o.dst (conc g' v)) ds (.inRegion ops rest :: kk)) cs w') := by
          intro h2 h3
          exact ⟨undefV, h, g, w, h2, hw, Adv.refl _ _ _, bd_undef _, rfl, fun b ds rest kk cs => by rw [undef_conc]; exact .one (m_op_skip hi h3)⟩
        by_cases hb : ∃ t, v = .bool t
        · obtain ⟨t, rfl⟩ := hb
          simp only [conc] at e1'
          have htm : tm[d]? = some (.bool t) := by
            rw [Array.getD_eq_getD_getElem?] at e1'
            cases hx : tm[d]? with
            | none => rw [hx] at e1'; simp [undef] at e1'
            | some u => rw [hx] at e1'; simpa using e1'
          rw [htm] at hwd
          cases t <;> cases want
          · exact go s' hs' h1 (by simpa using hwd)
          · exact skip h1 (by simpa using hwd)
          · exact skip h1 (by simpa using hwd)
          · exact go s' hs' h1 (by simpa using hwd)
        · have hk : k undefV h = some r := by
            cases v with
            | bool t => exact absurd ⟨t, rfl⟩ hb
            | _ => exact h1
          refine skip hk ?_
          rw [hwd]
          cases hx : tm[d]? with
          | none => rfl
          | some u =>
            rw [Array.getD_eq_getD_getElem?, hx] at e1'
            simp at e1'
            subst e1'
            cases v with
            | bool t => exact absurd ⟨t, rfl⟩ hb
            | _ => rfl

/-- what code does to a frame and the world -/
structure Did (P : Program) (rs : Rnds) (g : G) (h : H) (w : World) (tm : Array Value) (ex : Nat → Bool) (fr' : Fr) (h' : H) (g' : G) (w' : World) (tm' : Array Value) : Prop where
  wr : WR rs P.globals.size g' h' w'
  adv : Adv g h w g' h' w'
  fr : FrRel g' h'.next.toNat ex fr' tm'
  size : tm'.size = tm.size

theorem seq_ok (hop : OpsOk P) (hc : CallOk P rs P.globals.size cx.call) : ∀ (os : List Oper) (i : Nat) (env : List (Option Tmp)) (e : List V) (fr : Fr) (h : H) (er : E) (fr' : Fr) (h' : H) (g : G) (w : World) (tm : Array Value),
    ops.toList.drop i = os → cOps P n ex ops os env cx e fr h = some (er, fr', h') → WR rs P.globals.size g h w → FrRel g h.next.toNat ex fr tm → ER g h.next.toNat env e tm → n ≤ tm.size →
    er = .norm ∧ h'.marks = h.marks ∧ ∃ g' w' tm', Did P rs g h w tm ex fr' h' g' w' tm' ∧ ∀ (b : Frame) (ds : List Deferred) (kk : List Item) (cs : List Frame),
      Steps P (lone (fat b tm ds (.inRegion ops (List.range' i (ops.size - i)) :: kk)) cs w) (lone (fat b tm' ds (.inRegion ops [] :: kk)) cs w')
  | [], i, env, e, fr, h, er, fr', h', g, w, tm, hd, hs, hw, hf, he, hn => by
    cases hs
    have : ops.size - i = 0 := by
      have := congrArg List.length hd
      simp at this; omega
    rw [this]
    exact ⟨rfl, rfl, g, w, tm, ⟨hw, Adv.refl _ _ _, hf, rfl⟩, fun _ _ _ _ => Steps.refl _ _⟩
  | o :: os, i, env, e, fr, h, er, fr', h', g, w, tm, hd, hs, hw, hf, he, hn => by
    have hlt : i < ops.size := by
      have := congrArg List.length hd
      simp at this; omega
    have hi : ops[i]? = some o := by
      have := congrArg (fun l : List Oper => l[0]?) hd
      simpa using this
    have hd' : ops.toList.drop (i + 1) = os := by
      have := congrArg (List.drop 1) hd
      simpa [List.drop_drop] using this
    have hr : List.range' i (ops.size - i) = i :: List.range' (i + 1) (ops.size - (i + 1)) := by
      have : ops.size - i = (ops.size - (i + 1)) + 1 := by omega
      rw [this, List.range'_succ]
    rw [hr]
    simp only [cOps] at hs
    cases hco : cOper P ops env o with
    | none => rw [hco] at hs; cases hs
    | some s =>
      rw [hco] at hs
      dsimp only at hs
      by_cases hdst : o.dst.all (fun x => decide (x < n)) = true
      · rw [if_pos hdst] at hs
        have hdn : ∀ d, o.dst = some d → d < tm.size := fun d h1 => by
          rw [h1] at hdst
          have hdn : d < n := by simpa using hdst
          exact Nat.lt_of_lt_of_le hdn hn
        have hopd : ∀ env' a, env' = env → Opd g (below h.next.toNat) e fr (cO P env' a) ((Act.mk tm []).eval a) := fun env' a h1 => by subst h1; exact opd_cO hw hf he [] a
        have rest : ∀ (out : Bool), (∀ d, o.dst = some d → ex d = out) →
            s cx e fr h (fun v h => (if out = true then (match o.dst with | some d => Tr.setK (some v) (Pos.ofNat d) fr fun fr => cOps P n ex ops os (o.dst :: env) cx (v :: e) fr h | none => cOps P n ex ops os (o.dst :: env) cx (v :: e) fr h) else cOps P n ex ops os (o.dst :: env) cx (v :: e) fr h : Res)) = some (er, fr', h') →
            er = .norm ∧ h'.marks = h.marks ∧ ∃ g' w' tm', Did P rs g h w tm ex fr' h' g' w' tm' ∧ ∀ (b : Frame) (ds : List Deferred) (kk : List Item) (cs : List Frame),
              Steps P (lone (fat b tm ds (.inRegion ops (i :: List.range' (i + 1) (ops.size - (i + 1))) :: kk)) cs w) (lone (fat b tm' ds (.inRegion ops [] :: kk)) cs w') := by
          intro out hout hs2
          obtain ⟨v, h1, g1, w1, a1, a2, a3, a4, a5, a6⟩ := oper_ok hop hco hi hs2 hc hw hopd
          have fin : ∀ fr1, FrRel g1 h1.next.toNat ex fr1 (putTm tm o.dst (conc g1 v)) → cOps P n ex ops os (o.dst :: env) cx (v :: e) fr1 h1 = some (er, fr', h') →
              er = .norm ∧ h'.marks = h.marks ∧ ∃ g' w' tm', Did P rs g h w tm ex fr' h' g' w' tm' ∧ ∀ (b : Frame) (ds : List Deferred) (kk : List Item) (cs : List Frame),
                Steps P (lone (fat b tm ds (.inRegion ops (i :: List.range' (i + 1) (ops.size - (i + 1))) :: kk)) cs w) (lone (fat b tm' ds (.inRegion ops [] :: kk)) cs w') := by
            intro fr1 hf1 a1'
            obtain ⟨b1, b2, g2, w2, tm2, b3, b4⟩ := seq_ok hop hc os (i + 1) (o.dst :: env) (v :: e) fr1 h1 er fr' h' g1 w1 (putTm tm o.dst (conc g1 v)) hd' a1' a2 hf1 ((he.adv a3).push a4 o.dst hdn) (by rw [putTm_size]; exact hn)
            exact ⟨b1, b2.trans a5, g2, w2, tm2, ⟨b3.wr, a3.trans b3.adv, b3.fr, by rw [b3.size, putTm_size]⟩, fun b ds kk cs => Steps.trans (a6 b ds _ kk cs) (b4 b ds kk cs)⟩
          cases out with
          | true =>
            rw [if_pos rfl] at a1
            cases hdd : o.dst with
            | none => exact fin fr (by rw [hdd]; exact hf.adv a3) (by rw [hdd] at a1; rw [hdd]; exact a1)
            | some d =>
              refine fin (Tr.set (some v) (Pos.ofNat d) fr) (by rw [hdd]; exact (hf.adv a3).out a4 (hdn d hdd) (hout d hdd)) ?_
              rw [hdd] at a1
              dsimp only at a1
              rw [Tr.setK_eq] at a1
              rw [hdd]; exact a1
          | false =>
            rw [if_neg (by simp)] at a1
            exact fin fr ((hf.adv a3).skip hout) a1
        cases hdd : o.dst with
        | none => exact rest false (fun d h1 => by rw [hdd] at h1; cases h1) (by rw [hdd] at hs ⊢; exact hs)
        | some d =>
          cases hex : ex d with
          | true => exact rest true (fun d' h1 => by rw [hdd] at h1; cases h1; exact hex) (by rw [hdd] at hs ⊢; simp only [cOut, hex, if_true] at hs ⊢; exact hs)
          | false => exact rest false (fun d' h1 => by rw [hdd] at h1; cases h1; exact hex) (by rw [hdd] at hs ⊢; simp only [cOut, hex] at hs ⊢; exact hs)
      · rw [if_neg hdst] at hs; cases hs

end
end Go.Proofs.YtdojpbbdcgfcnaaGreatDoor.AI
/- THE ABSTRACT INTERPRETER, 15: code. -/
namespace Go.Proofs.YtdojpbbdcgfcnaaGreatDoor.AI

/-- the deferred marks of a frame -/
def D (g : G) (ms : List Pos) : List Deferred := ms.map fun m => { target := .collected (g.blk m), args := #[] }

/-- where code has come to -/
def Lands (P : Program) (b : Frame) (ds : List Deferred) (cs : List Frame) (k : List Item) (M : Machine) (tm' : Array Value) (w' : World) : E → Prop
  | .norm => Steps P M (lone (fat b tm' ds k) cs w')
  | .jump (.exit id) => (∀ k', exitTo id k = some k' → Steps P M (lone (fat b tm' ds k') cs w')) ∧ (exitTo id k = none → ∃ k1, exitTo id k1 = none ∧ Steps P M (lone (fat b tm' ds (.code (.exit id) :: k1)) cs w'))
  | .jump .ret => ∃ k1, Steps P M (lone (fat b tm' ds (.code .ret :: k1)) cs w')

section
variable {P : Program} {b : Frame} {ds : List Deferred} {cs : List Frame} {k : List Item} {M M1 : Machine} {tm' : Array Value} {w' : World} {er : E}

theorem Lands.head (h : Steps P M M1) (hl : Lands P b ds cs k M1 tm' w' er) : Lands P b ds cs k M tm' w' er := by
  cases er with
  | norm => exact Steps.trans h hl
  | jump j =>
    cases j with
    | exit id => exact ⟨fun k' hk => Steps.trans h (hl.1 k' hk), fun hn => let ⟨k1, h1, h2⟩ := hl.2 hn; ⟨k1, h1, Steps.trans h h2⟩⟩
    | ret => obtain ⟨k1, h1⟩ := hl; exact ⟨k1, Steps.trans h h1⟩

/-- a jump goes past an item that is no block -/
theorem Lands.pass {x : Item} (hx : ∀ id, x ≠ .inBlock id) {j : Jump} (hl : Lands P b ds cs (x :: k) M tm' w' (.jump j)) : Lands P b ds cs k M tm' w' (.jump j) := by
  have he : ∀ id, exitTo id (x :: k) = exitTo id k := fun id => by
    cases x <;> first | rfl | exact absurd rfl (hx _)
  cases j with
  | exit id => exact ⟨fun k' hk => hl.1 k' (by rw [he]; exact hk), fun hn => hl.2 (by rw [he]; exact hn)⟩
  | ret => exact hl
end

/-- the rounds of the loops over functions in the code are in the table -/
def RndIn (rs : Rnds) (fid : Nat) (ex : Nat → Bool) (n : Nat) : Code → Prop
  | .seq a b => RndIn rs fid ex n a ∧ RndIn rs fid ex n b
  | .cond _ a b => RndIn rs fid ex n a ∧ RndIn rs fid ex n b
  | .block _ b => RndIn rs fid ex n b
  | .loop b => RndIn rs fid ex n b
  | .scope b => RndIn rs fid ex n b
  | .rangeFunc f ps a b => rs (ridOf fid f) = some ⟨fid, ex, n, ps, a, b⟩
  | _ => True

/-- the code c, run in whatever frame of the function fid, does what the word K does -/
def CodeOk (P : Program) (rs : Rnds) (cx : Cx) (n : Nat) (ex : Nat → Bool) (fid : Nat) (c : Code) (K : K) : Prop :=
  ∀ fr h er fr' h', K cx fr h = some (er, fr', h') → ∀ g w tm, WR rs P.globals.size g h w → FrRel g h.next.toNat ex fr tm → n ≤ tm.size →
    ∃ g' w' tm' ms, Did P rs g h w tm ex fr' h' g' w' tm' ∧ h'.marks = ms ++ h.marks ∧ (cx.round = true → ms = []) ∧ ∀ (b : Frame) k cs, b.fn = fid → (cx.round = false → b.roundOf = none) → Lands P b (D g' h'.marks) cs k (lone (fat b tm (D g h.marks) (.code c :: k)) cs w) tm' w' er

section
variable {P : Program} {rs : Rnds} {cx : Cx} {n : Nat} {ex : Nat → Bool} {fid : Nat}

theorem D_ext {g g' : G} {m : Nat} (ha : g.agree g' m) {ms : List Pos} (hm : ∀ p ∈ ms, p.toNat < m) : D g' ms = D g ms :=
  List.map_congr_left fun p hp => by rw [(ha p (hm p hp)).1]

theorem resK_some {r0 : Res} {norm : Fr → H → Res} {jump : Jump → Fr → H → Res} {r} (hh : resK r0 norm jump none = some r) :
    (∃ fr h, r0 = some (.norm, fr, h) ∧ norm fr h = some r) ∨ (∃ j fr h, r0 = some (.jump j, fr, h) ∧ jump j fr h = some r) := by
  cases r0 with
  | none => cases hh
  | some x =>
    obtain ⟨e, fr, h⟩ := x
    cases e with
    | norm => exact .inl ⟨fr, h, rfl, hh⟩
    | jump j => exact .inr ⟨j, fr, h, rfl, hh⟩

theorem Did.trans {g g1 g' : G} {h h1 h' : H} {w w1 w' : World} {tm tm1 tm' : Array Value} {fr1 fr' : Fr} (a : Did P rs g h w tm ex fr1 h1 g1 w1 tm1) (b : Did P rs g1 h1 w1 tm1 ex fr' h' g' w' tm') : Did P rs g h w tm ex fr' h' g' w' tm' :=
  ⟨b.wr, a.adv.trans b.adv, b.fr, b.size.trans a.size⟩

theorem code_skip : CodeOk P rs cx n ex fid .skip kSkip := fun fr h er fr' h' hs g w tm hw hf hn => by
  cases hs
  exact ⟨g, w, tm, [], ⟨hw, Adv.refl _ _ _, hf, rfl⟩, rfl, fun _ => rfl, fun _ _ _ _ _ => .one m_skip⟩
theorem code_label {l : Nat} : CodeOk P rs cx n ex fid (.label l) kSkip := fun fr h er fr' h' hs g w tm hw hf hn => by
  cases hs
  exact ⟨g, w, tm, [], ⟨hw, Adv.refl _ _ _, hf, rfl⟩, rfl, fun _ => rfl, fun _ _ _ _ _ => .one m_label⟩
theorem code_ret : CodeOk P rs cx n ex fid .ret kRet := fun fr h er fr' h' hs g w tm hw hf hn => by
  cases hs
  exact ⟨g, w, tm, [], ⟨hw, Adv.refl _ _ _, hf, rfl⟩, rfl, fun _ => rfl, fun _ k _ _ _ => ⟨k, Steps.refl _ _⟩⟩
theorem code_exit {id : Nat} : CodeOk P rs cx n ex fid (.exit id) (kExit id) := fun fr h er fr' h' hs g w tm hw hf hn => by
  cases hs
  exact ⟨g, w, tm, [], ⟨hw, Adv.refl _ _ _, hf, rfl⟩, rfl, fun _ => rfl, fun _ k _ _ _ => ⟨fun k' hk => .one (m_exit hk), fun hk => ⟨k, hk, Steps.refl _ _⟩⟩⟩

theorem code_seq {a c : Code} {A C : K} (ha : CodeOk P rs cx n ex fid a A) (hc : CodeOk P rs cx n ex fid c C) : CodeOk P rs cx n ex fid (.seq a c) (kSeq A C) := by
  intro fr h er fr' h' hs g w tm hw hf hn
  rcases resK_some (r0 := A cx fr h) hs with ⟨fr1, h1, h2, h3⟩ | ⟨j, fr1, h1, h2, h3⟩
  · obtain ⟨g1, w1, tm1, ms1, d1, m1, q1, l1⟩ := ha _ _ _ _ _ h2 g w tm hw hf hn
    obtain ⟨g2, w2, tm2, ms2, d2, m2, q2, l2⟩ := hc _ _ _ _ _ h3 g1 w1 tm1 d1.wr d1.fr (by rw [d1.size]; exact hn)
    exact ⟨g2, w2, tm2, ms2 ++ ms1, d1.trans d2, by rw [m2, m1, List.append_assoc], fun hh => by rw [q1 hh, q2 hh]; rfl, fun b k cs hb hr => .head (Steps.head m_seq (l1 b (.code c :: k) cs hb hr)) (l2 b k cs hb hr)⟩
  · cases h3
    obtain ⟨g1, w1, tm1, ms1, d1, m1, q1, l1⟩ := ha _ _ _ _ _ h2 g w tm hw hf hn
    exact ⟨g1, w1, tm1, ms1, d1, m1, q1, fun b k cs hb hr => .head (.one m_seq) (.pass (fun _ hh => by cases hh) (l1 b (.code c :: k) cs hb hr))⟩

theorem code_scope {a : Code} {A : K} (ha : CodeOk P rs cx n ex fid a A) : CodeOk P rs cx n ex fid (.scope a) A := by
  intro fr h er fr' h' hs g w tm hw hf hn
  obtain ⟨g1, w1, tm1, ms1, d1, m1, q1, l1⟩ := ha _ _ _ _ _ hs g w tm hw hf hn
  refine ⟨g1, w1, tm1, ms1, d1, m1, q1, fun b k cs hb hr => .head (.one m_scope) ?_⟩
  have l1 := l1 b (.inScope a :: k) cs hb hr
  cases er with
  | norm => exact Steps.trans l1 (.one m_inScope)
  | jump j => exact .pass (fun _ hh => by cases hh) l1

theorem code_block {id : Nat} {a : Code} {A : K} (ha : CodeOk P rs cx n ex fid a A) : CodeOk P rs cx n ex fid (.block id a) (kBlock id A) := by
  intro fr h er fr' h' hs g w tm hw hf hn
  rcases resK_some (r0 := A cx fr h) hs with ⟨fr1, h1, h2, h3⟩ | ⟨j, fr1, h1, h2, h3⟩
  · cases h3
    obtain ⟨g1, w1, tm1, ms1, d1, m1, q1, l1⟩ := ha _ _ _ _ _ h2 g w tm hw hf hn
    exact ⟨g1, w1, tm1, ms1, d1, m1, q1, fun b k cs hb hr => Steps.head m_block (Steps.trans (l1 b (.inBlock id :: k) cs hb hr) (.one m_inBlock))⟩
  · obtain ⟨g1, w1, tm1, ms1, d1, m1, q1, l1⟩ := ha _ _ _ _ _ h2 g w tm hw hf hn
    cases j with
    | ret =>
      cases h3
      exact ⟨g1, w1, tm1, ms1, d1, m1, q1, fun b k cs hb hr => .head (.one m_block) (l1 b (.inBlock id :: k) cs hb hr)⟩
    | exit i =>
      have h3' : (Bool.casesOn (Nat.beq i id) (some (.jump (.exit i), fr1, h1)) (some (.norm, fr1, h1)) : Res) = some (er, fr', h') := h3
      cases hbq : Nat.beq i id with
      | true =>
        rw [hbq] at h3'
        cases h3'
        have hi : i = id := Nat.eq_of_beq_eq_true hbq
        subst hi
        refine ⟨g1, w1, tm1, ms1, d1, m1, q1, fun b k cs hb hr => Steps.head m_block ((l1 b (.inBlock i :: k) cs hb hr).1 k ?_)⟩
        simp [exitTo]
      | false =>
        rw [hbq] at h3'
        cases h3'
        have hi : ¬ id = i := fun he => by subst he; rw [Nat.beq_refl] at hbq; cases hbq
        refine ⟨g1, w1, tm1, ms1, d1, m1, q1, fun b k cs hb hr => .head (.one m_block) ?_⟩
        have he : exitTo i (.inBlock id :: k) = exitTo i k := by
          have : (id == i) = false := by simpa using hi
          simp [exitTo, this]
        have l1 := l1 b (.inBlock id :: k) cs hb hr
        exact ⟨fun k' hk => l1.1 k' (by rw [he]; exact hk), fun hk => l1.2 (by rw [he]; exact hk)⟩

theorem code_cond {c : Operand} {x y : Code} {X Y : K} (hx : CodeOk P rs cx n ex fid x X) (hy : CodeOk P rs cx n ex fid y Y) : CodeOk P rs cx n ex fid (.cond c x y) (kCond (cO P [] c) X Y) := by
  intro fr h er fr' h' hs g w tm hw hf hn
  obtain ⟨v, hv, h1⟩ := evK_some (e := []) (x := cO P [] c) hs
  obtain ⟨t, rfl, h2⟩ := onBool_some (v := v) h1
  have he : ER g h.next.toNat [] [] tm := fun t i v h1 h2 => by simp at h1
  obtain ⟨e1, _⟩ := opd_cO hw hf he (D g h.marks) c _ hv
  simp only [conc] at e1
  cases t with
  | true =>
    obtain ⟨g1, w1, tm1, ms1, d1, m1, q1, l1⟩ := hx _ _ _ _ _ h2 g w tm hw hf hn
    exact ⟨g1, w1, tm1, ms1, d1, m1, q1, fun b k cs hb hr => .head (.one (m_cond e1)) (l1 b k cs hb hr)⟩
  | false =>
    obtain ⟨g1, w1, tm1, ms1, d1, m1, q1, l1⟩ := hy _ _ _ _ _ h2 g w tm hw hf hn
    exact ⟨g1, w1, tm1, ms1, d1, m1, q1, fun b k cs hb hr => .head (.one (m_cond e1)) (l1 b k cs hb hr)⟩

theorem code_loop {a : Code} {A : K} (ha : CodeOk P rs cx n ex fid a A) : CodeOk P rs cx n ex fid (.loop a) (kLoop A) := by
  have key : ∀ (m : Nat) fr h er fr' h', loopK A cx m fr h = some (er, fr', h') → ∀ g w tm, WR rs P.globals.size g h w → FrRel g h.next.toNat ex fr tm → n ≤ tm.size →
      ∃ g' w' tm' ms, Did P rs g h w tm ex fr' h' g' w' tm' ∧ h'.marks = ms ++ h.marks ∧ (cx.round = true → ms = []) ∧ ∀ (b : Frame) k cs, b.fn = fid → (cx.round = false → b.roundOf = none) → Lands P b (D g' h'.marks) cs k (lone (fat b tm (D g h.marks) (.code a :: .inLoop a :: k)) cs w) tm' w' er := by
    intro m
    induction m with
    | zero => intro fr h er fr' h' hs; cases hs
    | succ m ih =>
      intro fr h er fr' h' hs g w tm hw hf hn
      have hs' : resK (A cx fr h) (loopK A cx m) (fun j fr h => some (.jump j, fr, h)) none = some (er, fr', h') := hs
      rcases resK_some (r0 := A cx fr h) hs' with ⟨fr1, h1, h2, h3⟩ | ⟨j, fr1, h1, h2, h3⟩
      · obtain ⟨g1, w1, tm1, ms1, d1, m1, q1, l1⟩ := ha _ _ _ _ _ h2 g w tm hw hf hn
        obtain ⟨g2, w2, tm2, ms2, d2, m2, q2, l2⟩ := ih _ _ _ _ _ h3 g1 w1 tm1 d1.wr d1.fr (by rw [d1.size]; exact hn)
        exact ⟨g2, w2, tm2, ms2 ++ ms1, d1.trans d2, by rw [m2, m1, List.append_assoc], fun hh => by rw [q1 hh, q2 hh]; rfl, fun b k cs hb hr => .head (Steps.trans (l1 b (.inLoop a :: k) cs hb hr) (.one m_inLoop)) (l2 b k cs hb hr)⟩
      · cases h3
        obtain ⟨g1, w1, tm1, ms1, d1, m1, q1, l1⟩ := ha _ _ _ _ _ h2 g w tm hw hf hn
        exact ⟨g1, w1, tm1, ms1, d1, m1, q1, fun b k cs hb hr => .pass (fun _ hh => by cases hh) (l1 b (.inLoop a :: k) cs hb hr)⟩
  intro fr h er fr' h' hs g w tm hw hf hn
  obtain ⟨g1, w1, tm1, ms1, d1, m1, q1, l1⟩ := key cx.fuel fr h er fr' h' hs g w tm hw hf hn
  exact ⟨g1, w1, tm1, ms1, d1, m1, q1, fun b k cs hb hr => .head (.one m_loop) (l1 b k cs hb hr)⟩

theorem code_region {id : Nat} {ops : Array Oper} (hop : OpsOk P) (hc : CallOk P rs P.globals.size cx.call) : CodeOk P rs cx n ex fid (.region id ops false) (kReg (cOps P n ex ops ops.toList [])) := by
  intro fr h er fr' h' hs g w tm hw hf hn
  obtain ⟨h1, h2, g1, w1, tm1, d1, s1⟩ := seq_ok hop hc ops.toList 0 [] [] fr h er fr' h' g w tm rfl hs hw hf (fun t i v h1 h2 => by simp at h1) hn
  subst h1
  refine ⟨g1, w1, tm1, [], d1, h2, fun _ => rfl, fun b k cs _ _ => ?_⟩
  rw [h2, D_ext d1.adv.ext hw.marks]
  refine Steps.head m_region ?_
  rw [List.range_eq_range']
  exact Steps.trans (s1 b _ k cs) (.one m_region_end)

end
end Go.Proofs.YtdojpbbdcgfcnaaGreatDoor.AI
/- THE ABSTRACT INTERPRETER, 16: loops over functions. -/
namespace Go.Proofs.YtdojpbbdcgfcnaaGreatDoor.AI

section
variable {P : Program} {rs : Rnds} {cx : Cx} {n : Nat} {ex : Nat → Bool} {fid : Nat}

theorem H.ext' {h h' : H} (h1 : h.next = h'.next) (h2 : h.t = h'.t) (h3 : h.marks = h'.marks) : h = h' := by cases h; cases h'; simp_all

/-- marks do not matter to what stands where -/
theorem WR.marked {ng : Nat} {g : G} {h : H} {w : World} (hw : WR rs ng g h w) (ms : List Pos) (hm : ∀ m ∈ ms, m.toNat < h.next.toNat) : WR rs ng g ⟨h.next, h.t, ms⟩ w :=
  ⟨hw.blk, hw.inj, hw.glob, hm⟩
theorem Adv.marked {g g' : G} {h h' : H} {w w' : World} (ha : Adv g h w g' h' w') (ms ms' : List Pos) : Adv g ⟨h.next, h.t, ms⟩ w g' ⟨h'.next, h'.t, ms'⟩ w' :=
  ⟨ha.ext, ha.mono, ha.size, ha.keep, ha.fresh, ha.os, ha.tape, ha.output⟩

theorem m_rangeFunc {b : Frame} {tm : Array Value} {ds : List Deferred} {k : List Item} {cs : List Frame} {w : World} {f : Operand} {ps : Array Tmp} {A B : Code} (hr : b.roundOf = none) :
    Like P (lone (fat b tm ds (.code (.rangeFunc f ps A B) :: k)) cs w)
      (fat b tm ({ target := .collected w.heap.size, args := #[] } :: ds) (.inRangeFunc (w.heap.size + 1) :: k)) cs
      (do let d ← Deferred.ofValue ((Act.mk tm ds).eval f) #[.func (.yield (w.heap.size + 1)) #[] #[]]; invoke d.target d.args)
      ((w.alloc (.deferred (some []))).alloc (.loop { state := .ready, pending := none, fn := b.fn, tmps := tm, params := ps, assign := A, body := B, defers := w.heap.size })) := by
  intro fr' cs' w' h
  refine step_lone_go ?_
  rw [← h]
  have he : (fat b tm ({ target := .collected w.heap.size, args := #[] } :: ds) (.inRangeFunc (w.heap.size + 1) :: k)).eval f = (Act.mk tm ds).eval f := by
    rw [fat_eval]; cases f <;> rfl
  simp only [stepG, stepG.exec, fat]
  have hen : (Instr.enterLoop b.fn tm ps A B b.roundOf).run P w = .ok (w.heap.size + 1, [{ target := .collected w.heap.size, args := #[] }])
      ((w.alloc (.deferred (some []))).alloc (.loop { state := .ready, pending := none, fn := b.fn, tmps := tm, params := ps, assign := A, body := B, defers := w.heap.size })) := by
    rw [hr]
    simp [Instr.enterLoop]
  simp only [GStep.bare_after, Sem.runT_eq, hen]
  have hx : ∀ (fr0 : Frame), fr0 = fat b tm ({ target := .collected w.heap.size, args := #[] } :: ds) (.inRangeFunc (w.heap.size + 1) :: k) →
      (resolve fr0.eval { callee := .value f, args := #[.const (.func (.yield (w.heap.size + 1)) #[] #[])], argTypes := #[] } 0) = Deferred.ofValue ((Act.mk tm ds).eval f) #[.func (.yield (w.heap.size + 1)) #[] #[]] := by
    intro fr0 h0
    subst h0
    simp only [resolve, he]
    congr 1
    simp [Frame.eval]
  change (stepG.apply P true (fat b tm ({ target := .collected w.heap.size, args := #[] } :: ds) (.inRangeFunc (w.heap.size + 1) :: k)) cs none
    (do let d ← resolve (fat b tm ({ target := .collected w.heap.size, args := #[] } :: ds) (.inRangeFunc (w.heap.size + 1) :: k)).eval { callee := .value f, args := #[.const (.func (.yield (w.heap.size + 1)) #[] #[])], argTypes := #[] } 0
        invoke d.target d.args) _).bare = _
  rw [hx _ rfl]
  rfl

theorem m_endRange {b : Frame} {tm : Array Value} {ds : List Deferred} {k : List Item} {cs : List Frame} {w : World} {l : Nat} {r : Loop} (hl : w.heap[l]? = some (.loop r)) (hs : r.state ≠ .busy) :
    step P (lone (fat b tm ds (.endRangeFunc l :: k)) cs w) = .next (lone (fat b tm ds ((r.pending.map Item.code).toList ++ k)) cs { w with heap := w.heap.setIfInBounds l (.loop { r with state := .exhausted }) }) := by
  have he : (Instr.endLoop l).run P w = .ok r.pending { w with heap := w.heap.setIfInBounds l (.loop { r with state := .exhausted }) } := by
    have hg : (getObj l).run P w = .ok (.loop r) w := by simp [getObj, Sem.run, hl]
    have hst : ∀ ob, (setObj l ob).run P w = .ok () { w with heap := w.heap.setIfInBounds l ob } := fun ob => by simp [setObj, Sem.run, hl]
    simp [Instr.endLoop, Instr.getLoop, hg, hst, hs]
  refine step_lone_go ?_
  simp only [stepG, stepG.exec, fat, GStep.bare_after, Sem.runT_eq, he]
  rfl

theorem code_rangeFunc {f : Operand} {ps : Array Tmp} {A B : Code} {K : K} (hc : CallOk P rs P.globals.size cx.call) (hK : K = kRangeFunc (cO P [] f) (ridOf fid f)) (hrs : cx.round = false → rs (ridOf fid f) = some ⟨fid, ex, n, ps, A, B⟩) :
    CodeOk P rs cx n ex fid (.rangeFunc f ps A B) K := by
  subst hK
  intro fr h er fr' h' hs g w tm hw hf hn
  have hs1 : (Bool.casesOn cx.round (evK [] fr (cO P [] f) fun f =>
    h.newK .defs fun d h => h.newK (.loop .ready none fr (ridOf fid _) d) fun l h => H.casesOn h fun nx t ms =>
    Option.casesOn (cx.call f [.yield l] ⟨nx, t, d :: ms⟩) none fun r => Prod.casesOn r fun _ h =>
      h.getK l (fun b => b.onLoop (fun st p _ _ _ => LoopState.casesOn st
        (h.putK l none fun h => Option.casesOn p (some (.norm, fr, h)) fun j => some (.jump j, fr, h)) none
        (h.putK l none fun h => Option.casesOn p (some (.norm, fr, h)) fun j => some (.jump j, fr, h)) none) none) none) none : Res) = some (er, fr', h') := hs
  obtain ⟨hround, hs2⟩ := bool_some' hs1
  have hrs := hrs hround
  obtain ⟨v, hv, h1⟩ := evK_some (e := []) (x := cO P [] f) hs2
  have he : ER g h.next.toNat [] [] tm := fun t i v h1 h2 => by simp at h1
  obtain ⟨e1, e2⟩ := opd_cO hw hf he (D g h.marks) f _ hv
  rw [H.newK_eq, H.newK_eq] at h1
  obtain ⟨⟨u, hc1⟩, hcall0, h3⟩ := opt_some h1
  have hcall : cx.call v [.yield (h.new .defs).next] ⟨((h.new .defs).new (.loop .ready none fr (ridOf fid f) h.next)).next, ((h.new .defs).new (.loop .ready none fr (ridOf fid f) h.next)).t, h.next :: h.marks⟩ = some (u, hc1) := hcall0
  clear hcall0
  -- the two new blocks
  obtain ⟨a1, a2⟩ := hw.new (w' := w.alloc (.deferred (some []))) .defs w.heap.size 0 0 (by simp) (by simp) (fun k hk => by rw [heap_alloc, Array.getElem?_push, if_neg (by omega)]) rfl rfl rfl (Nat.le_refl _)
    (by simp only [BR]; rw [heap_alloc]; simp)
  generalize hg1 : g.upd h.next w.heap.size 0 0 = g1 at a1 a2
  generalize hh1 : h.new .defs = h1' at *
  have hn1 : h1'.next.toNat = h.next.toNat + 1 := by rw [← hh1]; exact H.next_new _ _
  have hs1 : (w.alloc (.deferred (some []))).heap.size = w.heap.size + 1 := by rw [heap_alloc]; simp
  obtain ⟨b1, b2⟩ := a1.new (w' := (w.alloc (.deferred (some []))).alloc (.loop { state := .ready, pending := none, fn := fid, tmps := tm, params := ps, assign := A, body := B, defers := w.heap.size }))
    (.loop .ready none fr (ridOf fid f) h.next) (w.heap.size + 1) 0 0 (by simp) (by simp) (fun k hk => by rw [heap_alloc _ (.loop _), Array.getElem?_push, if_neg (by omega)]) rfl rfl rfl (by simp)
    ⟨⟨fid, ex, n, ps, A, B⟩, tm, hrs, (hf.ext a2.ext (by omega)).ext (g1.agree_upd _ _ _ _) (by omega), hn, by omega, by
      rw [heap_alloc _ (.loop _)]
      have q1 : (g1.upd h1'.next (w.heap.size + 1) 0 0).blk h.next = w.heap.size := by
        have hne : h.next ≠ h1'.next := fun he => by have := congrArg Pos.toNat he; omega
        rw [← hg1]; simp [G.upd, hne]
      rw [q1, G.upd_blk]
      have q2 : (w.alloc (.deferred (some []))).heap.size = w.heap.size + 1 := hs1
      rw [← q2, Array.getElem?_push_size]
      rfl⟩
  generalize hg2 : g1.upd h1'.next (w.heap.size + 1) 0 0 = g2 at b1 b2
  generalize hw2 : (w.alloc (.deferred (some []))).alloc (.loop { state := .ready, pending := none, fn := fid, tmps := tm, params := ps, assign := A, body := B, defers := w.heap.size }) = w2 at b1 b2
  generalize hh2 : h1'.new (.loop .ready none fr (ridOf fid f) h.next) = h2 at *
  have hn2 : h2.next.toNat = h.next.toNat + 2 := by rw [← hh2, H.next_new]; omega
  have hbl : g2.blk h1'.next = w.heap.size + 1 := by rw [← hg2]; simp
  have hbd : g2.blk h.next = w.heap.size := by
    have hne : h.next ≠ h1'.next := fun he => by have := congrArg Pos.toNat he; omega
    rw [← hg2, ← hg1]; simp [G.upd, hne]
  have ab := a2.trans b2
  have b1m := b1.marked (h.next :: h.marks) (fun m hm => by
    rcases List.mem_cons.1 hm with rfl | hm
    · omega
    · have := hw.marks m hm; omega)
  obtain ⟨g3, w3, c1, c2, c3, c4, c5⟩ := hc v [.yield h1'.next] _ u hc1 hcall g2 w2 b1m (V.bd_mono (by show h.next.toNat ≤ h2.next.toNat; omega) v e2) (by simp only [bds, ons, V.on]; exact ⟨(by show h1'.next.toNat < h2.next.toNat; omega), trivial⟩)
  have hadv : Adv g h w g3 hc1 w3 := by
    have : Adv g h w g2 ⟨h2.next, h2.t, h.next :: h.marks⟩ w2 := ⟨ab.ext, ab.mono, ab.size, ab.keep, ab.fresh, ab.os, ab.tape, ab.output⟩
    exact this.trans c2
  have c4' : hc1.marks = h.next :: h.marks := c4
  have hcv : conc g2 v = (Act.mk tm (D g h.marks)).eval f := by rw [conc_ext ab.ext v e2, ← e1]
  have hyl : (concs g2 [.yield h1'.next]).toArray = #[.func (.yield (w.heap.size + 1)) #[] #[]] := by simp [concs, conc, hbl]
  rw [hcv, hyl] at c5
  have hD : ∀ g', g3.agree g' hc1.next.toNat → D g' (h.next :: h.marks) = { target := .collected w.heap.size, args := #[] } :: D g h.marks := fun g' ha => by
    have h1 : D g' h.marks = D g h.marks := D_ext (G.agree_trans hadv.ext ha hadv.mono) hw.marks
    have h4 : g'.blk h.next = w.heap.size := by
      have q1 := (ha h.next (by have := hadv.mono; have := c2.mono; have q : h2.next.toNat ≤ hc1.next.toNat := this; omega)).1
      have q2 := (c2.ext h.next (by show h.next.toNat < h2.next.toNat; omega)).1
      rw [q1, q2, hbd]
    simp only [D, List.map_cons, h4] at h1 ⊢
    rw [h1]
  -- the loop's end
  obtain ⟨bb, hbb, h4⟩ := getK_some h3
  obtain ⟨st, pend, fr2, rid, d, rfl, h5⟩ := loop_some (b := bb) h4
  obtain ⟨_, hlt3, r, tm2, k1, k2, k3, k4, k5⟩ := c1.blk _ _ hbb
  have hbl3 : g3.blk h1'.next = w.heap.size + 1 := by rw [(c2.ext h1'.next (by show h1'.next.toNat < h2.next.toNat; omega)).1, hbl]
  rw [hbl3] at k5 hlt3
  obtain ⟨d1, d2⟩ := c1.putDrop (w' := { w3 with heap := w3.heap.setIfInBounds (w.heap.size + 1) (.loop { state := .exhausted, pending := pend.map Jump.code, fn := r.fn, tmps := tm2, params := r.params, assign := r.assign, body := r.body, defers := g3.blk d }) }) hbb (by simp [Blk.writable]) (by simp) (fun k hk => by
    rw [hbl3] at hk
    simp only
    rw [Array.getElem?_setIfInBounds_ne (fun he => hk he.symm)]) rfl rfl rfl
  have fin : st ≠ .busy → h' = hc1.put h1'.next none → fr' = fr → ((pend = none ∧ er = .norm) ∨ ∃ j, pend = some j ∧ er = .jump j) →
      ∃ g' w' tm' ms, Did P rs g h w tm ex fr' h' g' w' tm' ∧ h'.marks = ms ++ h.marks ∧ (cx.round = true → ms = []) ∧ ∀ (b : Frame) k cs, b.fn = fid → (cx.round = false → b.roundOf = none) → Lands P b (D g' h'.marks) cs k (lone (fat b tm (D g h.marks) (.code (.rangeFunc f ps A B) :: k)) cs w) tm' w' er := by
    intro hst q1 q2 q3
    subst q1; subst q2
    refine ⟨g3, _, tm, [h.next], ⟨d1, hadv.trans d2, (hf.ext hadv.ext hadv.mono), rfl⟩, by rw [H.marks_put, c4']; rfl, (fun hr => by rw [hround] at hr; cases hr), fun b k cs hb hr => ?_⟩
    have hm := m_rangeFunc (P := P) (tm := tm) (ds := D g h.marks) (k := k) (cs := cs) (w := w) (f := f) (ps := ps) (A := A) (B := B) (hr hround)
    rw [hb, hw2] at hm
    have hdo := c5 _ _ _ (by rfl) (by intro d b r x k h; simp [fat] at h) hm
    have hend := m_endRange (P := P) (b := b) (tm := tm) (ds := { target := .collected w.heap.size, args := #[] } :: D g h.marks) (k := k) (cs := cs) (w := w3) k5 hst
    have hst1 : Steps P (lone (fat b tm (D g h.marks) (.code (.rangeFunc f ps A B) :: k)) cs w) (lone (fat b tm ({ target := .collected w.heap.size, args := #[] } :: D g h.marks) (((pend.map Jump.code).map Item.code).toList ++ k)) cs _) :=
      Steps.trans hdo (.one hend)
    rw [H.marks_put, c4', hD g3 (g3.agree_refl _)]
    rcases q3 with ⟨rfl, rfl⟩ | ⟨j, rfl, rfl⟩
    · exact hst1
    · cases j with
      | ret => exact ⟨k, hst1⟩
      | exit id => exact ⟨fun k' hk => Steps.trans hst1 (.one (m_exit hk)), fun hk => ⟨k, hk, hst1⟩⟩
  cases st with
  | busy => cases h5
  | exhausted => cases h5
  | ready =>
    have h6 : hc1.putK h1'.next none (fun h => (Option.casesOn pend (some (.norm, fr, h)) fun j => some (.jump j, fr, h) : Res)) = some (er, fr', h') := h5
    rw [H.putK_eq] at h6
    cases pend with
    | none => cases h6; exact fin (by simp) rfl rfl (.inl ⟨rfl, rfl⟩)
    | some j => cases h6; exact fin (by simp) rfl rfl (.inr ⟨j, rfl, rfl⟩)
  | done =>
    have h6 : hc1.putK h1'.next none (fun h => (Option.casesOn pend (some (.norm, fr, h)) fun j => some (.jump j, fr, h) : Res)) = some (er, fr', h') := h5
    rw [H.putK_eq] at h6
    cases pend with
    | none => cases h6; exact fin (by simp) rfl rfl (.inl ⟨rfl, rfl⟩)
    | some j => cases h6; exact fin (by simp) rfl rfl (.inr ⟨j, rfl, rfl⟩)

end
end Go.Proofs.YtdojpbbdcgfcnaaGreatDoor.AI
/- THE ABSTRACT INTERPRETER, 17: calls. -/
namespace Go.Proofs.YtdojpbbdcgfcnaaGreatDoor.AI

/-- a frame that is being left -/
def fatR (b : Frame) (tm : Array Value) (ds : List Deferred) (todo : List Item) : Frame := { b with tmps := tm, defers := ds, todo, mode := .returning }

section
variable {P : Program} {rs : Rnds} {ng : Nat} {g : G} {h : H} {w : World} {n : Nat} {ex : Nat → Bool} {fr : Fr} {tm : Array Value} {b : Frame} {ds : List Deferred} {k : List Item} {cs : List Frame}

theorem m_leave (hr : b.roundOf = none) : step P (lone (fat b tm ds []) cs w) = .next (lone (fatR b tm ds []) cs w) := step_lone_go (by simp [stepG, stepG.exec, fat, fatR, hr])
theorem m_ret (hr : b.roundOf = none) : step P (lone (fat b tm ds (.code .ret :: k)) cs w) = .next (lone (fatR b tm ds (.code .ret :: k)) cs w) := step_lone_go (by simp [stepG, stepG.exec, fat, fatR, hr])

theorem m_unwind {bk : Nat} (hb : w.heap[bk]? = some (.deferred (some []))) : step P (lone (fatR b tm ({ target := .collected bk, args := #[] } :: ds) k) cs w) = .next (lone (fatR b tm ds k) cs { w with heap := w.heap.setIfInBounds bk (.deferred none) }) := by
  have hg : (getObj bk).run P w = .ok (.deferred (some [])) w := by simp [getObj, Sem.run, hb]
  have hst : ∀ ob, (setObj bk ob).run P w = .ok () { w with heap := w.heap.setIfInBounds bk ob } := fun ob => by simp [setObj, Sem.run, hb]
  have ht : (Instr.takeDeferred bk).run P w = .ok [] { w with heap := w.heap.setIfInBounds bk (.deferred none) } := by simp [Instr.takeDeferred, hg, hst]
  refine step_lone_go ?_
  simp only [stepG, fatR, unwind, GStep.bare_after, Sem.runT_eq, ht]
  rfl

/-- the marks of a frame, taken -/
theorem dropMarks_ok : ∀ (ms : List Pos) (h : H) {k : H → Option (V × H)} {r : V × H}, dropMarksK ms h k = some r → ∃ h1, k h1 = some r ∧ h1.next = h.next ∧ h1.marks = h.marks ∧ ∀ g w, WR rs ng g h w →
    ∃ w1, WR rs ng g h1 w1 ∧ Adv g h w g h1 w1 ∧ ∀ (b : Frame) tm todo cs, Steps P (lone (fatR b tm (D g ms) todo) cs w) (lone (fatR b tm [] todo) cs w1)
  | [], h, k, r, hs => ⟨h, hs, rfl, rfl, fun g w hw => ⟨w, hw, Adv.refl _ _ _, fun _ _ _ _ => Steps.refl _ _⟩⟩
  | m :: ms, h, k, r, hs => by
    have h1 : h.getK m (fun b => Blk.casesOn b (fun _ _ _ => none) (fun _ _ => none) (fun _ _ => none) (fun _ _ _ _ _ => none) (h.putK m none fun h => dropMarksK ms h k)) none = some r := hs
    obtain ⟨bb, hbb, h2⟩ := getK_some h1
    cases bb with
    | defs =>
      have h3 : h.putK m none (fun h => dropMarksK ms h k) = some r := h2
      rw [H.putK_eq] at h3
      obtain ⟨h', k1, k2, k3, k4⟩ := dropMarks_ok ms _ h3
      refine ⟨h', k1, k2, k3, fun g w hw => ?_⟩
      obtain ⟨_, hlt, hh⟩ := hw.blk m _ hbb
      obtain ⟨a1, a2⟩ := hw.putDrop (w' := { w with heap := w.heap.setIfInBounds (g.blk m) (.deferred none) }) hbb (by simp [Blk.writable]) (by simp) (fun k hk => by
        simp only
        rw [Array.getElem?_setIfInBounds_ne (fun he => hk he.symm)]) rfl rfl rfl
      obtain ⟨w1, b1, b2, b3⟩ := k4 g _ a1
      exact ⟨w1, b1, a2.trans b2, fun b tm todo cs => Steps.head (m_unwind hh) (b3 b tm todo cs)⟩
    | _ => cases h2

/-- what a result variable tells -/
def resSem (tm : Array Value) (v : ResultVar) : Sem Value :=
  match v with
  | .tmp t => pure (tm.getD t undef)
  | .cell a t => do loadVar t (← asAddr (tm.getD a undef))
theorem results_eq (fn : Func) (tm : Array Value) : results fn tm = (do let vs ← fn.results.mapM (resSem tm); pure (if h : vs.size = 1 then vs[0] else .tuple vs)) := rfl

/-- a result variable -/
def cRes (P : Program) : ResultVar → Option R
  | .tmp t => some (.tmp (Pos.ofNat t))
  | .cell a t => (optSz P t).map fun z => .cell (Pos.ofNat a) z

theorem results_ok : ∀ (rs' : List R) (vars : List ResultVar) {kk : List V → Option (V × H)} {r : V × H}, vars.mapM (cRes P) = some rs' → resultsK h fr rs' kk = some r →
    ∃ vs, kk vs = some r ∧ ∀ g w tm, WR rs ng g h w → FrRel g h.next.toNat ex fr tm → bds h.next.toNat vs ∧ (vars.mapM (resSem tm)).run P w = .ok (concs g vs) w
  | rs', [], kk, r, hm, hs => by
    simp at hm; subst hm
    exact ⟨[], hs, fun g w tm _ _ => ⟨by simp [ons], by simp [concs]⟩⟩
  | rs', v :: vars, kk, r, hm, hs => by
    simp only [List.mapM_cons] at hm
    cases hv : cRes P v with
    | none => simp [hv] at hm
    | some x =>
      cases hvs : vars.mapM (cRes P) with
      | none => simp [hv, hvs] at hm
      | some xs =>
        simp [hv, hvs] at hm; subst hm
        cases v with
        | tmp t =>
          cases hv
          have h1 : (Option.casesOn (Tr.get (Pos.ofNat t) fr) none fun v => resultsK h fr xs fun vs => kk (v :: vs) : Option (V × H)) = some r := hs
          obtain ⟨u, hu, h2⟩ := opt_some h1
          obtain ⟨vs, k1, k2⟩ := results_ok xs vars hvs h2
          refine ⟨u :: vs, k1, fun g w tm hw hf => ?_⟩
          obtain ⟨b1, b2⟩ := k2 g w tm hw hf
          obtain ⟨_, c1, c2⟩ := hf t u hu
          refine ⟨⟨c1, b1⟩, ?_⟩
          have hg : tm.getD t undef = conc g u := by simp [Array.getD_eq_getD_getElem?, c2]
          simp only [List.mapM_cons, Sem.run_bind, resSem, hg, Sem.run_pure, Result.andThen_ok, b2, concs]
        | cell a t =>
          simp only [cRes] at hv
          cases hz : optSz P t with
          | none => simp [hz] at hv
          | some zz =>
            simp [hz] at hv; subst hv
            have h1 : (Option.casesOn (Tr.get (Pos.ofNat a) fr) none fun q => q.onPtr (fun bk off =>
              h.getK bk (fun b => b.onCells (fun l _ _ => dropK off l (fun l => Option.casesOn zz (takeK 1 l (fun l => List.casesOn l none fun v _ => resultsK h fr xs fun vs => kk (v :: vs)) none) fun n => takeK n l (fun l => resultsK h fr xs fun vs => kk (.agg l :: vs)) none) none) none) none) none : Option (V × H)) = some r := hs
            obtain ⟨q, hq, h2⟩ := opt_some h1
            obtain ⟨bk, off, rfl, h3⟩ := onPtr_some (v := q) h2
            obtain ⟨bb, hbb, h4⟩ := getK_some h3
            obtain ⟨l, kd, ty, rfl, h5⟩ := cells_some (b := bb) h4
            rw [dropK_eq] at h5
            obtain ⟨hd, h6⟩ := ite_some h5
            have fin : ∀ u, (∀ g w, WR rs ng g h w → u.bd h.next.toNat ∧ (loadVar t ⟨g.blk bk, g.off bk + off, none⟩).run P w = .ok (conc g u) w) → (resultsK h fr xs fun vs => kk (u :: vs)) = some r →
                ∃ vs, kk vs = some r ∧ ∀ g w tm, WR rs ng g h w → FrRel g h.next.toNat ex fr tm → bds h.next.toNat vs ∧ ((ResultVar.cell a t :: vars).mapM (resSem tm)).run P w = .ok (concs g vs) w := by
              intro u hu hk
              obtain ⟨vs, k1, k2⟩ := results_ok xs vars hvs hk
              refine ⟨u :: vs, k1, fun g w tm hw hf => ?_⟩
              obtain ⟨b1, b2⟩ := k2 g w tm hw hf
              obtain ⟨c0, c1⟩ := hu g w hw
              obtain ⟨_, _, c2⟩ := hf a _ hq
              refine ⟨⟨c0, b1⟩, ?_⟩
              have hg : tm.getD a undef = .pointer (some ⟨g.blk bk, g.off bk + off, none⟩) := by simp [Array.getD_eq_getD_getElem?, c2, conc]
              simp only [List.mapM_cons, Sem.run_bind, resSem, hg, asAddr, Sem.run_pure, Result.andThen_ok, c1, b2, concs]
            cases zz with
            | none =>
              have h7 : takeK 1 (l.drop off) (fun l => (List.casesOn l none fun v _ => resultsK h fr xs fun vs => kk (v :: vs) : Option (V × H))) none = some r := h6
              rw [takeK_eq] at h7
              obtain ⟨⟨hn, hj⟩, h8⟩ := ite_some h7
              have hlt : off < l.length := by simp at hn; omega
              have ht : (l.drop off).take 1 = [l[off]] := by rw [List.drop_eq_getElem_cons hlt]; rfl
              rw [ht] at h8 hj
              have hv' : l[off]? = some l[off] := by simp [hlt]
              have hj' : (l[off]).isJunk = false := by simpa [noJunk] using hj
              refine fin l[off] (fun g w hw => ?_) h8
              obtain ⟨_, _, cc, el, fz, hh, hc, hbd, _, _⟩ := hw.blk bk _ hbb
              obtain ⟨a1, a2⟩ := run_isAgg_of hz w
              refine ⟨(bds_iff _ l).1 hbd _ (List.mem_of_getElem? hv'), ?_⟩
              have hr := run_cell (P := P) (w := w) hh hc hv' hj'
              simp only [loadVar, Sem.run_bind, Sem.run_pure, Result.andThen_ok, a1]
              simp [hr]
            | some n =>
              have h7 : takeK n (l.drop off) (fun l => resultsK h fr xs fun vs => kk (.agg l :: vs)) none = some r := h6
              rw [takeK_eq] at h7
              obtain ⟨⟨hn, hj⟩, h8⟩ := ite_some h7
              refine fin _ (fun g w hw => ?_) h8
              obtain ⟨_, _, cc, el, fz, hh, hc, hbd, _, _⟩ := hw.blk bk _ hbb
              obtain ⟨a1, a2⟩ := run_isAgg_of hz w
              refine ⟨?_, ?_⟩
              · simp only [V.bd, V.on]; exact (ons_iff _ _).2 fun v hv => (ons_iff _ _).1 hbd v (List.mem_of_mem_drop (List.mem_of_mem_take hv))
              · have hr := run_cells (P := P) (w := w) (n := n) hh hc (by simp at hn; omega) hj
                simp only [loadVar, Sem.run_bind, Sem.run_pure, Result.andThen_ok, a1, run_sizeOf' (a2 rfl)]
                simp [hr, conc, run_sizeOf' (a2 rfl)]

/-- what a function ends with -/
theorem results_all {fn : Func} {rs' : List R} (hm : fn.results.toList.mapM (cRes P) = some rs') {v : V} {h' : H} (hs : (resultsK h fr rs' fun vs => some (resOf vs, h)) = some (v, h')) :
    h' = h ∧ ∀ g w tm, WR rs ng g h w → FrRel g h.next.toNat ex fr tm → v.bd h.next.toNat ∧ (results fn tm).run P w = .ok (conc g v) w := by
  obtain ⟨vs, k1, k2⟩ := results_ok (P := P) (rs := rs) (ng := ng) (ex := ex) rs' fn.results.toList hm hs
  cases k1
  refine ⟨rfl, fun g w tm hw hf => ?_⟩
  obtain ⟨b1, b2⟩ := k2 g w tm hw hf
  have hr : (fn.results.mapM (resSem tm)).run P w = .ok (concs g vs).toArray w := by
    rw [Array.mapM_eq_mapM_toList]
    simp [b2]
  cases vs with
  | nil => exact ⟨by simp [resOf, V.on, ons], by rw [results_eq]; simp only [Sem.run_bind, hr, Result.andThen_ok]; simp [resOf, conc, concs]⟩
  | cons u vs =>
    cases vs with
    | nil => exact ⟨by simpa [resOf, ons] using b1.1, by rw [results_eq]; simp only [Sem.run_bind, hr, Result.andThen_ok]; simp [resOf, concs]⟩
    | cons u' vs => exact ⟨by simp only [resOf, V.bd, V.on]; exact b1, by rw [results_eq]; simp only [Sem.run_bind, hr, Result.andThen_ok]; simp [resOf, concs, conc]⟩

end
end Go.Proofs.YtdojpbbdcgfcnaaGreatDoor.AI
/- THE ABSTRACT INTERPRETER, 18: calls. -/
namespace Go.Proofs.YtdojpbbdcgfcnaaGreatDoor.AI

section
variable {P : Program} {rs : Rnds} {ng : Nat} {g : G} {h : H} {w : World} {n : Nat} {ex : Nat → Bool} {fr : Fr} {tm : Array Value} {b : Frame} {ds : List Deferred} {k : List Item} {cs : List Frame}

/-- slots are set, one after the other -/
def setAll (fr : Fr) : List Pos → List V → Fr
  | p :: ps, v :: vs => setAll (Tr.set (some v) p fr) ps vs
  | _, _ => fr

theorem enterK_some {β : Type} {k : Fr → Option β} {r : β} : ∀ (ps : List Pos) (vs : List V) (fr : Fr), enterK ps vs fr k none = some r → ps.length = vs.length ∧ k (setAll fr ps vs) = some r
  | [], [], fr, hs => ⟨rfl, hs⟩
  | [], v :: vs, fr, hs => by cases hs
  | p :: ps, [], fr, hs => by cases hs
  | p :: ps, v :: vs, fr, hs => by
    have h1 : Tr.setK (some v) p fr (fun fr => enterK ps vs fr k none) = some r := hs
    rw [Tr.setK_eq] at h1
    obtain ⟨h2, h3⟩ := enterK_some ps vs _ h1
    exact ⟨by simp [h2], h3⟩

theorem FrRel.setAll : ∀ (ts : List Nat) (vs : List V) (fr : Fr) (tm : Array Value), FrRel g n ex fr tm → bds n vs → ts.length = vs.length → (∀ t ∈ ts, ex t = true ∧ t < tm.size) →
    FrRel g n ex (Go.Proofs.YtdojpbbdcgfcnaaGreatDoor.AI.setAll fr (ts.map Pos.ofNat) vs) ((ts.zip (concs g vs)).foldl (fun tm (x : Nat × Value) => tm.setIfInBounds x.1 x.2) tm)
  | [], [], fr, tm, hf, _, _, _ => hf
  | [], _ :: _, _, _, _, _, hl, _ => by cases hl
  | _ :: _, [], _, _, _, _, hl, _ => by cases hl
  | t :: ts, v :: vs, fr, tm, hf, hb, hl, ht => by
    have h1 := hf.out (d := t) hb.1 (ht t (by simp)).2 (ht t (by simp)).1
    exact FrRel.setAll ts vs _ _ h1 hb.2 (by simpa using hl) (fun t' h' => by simpa using ht t' (by simp [h']))

/-- slots that hold it already -/
theorem fold_same : ∀ (l : List (Nat × Value)) (tm : Array Value), (∀ x ∈ l, tm[x.1]? = some x.2) → l.foldl (fun tm (x : Nat × Value) => tm.setIfInBounds x.1 x.2) tm = tm
  | [], tm, _ => rfl
  | x :: l, tm, hx => by
    have h1 : tm.setIfInBounds x.1 x.2 = tm := by
      have h0 := hx x (by simp)
      apply Array.ext_getElem?
      intro i
      rw [Array.getElem?_setIfInBounds]
      split
      · rename_i hi; subst hi
        split
        · exact h0.symm
        · rename_i hge; rw [Array.getElem?_eq_none (by omega)] at h0; cases h0
      · rfl
    simp only [List.foldl_cons, h1]
    exact fold_same l tm fun y hy => hx y (by simp [hy])

/-- the parameters of a function are its first slots -/
theorem enter_ok {vs : List V} {tail : Array Value} (hb : bds n vs) (hx : ∀ t, t < vs.length → ex t = true) :
    FrRel g n ex (Go.Proofs.YtdojpbbdcgfcnaaGreatDoor.AI.setAll .leaf ((List.range vs.length).map Pos.ofNat) vs) ((concs g vs).toArray ++ tail) := by
  have h0 : FrRel g n ex (.leaf : Fr) ((concs g vs).toArray ++ tail) := fun t v hv => by rw [Tr.get_leaf] at hv; cases hv
  have h1 := FrRel.setAll (List.range vs.length) vs .leaf _ h0 hb (by simp) (fun t ht => by
    have ht' : t < vs.length := by simpa using ht
    exact ⟨hx t ht', by simp [concs_length]; omega⟩)
  rwa [fold_same] at h1
  intro x hx
  obtain ⟨i, hi⟩ := List.mem_iff_getElem?.1 hx
  rw [List.getElem?_zip_eq_some] at hi
  obtain ⟨q1, q2⟩ := hi
  have hi2 : i < vs.length := by
    rcases Nat.lt_or_ge i vs.length with hh | hh
    · exact hh
    · rw [List.getElem?_eq_none (by simpa using hh)] at q1; cases q1
  have : x.1 = i := by rw [List.getElem?_range hi2] at q1; cases q1; rfl
  rw [this, Array.getElem?_append_left (by simp [concs_length]; exact hi2)]
  simpa using q2

/-! ### rounds -/
theorem does_round {s : Sem Next} {w1 w' : World} {l f : Nat} {tmps : Array Value} {A B : Code} {v : Value} (hs : s.run P w = .ok (.round l f tmps A B) w1)
    (hc : ∀ (c : Frame) (cs : List Frame), Steps P (lone (Frame.round l f tmps A B .normal) (c :: cs) w1) (lone (c.finish v) cs w')) : Does P s w v w' := fun fr cs M _ hp hl => by
  have h1 : step P M = .next (lone (Frame.round l f tmps A B .normal) (fr :: cs) w1) := hl _ _ _ (by
    simp [stepG.apply, Sem.runT_eq, hs])
  exact .head h1 (hc fr cs)

theorem m_begin {l : Nat} {r : Loop} (hr : b.roundOf = some l) (hl : w.heap[l]? = some (.loop r)) (hs : r.state = .ready) :
    step P (lone (fat b tm ds (.beginRound :: k)) cs w) = .next (lone (fat b tm ds k) cs { w with heap := w.heap.setIfInBounds l (.loop { r with state := .busy }) }) := by
  have hg : (getObj l).run P w = .ok (.loop r) w := by simp [getObj, Sem.run, hl]
  have hst : ∀ ob, (setObj l ob).run P w = .ok () { w with heap := w.heap.setIfInBounds l ob } := fun ob => by simp [setObj, Sem.run, hl]
  refine step_lone_go ?_
  have hb : (do b.roundOf.elim (stuck "beginRound: no round") Instr.beginRound; pure .skip : Sem Next).run P w = .ok .skip { w with heap := w.heap.setIfInBounds l (.loop { r with state := .busy }) } := by
    rw [hr]; simp [Instr.beginRound, Instr.getLoop, hg, hst, hs]
  simp only [stepG, stepG.exec, fat, stepG.apply, GStep.bare_after, if_true, Sem.runT_eq]
  rw [hb]
  rfl

theorem run_endRound {l : Nat} {r : Loop} {j : Option Code} (hl : w.heap[l]? = some (.loop r)) :
    (Instr.endRound l j).run P w = .ok (.bool j.isNone) { w with heap := w.heap.setIfInBounds l (.loop { r with state := if j.isNone then .ready else .done, pending := j }) } := by
  have hg : (getObj l).run P w = .ok (.loop r) w := by simp [getObj, Sem.run, hl]
  have hst : ∀ ob, (setObj l ob).run P w = .ok () { w with heap := w.heap.setIfInBounds l ob } := fun ob => by simp [setObj, Sem.run, hl]
  simp [Instr.endRound, Instr.getLoop, hg, hst]

theorem m_endRound {l : Nat} {r : Loop} {c : Frame} (hr : b.roundOf = some l) (hk : b.kind = .normal) (hl : w.heap[l]? = some (.loop r)) :
    step P (lone (fat b tm ds []) (c :: cs) w) = .next (lone (c.finish (.bool true)) cs { w with heap := w.heap.setIfInBounds l (.loop { r with state := .ready, pending := none }) }) := by
  have he := run_endRound (P := P) (j := none) hl
  refine step_lone_go ?_
  simp only [stepG, stepG.exec, fat, hr, GStep.bare_after, Sem.runT_eq, he, doReturn, hk]
  rfl
theorem m_endRound_ret {l : Nat} {r : Loop} {c : Frame} (hr : b.roundOf = some l) (hk : b.kind = .normal) (hl : w.heap[l]? = some (.loop r)) :
    step P (lone (fat b tm ds (.code .ret :: k)) (c :: cs) w) = .next (lone (c.finish (.bool false)) cs { w with heap := w.heap.setIfInBounds l (.loop { r with state := .done, pending := some .ret }) }) := by
  have he := run_endRound (P := P) (j := some .ret) hl
  refine step_lone_go ?_
  simp only [stepG, stepG.exec, fat, hr, GStep.bare_after, Sem.runT_eq, he, doReturn, hk]
  rfl
theorem m_endRound_exit {l id : Nat} {r : Loop} {c : Frame} (hr : b.roundOf = some l) (hk : b.kind = .normal) (hl : w.heap[l]? = some (.loop r)) (hx : exitTo id k = none) :
    step P (lone (fat b tm ds (.code (.exit id) :: k)) (c :: cs) w) = .next (lone (c.finish (.bool false)) cs { w with heap := w.heap.setIfInBounds l (.loop { r with state := .done, pending := some (.exit id) }) }) := by
  have he := run_endRound (P := P) (j := some (.exit id)) hl
  refine step_lone_go ?_
  simp only [stepG, stepG.exec, fat, hx, Option.elim_none, hr, GStep.bare_after, Sem.runT_eq, he, doReturn, hk]
  rfl

end
end Go.Proofs.YtdojpbbdcgfcnaaGreatDoor.AI
/- THE ABSTRACT INTERPRETER, 19: functions and calls. -/
namespace Go.Proofs.YtdojpbbdcgfcnaaGreatDoor.AI

/-- the word of a function is its code's -/
structure FnOk (P : Program) (rs : Rnds) (f : Nat) (fk : FK) : Prop where
  ok : ∃ fn code ex n, P.funcs[f]? = some fn ∧ fn.body = some code ∧ (fn.name == "runtime.NumGoroutine") = false ∧ fk.params = (List.range fk.params.length).map Pos.ofNat ∧
    (∀ t, t < fk.params.length → ex t = true) ∧ n ≤ fn.ntmps ∧ fn.results.toList.mapM (cRes P) = some fk.results ∧
    ∀ call m, CallOk P rs P.globals.size call → CodeOk P rs ⟨call, m, false⟩ n ex f code fk.body

/-- .. and that of a loop's rounds is the loop's -/
def RoundOk (P : Program) (rs : Rnds) (rid : Nat) (x : List Pos × K × K) : Prop :=
  ∃ r, rs rid = some r ∧ x.1 = r.params.toList.map Pos.ofNat ∧ (∀ t ∈ r.params.toList, r.ex t = true ∧ t < r.size) ∧
    (∀ call m, CallOk P rs P.globals.size call → CodeOk P rs ⟨call, m, true⟩ r.size r.ex r.fn r.assign x.2.1) ∧
    (∀ call m, CallOk P rs P.globals.size call → CodeOk P rs ⟨call, m, true⟩ r.size r.ex r.fn r.body x.2.2)

/-- a function that is not run, but known -/
def NatOk (P : Program) (rs : Rnds) (f : Nat) (nat : List V → H → Option (V × H)) : Prop :=
  ∀ (args : List V) (h : H) (v : V) (h' : H), nat args h = some (v, h') → ∀ (g : G) (w : World), WR rs P.globals.size g h w → bds h.next.toNat args →
    OpOk rs P.globals.size P g h w (callFunc f (concs g args).toArray) v h'

structure PrgOk (P : Program) (rs : Rnds) (p : Prg) : Prop where
  fs : ∀ f fk, p.fs f = some fk → FnOk P rs f fk
  nat : ∀ f nt, p.nat f = some nt → NatOk P rs f nt
  meth : ∀ t v m f r, p.meth t v m = some (f, r) → ∀ (g : G) (q : Pos → Prop) w, v.on q → r.on q ∧ (Go.method (P.types.size + Made.depth) t (conc g v) m).run P w = .ok (f, conc g r) w
  rnd : ∀ rid x, p.rnd rid = some x → RoundOk P rs rid x

section
variable {P : Program} {rs : Rnds} {ng : Nat} {g : G} {h : H} {w : World} {p : Prg}

theorem run_callFunc {f : Nat} {fn : Func} {code : Code} (hf : P.funcs[f]? = some fn) (hb : fn.body = some code) (hn : (fn.name == "runtime.NumGoroutine") = false) (args : Array Value) (w : World) : (callFunc f args).run P w = .ok (.enter f args) w := by
  have hn' : ¬ fn.name = "runtime.NumGoroutine" := by simpa using hn
  simp [callFunc, hf, hb, hn']

/-- a frame that is left ends the call -/
theorem leave_ok {f : Nat} {fn : Func} {ms : List Pos} {rs' : List R} {fr : Fr} {ex : Nat → Bool} {v : V} {h' : H} (hf : P.funcs[f]? = some fn) (hm : fn.results.toList.mapM (cRes P) = some rs') (hs : leaveK ms rs' fr h = some (v, h'))
    {g : G} {w : World} {tm : Array Value} (hw : WR rs P.globals.size g h w) (hfr : FrRel g h.next.toNat ex fr tm) (hms : ∀ m ∈ ms, m.toNat < h.next.toNat) :
    ∃ w', WR rs P.globals.size g h' w' ∧ Adv g ⟨h.next, h.t, ms⟩ w g h' w' ∧ v.bd h'.next.toNat ∧ h'.marks = ms ∧ ∀ (b : Frame) todo cs, b.fn = f → b.kind = .normal →
      ∃ fr', Steps P (lone (fatR b tm (D g h.marks) todo) cs w) (lone fr' cs w') ∧ fr'.fn = f ∧ fr'.leaving P w' (.returned (conc g v)) := by
  have h1 : dropMarksK h.marks ⟨h.next, h.t, ms⟩ (fun h => resultsK h fr rs' fun vs => some (resOf vs, h)) = some (v, h') := hs
  obtain ⟨h2, k1, k2, k3, k4⟩ := dropMarks_ok (P := P) (rs := rs) (ng := P.globals.size) h.marks _ h1
  obtain ⟨rfl, k5⟩ := results_all (P := P) (rs := rs) (ng := P.globals.size) (ex := ex) hm k1
  obtain ⟨w', a1, a2, a3⟩ := k4 g w (hw.marked ms hms)
  have hfr' : FrRel g h'.next.toNat ex fr tm := by rw [k2]; exact hfr
  obtain ⟨b1, b2⟩ := k5 g w' tm a1 hfr'
  refine ⟨w', a1, a2, b1, k3, fun b todo cs hbf hbk => ⟨_, a3 b tm todo cs, hbf, rfl, rfl, hbk, fn, ?_, b2⟩⟩
  show P.funcs[b.fn]? = some fn
  rw [hbf]; exact hf

/-- A FUNCTION WITH A BODY -/
theorem body_ok {call : Call} {m f : Nat} {fk : FK} (hc : CallOk P rs P.globals.size call) (hfk : FnOk P rs f fk) {args : List V} {h : H} {v : V} {h' : H} (hs : bodyK call m fk args h = some (v, h'))
    {g : G} {w : World} (hw : WR rs P.globals.size g h w) (ha : bds h.next.toNat args) :
    ∃ g' w', WR rs P.globals.size g' h' w' ∧ Adv g h w g' h' w' ∧ v.bd h'.next.toNat ∧ h'.marks = h.marks ∧ Calls P f (concs g args).toArray w (fun e w2 => e = .returned (conc g' v) ∧ w2 = w') := by
  obtain ⟨fn, code, ex, n, f1, f2, f3, f4, f5, f6, f7, f8⟩ := hfk.ok
  obtain ⟨ps, rs', body⟩ := fk
  have hs1 : enterK ps args .leaf (fun fr => resK (body ⟨call, m, false⟩ fr ⟨h.next, h.t, []⟩)
      (fun fr h' => leaveK h.marks rs' fr h') (fun j fr h' => Jump.casesOn j (fun _ => none) (leaveK h.marks rs' fr h')) none) none = some (v, h') := hs
  obtain ⟨hlen, h1⟩ := enterK_some _ _ _ hs1
  have hw0 : WR rs P.globals.size g ⟨h.next, h.t, []⟩ w := hw.marked [] (by simp)
  have hfr0 : FrRel g h.next.toNat ex (Go.Proofs.YtdojpbbdcgfcnaaGreatDoor.AI.setAll .leaf ps args) ((concs g args).toArray ++ Array.replicate (fn.ntmps - (concs g args).toArray.size) undef) := by
    have := enter_ok (g := g) (ex := ex) (tail := Array.replicate (fn.ntmps - (concs g args).toArray.size) undef) ha (fun t ht => f5 t (by simp only; omega))
    have f4' : ps = (List.range ps.length).map Pos.ofNat := f4
    rw [f4', hlen]; exact this
  have hsz : n ≤ ((concs g args).toArray ++ Array.replicate (fn.ntmps - (concs g args).toArray.size) undef).size := by simp; omega
  have hent : Frame.enter P f (concs g args).toArray .normal = fat (Frame.enter P f (concs g args).toArray .normal) ((concs g args).toArray ++ Array.replicate (fn.ntmps - (concs g args).toArray.size) undef) [] [.code code] := by
    simp [Frame.enter, fat, f1, f2]
  have hcode := f8 call m hc
  have fin : ∀ fr1 h1' er, body ⟨call, m, false⟩ (Go.Proofs.YtdojpbbdcgfcnaaGreatDoor.AI.setAll .leaf ps args) ⟨h.next, h.t, []⟩ = some (er, fr1, h1') → leaveK h.marks rs' fr1 h1' = some (v, h') → (er = .norm ∨ er = .jump .ret) →
      ∃ g' w', WR rs P.globals.size g' h' w' ∧ Adv g h w g' h' w' ∧ v.bd h'.next.toNat ∧ h'.marks = h.marks ∧ Calls P f (concs g args).toArray w (fun e w2 => e = .returned (conc g' v) ∧ w2 = w') := by
    intro fr1 h1' er hb hl her
    obtain ⟨g1, w1, tm1, ms, d1, m1, _, l1⟩ := hcode _ _ _ _ _ hb g w _ hw0 hfr0 hsz
    obtain ⟨w', b1, b2, b3, b4, b5⟩ := leave_ok (P := P) f1 f7 hl d1.wr d1.fr (fun q hq => Nat.lt_of_lt_of_le (hw.marks q hq) d1.adv.mono)
    have hadv : Adv g h w g1 h' w' := by
      have q1 : Adv g h w g1 ⟨h1'.next, h1'.t, h.marks⟩ w1 := ⟨d1.adv.ext, d1.adv.mono, d1.adv.size, d1.adv.keep, d1.adv.fresh, d1.adv.os, d1.adv.tape, d1.adv.output⟩
      exact q1.trans b2
    refine ⟨g1, w', b1, hadv, b3, b4, fun cs => ?_⟩
    have hl1 := l1 (Frame.enter P f (concs g args).toArray .normal) [] cs rfl (fun _ => rfl)
    have hD0 : D g (⟨h.next, h.t, []⟩ : H).marks = [] := rfl
    rw [hD0] at hl1
    rcases her with rfl | rfl
    · obtain ⟨fr', s1, s2, s3⟩ := b5 (Frame.enter P f (concs g args).toArray .normal) [] cs rfl rfl
      refine ⟨_, w', fr', ⟨rfl, rfl⟩, ?_, s2, s3⟩
      show Steps P _ _
      rw [hent]
      exact Steps.trans hl1 (Steps.head (m_leave rfl) s1)
    · obtain ⟨k1, hl2⟩ := hl1
      obtain ⟨fr', s1, s2, s3⟩ := b5 (Frame.enter P f (concs g args).toArray .normal) (.code .ret :: k1) cs rfl rfl
      refine ⟨_, w', fr', ⟨rfl, rfl⟩, ?_, s2, s3⟩
      show Steps P _ _
      rw [hent]
      exact Steps.trans hl2 (Steps.head (m_ret rfl) s1)
  cases hb : body ⟨call, m, false⟩ (Go.Proofs.YtdojpbbdcgfcnaaGreatDoor.AI.setAll .leaf ps args) ⟨h.next, h.t, []⟩ with
  | none => rw [hb] at h1; cases h1
  | some x =>
    obtain ⟨er, fr1, h1'⟩ := x
    rw [hb] at h1
    cases er with
    | norm => exact fin fr1 h1' .norm hb h1 (.inl rfl)
    | jump j =>
      cases j with
      | exit id => cases h1
      | ret => exact fin fr1 h1' (.jump .ret) hb h1 (.inr rfl)

/-- a function, by its number -/
theorem go_ok {call : Call} {m f : Nat} (hp : PrgOk P rs p) (hc : CallOk P rs P.globals.size call) {args : List V} {h : H} {v : V} {h' : H} (hs : goK p call m f args h = some (v, h'))
    {g : G} {w : World} (hw : WR rs P.globals.size g h w) (ha : bds h.next.toNat args) : OpOk rs P.globals.size P g h w (callFunc f (concs g args).toArray) v h' := by
  unfold goK at hs
  cases hn : p.nat f with
  | some nt => rw [hn] at hs; exact hp.nat f nt hn args h v h' hs g w hw ha
  | none =>
    rw [hn] at hs
    cases hf : p.fs f with
    | none => rw [hf] at hs; cases hs
    | some fk =>
      rw [hf] at hs
      obtain ⟨g', w', a1, a2, a3, a4, a5⟩ := body_ok hc (hp.fs f fk hf) hs hw ha
      obtain ⟨fn, code, ex, n, f1, f2, f3, _⟩ := (hp.fs f fk hf).ok
      exact ⟨g', w', a1, a2, a3, a4, does_enter (run_callFunc f1 f2 f3 _ w) a5⟩

end
end Go.Proofs.YtdojpbbdcgfcnaaGreatDoor.AI
/- THE ABSTRACT INTERPRETER, 20: rounds, and calls of all kinds. -/
namespace Go.Proofs.YtdojpbbdcgfcnaaGreatDoor.AI

section
variable {P : Program} {rs : Rnds} {ng : Nat} {g : G} {h : H} {w : World} {p : Prg}

/-- a loop's record of ours has turned -/
theorem loop_put (hw : WR rs ng g h w) {l d : Pos} {st : LoopState} {pend : Option Jump} {fr : Fr} {rid : Nat} (hb : h.get l = some (.loop st pend fr rid d)) :
    ∃ r tm, rs rid = some r ∧ FrRel g h.next.toNat r.ex fr tm ∧ r.size ≤ tm.size ∧
      w.heap[g.blk l]? = some (.loop { state := st, pending := pend.map Jump.code, fn := r.fn, tmps := tm, params := r.params, assign := r.assign, body := r.body, defers := g.blk d }) ∧
      ∀ st' pend', WR rs ng g (h.put l (some (.loop st' pend' fr rid d))) { w with heap := w.heap.setIfInBounds (g.blk l) (.loop { state := st', pending := pend'.map Jump.code, fn := r.fn, tmps := tm, params := r.params, assign := r.assign, body := r.body, defers := g.blk d }) } ∧
        Adv g h w g (h.put l (some (.loop st' pend' fr rid d))) { w with heap := w.heap.setIfInBounds (g.blk l) (.loop { state := st', pending := pend'.map Jump.code, fn := r.fn, tmps := tm, params := r.params, assign := r.assign, body := r.body, defers := g.blk d }) } := by
  obtain ⟨_, hlt, r, tm, k1, k2, k3, k4, k5⟩ := hw.blk l _ hb
  refine ⟨r, tm, k1, k2, k3, k5, fun st' pend' => ?_⟩
  exact hw.put hb (by simp [Blk.writable]) (by simp) (fun k hk => by
    simp only
    rw [Array.getElem?_setIfInBounds_ne (fun he => hk he.symm)]) rfl rfl rfl ⟨r, tm, k1, k2, k3, k4, by simp [hlt]⟩

theorem fold_zip (ts : Array Nat) (vs : Array Value) (tm : Array Value) : (ts.zip vs).foldl (fun tmps (x : Nat × Value) => tmps.setIfInBounds x.1 x.2) tm = (ts.toList.zip vs.toList).foldl (fun tm (x : Nat × Value) => tm.setIfInBounds x.1 x.2) tm := by
  rw [← Array.foldl_toList, Array.toList_zip]

theorem endRoundK_some {l : Pos} {ms : List Pos} {j : Option Jump} {v : V} {h' : H} (hs : endRoundK l ms j h = some (v, h')) :
    h.marks = [] ∧ ∃ st pend fr rid d, h.get l = some (.loop st pend fr rid d) ∧ v = .bool j.isNone ∧
      h' = (⟨h.next, h.t, ms⟩ : H).put l (some (.loop (if j.isNone then .ready else .done) j fr rid d)) := by
  have h1 : (List.casesOn h.marks (H.getK ⟨h.next, h.t, ms⟩ l (fun b => b.onLoop (fun _ _ fr rid d =>
    H.putK ⟨h.next, h.t, ms⟩ l (some (.loop (Option.casesOn j .ready fun _ => .done) j fr rid d)) fun h => some (V.bool (Option.casesOn j true fun _ => false), h)) none) none) fun _ _ => none : Option (V × H)) = some (v, h') := hs
  cases hm : h.marks with
  | cons a b => rw [hm] at h1; cases h1
  | nil =>
    rw [hm] at h1
    obtain ⟨bb, hbb, h2⟩ := getK_some h1
    obtain ⟨st, pend, fr, rid, d, rfl, h3⟩ := loop_some (b := bb) h2
    rw [H.putK_eq] at h3
    refine ⟨rfl, st, pend, fr, rid, d, hbb, ?_⟩
    cases j with
    | none => cases h3; exact ⟨rfl, rfl⟩
    | some j => cases h3; exact ⟨rfl, rfl⟩

theorem round_ok {call : Call} {m : Nat} (hp : PrgOk P rs p) (hc : CallOk P rs P.globals.size call) {l : Pos} {args : List V} {h : H} {v : V} {h' : H} (hs : roundK p call m l args h = some (v, h'))
    {g : G} {w : World} (hw : WR rs P.globals.size g h w) (ha : bds h.next.toNat args) :
    OpOk rs P.globals.size P g h w (do let d ← Deferred.ofValue (conc g (.yield l)) (concs g args).toArray; invoke d.target d.args) v h' := by
  have hs1 : h.getK l (fun b => b.onLoop (fun _ _ fr rid _ =>
    Option.casesOn (p.rnd rid) none fun r => Prod.casesOn r fun ps r => Prod.casesOn r fun assign body =>
      enterK ps args fr (fun fr' => resK (assign ⟨call, m, true⟩ fr' ⟨h.next, h.t, []⟩) (fun fr' h1 =>
        h1.getK l (fun b => b.onLoop (fun st pend fr rid d => LoopState.casesOn st
          (h1.putK l (some (.loop .busy pend fr rid d)) fun h2 => resK (body ⟨call, m, true⟩ fr' h2)
            (fun _ h3 => endRoundK l h.marks none h3) (fun j _ h3 => endRoundK l h.marks (some j) h3) none)
          none none none) none) none) (fun _ _ _ => none) none) none) none) none = some (v, h') := hs
  obtain ⟨bb, hbb, hs2⟩ := getK_some hs1
  obtain ⟨st0, pend0, fr, rid, d0, rfl, hs3⟩ := loop_some (b := bb) hs2
  obtain ⟨⟨ps, A, B⟩, hrnd, hs4⟩ := opt_some hs3
  obtain ⟨r, r1, r2, r3, r4, r5⟩ := hp.rnd rid _ hrnd
  simp only at r2 r4 r5
  obtain ⟨hlen, hs5⟩ := enterK_some _ _ _ hs4
  obtain ⟨r', tm, q1, q2, q3, q4, _⟩ := loop_put hw hbb
  obtain rfl : r = r' := by rw [r1] at q1; cases q1; rfl
  -- the round's frame
  have hw0 : WR rs P.globals.size g ⟨h.next, h.t, []⟩ w := hw.marked [] (by simp)
  have hlen' : r.params.toList.length = args.length := by rw [r2] at hlen; simpa using hlen
  have hfr := FrRel.setAll r.params.toList args fr tm q2 ha hlen' (fun t ht => ⟨(r3 t ht).1, Nat.lt_of_lt_of_le (r3 t ht).2 q3⟩)
  rw [← r2] at hfr
  generalize htm1 : ((r.params.toList.zip (concs g args)).foldl (fun tm (x : Nat × Value) => tm.setIfInBounds x.1 x.2) tm) = tm1 at hfr
  have hsz1 : r.size ≤ tm1.size := by
    have : ∀ (l : List (Nat × Value)) (tm : Array Value), (l.foldl (fun tm (x : Nat × Value) => tm.setIfInBounds x.1 x.2) tm).size = tm.size := by
      intro l; induction l with
      | nil => intro tm; rfl
      | cons x l ih => intro tm; simp [ih]
    rw [← htm1, this]; exact q3
  have hyield : (do let d ← Deferred.ofValue (conc g (.yield l)) (concs g args).toArray; invoke d.target d.args : Sem Next).run P w = .ok (.round (g.blk l) r.fn tm1 r.assign r.body) w := by
    have hg : (getObj (g.blk l)).run P w = .ok (.loop { state := st0, pending := pend0.map Jump.code, fn := r.fn, tmps := tm, params := r.params, assign := r.assign, body := r.body, defers := g.blk d0 }) w := by simp [getObj, Sem.run, q4]
    have hsize : (concs g args).toArray.size = r.params.size := by simp [concs_length]; simpa using hlen'.symm
    have hz := fold_zip r.params (concs g args).toArray tm
    simp only [htm1] at hz
    simp only [conc, Deferred.ofValue, Sem.run_bind, Sem.run_pure, Result.andThen_ok, invoke, Array.empty_append, Instr.yield, Instr.getLoop, hg]
    rw [if_neg (by simp [hsize])]
    simp only [Sem.run_pure]
    rw [← hz]
  cases hA : A ⟨call, m, true⟩ (Go.Proofs.YtdojpbbdcgfcnaaGreatDoor.AI.setAll fr ps args) ⟨h.next, h.t, []⟩ with
  | none => rw [hA] at hs5; cases hs5
  | some x =>
    obtain ⟨er, fr1, h1⟩ := x
    rw [hA] at hs5
    cases er with
    | jump j => cases hs5
    | norm =>
      obtain ⟨g1, w1, tm2, ms1, d1, m1, m2, l1⟩ := r4 call m hc _ _ _ _ _ hA g w tm1 hw0 hfr hsz1
      have hms1 : h1.marks = [] := by rw [m1, m2 rfl]; rfl
      have hs6 : h1.getK l (fun b => b.onLoop (fun st pend fr rid d => LoopState.casesOn st
          (h1.putK l (some (.loop .busy pend fr rid d)) fun h2 => resK (B ⟨call, m, true⟩ fr1 h2)
            (fun _ h3 => endRoundK l h.marks none h3) (fun j _ h3 => endRoundK l h.marks (some j) h3) none)
          none none none) none) none = some (v, h') := hs5
      obtain ⟨bb1, hbb1, hs7⟩ := getK_some hs6
      obtain ⟨st1, pend1, fr2, rid1, dd1, rfl, hs8⟩ := loop_some (b := bb1) hs7
      cases st1 with
      | busy => cases hs8
      | done => cases hs8
      | exhausted => cases hs8
      | ready =>
        have hs9 : h1.putK l (some (.loop .busy pend1 fr2 rid1 dd1)) (fun h2 => resK (B ⟨call, m, true⟩ fr1 h2)
            (fun _ h3 => endRoundK l h.marks none h3) (fun j _ h3 => endRoundK l h.marks (some j) h3) none) = some (v, h') := hs8
        rw [H.putK_eq] at hs9
        obtain ⟨rr1, tmr1, z1, z2, z3, z4, z5⟩ := loop_put d1.wr hbb1
        obtain ⟨y1, y2⟩ := z5 .busy pend1
        have hbl1 : g1.blk l = g.blk l := (d1.adv.ext l (hw.lt hbb)).1
        have hfr1 : FrRel g1 (h1.put l (some (.loop .busy pend1 fr2 rid1 dd1))).next.toNat r.ex fr1 tm2 := d1.fr
        have fin : ∀ (er2 : E) fr3 h3 (jj : Option Jump), B ⟨call, m, true⟩ fr1 (h1.put l (some (.loop .busy pend1 fr2 rid1 dd1))) = some (er2, fr3, h3) → endRoundK l h.marks jj h3 = some (v, h') → (match jj with | none => er2 = .norm | some j => er2 = .jump j) →
            OpOk rs P.globals.size P g h w (do let d ← Deferred.ofValue (conc g (.yield l)) (concs g args).toArray; invoke d.target d.args) v h' := by
          intro er2 fr3 h3 jj hB hE hj
          obtain ⟨e1, st3, pend3, fr4, rid3, dd3, e2, rfl, rfl⟩ := endRoundK_some hE
          obtain ⟨g3, w3, tm3, ms3, d3, m3, m4, l3⟩ := r5 call m hc _ _ _ _ _ hB g1 _ tm2 y1 hfr1 (by rw [d1.size]; exact hsz1)
          obtain ⟨rr3, tmr3, x1, x2, x3, x4, x5⟩ := loop_put d3.wr e2
          obtain ⟨u1, u2⟩ := x5 (if jj.isNone then .ready else .done) jj
          have hadv3 : Adv g ⟨h.next, h.t, []⟩ w g3 h3 w3 := (d1.adv.trans y2).trans d3.adv
          have hbl3 : g3.blk l = g.blk l := (hadv3.ext l (hw.lt hbb)).1
          have hadv4 := hadv3.trans u2
          rw [hbl3] at u1 u2 hadv4 x4
          have u1' := u1.marked h.marks (fun q hq => Nat.lt_of_lt_of_le (hw.marks q hq) hadv4.mono)
          refine ⟨g3, _, u1', ⟨hadv4.ext, hadv4.mono, hadv4.size, hadv4.keep, hadv4.fresh, hadv4.os, hadv4.tape, hadv4.output⟩, by simp [V.on], rfl, does_round hyield fun c cs => ?_⟩
          have hst : Frame.round (g.blk l) r.fn tm1 r.assign r.body .normal = fat (Frame.round (g.blk l) r.fn tm1 r.assign r.body .normal) tm1 [] [.code r.assign, .beginRound, .code r.body] := rfl
          rw [hst]
          have s1 := l1 (Frame.round (g.blk l) r.fn tm1 r.assign r.body .normal) [.beginRound, .code r.body] (c :: cs) rfl (fun hh => by cases hh)
          have hD1 : D g1 h1.marks = [] := by rw [hms1]; rfl
          have hD2 : D g1 (h1.put l (some (.loop .busy pend1 fr2 rid1 dd1))).marks = [] := by rw [H.marks_put]; exact hD1
          have hD3 : D g3 h3.marks = [] := by rw [e1]; rfl
          have s3 := l3 (Frame.round (g.blk l) r.fn tm1 r.assign r.body .normal) [] (c :: cs) rfl (fun hh => by cases hh)
          rw [hD1] at s1
          rw [hD2, hD3] at s3
          rw [hbl1] at z4 s3
          have s2 : Steps P (lone (fat (Frame.round (g.blk l) r.fn tm1 r.assign r.body .normal) tm2 [] [.beginRound, .code r.body]) (c :: cs) w1) _ := .one (m_begin rfl z4 rfl)
          have s12 := Steps.trans (show Steps P _ _ from s1) s2
          cases jj with
          | none =>
            simp only at hj; subst hj
            exact Steps.trans s12 (Steps.trans s3 (.one (m_endRound rfl rfl x4)))
          | some j =>
            simp only at hj; subst hj
            cases j with
            | ret =>
              obtain ⟨k1, s4⟩ := s3
              exact Steps.trans s12 (Steps.trans s4 (.one (m_endRound_ret rfl rfl x4)))
            | exit id =>
              obtain ⟨k1, hk1, s4⟩ := s3.2 rfl
              exact Steps.trans s12 (Steps.trans s4 (.one (m_endRound_exit rfl rfl x4 hk1)))
        cases hB : B ⟨call, m, true⟩ fr1 (h1.put l (some (.loop .busy pend1 fr2 rid1 dd1))) with
        | none => rw [hB] at hs9; cases hs9
        | some x =>
          obtain ⟨er2, fr3, h3⟩ := x
          rw [hB] at hs9
          cases er2 with
          | norm => exact fin .norm fr3 h3 none hB hs9 rfl
          | jump j => exact fin (.jump j) fr3 h3 (some j) hB hs9 rfl

/-- ALL CALLS -/
theorem call_ok (hp : PrgOk P rs p) : ∀ n, CallOk P rs P.globals.size (callK p n)
  | 0 => fun f args h v h' hs => by cases hs
  | n + 1 => fun f args h v h' hs g w hw hf ha => by
    have ih := call_ok hp n
    cases f with
    | yield l =>
      have h1 : roundK p (callK p n) n l args h = some (v, h') := hs
      exact round_ok hp ih h1 hw ha
    | fn f first cap =>
      simp only [V.bd, V.on] at hf
      cases f with
      | func f =>
        have h1 : appK args cap (fun args => appK first args fun args => goK p (callK p n) n f args h) = some (v, h') := hs
        rw [appK_eq, appK_eq] at h1
        have h2 := go_ok hp ih h1 hw (ons_append.2 ⟨hf.1, ons_append.2 ⟨ha, hf.2⟩⟩)
        have he : (do let d ← Deferred.ofValue (conc g (.fn (.func f) first cap)) (concs g args).toArray; invoke d.target d.args : Sem Next) = callFunc f (concs g (first ++ (args ++ cap))).toArray := by
          simp only [conc, Deferred.ofValue]
          show callFunc f _ = _
          congr 1
          simp [concs_append]
        rw [he]; exact h2
      | method m =>
        have h1 : (List.casesOn first (List.casesOn args none fun r args =>
          V.casesOn r (fun _ => none) (fun _ _ => none) (fun _ => none) none (fun _ _ => none) none (fun _ _ _ _ => none) none (fun _ => none) (fun _ _ _ => none) (fun _ => none) none
            (fun t v => Option.casesOn (p.meth t v m) none fun r => Prod.casesOn r fun f r => goK p (callK p n) n f (r :: args) h) none (fun _ => none) (fun _ => none) none (fun _ => none)) fun _ _ => none : Option (V × H)) = some (v, h') := hs
        cases first with
        | cons a l => cases h1
        | nil =>
          cases args with
          | nil => cases h1
          | cons q args =>
            cases q with
            | ifc t u =>
              have h2 : (Option.casesOn (p.meth t u m) none fun r => Prod.casesOn r fun f r => goK p (callK p n) n f (r :: args) h : Option (V × H)) = some (v, h') := h1
              obtain ⟨⟨f, q⟩, h3, h4⟩ := opt_some h2
              obtain ⟨m1, _⟩ := hp.meth t u m f q h3 g (below h.next.toNat) w (by simpa [V.on] using ha.1)
              obtain ⟨g', w', a1, a2, a3, a4, a5⟩ := go_ok hp ih h4 hw (show bds h.next.toNat (q :: args) from ⟨m1, ha.2⟩)
              refine ⟨g', w', a1, a2, a3, a4, does_congr ?_ a5⟩
              have m2 := (hp.meth t u m f q h3 g (below h.next.toNat) w (by simpa [V.on] using ha.1)).2
              simp only [conc, concs, Deferred.ofValue, Sem.run_bind, Sem.run_pure, Result.andThen_ok, invoke]
              simp [callMethod, m2]
            | _ => cases h1
      | _ => cases hs
    | _ => cases hs

end
end Go.Proofs.YtdojpbbdcgfcnaaGreatDoor.AI
/- THE ABSTRACT INTERPRETER, 21: drawn regions: what the abstract run tells of each operation. -/
namespace Go.Proofs.YtdojpbbdcgfcnaaGreatDoor.AI

/-- an operand's value, read from a table of the temporaries -/
noncomputable def valOp (P : Program) (VAL : Tmp → Option V) : Operand → Option V
  | .tmp t => VAL t
  | a => ev [] .leaf (cO P [] a)
def OpdV (g : G) (p : Pos → Prop) (vv : Operand → Option V) (a : Operand) (y : Value) : Prop := ∀ u, vv a = some u → y = conc g u ∧ u.on p

section
variable (P : Program) (cx : Cx) (ops : Array Oper) (vv : Operand → Option V)

/-- what an operation that is carried out does -/
def Fct (o : Oper) (h : H) (v : V) (h1 : H) : Cls → Prop
  | .p => h1 = h ∧ ∀ (g : G) (p : Pos → Prop) (ρ : Operand → Value), (∀ a ∈ o.op.operands, OpdV g p vv a (ρ a)) → v.on p ∧ Pu P ρ o g v
  | .a => ∃ l ty m, v = Mk.v h.next m ∧ h1 = h.new (.cells l .own ty) ∧ ∀ (g : G) (p : Pos → Prop) (ρ : Operand → Value), (∀ a ∈ o.op.operands, OpdV g p vv a (ρ a)) → ons p l ∧ Al P ρ o g l ty m
  | .r => h1 = h ∧ ∀ (rs : Rnds) (ng : Nat) (g : G) (w : World) (ρ : Operand → Value), WR rs ng g h w → (∀ a ∈ o.op.operands, OpdV g (below h.next.toNat) vv a (ρ a)) → Re P ρ o g h w v
  | .x => ∀ (rs : Rnds) (ng : Nat) (g : G) (w : World) (ρ : Operand → Value), CallOk P rs ng cx.call → WR rs ng g h w → (∀ a ∈ o.op.operands, OpdV g (below h.next.toNat) vv a (ρ a)) → OpOk rs ng P g h w (execOp ρ o) v h1

/-- what an operation with its guard does -/
def Ev (o : Oper) (h : H) (v : V) (h1 : H) : Prop :=
  (o.guard = none ∧ Fct P cx vv o h v h1 (cls P o.op)) ∨
  ∃ j wnt d u, o.guard = some (j, wnt) ∧ (ops[j]?).bind (·.dst) = some d ∧ vv (.tmp d) = some u ∧ ((u = .bool wnt ∧ Fct P cx vv o h v h1 (cls P o.op)) ∨ (u ≠ .bool wnt ∧ v = undefV ∧ h1 = h))
end

section
variable {P : Program} {cx : Cx} {ops : Array Oper} {vv : Operand → Option V} {o : Oper} {e : List V} {fr : Fr} {h : H} {k : V → H → Res} {r : E × Fr × H}

theorem fct_of {f : Operand → O} {s : S} {c : Cls} (hs : ClsW P f o s c) (hr : s cx e fr h k = some r) : ∃ v h1, k v h1 = some r ∧ ∀ vv, (∀ a ∈ o.op.operands, ∀ u, ev e fr (f a) = some u → vv a = some u) → Fct P cx vv o h v h1 c := by
  have conv : ∀ {vv : Operand → Option V} {g : G} {p : Pos → Prop} {ρ : Operand → Value}, (∀ a ∈ o.op.operands, ∀ u, ev e fr (f a) = some u → vv a = some u) → (∀ a ∈ o.op.operands, OpdV g p vv a (ρ a)) → ∀ a ∈ o.op.operands, Opd g p e fr (f a) (ρ a) := fun hv hh a ha u hu => hh a ha u (hv a ha u hu)
  cases c with
  | p =>
    obtain ⟨v, h1, h2⟩ := hs cx e fr h k r hr
    exact ⟨v, h, h1, fun vv hv => ⟨rfl, fun g p ρ hh => h2 g p ρ (conv hv hh)⟩⟩
  | a =>
    obtain ⟨l, ty, m, h1, h2⟩ := hs cx e fr h k r hr
    exact ⟨_, _, h1, fun vv hv => ⟨l, ty, m, rfl, rfl, fun g p ρ hh => h2 g p ρ (conv hv hh)⟩⟩
  | r =>
    obtain ⟨v, h1, h2⟩ := hs cx e fr h k r hr
    exact ⟨v, h, h1, fun vv hv => ⟨rfl, fun rs ng g w ρ hw hh => h2 rs ng g w ρ hw (conv hv hh)⟩⟩
  | x =>
    obtain ⟨v, h', h1, h2⟩ := hs cx e fr h k r hr
    exact ⟨v, h', h1, fun vv hv rs ng g w ρ hc hw hh => h2 rs ng g w ρ hc hw (conv hv hh)⟩

theorem ev_of {env : List (Option Tmp)} {s : S} (hs : cOper P ops env o = some s) (hr : s cx e fr h k = some r) :
    ∃ v h1, k v h1 = some r ∧ ∀ vv, (∀ a ∈ o.op.operands, ∀ u, ev e fr (cO P env a) = some u → vv a = some u) →
      (∀ j w d u, o.guard = some (j, w) → (ops[j]?).bind (·.dst) = some d → ev e fr (cO P env (.tmp d)) = some u → vv (.tmp d) = some u) → Ev P cx ops vv o h v h1 := by
  unfold cOper at hs
  split at hs
  · rename_i hgu
    obtain ⟨v, h1, h2, h3⟩ := fct_of (op_w env o s hs) hr
    exact ⟨v, h1, h2, fun vv hv _ => .inl ⟨hgu, h3 vv hv⟩⟩
  · rename_i j wnt hgu
    cases hd : (ops[j]?).bind (·.dst) with
    | none => rw [hd] at hs; cases hs
    | some d =>
      rw [hd] at hs
      cases hs' : cOp P env o with
      | none => simp [hs'] at hs
      | some s' =>
        simp [hs'] at hs
        subst hs
        have hr' : (evK e fr (cO P env (.tmp d)) fun v => v.onBool (fun b => (Bool.casesOn b (Bool.casesOn wnt (s' cx e fr h k) (k undefV h)) (Bool.casesOn wnt (k undefV h) (s' cx e fr h k)) : Res)) (k undefV h)) = some r := hr
        obtain ⟨u, hu, h1⟩ := evK_some hr'
        have skip : u ≠ .bool wnt → k undefV h = some r → ∃ v h1, k v h1 = some r ∧ ∀ vv, (∀ a ∈ o.op.operands, ∀ u, ev e fr (cO P env a) = some u → vv a = some u) →
            (∀ j w d u, o.guard = some (j, w) → (ops[j]?).bind (·.dst) = some d → ev e fr (cO P env (.tmp d)) = some u → vv (.tmp d) = some u) → Ev P cx ops vv o h v h1 := fun hne hk =>
          ⟨undefV, h, hk, fun vv _ hg => .inr ⟨j, wnt, d, u, hgu, hd, hg j wnt d u hgu hd hu, .inr ⟨hne, rfl, rfl⟩⟩⟩
        have go : u = .bool wnt → s' cx e fr h k = some r → ∃ v h1, k v h1 = some r ∧ ∀ vv, (∀ a ∈ o.op.operands, ∀ u, ev e fr (cO P env a) = some u → vv a = some u) →
            (∀ j w d u, o.guard = some (j, w) → (ops[j]?).bind (·.dst) = some d → ev e fr (cO P env (.tmp d)) = some u → vv (.tmp d) = some u) → Ev P cx ops vv o h v h1 := fun he hk => by
          obtain ⟨v, h1, h2, h3⟩ := fct_of (op_w env o s' hs') hk
          exact ⟨v, h1, h2, fun vv hv hg => .inr ⟨j, wnt, d, u, hgu, hd, hg j wnt d u hgu hd hu, .inl ⟨he, h3 vv hv⟩⟩⟩
        cases u with
        | bool t =>
          cases t <;> cases wnt
          · exact go rfl h1
          · exact skip (by simp) h1
          · exact skip (by simp) h1
          · exact go rfl h1
        | _ => exact skip (by simp) h1

/-! ### a run in an order of our own -/
/-- what a region's table tells -/
def look (env : List (Option Tmp)) (e : List V) (t : Tmp) : Option V := (env.findIdx? (· == some t)).bind fun i => e[i]?

def Em.ix : Em → Nat
  | .op i => i
  | .chk i => i
/-- the temporaries that an operation reads -/
def reads (ops : Array Oper) (o : Oper) : List Tmp :=
  (o.op.operands.toList.filterMap fun | .tmp t => some t | _ => none) ++ (match o.guard with | some (j, _) => ((ops[j]?).bind (·.dst)).toList | none => [])
/-- the temporaries that the items write -/
def writes (ops : Array Oper) : List Em → List Tmp
  | [] => []
  | .op i :: l => ((ops[i]?).bind (·.dst)).toList ++ writes ops l
  | .chk _ :: l => writes ops l
/-- each item reads what stands: written before, or by none of the items to come, or (late) what stood at first; none is written twice; what is carried out once more reads -/
def Known (P : Program) (ops : Array Oper) (late : Nat → Tmp → Bool) : List Em → List (Option Tmp) → Prop
  | [], _ => True
  | .op i :: l, env => (∀ o, ops[i]? = some o → (∀ d, o.dst = some d → some d ∉ env) ∧ (∀ t ∈ reads ops o, (late i t = false ∧ (some t ∈ env ∨ t ∉ writes ops (.op i :: l))) ∨ (late i t = true ∧ some t ∉ env)) ∧ Known P ops late l (o.dst :: env))
  | .chk i :: l, env => (∀ o, ops[i]? = some o → cls P o.op = .r ∧ (∀ d, o.dst = some d → some d ∈ env) ∧ (∀ t ∈ reads ops o, (late i t = false ∧ (some t ∈ env ∨ t ∉ writes ops l)) ∨ (late i t = true ∧ some t ∉ env))) ∧ Known P ops late l env

/-- what the operation i reads in a slot -/
def rdv (late : Nat → Tmp → Bool) (VAL OLD : Tmp → Option V) (i : Nat) (t : Tmp) : Option V := if late i t then OLD t else VAL t

/-- an operation of the run: the heap before it, its value, the heap behind it -/
structure Evt where
  em : Em
  h : H
  v : V
  h1 : H

/-- the run: each operation and what it does to the heap -/
inductive Can (P : Program) (cx : Cx) (ops : Array Oper) (late : Nat → Tmp → Bool) (VAL OLD : Tmp → Option V) : List Evt → H → H → Prop
  | nil (h : H) : Can P cx ops late VAL OLD [] h h
  | op {i : Nat} {o : Oper} {v : V} {l : List Evt} {h h1 h2 : H} : ops[i]? = some o → Ev P cx ops (valOp P (rdv late VAL OLD i)) o h v h1 → (∀ d, o.dst = some d → VAL d = some v) → h.next.toNat ≤ h1.next.toNat → Can P cx ops late VAL OLD l h1 h2 → Can P cx ops late VAL OLD (⟨.op i, h, v, h1⟩ :: l) h h2
  | chk {i d : Nat} {o : Oper} {v : V} {l : List Evt} {h h1 h2 : H} : ops[i]? = some o → o.dst = some d → VAL d = some v → cls P o.op = .r → Ev P cx ops (valOp P (rdv late VAL OLD i)) o h v h1 → Can P cx ops late VAL OLD l h h2 → Can P cx ops late VAL OLD (⟨.chk i, h, v, h⟩ :: l) h h2

theorem Pos.nat_eq (p : Pos) : p.nat = p.toNat := by
  induction p with
  | h => rfl
  | o p ih => show Nat.succ (p.nat + p.nat) = 2 * p.toNat + 1; rw [ih]; omega
  | i p ih => show Nat.succ (Nat.succ (p.nat + p.nat)) = 2 * p.toNat + 2; rw [ih]; omega

theorem Fct.up {v : V} {h1 : H} {c : Cls} (hc : c ≠ .x) {vv : Operand → Option V} (hf : Fct P cx vv o h v h1 c) : h.next.toNat ≤ h1.next.toNat := by
  cases c with
  | p => rw [hf.1]; exact Nat.le_refl _
  | a => obtain ⟨l, ty, m, _, h2, _⟩ := hf; rw [h2, H.next_new]; omega
  | r => rw [hf.1]; exact Nat.le_refl _
  | x => exact absurd rfl hc

theorem ev_up {env : List (Option Tmp)} {s : S} (hs : cOper P ops env o = some s) (hr : sUpIf (cls P o.op) s cx e fr h k = some r) :
    ∃ v h1, k v h1 = some r ∧ (∀ vv, Ev P cx ops vv o h v h1 → h.next.toNat ≤ h1.next.toNat) ∧ ∀ vv, (∀ a ∈ o.op.operands, ∀ u, ev e fr (cO P env a) = some u → vv a = some u) →
      (∀ j w d u, o.guard = some (j, w) → (ops[j]?).bind (·.dst) = some d → ev e fr (cO P env (.tmp d)) = some u → vv (.tmp d) = some u) → Ev P cx ops vv o h v h1 := by
  by_cases hc : cls P o.op = .x
  · rw [hc] at hr
    obtain ⟨v, h1, h2u, h3⟩ := ev_of hs (show s cx e fr h (fun v h1 => (Bool.casesOn (Nat.ble h.next.nat h1.next.nat) none (k v h1) : Res)) = some r from hr)
    obtain ⟨hup, h2⟩ := bool_some h2u
    have hup := Nat.le_of_ble_eq_true hup
    rw [Pos.nat_eq, Pos.nat_eq] at hup
    exact ⟨v, h1, h2, fun _ _ => hup, h3⟩
  · have : sUpIf (cls P o.op) s = s := by unfold sUpIf; split <;> simp_all
    rw [this] at hr
    obtain ⟨v, h1, h2, h3⟩ := ev_of hs hr
    refine ⟨v, h1, h2, fun vv hv => ?_, h3⟩
    rcases hv with ⟨_, hf⟩ | ⟨j, wnt, d, u, _, _, _, ⟨_, hf⟩ | ⟨_, _, hh⟩⟩
    · exact hf.up hc
    · exact hf.up hc
    · rw [hh]; exact Nat.le_refl _

theorem eqD_ok : ∀ n, (∀ a b, eqD n a b = true → a = b) ∧ (∀ a b, eqDs n a b = true → a = b) := by
  intro n
  induction n with
  | zero => exact ⟨fun a b hh => by simp [eqD] at hh, fun a b hh => by simp [eqDs] at hh⟩
  | succ n ih =>
    refine ⟨fun a b hh => ?_, fun a b hh => ?_⟩
    · unfold eqD at hh
      split at hh <;> first
        | rfl
        | (simp only [Bool.and_eq_true, beq_iff_eq, decide_eq_true_eq, Nat.beq_eq_true_eq] at hh; simp_all; done)
        | (simp only [Bool.and_eq_true, decide_eq_true_eq] at hh
           obtain ⟨⟨h1, h2⟩, h3⟩ := hh
           rw [h1, ih.2 _ _ h2, ih.2 _ _ h3])
        | (simp only [Bool.and_eq_true] at hh
           obtain ⟨h1, h2⟩ := hh
           rw [Nat.eq_of_beq_eq_true h1, ih.1 _ _ h2])
        | (rw [ih.2 _ _ hh])
        | cases hh
    · cases a with
      | nil => cases b with
        | nil => rfl
        | cons y m => simp [eqDs] at hh
      | cons x l => cases b with
        | nil => simp [eqDs] at hh
        | cons y m =>
          simp only [eqDs, Bool.and_eq_true] at hh
          rw [ih.1 _ _ hh.1, ih.2 _ _ hh.2]

theorem look_cons {env : List (Option Tmp)} {e : List V} {dst : Option Tmp} {v : V} {t : Tmp} : look (dst :: env) (v :: e) t = if dst = some t then some v else look env e t := by
  unfold look
  rw [List.findIdx?_cons]
  by_cases hd : dst = some t
  · simp [hd]
  · have : (dst == some t) = false := by simpa using hd
    simp only [this, hd, if_false]
    cases env.findIdx? (· == some t) <;> simp

theorem ev_tmp {env : List (Option Tmp)} {e : List V} {fr : Fr} {t : Tmp} {u : V} (hu : ev e fr (cO P env (.tmp t)) = some u) : (some t ∈ env ∧ look env e t = some u) ∨ (some t ∉ env ∧ Tr.get (Pos.ofNat t) fr = some u) := by
  simp only [cO] at hu
  cases hf : env.findIdx? (· == some t) with
  | some i =>
    rw [hf] at hu
    refine .inl ⟨?_, by simp only [look, hf, Option.bind_some]; exact hu⟩
    obtain ⟨hlt, hx, _⟩ := List.findIdx?_eq_some_iff_getElem.1 hf
    have hx' : env[i] = some t := by simpa using hx
    exact hx' ▸ List.getElem_mem hlt
  | none =>
    rw [hf] at hu
    refine .inr ⟨fun hm => ?_, hu⟩
    have := List.findIdx?_eq_none_iff.1 hf (some t) hm
    simp at this

theorem ev_other {env : List (Option Tmp)} {e : List V} {fr : Fr} {a : Operand} (ha : ∀ t, a ≠ .tmp t) : ev e fr (cO P env a) = ev [] .leaf (cO P [] a) := by
  cases a with
  | tmp t => exact absurd rfl (ha t)
  | const c => simp only [cO]; cases toV 1000 c <;> rfl
  | global i => simp only [cO]; split <;> rfl
  | func f => rfl

theorem items_can {n : Nat} {ex : Nat → Bool} {late : Nat → Tmp → Bool} {OLD : Tmp → Option V} : ∀ (l : List Em) (env : List (Option Tmp)) (e : List V) (fr : Fr) (h : H) (er : E) (fr' : Fr) (h' : H), Known P ops late l env → (∀ t, some t ∉ env → Tr.get (Pos.ofNat t) fr = OLD t) → cItems P n ex ops l env cx e fr h = some (er, fr', h') →
    er = .norm ∧ ∃ VAL : Tmp → Option V, (∀ t v, some t ∈ env → look env e t = some v → VAL t = some v) ∧ (∀ t, some t ∉ env → t ∉ writes ops l → VAL t = Tr.get (Pos.ofNat t) fr) ∧
      ∃ tr : List Evt, tr.map Evt.em = l ∧ Can P cx ops late VAL OLD tr h h' ∧ (∀ t, Tr.get (Pos.ofNat t) fr' = if ex t = true ∧ t ∈ writes ops l then VAL t else Tr.get (Pos.ofNat t) fr) ∧ (∀ t ∈ writes ops l, t < n)
  | [], env, e, fr, h, er, fr', h', _, _, hs => by
    cases hs
    refine ⟨rfl, fun t => if some t ∈ env then look env e t else Tr.get (Pos.ofNat t) fr, fun t v hm hl => by simp [hm, hl], fun t hm _ => by simp [hm], [], rfl, .nil h, fun t => by simp [writes], by simp [writes]⟩
  | .op i :: l, env, e, fr, h, er, fr', h', hk, hold0, hs => by
    simp only [cItems] at hs
    cases hi : ops[i]? with
    | none => rw [hi] at hs; cases hs
    | some o =>
      rw [hi] at hs
      simp only at hs
      obtain ⟨k1, k2, k3⟩ := hk o hi
      cases hco : cOper P ops env o with
      | none => rw [hco] at hs; cases hs
      | some s =>
        rw [hco] at hs
        simp only at hs
        split at hs
        · rename_i hdn
          have main : ∀ (out : Bool), (∀ d, o.dst = some d → ex d = out) →
              sUpIf (cls P o.op) s cx e fr h (fun v h => (if out = true then (match o.dst with | some d => Tr.setK (some v) (Pos.ofNat d) fr fun fr => cItems P n ex ops l (o.dst :: env) cx (v :: e) fr h | none => cItems P n ex ops l (o.dst :: env) cx (v :: e) fr h) else cItems P n ex ops l (o.dst :: env) cx (v :: e) fr h : Res)) = some (er, fr', h') →
              er = .norm ∧ ∃ VAL : Tmp → Option V, (∀ t v, some t ∈ env → look env e t = some v → VAL t = some v) ∧ (∀ t, some t ∉ env → t ∉ writes ops (.op i :: l) → VAL t = Tr.get (Pos.ofNat t) fr) ∧
                ∃ tr : List Evt, tr.map Evt.em = .op i :: l ∧ Can P cx ops late VAL OLD tr h h' ∧ (∀ t, Tr.get (Pos.ofNat t) fr' = if ex t = true ∧ t ∈ writes ops (.op i :: l) then VAL t else Tr.get (Pos.ofNat t) fr) ∧ (∀ t ∈ writes ops (.op i :: l), t < n) := by
            intro out hout hs2
            obtain ⟨v, h1, h2, hup, h3⟩ := ev_up hco hs2
            have hwr : writes ops (.op i :: l) = o.dst.toList ++ writes ops l := by simp [writes, hi]
            have fin : ∀ fr1, (∀ t, Tr.get (Pos.ofNat t) fr1 = if ex t = true ∧ o.dst = some t then some v else Tr.get (Pos.ofNat t) fr) → cItems P n ex ops l (o.dst :: env) cx (v :: e) fr1 h1 = some (er, fr', h') →
                er = .norm ∧ ∃ VAL : Tmp → Option V, (∀ t v, some t ∈ env → look env e t = some v → VAL t = some v) ∧ (∀ t, some t ∉ env → t ∉ writes ops (.op i :: l) → VAL t = Tr.get (Pos.ofNat t) fr) ∧
                  ∃ tr : List Evt, tr.map Evt.em = .op i :: l ∧ Can P cx ops late VAL OLD tr h h' ∧ (∀ t, Tr.get (Pos.ofNat t) fr' = if ex t = true ∧ t ∈ writes ops (.op i :: l) then VAL t else Tr.get (Pos.ofNat t) fr) ∧ (∀ t ∈ writes ops (.op i :: l), t < n) := by
              intro fr1 hf1 hrest
              obtain ⟨q1, VAL, q2, q3, tr, qt, q4, q5, q6⟩ := items_can (OLD := OLD) l (o.dst :: env) (v :: e) fr1 h1 er fr' h' k3 (fun t ht => by
                rw [hf1, if_neg (fun hh => ht (by rw [hh.2]; simp))]
                exact hold0 t fun hm => ht (List.mem_cons_of_mem _ hm)) hrest
              have hold : ∀ t v', some t ∈ env → look env e t = some v' → VAL t = some v' := fun t v' hm hl => by
                have hne : o.dst ≠ some t := fun he => k1 t he hm
                exact q2 t v' (List.mem_cons_of_mem _ hm) (by rw [look_cons, if_neg hne]; exact hl)
              have hnew : ∀ t, some t ∉ env → t ∉ writes ops (.op i :: l) → VAL t = Tr.get (Pos.ofNat t) fr := fun t hm hw => by
                rw [hwr] at hw
                have hne : o.dst ≠ some t := fun he => hw (by simp [he])
                have := q3 t (fun hh => by rcases List.mem_cons.1 hh with hh | hh; exact hne hh.symm; exact hm hh) (fun hh => hw (List.mem_append_right _ hh))
                rw [this, hf1, if_neg (fun hh => hne hh.2)]
              have hrd : ∀ t ∈ reads ops o, ∀ u, ev e fr (cO P env (.tmp t)) = some u → rdv late VAL OLD i t = some u := fun t ht u hu => by
                rcases ev_tmp hu with ⟨hm, hl⟩ | ⟨hm, hg⟩
                · rcases k2 t ht with hh | hh
                  · simp only [rdv, hh.1]; exact hold t u hm hl
                  · exact absurd hm hh.2
                · rcases k2 t ht with ⟨h0, hh⟩ | hh
                  · rcases hh with hh | hh
                    · exact absurd hh hm
                    · simp only [rdv, h0]; exact (hnew t hm hh).trans hg
                  · simp only [rdv, hh.1, if_true]; exact (hold0 t hm).symm.trans hg
              have hev := h3 (valOp P (rdv late VAL OLD i)) (fun a ha u hu => by
                cases a with
                | tmp t => exact hrd t (by simp only [reads]; exact List.mem_append_left _ (List.mem_filterMap.2 ⟨_, by simpa using ha, rfl⟩)) u hu
                | const c => rw [ev_other (fun t hh => by cases hh)] at hu; exact hu
                | global c => rw [ev_other (fun t hh => by cases hh)] at hu; exact hu
                | func c => exact hu) (fun j w d u hgu hd hu => hrd d (by simp only [reads, hgu]; exact List.mem_append_right _ (by simp [hd])) u hu)
              refine ⟨q1, VAL, hold, hnew, ⟨.op i, h, v, h1⟩ :: tr, by simp [qt], .op hi hev (fun d hd => q2 d v (by rw [hd]; simp) (by rw [look_cons, if_pos hd])) (hup _ hev) q4, fun t => ?_, fun t ht => ?_⟩
              · rw [q5 t, hf1 t, hwr]
                by_cases hex : ex t = true
                · by_cases hdt : o.dst = some t
                  · have hv : VAL t = some v := q2 t v (by rw [hdt]; simp) (by rw [look_cons, if_pos hdt])
                    simp [hex, hdt, hv]
                  · have : ¬ (t ∈ o.dst.toList) := fun hm => hdt (by
                      cases ho : o.dst with
                      | none => simp [ho] at hm
                      | some d => simp [ho] at hm; rw [hm])
                    simp [hex, hdt, this]
                · simp [hex]
              · rw [hwr] at ht
                rcases List.mem_append.1 ht with hh | hh
                · cases ho : o.dst with
                  | none => rw [ho] at hh; simp at hh
                  | some d => rw [ho] at hh hdn; simp at hh hdn; subst hh; exact hdn
                · exact q6 t hh
            cases out with
            | true =>
              rw [if_pos rfl] at h2
              cases hdd : o.dst with
              | none => exact fin fr (fun t => by simp [hdd]) (by rw [hdd] at h2; rw [hdd]; exact h2)
              | some d =>
                refine fin (Tr.set (some v) (Pos.ofNat d) fr) (fun t => ?_) ?_
                · rw [Tr.get_set]
                  by_cases htd : t = d
                  · subst htd; simp [hdd, hout t hdd]
                  · rw [if_neg (fun he => htd (Pos.ofNat_inj he))]
                    have : ¬ (d = t) := fun hh => htd hh.symm
                    simp [hdd, this]
                · rw [hdd] at h2
                  dsimp only at h2
                  rw [Tr.setK_eq] at h2
                  rw [hdd]; exact h2
            | false =>
              rw [if_neg (by simp)] at h2
              refine fin fr (fun t => ?_) h2
              by_cases hdt : o.dst = some t
              · simp [hout t hdt]
              · simp [hdt]
          cases hdd : o.dst with
          | none => exact main false (fun d h1 => by rw [hdd] at h1; cases h1) (by rw [hdd] at hs ⊢; exact hs)
          | some d =>
            cases hex : ex d with
            | true => exact main true (fun d' h1 => by rw [hdd] at h1; cases h1; exact hex) (by rw [hdd] at hs ⊢; simp only [cOut, hex, if_true] at hs ⊢; exact hs)
            | false => exact main false (fun d' h1 => by rw [hdd] at h1; cases h1; exact hex) (by rw [hdd] at hs ⊢; simp only [cOut, hex] at hs ⊢; exact hs)
        · cases hs
  | .chk i :: l, env, e, fr, h, er, fr', h', hk, hold0, hs => by
    simp only [cItems] at hs
    cases hi : ops[i]? with
    | none => rw [hi] at hs; cases hs
    | some o =>
      rw [hi] at hs
      simp only at hs
      obtain ⟨k0, k3⟩ := hk
      obtain ⟨k1, k2, k4⟩ := k0 o hi
      cases hd : o.dst with
      | none => rw [hd] at hs; cases hs
      | some d =>
        cases hco : cOper P ops env o with
        | none => rw [hd, hco] at hs; cases hs
        | some s =>
          rw [hd, hco] at hs
          have hs1 : s cx e fr h (fun v _ => evK e fr (cO P env (.tmp d)) fun u => (Bool.casesOn (eqD 1000 v u) none (cItems P n ex ops l env cx e fr h) : Res)) = some (er, fr', h') := hs
          obtain ⟨v, h1, h2, h3⟩ := ev_of hco hs1
          obtain ⟨u, hu, h4⟩ := evK_some (x := cO P env (.tmp d)) h2
          obtain ⟨heq, h5⟩ := bool_some h4
          have hvu : v = u := (eqD_ok 1000).1 v u heq
          subst hvu
          obtain ⟨q1, VAL, q2, q3, tr, qt, q4, q5, q6⟩ := items_can (OLD := OLD) l env e fr h er fr' h' k3 hold0 h5
          have hw : writes ops (.chk i :: l) = writes ops l := rfl
          have hrd : ∀ t ∈ reads ops o, ∀ u, ev e fr (cO P env (.tmp t)) = some u → rdv late VAL OLD i t = some u := fun t ht u hu => by
            rcases ev_tmp hu with ⟨hm, hl⟩ | ⟨hm, hg⟩
            · rcases k4 t ht with hh | hh
              · simp only [rdv, hh.1]; exact q2 t u hm hl
              · exact absurd hm hh.2
            · rcases k4 t ht with ⟨h0, hh⟩ | hh
              · rcases hh with hh | hh
                · exact absurd hh hm
                · simp only [rdv, h0]; exact (q3 t hm hh).trans hg
              · simp only [rdv, hh.1, if_true]; exact (hold0 t hm).symm.trans hg
          have hev := h3 (valOp P (rdv late VAL OLD i)) (fun a ha u hu => by
            cases a with
            | tmp t => exact hrd t (by simp only [reads]; exact List.mem_append_left _ (List.mem_filterMap.2 ⟨_, by simpa using ha, rfl⟩)) u hu
            | const c => rw [ev_other (fun t hh => by cases hh)] at hu; exact hu
            | global c => rw [ev_other (fun t hh => by cases hh)] at hu; exact hu
            | func c => exact hu) (fun j w d u hgu hd hu => hrd d (by simp only [reads, hgu]; exact List.mem_append_right _ (by simp [hd])) u hu)
          have hVd : VAL d = some v := by
            rcases ev_tmp hu with ⟨hm, hl⟩ | ⟨hm, hg⟩
            · exact q2 d v hm hl
            · exact absurd (k2 d hd) hm
          exact ⟨q1, VAL, q2, q3, ⟨.chk i, h, v, h⟩ :: tr, by simp [qt], .chk hi hd hVd k1 hev q4, q5, q6⟩

end
end Go.Proofs.YtdojpbbdcgfcnaaGreatDoor.AI
/- THE ABSTRACT INTERPRETER, 22: drawn regions in every order. -/
namespace Go.Proofs.YtdojpbbdcgfcnaaGreatDoor.AI

section
variable {P : Program} {ops : Array Oper}

/-- what is not listed yet -/
def unl (ops : Array Oper) (listed : Array Bool) : Nat := (List.range ops.size).countP fun i => !listed.getD i true

theorem countP_lt {p q : Nat → Bool} : ∀ (l : List Nat) (i : Nat), i ∈ l → p i = true → q i = false → (∀ j, q j = true → p j = true) → l.countP q < l.countP p
  | [], i, hi, _, _, _ => by simp at hi
  | a :: l, i, hi, hp, hq, hle => by
    have hmono : l.countP q ≤ l.countP p := List.countP_mono_left fun j _ hj => hle j hj
    by_cases ha : a = i
    · subst ha
      rw [List.countP_cons_of_pos hp, List.countP_cons_of_neg (by simp [hq])]
      omega
    · have hi' : i ∈ l := by rcases List.mem_cons.1 hi with hh | hh; exact absurd hh.symm ha; exact hh
      have ih := countP_lt l i hi' hp hq hle
      by_cases hqa : q a = true
      · rw [List.countP_cons_of_pos hqa, List.countP_cons_of_pos (hle a hqa)]; omega
      · rw [List.countP_cons_of_neg hqa]
        by_cases hpa : p a = true
        · rw [List.countP_cons_of_pos hpa]; omega
        · rw [List.countP_cons_of_neg hpa]; exact ih

theorem unl_set {listed : Array Bool} {i : Nat} (hi : i ∈ Region.ready .any ops listed) : unl ops (listed.setIfInBounds i true) < unl ops listed := by
  obtain ⟨h0, o, ho, _⟩ := mem_ready.1 hi
  have hlt : i < ops.size := (Array.getElem?_eq_some_iff.1 ho).1
  have hsz : i < listed.size := by
    rcases Nat.lt_or_ge i listed.size with hh | hh
    · exact hh
    · simp [Array.getD, Nat.not_lt.2 hh] at h0
  refine countP_lt _ i (List.mem_range.2 hlt) (by simp [h0]) (by simp [hsz]) (fun j hj => ?_)
  by_cases hij : i = j
  · subst hij; simp [h0]
  · rw [getD_set_ne true hij] at hj; exact hj

/-- A REGION, one operation at a time, in every order that the model may take -/
theorem lin_run (Inv : Array Bool → World → Array Value → Prop)
    (hstep : ∀ listed w tm i, Inv listed w tm → i ∈ Region.ready .any ops listed → ∃ w' tm', Inv (listed.setIfInBounds i true) w' tm' ∧
      ∀ (b : Frame) (ds : List Deferred) (rest : List Nat) (kk : List Item) (cs : List Frame), Steps P (lone (fat b tm ds (.inRegion ops (i :: rest) :: kk)) cs w) (lone (fat b tm' ds (.inRegion ops rest :: kk)) cs w')) :
    ∀ (fuel t : Nat) (listed : Array Bool) (w : World) (tm : Array Value), unl ops listed ≤ fuel → Inv listed w tm →
      ∃ listed' w' tm', Inv listed' w' tm' ∧ Region.ready .any ops listed' = [] ∧
        ∀ (b : Frame) (ds : List Deferred) (kk : List Item) (cs : List Frame), Steps P (lone (fat b tm ds (.inRegion ops (Region.linearise.go .any ops fuel t listed []) :: kk)) cs w) (lone (fat b tm' ds (.inRegion ops [] :: kk)) cs w') := by
  intro fuel
  induction fuel with
  | zero =>
    intro t listed w tm hu hI
    refine ⟨listed, w, tm, hI, ?_, fun b ds kk cs => by simp only [Region.linearise.go, List.reverse_nil]; exact Steps.refl _ _⟩
    cases hr : Region.ready .any ops listed with
    | nil => rfl
    | cons i l => have := unl_set (ops := ops) (listed := listed) (i := i) (by rw [hr]; simp); omega
  | succ fuel ih =>
    intro t listed w tm hu hI
    have hgo : Region.linearise.go .any ops (fuel + 1) t listed [] = (match (Region.ready .any ops listed)[t % (Region.ready .any ops listed).length]? with
      | some i => Region.linearise.go .any ops fuel (t / (Region.ready .any ops listed).length) (listed.setIfInBounds i true) [i]
      | none => [].reverse) := rfl
    cases hi : (Region.ready .any ops listed)[t % (Region.ready .any ops listed).length]? with
    | none =>
      have hnil : Region.ready .any ops listed = [] := by
        cases hr : Region.ready .any ops listed with
        | nil => rfl
        | cons x xs =>
          rw [hr] at hi
          have hlt : t % (x :: xs).length < (x :: xs).length := Nat.mod_lt _ (by simp)
          rw [List.getElem?_eq_getElem hlt] at hi; cases hi
      rw [hgo, hi]
      exact ⟨listed, w, tm, hI, hnil, fun b ds kk cs => Steps.refl _ _⟩
    | some i =>
      rw [hgo, hi]
      simp only
      rw [linearise_go_acc]
      have hmem := List.mem_of_getElem? hi
      obtain ⟨w1, tm1, hI1, hs1⟩ := hstep listed w tm i hI hmem
      obtain ⟨listed', w', tm', k1, k2, k3⟩ := ih (t / (Region.ready .any ops listed).length) (listed.setIfInBounds i true) w1 tm1 (by have := unl_set hmem; omega) hI1
      exact ⟨listed', w', tm', k1, k2, fun b ds kk cs => Steps.trans (hs1 b ds _ kk cs) (k3 b ds kk cs)⟩

end
end Go.Proofs.YtdojpbbdcgfcnaaGreatDoor.AI
/- THE ABSTRACT INTERPRETER, 23: code, of whatever make. -/
namespace Go.Proofs.YtdojpbbdcgfcnaaGreatDoor.AI

section
variable {P : Program} {rs : Rnds} {cx : Cx} {n : Nat} {ex : Nat → Bool} {ord : Nat → List Em} {fid : Nat}

/-- what must hold of the parts of code: loops over functions are in the table, drawn regions are all right -/
def CodeIn (P : Program) (rs : Rnds) (cx : Cx) (n : Nat) (ex : Nat → Bool) (ord : Nat → List Em) (fid : Nat) : Code → Prop
  | .seq a b => CodeIn P rs cx n ex ord fid a ∧ CodeIn P rs cx n ex ord fid b
  | .cond _ a b => CodeIn P rs cx n ex ord fid a ∧ CodeIn P rs cx n ex ord fid b
  | .block _ b => CodeIn P rs cx n ex ord fid b
  | .loop b => CodeIn P rs cx n ex ord fid b
  | .scope b => CodeIn P rs cx n ex ord fid b
  | .rangeFunc f ps a b => cx.round = false → rs (ridOf fid f) = some ⟨fid, ex, n, ps, a, b⟩
  | .region id ops true => CodeOk P rs cx n ex fid (.region id ops true) (kReg (cItems P n ex ops (ord id) []))
  | _ => True

theorem code_ok (hc : CallOk P rs P.globals.size cx.call) : ∀ c, CodeIn P rs cx n ex ord fid c → CodeOk P rs cx n ex fid c (cCode P n ex ord fid c)
  | .skip, _ => code_skip
  | .label _, _ => code_label
  | .region id ops false, _ => code_region (ops_ok P) hc
  | .region id ops true, h => h
  | .seq a b, h => code_seq (code_ok hc a h.1) (code_ok hc b h.2)
  | .cond c a b, h => code_cond (code_ok hc a h.1) (code_ok hc b h.2)
  | .block id b, h => code_block (code_ok hc b h)
  | .loop b, h => code_loop (code_ok hc b h)
  | .scope b, h => code_scope (code_ok hc b h)
  | .rangeFunc f ps a b, h => code_rangeFunc hc rfl h
  | .exit id, _ => code_exit
  | .ret, _ => code_ret
  | .goto _, _ => fun fr h er fr' h' hs => by cases hs
  | .refuse _, _ => fun fr h er fr' h' hs => by cases hs

end
end Go.Proofs.YtdojpbbdcgfcnaaGreatDoor.AI
