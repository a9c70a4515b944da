/- More laws over states: guards in regions that draw; rows of structs. -/
import Derived.Test.YtbgjlojnbdnoaaaOps2
import Derived.DataElems
import Derived.Laws.StructEq
import Derived.Lib.LazyBuf
namespace Go.Proofs.Ytbgjlojnbdnoaaa
open Go.RowKit
set_option linter.unusedVariables false
set_option linter.unusedSimpArgs false
set_option linter.unusedSectionVars false

section
variable {P : Program} {Q : Exit → Act → World → Prop} {n : Nat} {S : Slots} {w0 : World} {X : List Nat} {L l : List Fct} {ops : Array Oper} {rest : List Oper} {o : Oper}
variable {fuel : Nat} {listed listed' : Array Bool} {Ls : List Fct} {F : List Nat}

/-! ### guards where a region draws -/
theorem slT {t : Nat} {b c : Bool} {a : Act} (hb : getS S t = some (.bool b)) (e : b = c) (hs : Sl n S a) : Sl n ((t, .bool c) :: S) a := ⟨hs.size, hs.defers, fun i u hu => by
    simp only [getS] at hu
    cases hk : Nat.beq t i with
    | true =>
      have : t = i := Nat.eq_of_beq_eq_true hk
      subst this
      rw [hk] at hu
      have hu : Value.bool c = u := Option.some.inj hu
      rw [← hu, ← e]
      exact hs.get t _ hb
    | false => rw [hk] at hu; exact hs.get i u hu⟩
theorem DW.split {t : Nat} {b : Bool} (hb : getS S t = some (.bool b)) (hT : b = true → DW P ops Q F fuel listed n ((t, .bool true) :: S) w0 X L Ls) (hF : b = false → DW P ops Q F fuel listed n ((t, .bool false) :: S) w0 X L Ls) : DW P ops Q F fuel listed n S w0 X L Ls := by
  intro a w hs hw
  cases b
  · exact hF rfl a w (slT hb rfl hs) hw
  · exact hT rfl a w (slT hb rfl hs) hw
theorem CW.split {t : Nat} {b : Bool} {c : Code} (hb : getS S t = some (.bool b)) (hT : b = true → CW P c Q n ((t, .bool true) :: S) w0 X L) (hF : b = false → CW P c Q n ((t, .bool false) :: S) w0 X L) : CW P c Q n S w0 X L := by
  intro a w hs hw
  cases b
  · exact hF rfl a w (slT hb rfl hs) hw
  · exact hT rfl a w (slT hb rfl hs) hw
theorem DW.takeG (i : Nat) {v : Value} {j t : Nat} {want : Bool} (hi : ops[i]? = some o) (hg : o.guard = some (j, want)) (hj : (ops[j]?).bind (·.dst) = some t) (hv : getS S t = some (.bool want)) (hn : Region.noSelect ops = true) (hf : Region.free .any ops listed i = true) (hr : (Region.ready .any ops listed).contains i = true) (hW : waits .any ops F i = true) (hF : F.any (fun s => listed.getD s false) = false)
    {d : Nat} (hd : o.dst = some d) (hQ : ∀ c a w, Q (.panic c) (a.put (some d) v) w → Q (.panic c) a w) (hdn : Nat.blt d n = true) (hl : Sub L Ls) (ho : OpV P o S w0 X Ls v) (he : listed.setIfInBounds i true = listed')
    (h : DW P ops Q F fuel listed' n ((d, v) :: S) w0 X L Ls) : DW P ops Q F (fuel + 1) listed n S w0 X L Ls := fun a w hs hw => by
  subst he
  exact wpAnyW_first hi (Region.noSelect_spec hn) (fun c a w h => hQ c a w (by rw [hd] at h; exact h)) hW fuel listed a w (Region.free_spec hi hf) (by simpa using hr) hF (.inl ⟨wanted_true hs hg hj hv, fun w' hw' => ho n a w' hs hw'⟩) (hw.sub hl) (h _ w (by rw [hd]; exact hs.put d v hdn) hw)
theorem DW.takeF (i : Nat) {v : Value} {j t : Nat} {want : Bool} (hi : ops[i]? = some o) (hg : o.guard = some (j, want)) (hj : (ops[j]?).bind (·.dst) = some t) (hv : getS S t = some v) (hne : isB want v = false) (hn : Region.noSelect ops = true) (hf : Region.free .any ops listed i = true) (hr : (Region.ready .any ops listed).contains i = true) (hW : waits .any ops F i = true) (hF : F.any (fun s => listed.getD s false) = false)
    {d : Nat} (hd : o.dst = some d) (hQ : ∀ c a w, Q (.panic c) (a.put (some d) undef) w → Q (.panic c) a w) (hdn : Nat.blt d n = true) (hl : Sub L Ls) (he : listed.setIfInBounds i true = listed')
    (h : DW P ops Q F fuel listed' n ((d, undef) :: S) w0 X L Ls) : DW P ops Q F (fuel + 1) listed n S w0 X L Ls := fun a w hs hw => by
  subst he
  exact wpAnyW_first hi (Region.noSelect_spec hn) (fun c a w h => hQ c a w (by rw [hd] at h; exact h)) hW fuel listed a w (Region.free_spec hi hf) (by simpa using hr) hF (.inr ⟨by rw [wanted_is hs hg hj hv]; exact hne, rfl⟩) (hw.sub hl) (h _ w (by rw [hd]; exact hs.put d undef hdn) hw)
theorem AllR.consG {i : Nat} {rs : List Nat} {α : Type} {V : α → Value} {N : α → List Fct} {d j t : Nat} {want : Bool} (hi : ops[i]? = some o) (hg : o.guard = some (j, want)) (hj : (ops[j]?).bind (·.dst) = some t) (hv : getS S t = some (.bool want)) (hd : o.dst = some d) (hdn : Nat.blt d n = true) (ho : OpW P o S w0 X L V N) (hk : ∀ p, Sub (N p) Ls) (he : listed.setIfInBounds i true = listed')
    (h : ∀ p, DW P ops Q F fuel listed' n ((d, V p) :: S) w0 X (N p) Ls) (hs : AllR P ops Q F fuel listed n S w0 X L Ls rs) : AllR P ops Q F fuel listed n S w0 X L Ls (i :: rs) := by
  intro k hk'
  rcases List.mem_cons.1 hk' with rfl | hk'
  · intro a w hsl hw
    subst he
    unfold wpOp
    simp only [hi]
    rw [if_pos (wanted_true hsl hg hj hv)]
    exact .inl (ho n a w _ _ hsl hw fun p w' hw' => ⟨.inr (hw'.sub (hk p)), h p _ _ (by rw [hd]; exact hsl.put d _ hdn) hw'⟩)
  · exact hs k hk'
/-- a guard that says no, where no order is left to choose -/
theorem AllR.skipG {i : Nat} {rs : List Nat} {v : Value} {d j t : Nat} {want : Bool} (hi : ops[i]? = some o) (hg : o.guard = some (j, want)) (hj : (ops[j]?).bind (·.dst) = some t) (hv : getS S t = some v) (hne : isB want v = false) (hd : o.dst = some d) (hdn : Nat.blt d n = true) (hk : Sub L Ls) (he : listed.setIfInBounds i true = listed')
    (h : DW P ops Q F fuel listed' n ((d, undef) :: S) w0 X L Ls) (hs : AllR P ops Q F fuel listed n S w0 X L Ls rs) : AllR P ops Q F fuel listed n S w0 X L Ls (i :: rs) := by
  intro k hk'
  rcases List.mem_cons.1 hk' with rfl | hk'
  · intro a w hsl hw
    subst he
    unfold wpOp
    simp only [hi]
    rw [if_neg (by rw [wanted_is hsl hg hj hv, hne]; simp)]
    exact ⟨.inr (hw.sub hk), h _ _ (by rw [hd]; exact hsl.put d _ hdn) hw⟩
  · exact hs k hk'

/-- a whole block, loaded -/
theorem x_loadB0 {t e : TypeId} {x : Operand} {b k : Nat} {cs : List Value} (ho : o.op = .load t x) (hx : evS S x = some (.pointer (some ⟨b, 0, none⟩))) (ht : tyS P t = some (some k)) (hr : Rem L (.blk b cs e) l) (hk : cs.length = k) : OpV P o S w0 X L (.agg cs.toArray) :=
  x_loadN ho hx ht hk fun w hw j v hj => by rw [addr_add, Nat.zero_add]; exact blk_get hr hj hw
/-- a whole block, stored anew -/
theorem y_storeB0 {t e : TypeId} {x y : Operand} {b k : Nat} {cs vs : List Value} (ho : o.op = .store t x y) (hx : evS S x = some (.pointer (some ⟨b, 0, none⟩))) (hy : evS S y = some (.agg vs.toArray)) (h1 : vs.all Value.oneCell' = true) (ht : tyS P t = some (some k)) (hk : vs.length = k) (hr : Rem L (.blk b cs e) l) (hc : cs.length = k) :
    OpW P o S w0 X L (fun _ : Unit => undef) (fun _ => .blk b vs e :: l) := y_storeBN ho hx hy h1 ht hk hr (by rw [hc]; simp) (by simp [hc])
/-! ### a fact, a slot, said in other words -/
theorem SH.re {w : World} {f : Fct} (f' : Fct) (h : SH w0 X w L) (hr : Rem L f l) (he : f = f') : SH w0 X w (f' :: l) := he ▸ h.front hr
theorem Sl.re {a : Act} {t : Nat} {v : Value} (v' : Value) (hs : Sl n S a) (h : getS S t = some v) (e : v = v') : Sl n ((t, v') :: S) a := ⟨hs.size, hs.defers, fun i u hu => by
    simp only [getS] at hu
    cases hk : Nat.beq t i with
    | true =>
      have : t = i := Nat.eq_of_beq_eq_true hk
      subst this
      rw [hk] at hu
      have hu : v' = u := Option.some.inj hu
      rw [← hu, ← e]
      exact hs.get t _ h
    | false => rw [hk] at hu; exact hs.get i u hu⟩
theorem LW.re {ol : List Oper} {f : Fct} (f' : Fct) (hr : Rem L f l) (he : f = f') (h : LW P ops Q ol n S w0 X (f' :: l)) : LW P ops Q ol n S w0 X L := fun a w hs hw => h a w hs (hw.re f' hr he)
theorem CW.re {c : Code} {f : Fct} (f' : Fct) (hr : Rem L f l) (he : f = f') (h : CW P c Q n S w0 X (f' :: l)) : CW P c Q n S w0 X L := fun a w hs hw => h a w hs (hw.re f' hr he)
theorem LW.sl {ol : List Oper} (t : Nat) {v : Value} (v' : Value) (h : getS S t = some v) (e : v = v') (hk : LW P ops Q ol n ((t, v') :: S) w0 X L) : LW P ops Q ol n S w0 X L := fun a w hs hw => hk a w (hs.re v' h e) hw
theorem CW.sl {c : Code} (t : Nat) {v : Value} (v' : Value) (h : getS S t = some v) (e : v = v') (hk : CW P c Q n ((t, v') :: S) w0 X L) : CW P c Q n S w0 X L := fun a w hs hw => hk a w (hs.re v' h e) hw
/-! ### rows of structs -/
def flat {α : Type} (f : α → List Value) (xs : List α) : List Value := xs.flatMap f
section
variable {α : Type} {f : α → List Value} {k : Nat}
theorem flat_nil : flat f [] = [] := rfl
theorem flat_cons (x : α) (xs : List α) : flat f (x :: xs) = f x ++ flat f xs := rfl
theorem flat_len (hf : ∀ x, (f x).length = k) (xs : List α) : (flat f xs).length = xs.length * k := by
  induction xs with
  | nil => simp [flat]
  | cons x r ih => rw [flat_cons, List.length_append, ih, hf, List.length_cons, Nat.add_mul]; omega
theorem flat_get (hf : ∀ x, (f x).length = k) : ∀ (xs : List α) (i j : Nat) (x : α), xs[i]? = some x → j < k → (flat f xs)[i * k + j]? = (f x)[j]?
  | [], i, j, x, h, _ => by simp at h
  | y :: r, 0, j, x, h, hj => by
    simp at h; subst h
    rw [flat_cons, Nat.zero_mul, Nat.zero_add, List.getElem?_append_left (by rw [hf]; exact hj)]
  | y :: r, i + 1, j, x, h, hj => by
    simp at h
    have := flat_get hf r i j x h hj
    rw [flat_cons, List.getElem?_append_right (by rw [hf, Nat.add_mul]; omega), hf, ← this]
    congr 1
    rw [Nat.add_mul]; omega
theorem flat_app (xs ys : List α) : flat f xs ++ flat f ys = flat f (xs ++ ys) := by simp [flat]
theorem flat_snoc (xs : List α) (y : α) : flat f xs ++ f y = flat f (xs ++ [y]) := by simp [flat]
theorem flat_ones (h : ∀ x, (f x).all Value.oneCell' = true) (xs : List α) : (flat f xs).all Value.oneCell' = true := by
  rw [List.all_eq_true]
  intro v hv
  obtain ⟨x, _, hx⟩ := List.mem_flatMap.1 hv
  exact List.all_eq_true.1 (h x) v hx
/-- one cell anew -/
theorem flat_set1 (hf : ∀ x, (f x).length = k) : ∀ (xs : List α) (i j : Nat) (x y : α) (v : Value), xs[i]? = some x → j < k → (f x).set j v = f y → (flat f xs).set (i * k + j) v = flat f (xs.set i y)
  | [], i, j, x, y, v, h, _, _ => by simp at h
  | z :: r, 0, j, x, y, v, h, hj, hv => by
    simp at h; subst h
    rw [flat_cons, Nat.zero_mul, Nat.zero_add, List.set_append_left _ _ (by rw [hf]; exact hj), hv]; rfl
  | z :: r, i + 1, j, x, y, v, h, hj, hv => by
    simp at h
    have := flat_set1 hf r i j x y v h hj hv
    rw [flat_cons, List.set_append_right _ _ (by rw [hf, Nat.add_mul]; omega), hf, List.set_cons_succ, flat_cons, ← this]
    congr 3
    rw [Nat.add_mul]; omega
/-- one element anew -/
theorem flat_setN (hf : ∀ x, (f x).length = k) : ∀ (xs : List α) (i : Nat) (y : α), i < xs.length → (flat f xs).take (i * k) ++ f y ++ (flat f xs).drop (i * k + k) = flat f (xs.set i y)
  | [], i, y, h => by simp at h
  | z :: r, 0, y, h => by
    rw [flat_cons, Nat.zero_mul, Nat.zero_add, List.take_zero, List.nil_append, List.drop_append_of_le_length (by rw [hf]; omega), List.drop_of_length_le (by rw [hf]; omega), List.nil_append]; rfl
  | z :: r, i + 1, y, h => by
    simp at h
    have := flat_setN hf r i y h
    have e1 : (i + 1) * k = (f z).length + i * k := by rw [hf, Nat.add_mul]; omega
    rw [flat_cons, e1, List.take_length_add_append, Nat.add_assoc, List.drop_length_add_append, List.set_cons_succ, flat_cons, ← this]
    simp
theorem flat_take (hf : ∀ x, (f x).length = k) : ∀ (xs : List α) (i : Nat), (flat f xs).take (i * k) = flat f (xs.take i)
  | [], i => by simp [flat]
  | z :: r, 0 => by simp [flat]
  | z :: r, i + 1 => by
    have e1 : (i + 1) * k = (f z).length + i * k := by rw [hf, Nat.add_mul]; omega
    rw [flat_cons, e1, List.take_length_add_append, List.take_succ_cons, flat_cons, flat_take hf r i]
theorem flat_drop (hf : ∀ x, (f x).length = k) : ∀ (xs : List α) (i : Nat), (flat f xs).drop (i * k) = flat f (xs.drop i)
  | [], i => by simp [flat]
  | z :: r, 0 => by simp [flat]
  | z :: r, i + 1 => by
    have e1 : (i + 1) * k = (f z).length + i * k := by rw [hf, Nat.add_mul]; omega
    rw [flat_cons, e1, List.drop_length_add_append, List.drop_succ_cons, flat_drop hf r i]
end
/-- A slice of structs that reads as the cells cs: m elements of k cells, by_ bytes each -/
structure RdR (w : World) (A : Option Addr) (m c by_ k : Nat) (cs : List Value) : Prop where
  le : m ≤ c
  capLe : c ≤ 9223372036854775807
  len : cs.length = m * k
  bnd : m * by_ ≤ 140737488351232
  at_ : ∀ (j : Nat) v, cs[j]? = some v → ∃ ad, A = some ad ∧ w.cell? (ad.add j) = some v
theorem RdR.up {w W : World} {A : Option Addr} {m c by_ k : Nat} {cs : List Value} (h : RdR w A m c by_ k cs) (hb : Below w.heap.size w W) : RdR W A m c by_ k cs :=
  ⟨h.le, h.capLe, h.len, h.bnd, fun j v hj => by
    obtain ⟨ad, e, h1⟩ := h.at_ j v hj
    exact ⟨ad, e, by rw [World.cell?_of_block (hb.block (ad.add j).block (World.block_lt_of_cell? w _ h1))]; exact h1⟩⟩
theorem RdR.nil (w : World) (by_ k : Nat) : RdR w none 0 0 by_ k [] := ⟨by omega, by omega, by simp, by simp, fun j v h => by simp at h⟩
theorem SH.rdR {w : World} {A : Option Addr} {e m c by_ k : Nat} {cs : List Value} (hr : Rem L (.row e k (.slice A m c) m cs) l) (hb : m * by_ ≤ 140737488351232) (hw : SH w0 X w L) : RdR w A m c by_ k cs := by
  have h : w.ownsRow 0 e k (.slice A m c) m cs := hw.has hr
  rcases h.2 with ⟨hv, h0⟩ | ⟨g, cap, cur, hv, h0, hg, h1, h2, h3⟩
  · injection hv with e1 e2 e3
    subst e1 e2 e3
    have : cs = [] := List.eq_nil_of_length_eq_zero (by have := h.1; simpa using this)
    subst this
    exact RdR.nil w by_ k
  · injection hv with e1 e2 e3
    subst e1 e3
    exact ⟨h1, by simpa [maxLen] using h2, h.1, hb, fun j v hj => ⟨_, rfl, h.cells (g := g) rfl j v hj⟩⟩
/-- the address of an element, by a Nat -/
theorem x_idxN {t e : TypeId} {x y : Operand} {ad : Addr} {m c sz : Nat} {i : Nat} {k : IntKind} (ho : o.op = .indexAddr t x y) (hx : evS S x = some (.slice (some ad) m c)) (hy : evS S y = some (.int k (i : Nat))) (ht : elS P t = some (e, sz)) (h : i < m) : OpV P o S w0 X L (.pointer (some (ad.add (i * sz)))) := by
  have := x_idx (P := P) (w0 := w0) (X := X) (L := L) ho hx hy ht ⟨by omega, by omega⟩
  simpa using this
/-- an element, loaded -/
theorem x_loadF {α : Type} {f : α → List Value} {t : TypeId} {x : Operand} {ad : Addr} {m c by_ k i : Nat} {xs : List α} {y : α} (hR : RdR w0 (some ad) m c by_ k (flat f xs)) (hX : ∀ j, (ad.add j).block ∉ X) (hf : ∀ x, (f x).length = k) (ho : o.op = .load t x) (hx : evS S x = some (.pointer (some (ad.add (i * k))))) (ht : tyS P t = some (some k)) (hy : xs[i]? = some y) : OpV P o S w0 X L (.agg (f y).toArray) :=
  x_loadN ho hx ht (hf y) fun w hw j v hj => by
    have hjk : j < k := by rw [← hf y]; exact (List.getElem?_eq_some_iff.1 hj).1
    obtain ⟨ad', e, h1⟩ := hR.at_ (i * k + j) v (by rw [flat_get hf xs i j y hy hjk]; exact hj)
    cases e
    rw [Addr.add_add, World.cell?_of_block (hw.old _ (World.block_lt_of_cell? w0 _ h1) (hX _))]
    exact h1
/-- a cell of an element, loaded -/
theorem x_loadF1 {α : Type} {f : α → List Value} {t : TypeId} {x : Operand} {ad : Addr} {m c by_ k i j : Nat} {xs : List α} {y : α} {v : Value} (hR : RdR w0 (some ad) m c by_ k (flat f xs)) (hX : ∀ j, (ad.add j).block ∉ X) (hf : ∀ x, (f x).length = k) (ho : o.op = .load t x) (hx : evS S x = some (.pointer (some ((ad.add (i * k)).add j)))) (ht : tyS P t = some none) (hy : xs[i]? = some y) (hj : (f y)[j]? = some v) : OpV P o S w0 X L v :=
  x_load1 ho hx ht fun w hw => by
    have hjk : j < k := by rw [← hf y]; exact (List.getElem?_eq_some_iff.1 hj).1
    obtain ⟨ad', e, h1⟩ := hR.at_ (i * k + j) v (by rw [flat_get hf xs i j y hy hjk]; exact hj)
    cases e
    rw [Addr.add_add, World.cell?_of_block (hw.old _ (World.block_lt_of_cell? w0 _ h1) (hX _))]
    exact h1
/-- an element of a row of the call's own, loaded -/
theorem x_loadO {α : Type} {f : α → List Value} {t e : TypeId} {x : Operand} {g m c n' k i : Nat} {xs : List α} {y : α} (hr : Rem L (.row e k (.slice (some ⟨g, 0, none⟩) m c) n' (flat f xs)) l) (hf : ∀ x, (f x).length = k) (ho : o.op = .load t x) (hx : evS S x = some (.pointer (some ((⟨g, 0, none⟩ : Addr).add (i * k))))) (ht : tyS P t = some (some k)) (hy : xs[i]? = some y) : OpV P o S w0 X L (.agg (f y).toArray) :=
  x_loadN ho hx ht (hf y) fun w hw j v hj => by
    have hjk : j < k := by rw [← hf y]; exact (List.getElem?_eq_some_iff.1 hj).1
    rw [Addr.add_add, addr_add, Nat.zero_add]
    exact row_get hr (by rw [flat_get hf xs i j y hy hjk]; exact hj) hw
theorem x_loadO1 {α : Type} {f : α → List Value} {t e : TypeId} {x : Operand} {g m c n' k i j : Nat} {xs : List α} {y : α} {v : Value} (hr : Rem L (.row e k (.slice (some ⟨g, 0, none⟩) m c) n' (flat f xs)) l) (hf : ∀ x, (f x).length = k) (ho : o.op = .load t x) (hx : evS S x = some (.pointer (some (((⟨g, 0, none⟩ : Addr).add (i * k)).add j)))) (ht : tyS P t = some none) (hy : xs[i]? = some y) (hj : (f y)[j]? = some v) : OpV P o S w0 X L v :=
  x_load1 ho hx ht fun w hw => by
    have hjk : j < k := by rw [← hf y]; exact (List.getElem?_eq_some_iff.1 hj).1
    rw [Addr.add_add, addr_add, Nat.zero_add]
    exact row_get hr (by rw [flat_get hf xs i j y hy hjk]; exact hj) hw
/-- a cell of an element of a row of the call's own, stored -/
theorem y_storeO1 {α : Type} {f : α → List Value} {t e : TypeId} {x y : Operand} {g m c n' k i j : Nat} {xs : List α} {z z' : α} {v : Value} (hf : ∀ x, (f x).length = k) (ho : o.op = .store t x y) (hx : evS S x = some (.pointer (some (((⟨g, 0, none⟩ : Addr).add (i * k)).add j)))) (hy : evS S y = some v) (hc : v.cells = #[v]) (h1 : v.oneCell' = true) (ht : tyS P t = some none) (hr : Rem L (.row e k (.slice (some ⟨g, 0, none⟩) m c) n' (flat f xs)) l) (hz : xs[i]? = some z) (hj : Nat.blt j k = true) (hv : (f z).set j v = f z') :
    OpW P o S w0 X L (fun _ : Unit => undef) (fun _ => .row e k (.slice (some ⟨g, 0, none⟩) m c) n' (flat f (xs.set i z')) :: l) := by
  have hjk : j < k := by simpa [Nat.blt_eq] using hj
  have hi : i < xs.length := (List.getElem?_eq_some_iff.1 hz).1
  rw [← flat_set1 hf xs i j z z' v hz hjk hv]
  refine y_storeR (j := i * k + j) ho hx hy hc h1 ht (by rw [Addr.add_add, addr_add, Nat.zero_add]) hr ?_
  rw [flat_len hf]
  have : (i + 1) * k ≤ xs.length * k := Nat.mul_le_mul_right k hi
  rw [Nat.add_mul] at this
  omega
theorem y_storeON {α : Type} {f : α → List Value} {t e : TypeId} {x y : Operand} {g m c n' k i : Nat} {xs : List α} {z' : α} (hf : ∀ x, (f x).length = k) (ho : o.op = .store t x y) (hx : evS S x = some (.pointer (some ((⟨g, 0, none⟩ : Addr).add (i * k))))) (hy : evS S y = some (.agg (f z').toArray)) (h1 : (f z').all Value.oneCell' = true) (ht : tyS P t = some (some k)) (hr : Rem L (.row e k (.slice (some ⟨g, 0, none⟩) m c) n' (flat f xs)) l) (hi : i < xs.length) :
    OpW P o S w0 X L (fun _ : Unit => undef) (fun _ => .row e k (.slice (some ⟨g, 0, none⟩) m c) n' (flat f (xs.set i z')) :: l) := by
  rw [← flat_setN hf xs i z' hi]
  refine y_storeRN (j := i * k) (k := k) ho hx hy h1 ht (hf z') (by rw [addr_add, Nat.zero_add]) hr ?_
  rw [flat_len hf]
  have : (i + 1) * k ≤ xs.length * k := Nat.mul_le_mul_right k hi
  rw [Nat.add_mul] at this
  omega
/-- append of a slice that is read -/
theorem y_appendX {t e ty : TypeId} {sz by_ : Nat} {x y : Operand} {A B : Option Addr} {m c k c' : Nat} {cs news : List Value} (hR : RdR w0 B k c' by_ sz news) (hX : ∀ ad, B = some ad → ∀ j, (ad.add j).block ∉ X) (ho : o.op = .call { callee := .builtin .append, args := #[x, y], argTypes := #[t, t] }) (hx : evS S x = some (.slice A m c)) (hy : evS S y = some (.slice B k c')) (ht : elS P t = some (e, sz)) (hi : inS P e = some (sz, by_)) (hs0 : Nat.blt 0 sz = true)
    (hB : B ≠ none) (hr : Rem L (.row e sz (.slice A m c) m cs) l) (h1 : news.all Value.oneCell' = true) (hb : m + k ≤ 9223372036854775807 ∧ (m + k) * by_ ≤ 140737488355328) :
    OpW P o S w0 X L (fun p : Option Addr × Nat => .slice p.1 (m + k) p.2) (fun p => .row e sz (.slice p.1 (m + k) p.2) (m + k) (cs ++ news) :: l) := by
  obtain ⟨ad, rfl⟩ : ∃ ad, B = some ad := by cases B with | none => exact absurd rfl hB | some ad => exact ⟨ad, rfl⟩
  refine y_append (P := P) (ty := ty) ho hx hy ht hi hs0 hr hR.len h1 (fun w hw j u hj => ?_) hb
  obtain ⟨ad', e, h2⟩ := hR.at_ j u hj
  cases e
  rw [World.cell?_of_block (hw.old _ (World.block_lt_of_cell? w0 _ h2) (hX _ rfl _))]
  exact h2
/-- append of nil -/
theorem run_append_none (w : World) (t ty e : TypeId) (ht : P.underlying t = some (.slice e)) {i : TypeInfo} (hi : P.info? e = some i) (A : Option Addr) (m c c' : Nat) (hm : m ≤ c) :
    (Builtin.append_ #[t, t] ty #[.slice A m c, .slice none 0 c']).run P w = .ok (.slice A m c) w := by
  unfold Builtin.append_
  simp [run_underlying ht, sizeOf, typeInfo, hi, Builtin.lenOf, hm, Builtin.firstCells]
  cases A <;> simp [storeCells]
/-- append of a slice that is read, nil or not -/
theorem y_appendA {t e ty : TypeId} {sz by_ : Nat} {x y : Operand} {A B : Option Addr} {m c k c' : Nat} {cs news : List Value} (hR : RdR w0 B k c' by_ sz news) (hX : ∀ ad, B = some ad → ∀ j, (ad.add j).block ∉ X) (ho : o.op = .call { callee := .builtin .append, args := #[x, y], argTypes := #[t, t] }) (hx : evS S x = some (.slice A m c)) (hy : evS S y = some (.slice B k c')) (ht : elS P t = some (e, sz)) (hi : inS P e = some (sz, by_)) (hs0 : Nat.blt 0 sz = true)
    (hr : Rem L (.row e sz (.slice A m c) m cs) l) (h1 : news.all Value.oneCell' = true) (hb : m + k ≤ 9223372036854775807 ∧ (m + k) * by_ ≤ 140737488355328) :
    OpW P o S w0 X L (fun p : Option Addr × Nat => .slice p.1 (m + k) p.2) (fun p => .row e sz (.slice p.1 (m + k) p.2) (m + k) (cs ++ news) :: l) := by
  cases B with
  | some ad => exact y_appendX (ty := ty) hR hX ho hx hy ht hi hs0 (by simp) hr h1 hb
  | none =>
    have hk : k = 0 := by
      rcases Nat.eq_zero_or_pos k with h | h
      · exact h
      · exfalso
        have hl : 0 < news.length := by rw [hR.len]; exact Nat.mul_pos h (by simpa [Nat.blt_eq] using hs0)
        obtain ⟨ad, e, _⟩ := hR.at_ 0 news[0] (by simp [hl])
        cases e
    subst hk
    have hn : news = [] := List.eq_nil_of_length_eq_zero (by rw [hR.len]; simp)
    subst hn
    intro n a w K Q hs hw hk
    obtain ⟨i, z, hi', _⟩ := inS_spec hi
    have hown : w.ownsRow 0 e sz (.slice A m c) m cs := hw.has hr
    have hmc : m ≤ c := by
      rcases hown.2 with ⟨hv, h0⟩ | ⟨g, cap, cur, hv, h0, hg, h1, h2, h3⟩
      · injection hv with e1 e2 e3; omega
      · injection hv with e1 e2 e3; omega
    have hrun := run_append_none (P := P) w t o.type e (elS_spec ht).1 hi' A m c c' hmc
    have := hk (A, c) w (by simpa using hw.front hr)
    unfold Oper.wp
    simp [execOp, ho, resolve, invoke, builtin, hs.eval hx, hs.eval hy, hrun, Oper.upon]
    simpa using this
theorem x_nilEq {t e : TypeId} {x y : Operand} {yt : TypeId} {A : Option Addr} {m c : Nat} (ho : o.op = .binOp .eql t x y yt) (hx : evS S x = some (.slice A m c)) (hy : evS S y = some (.slice none 0 0)) (ht : P.underlying t = some (.slice e)) : OpV P o S w0 X L (.bool A.isNone) := fun n a w hs hw => by
  have hr := run_eql_slice_nil (P := P) w t e A m c ht
  simp [execOp, ho, hs.eval hx, hs.eval hy, eqGuard_at_slice, hr]
end
end Go.Proofs.Ytbgjlojnbdnoaaa
