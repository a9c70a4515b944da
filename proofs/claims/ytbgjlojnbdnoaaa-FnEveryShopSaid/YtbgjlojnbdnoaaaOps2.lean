/- Laws of the operations on slices, over states; guards; cuts. -/
import Derived.Test.YtbgjlojnbdnoaaaOps
import Derived.Maps.AppendAt
import Derived.Deep.OwnRows
import Derived.Deep.RegionLaw
import Derived.Laws.CopyOwn
namespace Go.Proofs.Ytbgjlojnbdnoaaa
open Go.RowKit
set_option linter.unusedVariables false
set_option linter.unusedSimpArgs false
set_option linter.unusedSectionVars false

section
variable {P : Program} {Q : Exit → Act → World → Prop} {n : Nat} {S : Slots} {w0 : World} {X : List Nat} {L l : List Fct} {ops : Array Oper} {rest : List Oper} {o : Oper}

theorem gS {i : Nat} {k : IntKind} {a b : Int} (h : getS S i = some (.int k a)) (e : a = b) : getS S i = some (.int k b) := by rw [h, e]
theorem inC {w0 : World} {L : List Fct} {ad : Addr} {v : Value} (h : w0.cell? ad = some v) : ∀ w, SH w0 [] w L → w.cell? ad = some v := fun w hw => by
  rw [World.cell?_of_block (hw.below.block ad.block (World.block_lt_of_cell? w0 ad h))]; exact h

/-! ### guards -/
def isB (want : Bool) : Value → Bool
  | .bool b => b == want
  | _ => false
theorem wanted_is {j t : Nat} {want : Bool} {v : Value} {a : Act} (hs : Sl n S a) (hg : o.guard = some (j, want)) (hj : (ops[j]?).bind (·.dst) = some t) (hv : getS S t = some v) : Region.wanted o (yielded ops a.tmps) = isB want v := by
  have e := hs.get t v hv
  have key : ∀ x : Option Value, x.getD undef = v → ((match x with | some (.bool b) => some b | _ => none) == some want) = isB want v := by
    intro x hx
    cases x with
    | none => have hx : undef = v := hx; subst hx; rfl
    | some u =>
      have hx : u = v := hx
      subst hx
      cases u <;> first | rfl | simp [isB]
  simp only [Region.wanted, hg, yielded, hj]
  rw [Array.getD_eq_getD_getElem?] at e
  exact key _ e
theorem LW.gF {d j t : Nat} {want : Bool} {v : Value} (hg : o.guard = some (j, want)) (hj : (ops[j]?).bind (·.dst) = some t) (hv : getS S t = some v) (hne : isB want v = false) (hd : o.dst = some d) (hn : Nat.blt d n = true)
    (h : LW P ops Q rest n ((d, undef) :: S) w0 X L) : LW P ops Q (o :: rest) n S w0 X L := by
  intro a w hs hw
  unfold wpList
  rw [if_neg (by rw [wanted_is hs hg hj hv, hne]; simp)]
  exact h _ _ (by rw [hd]; exact hs.put d _ hn) hw
theorem LW.gF0 {j t : Nat} {want : Bool} {v : Value} (hg : o.guard = some (j, want)) (hj : (ops[j]?).bind (·.dst) = some t) (hv : getS S t = some v) (hne : isB want v = false) (hd : o.dst = none)
    (h : LW P ops Q rest n S w0 X L) : LW P ops Q (o :: rest) n S w0 X L := by
  intro a w hs hw
  unfold wpList
  rw [if_neg (by rw [wanted_is hs hg hj hv, hne]; simp)]
  exact h _ _ (by rw [hd]; exact hs) hw
theorem wanted_true {j t : Nat} {want : Bool} {a : Act} (hs : Sl n S a) (hg : o.guard = some (j, want)) (hj : (ops[j]?).bind (·.dst) = some t) (hv : getS S t = some (.bool want)) : Region.wanted o (yielded ops a.tmps) = true := by
  rw [wanted_is hs hg hj hv]; simp [isB]
theorem LW.opG {α : Type} {V : α → Value} {N : α → List Fct} {d j t : Nat} {want : Bool} (hg : o.guard = some (j, want)) (hj : (ops[j]?).bind (·.dst) = some t) (hv : getS S t = some (.bool want)) (hd : o.dst = some d) (hn : Nat.blt d n = true) (ho : OpW P o S w0 X L V N)
    (h : ∀ p, LW P ops Q rest n ((d, V p) :: S) w0 X (N p)) : LW P ops Q (o :: rest) n S w0 X L := by
  intro a w hs hw
  unfold wpList
  rw [if_pos (wanted_true hs hg hj hv)]
  exact .inl (ho n a w _ _ hs hw fun p w' hw' => h p _ _ (by rw [hd]; exact hs.put d _ hn) hw')
theorem LW.opG0 {α : Type} {V : α → Value} {N : α → List Fct} {j t : Nat} {want : Bool} (hg : o.guard = some (j, want)) (hj : (ops[j]?).bind (·.dst) = some t) (hv : getS S t = some (.bool want)) (hd : o.dst = none) (ho : OpW P o S w0 X L V N)
    (h : ∀ p, LW P ops Q rest n S w0 X (N p)) : LW P ops Q (o :: rest) n S w0 X L := by
  intro a w hs hw
  unfold wpList
  rw [if_pos (wanted_true hs hg hj hv)]
  exact .inl (ho n a w _ _ hs hw fun p w' hw' => h p _ _ (by rw [hd]; exact hs) hw')
theorem LW.valG {v : Value} {d j t : Nat} {want : Bool} (hg : o.guard = some (j, want)) (hj : (ops[j]?).bind (·.dst) = some t) (hv : getS S t = some (.bool want)) (hd : o.dst = some d) (hn : Nat.blt d n = true) (ho : OpV P o S w0 X L v)
    (h : LW P ops Q rest n ((d, v) :: S) w0 X L) : LW P ops Q (o :: rest) n S w0 X L := LW.opG hg hj hv hd hn ho.w fun _ => h
/-- by the two values of a bool in a slot -/
theorem LW.split {t : Nat} {b : Bool} {l : List Oper} (hb : getS S t = some (.bool b)) (hT : b = true → LW P ops Q l n ((t, .bool true) :: S) w0 X L) (hF : b = false → LW P ops Q l n ((t, .bool false) :: S) w0 X L) : LW P ops Q l n S w0 X L := by
  intro a w hs hw
  have key : ∀ c, b = c → Sl n ((t, .bool c) :: S) a := fun c e => ⟨hs.size, hs.defers, fun i u hu => by
    simp only [getS] at hu
    cases hk : Nat.beq t i with
    | true =>
      have : t = i := Nat.eq_of_beq_eq_true hk
      subst this
      rw [hk] at hu
      have hu : Value.bool c = u := Option.some.inj hu
      rw [← hu, ← e]
      exact hs.get t _ hb
    | false => rw [hk] at hu; exact hs.get i u hu⟩
  cases b
  · exact hF rfl a w (key _ rfl) hw
  · exact hT rfl a w (key _ rfl) hw
theorem x_pickT {c x y : Operand} {v : Value} (ho : o.op = .pick c x y) (hc : evS S c = some (.bool true)) (hx : evS S x = some v) : OpV P o S w0 X L v := fun n a w hs hw => by
  simp [execOp, ho, hs.eval hc, hs.eval hx, asBool]
theorem x_pickF {c x y : Operand} {v : Value} (ho : o.op = .pick c x y) (hc : evS S c = some (.bool false)) (hx : evS S y = some v) : OpV P o S w0 X L v := fun n a w hs hw => by
  simp [execOp, ho, hs.eval hc, hs.eval hx, asBool]

/-! ### slices -/
/-- an element type: its cells, its bytes -/
def inS (P : Program) (e : TypeId) : Option (Nat × Nat) := match P.info? e with
  | some i => match i.zero with
    | some z => if z.cells.size = i.size then some (i.size, i.bytes) else none
    | none => none
  | none => none
theorem inS_spec {e : TypeId} {sz by_ : Nat} (h : inS P e = some (sz, by_)) : ∃ i z, P.info? e = some i ∧ i.zero = some z ∧ i.size = sz ∧ i.bytes = by_ ∧ z.cells.size = sz := by
  unfold inS at h
  cases hi : P.info? e with
  | none => rw [hi] at h; cases h
  | some i =>
    rw [hi] at h
    cases hz : i.zero with
    | none => simp [hz] at h
    | some z =>
      simp [hz] at h
      exact ⟨i, z, rfl, hz, h.2.1, h.2.2, by rw [h.1, h.2.1]⟩
theorem elS_spec {t e : TypeId} {sz : Nat} (h : elS P t = some (e, sz)) : P.underlying t = some (.slice e) ∧ ∃ i, P.info? e = some i ∧ i.size = sz := by
  unfold elS at h
  split at h <;> try cases h
  rename_i e' hu
  cases hi : P.info? e' with
  | none => rw [hi] at h; cases h
  | some inf =>
    rw [hi] at h
    simp at h
    obtain ⟨rfl, rfl⟩ := h
    exact ⟨hu, inf, hi, rfl⟩
theorem ownsRow_form {w : World} {base e sz n' : Nat} {v : Value} {cs : List Value} (h : w.ownsRow base e sz v n' cs) : ∃ A c, v = .slice A n' c := by
  rcases h.2 with ⟨rfl, h0⟩ | ⟨g, cap, cur, rfl, _⟩
  · subst h0; exact ⟨none, 0, rfl⟩
  · exact ⟨_, cap, rfl⟩
theorem ownsRow_zero {w : World} {base e sz n' : Nat} {v : Value} {cs : List Value} (h : w.ownsRow base e sz v n' cs) : w.ownsRow 0 e sz v n' cs := by
  refine ⟨h.1, ?_⟩
  rcases h.2 with h2 | ⟨g, cap, cur, rfl, h0, rest⟩
  · exact .inl h2
  · exact .inr ⟨g, cap, cur, rfl, Nat.zero_le _, rest⟩
theorem SH.grown {w w' : World} {e sz m m' : Nat} {v v' : Value} {cs cs' : List Value} (h : SH w0 X w (.row e sz v m cs :: l)) (hg : w.grownBy w' v.ownBlock) (ho : w'.ownsRow 0 e sz v' m' cs') (hb : v'.ownBlock = v.ownBlock ∨ v'.ownBlock = some w.heap.size) : SH w0 X w' (.row e sz v' m' cs' :: l) := by
  refine SH.step (F := [.row e sz v m cs]) (X' := v.ownBlock.toList) (N := [.row e sz v' m' cs']) h (fun k hk => ⟨_, .head _, by simpa [Fct.foot] using hk⟩) ⟨hg.os, hg.tape, hg.output, hg.size, fun k hk hx => hg.block k hk (fun e => hx (by simp [← e])), fun f hf => ?_, fun f hf k hk => ?_, by simp⟩
  · rw [List.mem_singleton] at hf; subst hf; exact ho
  · rw [List.mem_singleton] at hf; subst hf
    have hk : v'.ownBlock = some k := hk
    rcases hb with hb | hb
    · exact .inr (by rw [← hb, hk]; simp)
    · exact .inl (by rw [hb] at hk; exact Nat.le_of_eq (Option.some.inj hk))
/-- append: the new cells at ad -/
theorem y_append {t e ty : TypeId} {sz by_ : Nat} {x y : Operand} {A : Option Addr} {ad : Addr} {m c k c' : Nat} {cs news : List Value} (ho : o.op = .call { callee := .builtin .append, args := #[x, y], argTypes := #[t, t] }) (hx : evS S x = some (.slice A m c)) (hy : evS S y = some (.slice (some ad) k c')) (ht : elS P t = some (e, sz)) (hi : inS P e = some (sz, by_)) (hs0 : Nat.blt 0 sz = true)
    (hr : Rem L (.row e sz (.slice A m c) m cs) l) (hl : news.length = k * sz) (h1 : news.all Value.oneCell' = true) (hn : ∀ w, SH w0 X w L → ∀ j u, news[j]? = some u → w.cell? (ad.add j) = some u) (hb : m + k ≤ 9223372036854775807 ∧ (m + k) * by_ ≤ 140737488355328) :
    OpW P o S w0 X L (fun p : Option Addr × Nat => .slice p.1 (m + k) p.2) (fun p => .row e sz (.slice p.1 (m + k) p.2) (m + k) (cs ++ news) :: l) := by
  intro n a w K Q hs hw hk
  obtain ⟨i, z, hi, hz, h2, h3, h4⟩ := inS_spec hi
  have hf := hw.front hr
  obtain ⟨v', w', hrun, hown, hg, _, hat⟩ := run_append_own_at (P := P) w 0 t o.type e i z sz by_ (elS_spec ht).1 hi hz h2 h3 h4 (by simpa [Nat.blt_eq] using hs0) (.slice A m c) m cs (hw.has hr) ad k c' news hl (hn w hw) (by simpa using h1) (by simpa [maxLen] using hb.1) hb.2 (Nat.zero_le _)
  obtain ⟨A', c'', rfl⟩ := ownsRow_form hown
  have := hk (A', c'') w' (hf.grown hg hown hat)
  unfold Oper.wp
  simp [execOp, ho, resolve, invoke, builtin, hs.eval hx, hs.eval hy, hrun, Oper.upon]
  exact this
theorem row_get {w : World} {e sz g m c n' j : Nat} {cs : List Value} {v : Value} (hr : Rem L (.row e sz (.slice (some ⟨g, 0, none⟩) m c) n' cs) l) (hv : cs[j]? = some v) (hw : SH w0 X w L) : w.cell? ⟨g, j, none⟩ = some v := by
  have h : w.ownsRow 0 e sz (.slice (some ⟨g, 0, none⟩) m c) n' cs := hw.has hr
  have := h.cells (g := g) rfl j v hv
  rwa [addr_add, Nat.zero_add] at this
/-- .. out of another row of the call's own (a variadic's box) -/
theorem y_appendR {t e ty e' sz' : Nat} {sz by_ : Nat} {x y : Operand} {A : Option Addr} {g : Nat} {m c k c' : Nat} {cs news : List Value} {l' : List Fct} (ho : o.op = .call { callee := .builtin .append, args := #[x, y], argTypes := #[t, t] }) (hx : evS S x = some (.slice A m c)) (hy : evS S y = some (.slice (some ⟨g, 0, none⟩) k c')) (ht : elS P t = some (e, sz)) (hi : inS P e = some (sz, by_)) (hs0 : Nat.blt 0 sz = true)
    (hr : Rem L (.row e sz (.slice A m c) m cs) l) (hr' : Rem l (.row e' sz' (.slice (some ⟨g, 0, none⟩) k c') k news) l') (hl : news.length = k * sz) (h1 : news.all Value.oneCell' = true) (hb : m + k ≤ 9223372036854775807 ∧ (m + k) * by_ ≤ 140737488355328) :
    OpW P o S w0 X L (fun p : Option Addr × Nat => .slice p.1 (m + k) p.2) (fun p => .row e sz (.slice p.1 (m + k) p.2) (m + k) (cs ++ news) :: l') := by
  intro n a w K Q hs hw hk
  refine y_append (P := P) (ty := ty) ho hx hy ht hi hs0 hr hl h1 (fun w hw j u hj => ?_) hb n a w K Q hs hw (fun p w' hw' => hk p w' ?_)
  · have := row_get hr' hj (hw.front hr).drop
    rwa [addr_add, Nat.zero_add]
  · have := hw'.front (.tail hr')
    exact (SH.drop this)
/-- a slice literal -/
theorem SH.allocRow {w : World} (h : SH w0 X w L) (cs : List Value) (e sz m : Nat) (hl : cs.length = m * sz) (hm : m ≤ 9223372036854775807) : SH w0 X (w.alloc (.cells cs.toArray e)) (.row e sz (.slice (some ⟨w.heap.size, 0, none⟩) m m) m cs :: L) := by
  refine SH.call (N := [.row e sz (.slice (some ⟨w.heap.size, 0, none⟩) m m) m cs]) h ⟨rfl, rfl, rfl, by simp, fun k hk _ => Below.heap_alloc _ _ _ hk, fun f hf => ?_, fun f hf k hk => ?_, by simp⟩
  · rw [List.mem_singleton] at hf; subst hf
    exact ⟨hl, .inr ⟨w.heap.size, m, cs.toArray, rfl, Nat.zero_le _, heap_alloc_new _ _, Nat.le_refl _, by simpa [maxLen] using hm, by simpa using hl, by simp [← hl]⟩⟩
  · rw [List.mem_singleton] at hf; subst hf; exact .inl (Nat.le_of_eq (Option.some.inj hk))
/-- make([]T, m), an element of one cell -/
theorem y_make {t e : TypeId} {by_ m : Nat} {x y : Operand} {z : Value} (ho : o.op = .makeSlice t x y) (hx : evS S x = some (.int .i64 (m : Nat))) (hy : evS S y = some (.int .i64 (m : Nat))) (ht : elS P t = some (e, 1)) (hi : inS P e = some (1, by_)) (hz : zeroS P e = some [z]) (hz1 : z.cells = #[z]) (hb : m ≤ 9223372036854775807 ∧ by_ * m ≤ 281474976710656) (hz0 : (P.info? e).map (·.zero) = some (some z)) :
    OpW P o S w0 X L (fun g : Nat => .slice (some ⟨g, 0, none⟩) m m) (fun g => .row e 1 (.slice (some ⟨g, 0, none⟩) m m) m (List.replicate m z) :: L) := by
  intro n a w K Q hs hw hk
  obtain ⟨i, z', hi, hz2, h2, h3, h4⟩ := inS_spec hi
  have hzz : z' = z := by rw [hi] at hz0; simpa [hz2] using hz0
  subst hzz
  have hrun := run_make_row' (P := P) t e z' by_ (elS_spec ht).1 (by rw [hi]; simp [hz2, h2, h3]) hz1 .i64 .i64 m hb.2 hb.1 w
  have hc : madeCells #[z'] m = (List.replicate m z').toArray := by
    apply Array.ext
    · simp [madeCells]
    · intro i h1 h2; simp [madeCells, Nat.mod_one]
  rw [hc] at hrun
  have := hk w.heap.size _ (hw.allocRow (List.replicate m z') e 1 m (by simp) hb.1)
  unfold Oper.wp
  simp [execOp, ho, hs.eval hx, hs.eval hy, hrun, Oper.upon]
  exact this
theorem rowC {e sz g m c n' j : Nat} {cs : List Value} {v : Value} {ad : Addr} (hr : Rem L (.row e sz (.slice (some ⟨g, 0, none⟩) m c) n' cs) l) (ha : ad = ⟨g, j, none⟩) (hv : cs[j]? = some v) : ∀ w, SH w0 X w L → w.cell? ad = some v := fun w hw => by
  subst ha; exact row_get hr hv hw
theorem SH.putRow {w : World} {e sz g m c n' j : Nat} {cs vs : List Value} (h : SH w0 X w L) (hr : Rem L (.row e sz (.slice (some ⟨g, 0, none⟩) m c) n' cs) l) (hf : j + vs.length ≤ cs.length) (h1 : ∀ v ∈ vs, v.oneCell' = true) :
    ∃ cur, w.heap[g]? = some (.cells cur e (0, 0)) ∧ j + vs.length ≤ cur.size ∧ SH w0 X (w.setRow g (cur.toList.take j ++ vs ++ cur.toList.drop (j + vs.length)).toArray) (.row e sz (.slice (some ⟨g, 0, none⟩) m c) n' (cs.take j ++ vs ++ cs.drop (j + vs.length)) :: l) := by
  have h0 : w.ownsRow 0 e sz (.slice (some ⟨g, 0, none⟩) m c) n' cs := h.has hr
  obtain ⟨hlen, h2⟩ := h0
  rcases h2 with ⟨hc, _⟩ | ⟨g', cap, cur, hv, hb, hh, hlc, hm, hcs, hpre⟩
  · cases hc
  · injection hv with e1 e2 e3
    injection e1 with e1
    injection e1 with e1
    subst e1 e2 e3
    have hpl : cs.length ≤ cur.toList.length := by rw [← hpre]; simp; omega
    refine ⟨cur, hh, by have : cur.toList.length = cur.size := by simp
                        omega, ?_⟩
    refine SH.step (F := [.row e sz (.slice (some ⟨g, 0, none⟩) m c) m cs]) (X' := [g]) (N := [.row e sz (.slice (some ⟨g, 0, none⟩) m c) m (cs.take j ++ vs ++ cs.drop (j + vs.length))]) (h.front hr) (fun k hk => ⟨_, .head _, ?_⟩) ⟨rfl, rfl, rfl, by simp [World.setRow], fun k hk hx => setRow_other w g k _ (fun e => hx (by simp [e])), fun f hf' => ?_, fun f hf' k hk => ?_, by simp⟩
    · rw [List.mem_singleton] at hk; subst hk; rfl
    · rw [List.mem_singleton] at hf'; subst hf'
      refine ⟨by simp; omega, .inr ⟨g, c, _, rfl, Nat.zero_le _, setRow_heap w g _ _ _ _ hh, hlc, hm, ?_, ?_⟩⟩
      · simp
        have : cur.toList.length = cur.size := by simp
        omega
      · have e4 : cur.toList = cs ++ cur.toList.drop cs.length := by
          have := List.take_append_drop cs.length cur.toList
          rw [show cs.length = m * sz from hlen, hpre] at this
          rw [show cs.length = m * sz from hlen]
          exact this.symm
        generalize cur.toList.drop cs.length = rst at e4
        simp only [List.toList_toArray]
        have e6 : cur.toList.take j = cs.take j := by rw [e4, List.take_append_of_le_length (by omega)]
        have e7 : cur.toList.drop (j + vs.length) = cs.drop (j + vs.length) ++ rst := by rw [e4, List.drop_append_of_le_length (by omega)]
        have e5 : (cs.take j ++ vs ++ cs.drop (j + vs.length)).length = m * sz := by simp; omega
        rw [e6, e7, ← List.append_assoc, List.take_append_of_le_length (by omega), ← e5, List.take_length]
    · rw [List.mem_singleton] at hf'; subst hf'; exact .inr (by have := Option.some.inj hk; have : g = k := this; simp [this])
/-- a store into a row of the call's own -/
theorem y_storeR {t e sz g m c n' j : Nat} {x y : Operand} {cs : List Value} {v : Value} {ad : Addr} (ho : o.op = .store t x y) (hx : evS S x = some (.pointer (some ad))) (hy : evS S y = some v) (hc : v.cells = #[v]) (h1 : v.oneCell' = true) (ht : tyS P t = some none) (ha : ad = ⟨g, j, none⟩) (hr : Rem L (.row e sz (.slice (some ⟨g, 0, none⟩) m c) n' cs) l) (hf : j < cs.length) :
    OpW P o S w0 X L (fun _ : Unit => undef) (fun _ => .row e sz (.slice (some ⟨g, 0, none⟩) m c) n' (cs.set j v) :: l) := by
  intro n a w K Q hs hw hk
  subst ha
  obtain ⟨cur, hb, hl, h2⟩ := hw.putRow hr (vs := [v]) (j := j) (by simp; omega) (by simpa using h1)
  have h3 := storeVar_run (P := P) (vs := [v]) (cs := cur.toList) hc (by simp [h1]) (run_isAgg1 ht w).2 rfl (b := g) (e := e) (by simpa using hb) (i := j) (by simpa using hl)
  have e1 : cs.take j ++ [v] ++ cs.drop (j + [v].length) = cs.set j v := by
    rw [List.set_eq_take_append_cons_drop, if_pos hf]; simp
  rw [e1] at h2
  have := hk () _ h2
  unfold Oper.wp
  simp [execOp, ho, hs.eval hx, hs.eval hy, Instr.storeAt, Instr.sureAddr, h3, Oper.upon]
  simpa using this
theorem y_storeRN {t e sz g m c n' j k : Nat} {x y : Operand} {cs vs : List Value} {ad : Addr} (ho : o.op = .store t x y) (hx : evS S x = some (.pointer (some ad))) (hy : evS S y = some (.agg vs.toArray)) (h1 : vs.all Value.oneCell' = true) (ht : tyS P t = some (some k)) (hvk : vs.length = k) (ha : ad = ⟨g, j, none⟩) (hr : Rem L (.row e sz (.slice (some ⟨g, 0, none⟩) m c) n' cs) l) (hf : j + k ≤ cs.length) :
    OpW P o S w0 X L (fun _ : Unit => undef) (fun _ => .row e sz (.slice (some ⟨g, 0, none⟩) m c) n' (cs.take j ++ vs ++ cs.drop (j + k)) :: l) := by
  intro n a w K Q hs hw hk
  subst ha
  subst hvk
  obtain ⟨cur, hb, hl, h2⟩ := hw.putRow hr (vs := vs) (j := j) hf (by simpa using h1)
  have h3 := storeVar_run (P := P) (v := .agg vs.toArray) (vs := vs) (cs := cur.toList) rfl h1 (run_isAggN ht w).2 rfl (b := g) (e := e) (by simpa using hb) (i := j) (by simpa using hl)
  have := hk () _ h2
  unfold Oper.wp
  simp [execOp, ho, hs.eval hx, hs.eval hy, Instr.storeAt, Instr.sureAddr, h3, Oper.upon]
  simpa using this
/-- a row of the call's own that is not empty has a block -/
theorem SH.opens {w : World} {e sz m c n' : Nat} {A : Option Addr} {cs : List Value} (hr : Rem L (.row e sz (.slice A m c) n' cs) l) (hn : 0 < cs.length) (hw : SH w0 X w L) : ∃ g, A = some ⟨g, 0, none⟩ := by
  have h : w.ownsRow 0 e sz (.slice A m c) n' cs := hw.has hr
  rcases h.2 with ⟨hc, h0⟩ | ⟨g, cap, cur, hv, _⟩
  · have := h.1; subst h0; simp at this; subst this; simp at hn
  · injection hv with e1 e2 e3; exact ⟨g, e1⟩
theorem LW.open_ {e sz m c n' : Nat} {A : Option Addr} {cs : List Value} {ol : List Oper} (hr : Rem L (.row e sz (.slice A m c) n' cs) l) (hn : 0 < cs.length) (h : ∀ g, A = some ⟨g, 0, none⟩ → LW P ops Q ol n S w0 X L) : LW P ops Q ol n S w0 X L := fun a w hs hw => by
  obtain ⟨g, hg⟩ := SH.opens hr hn hw; exact h g hg a w hs hw
theorem CW.open_ {e sz m c n' : Nat} {A : Option Addr} {cs : List Value} {cd : Code} (hr : Rem L (.row e sz (.slice A m c) n' cs) l) (hn : 0 < cs.length) (h : ∀ g, A = some ⟨g, 0, none⟩ → CW P cd Q n S w0 X L) : CW P cd Q n S w0 X L := fun a w hs hw => by
  obtain ⟨g, hg⟩ := SH.opens hr hn hw; exact h g hg a w hs hw
/-- nil owns nothing -/
theorem SH.nilRow {w : World} (e sz : Nat) (h : SH w0 X w L) : SH w0 X w (.row e sz (.slice none 0 0) 0 [] :: L) :=
  ⟨h.os, h.tape, h.output, h.size, h.old, fun f hf => by
    rcases List.mem_cons.1 hf with rfl | hf
    · exact World.ownsRow_nil _ _ _ _
    · exact h.facts f hf, fun f hf k hk => by
    rcases List.mem_cons.1 hf with rfl | hf
    · cases hk
    · exact h.base f hf k hk, List.pairwise_cons.2 ⟨fun g _ k hk => (by cases hk), h.apart⟩⟩
theorem LW.nilRow {ol : List Oper} (e sz : Nat) (h : LW P ops Q ol n S w0 X (.row e sz (.slice none 0 0) 0 [] :: L)) : LW P ops Q ol n S w0 X L := fun a w hs hw => h a w hs (hw.nilRow e sz)
theorem CW.nilRow {cd : Code} (e sz : Nat) (h : CW P cd Q n S w0 X (.row e sz (.slice none 0 0) 0 [] :: L)) : CW P cd Q n S w0 X L := fun a w hs hw => h a w hs (hw.nilRow e sz)
/-- what is behind a piece of code: shown once -/
theorem CW.cut {α : Type} {c : Code} (Pu : α → Prop) (Sx : α → Slots) (Lx : α → List Fct) (h1 : CW P c (fun e a w => e = .normal ∧ ∃ x, Pu x ∧ Sl n (Sx x) a ∧ SH w0 X w (Lx x)) n S w0 X L) (h2 : ∀ x, Pu x → QW (Q .normal) n (Sx x) w0 X (Lx x)) : CW P c Q n S w0 X L :=
  fun a w hs hw => Code.wp_mono (fun e a' w' h => by obtain ⟨rfl, x, hp, h3, h4⟩ := h; exact h2 x hp a' w' h3 h4) (h1 a w hs hw)
theorem QW.cutEnd {α : Type} {Pu : α → Prop} {Sx : α → Slots} {Lx : α → List Fct} (x : α) (hp : Pu x) (hs : SubS S (Sx x)) (hl : Sub L (Lx x)) : QW ((fun e a w => e = Exit.normal ∧ ∃ x, Pu x ∧ Sl n (Sx x) a ∧ SH w0 X w (Lx x)) .normal) n S w0 X L :=
  fun a w h1 h2 => ⟨rfl, x, hp, h1.sub hs, h2.sub hl⟩

/-! ### aggregates -/
/-- of a struct type: place and cells of each field; of an array type -/
def plS (P : Program) (t : TypeId) : Option (List (Nat × Nat)) := match P.underlying t with
  | some (.struct fs) => fs.toList.mapM fun f => (P.info? f.type).map fun i => (f.offset, i.size)
  | some (.array m e) => (P.info? e).map fun i => (List.range m).map fun j => (j * i.size, i.size)
  | _ => none
def isStruct (P : Program) (t : TypeId) : Bool := match P.underlying t with | some (.struct _) => true | _ => false
def fillL (pl : Nat → Option (Nat × Nat)) : List Value → List (Nat × List Value) → Option (List Value)
  | cs, [] => some cs
  | cs, (i, v) :: r => match pl i with
    | none => none
    | some (off, sz) => bif Nat.beq v.length sz && Nat.ble (off + sz) cs.length then fillL pl (cs.take off ++ v ++ cs.drop (off + sz)) r else none
theorem fill_go (pl : Nat → Option (Nat × Nat)) : ∀ (parts : List (Nat × List Value)) (vs : List (Nat × Value)) (cs cs' : List Value), vs.map (fun p => (p.1, p.2.cells.toList)) = parts → fillL pl cs parts = some cs' → Instr.fill pl cs.toArray vs = some cs'.toArray := by
  intro parts
  induction parts with
  | nil =>
    intro vs cs cs' hv h
    have : vs = [] := by cases vs with | nil => rfl | cons _ _ => simp at hv
    subst this
    simp only [fillL, Option.some.injEq] at h
    subst h
    rfl
  | cons p r ih =>
    intro vs cs cs' hv h
    cases vs with
    | nil => simp at hv
    | cons q vr =>
      simp only [List.map_cons, List.cons.injEq] at hv
      obtain ⟨hq, hvr⟩ := hv
      obtain ⟨i, v⟩ := q
      subst hq
      simp only [fillL] at h
      unfold Instr.fill
      cases hp : pl i with
      | none => rw [hp] at h; cases h
      | some os =>
        obtain ⟨off, sz⟩ := os
        rw [hp] at h
        simp only at h
        cases hc : (Nat.beq v.cells.toList.length sz && Nat.ble (off + sz) cs.length) with
        | true =>
          rw [hc] at h
          simp only [cond_true] at h
          obtain ⟨h1, h2⟩ := Bool.and_eq_true_iff.1 hc
          have h1 := Nat.eq_of_beq_eq_true h1
          have h2 : off + sz ≤ cs.length := by simpa [Nat.ble_eq] using h2
          have h1' : v.cells.size = sz := by simpa using h1
          simp only
          rw [if_neg (by simp [h1']; omega)]
          have key : ∀ (vs : List Value) (k : Nat) (cs : List Value), off + k + vs.length ≤ cs.length →
              (vs.zipIdx k).foldl (fun (cs : Array Value) x => cs.setIfInBounds (off + x.2) x.1) cs.toArray = (cs.take (off + k) ++ vs ++ cs.drop (off + k + vs.length)).toArray := by
            intro vs
            induction vs with
            | nil => intro k cs _; simp
            | cons u ur ihu =>
              intro k cs hk
              simp only [List.length_cons] at hk
              simp only [List.zipIdx_cons, List.foldl_cons, List.setIfInBounds_toArray]
              rw [ihu (k + 1) _ (by simp; omega)]
              have hl : (cs.take (off + k)).length = off + k := by simp; omega
              have hset : cs.set (off + k) u = cs.take (off + k) ++ u :: cs.drop (off + k + 1) := by rw [List.set_eq_take_append_cons_drop, if_pos (by omega)]
              have a1 : (cs.set (off + k) u).take (off + (k + 1)) = cs.take (off + k) ++ [u] := by
                rw [hset, show off + (k + 1) = (cs.take (off + k)).length + 1 by omega, List.take_length_add_append]; simp
              have a2 : (cs.set (off + k) u).drop (off + (k + 1) + ur.length) = cs.drop (off + k + (u :: ur).length) := by
                rw [hset, show off + (k + 1) + ur.length = (cs.take (off + k)).length + (1 + ur.length) by omega, List.drop_length_add_append, show 1 + ur.length = ur.length + 1 by omega, List.drop_succ_cons, List.drop_drop]
                congr 1; simp; omega
              rw [a1, a2]; simp
          have h3 := key v.cells.toList 0 cs (by simp; omega)
          simp only [Nat.add_zero] at h3
          have h4 : (v.cells.zipIdx.foldl (fun cs x => cs.setIfInBounds (off + x.2) x.1) cs.toArray) = (cs.take off ++ v.cells.toList ++ cs.drop (off + sz)).toArray := by
            rw [← Array.foldl_toList, Array.toList_zipIdx, h3, h1]
          rw [h4]
          exact ih vr _ _ hvr h
        | false => rw [hc] at h; cases h
theorem mapM_run {α β : Type} {P : Program} {w : World} (g : α → Sem β) (r : α → Option β) (hg : ∀ x y, r x = some y → (g x).run P w = .ok y w) : ∀ (l : List α) (ys : List β), l.mapM r = some ys → (l.mapM g).run P w = .ok ys w
  | [], ys, h => by simp at h; subst h; rfl
  | x :: l, ys, h => by
    simp only [List.mapM_cons] at h
    obtain ⟨v, hv, h⟩ := Option.bind_eq_some_iff.1 h
    obtain ⟨u, hu, h⟩ := Option.bind_eq_some_iff.1 h
    cases h
    simp [List.mapM_cons, hg x v hv, mapM_run g r hg l u hu]
theorem zeroS_spec {t : TypeId} {zs : List Value} (h : zeroS P t = some zs) (w : World) : ∃ z, (zeroValue t).run P w = .ok z w ∧ z.cells = zs.toArray := by
  unfold zeroS at h
  cases hi : P.info? t with
  | none => rw [hi] at h; cases h
  | some inf =>
    rw [hi] at h
    cases hv : inf.zero with
    | none => simp [hv] at h
    | some z =>
      simp [hv] at h
      exact ⟨z, by simp [zeroValue, typeInfo, hi, hv], by rw [← h]⟩
/-- a struct made of its fields -/
theorem x_build {t : TypeId} {parts : Array (Nat × Operand)} {opl : List (Nat × Operand)} {vs : List (Nat × Value)} {zs cs : List Value} {pl : List (Nat × Nat)} (ho : o.op = .build t parts) (hp : parts = opl.toArray) (he : evP S opl = some vs) (hz : zeroS P t = some zs) (hu : isStruct P t = true) (hpl : plS P t = some pl) (hf : fillL (fun i => pl[i]?) zs (vs.map fun p => (p.1, p.2.cells.toList)) = some cs) : OpV P o S w0 X L (.agg cs.toArray) := fun n a w hs hw => by
  subst hp
  have e1 := evalP hs opl vs he
  unfold isStruct at hu
  split at hu <;> try cases hu
  rename_i fs hu
  obtain ⟨z, hz1, hz2⟩ := zeroS_spec hz w
  have hm : ∀ g : Field → Sem (Nat × Nat), (∀ f y, (P.info? f.type).map (fun i => (f.offset, i.size)) = some y → (g f).run P w = .ok y w) → (fs.mapM g).run P w = .ok pl.toArray w := fun g hg => by
    rw [Array.mapM_eq_mapM_toList]
    simp [mapM_run g _ hg fs.toList pl (by simpa [plS, hu] using hpl)]
  have hfill := fill_go _ _ vs zs cs rfl hf
  have e2 : Array.map (fun (x : Nat × Operand) => match x with | (i, x) => (i, a.eval x)) opl.toArray = vs.toArray := by rw [← e1]; simp
  simp only [execOp, ho]
  rw [e2]
  simp only [Instr.build]
  simp [hz1, run_underlying hu]
  rw [hm _ (fun f y hy => by obtain ⟨i, hi, rfl⟩ := Option.map_eq_some_iff.1 hy; simp [sizeOf, typeInfo, hi])]
  simp [hz2, hfill]

theorem run_bs {t e sz m : Nat} {zs cs : List Value} {vs : List (Nat × Value)} (ht : elS P t = some (e, sz)) (hz : zeroS P e = some zs) (hm : m * sz ≤ 16777216) (hl : zs.length = sz) (hf : fillL (fun i => some (i * sz, sz)) ((List.range (m * sz)).map fun i => zs.getD (i % sz) default) (vs.map fun p => (p.1, p.2.cells.toList)) = some cs) (w : World) :
    (Instr.buildSlice t m vs.toArray).run P w = .ok (.slice (some ⟨w.heap.size, 0, none⟩) m m) (w.alloc (.cells cs.toArray e)) := by
  obtain ⟨hu, i, hi, hsz⟩ := elS_spec ht
  obtain ⟨z, hz1, hz2⟩ := zeroS_spec hz w
  have hfill := fill_go _ _ vs _ cs rfl hf
  have hnot : ¬ m * sz > 2 ^ 24 := by omega
  simp only [Instr.buildSlice]
  simp [run_underlying hu, sizeOf, typeInfo, hi, hsz, hnot]
  by_cases h0 : m * sz = 0
  · have h0' : m = 0 ∨ sz = 0 := Nat.mul_eq_zero.1 h0
    have hfill' : Instr.fill (fun i => some (i * sz, sz)) #[] vs = some cs.toArray := by
      rw [h0] at hfill; simpa using hfill
    have e0 : Array.map (fun (x : Nat) => (default : Value)) (Array.range 0) = #[] := by simp
    simp [h0', hfill', newRow, newObj, h0, e0]
    rfl
  · have h0' : ¬ (m = 0 ∨ sz = 0) := fun h => h0 (Nat.mul_eq_zero.2 h)
    have e1 : Array.map (fun x => z.cells[x % z.cells.size]!) (Array.range (m * sz)) = ((List.range (m * sz)).map fun i => zs.getD (i % sz) default).toArray := by
      rw [hz2]
      apply Array.ext
      · simp
      · intro k h1 h2
        simp [hl, List.getD_eq_getElem?_getD]
    simp only [List.getD_eq_getElem?_getD] at hfill
    simp [h0', h0, hz1, e1, hfill, newRow, newObj]
    rfl
theorem y_bs {t e : TypeId} {sz m : Nat} {parts : Array (Nat × Operand)} {pl : List (Nat × Operand)} {vs : List (Nat × Value)} {zs cs : List Value} (ho : o.op = .buildSlice t m parts) (hp : parts = pl.toArray) (he : evP S pl = some vs) (ht : elS P t = some (e, sz)) (hz : zeroS P e = some zs) (hl : Nat.beq zs.length sz = true) (hm : Nat.ble (m * sz) 1000 = true) (hm2 : Nat.ble m 1000 = true)
    (hf : fillL (fun i => some (i * sz, sz)) ((List.range (m * sz)).map fun i => zs.getD (i % sz) default) (vs.map fun p => (p.1, p.2.cells.toList)) = some cs) (hcl : Nat.beq cs.length (m * sz) = true) :
    OpW P o S w0 X L (fun g : Nat => .slice (some ⟨g, 0, none⟩) m m) (fun g => .row e sz (.slice (some ⟨g, 0, none⟩) m m) m cs :: L) := by
  intro n a w K Q hs hw hk
  subst hp
  have hm' : m * sz ≤ 1000 := by simpa [Nat.ble_eq] using hm
  have hm2' : m ≤ 1000 := by simpa [Nat.ble_eq] using hm2
  have e1 := evalP hs pl vs he
  have hrun := run_bs (P := P) (vs := vs) ht hz (by omega) (Nat.eq_of_beq_eq_true hl) hf w
  have := hk w.heap.size _ (hw.allocRow cs e sz m (Nat.eq_of_beq_eq_true hcl) (by omega))
  unfold Oper.wp
  simp only [execOp, ho]
  have e2 : Array.map (fun (x : Nat × Operand) => match x with | (i, x) => (i, a.eval x)) pl.toArray = vs.toArray := by
    rw [← e1]; simp
  rw [e2]
  simp [hrun, Oper.upon]
  exact this

/-! ### loops and cuts that keep what they do not turn -/
def dropS (ch : List Nat) : Slots → Slots
  | [] => []
  | (k, v) :: r => bif ch.elem k then dropS ch r else (k, v) :: dropS ch r
theorem getS_dropS (ch : List Nat) : ∀ (S : Slots) (i : Nat) (v : Value), getS (dropS ch S) i = some v → getS S i = some v ∧ ch.elem i = false
  | [], i, v, h => by cases h
  | (k, u) :: r, i, v, h => by
    simp only [dropS] at h
    cases hc : ch.elem k with
    | true =>
      rw [hc] at h
      obtain ⟨h1, h2⟩ := getS_dropS ch r i v h
      refine ⟨?_, h2⟩
      simp only [getS]
      cases hb : Nat.beq k i with
      | true =>
        have : k = i := Nat.eq_of_beq_eq_true hb
        subst this
        rw [hc] at h2; cases h2
      | false => exact h1
    | false =>
      rw [hc] at h
      simp only [cond_false, getS] at h
      simp only [getS]
      cases hb : Nat.beq k i with
      | true =>
        rw [hb] at h
        have : k = i := Nat.eq_of_beq_eq_true hb
        subst this
        exact ⟨h, hc⟩
      | false =>
        rw [hb] at h
        exact getS_dropS ch r i v h
/-- S' is S with slots of ch laid anew -/
inductive Ext (ch : List Nat) (S : Slots) : Slots → Prop
  | refl : Ext ch S S
  | cons {k : Nat} {v : Value} {S' : Slots} : ch.elem k = true → Ext ch S S' → Ext ch S ((k, v) :: S')
theorem Ext.get {ch : List Nat} {S S' : Slots} (h : Ext ch S S') {i : Nat} (hi : ch.elem i = false) : getS S' i = getS S i := by
  induction h with
  | refl => rfl
  | @cons k v S' hk _ ih =>
    simp only [getS]
    cases hb : Nat.beq k i with
    | true =>
      have : k = i := Nat.eq_of_beq_eq_true hb
      subst this
      rw [hk] at hi; cases hi
    | false => exact ih
theorem getS_append (A B : Slots) (i : Nat) (v : Value) (h : getS (A ++ B) i = some v) : getS A i = some v ∨ getS B i = some v := by
  induction A with
  | nil => exact .inr h
  | cons p r ih =>
    obtain ⟨k, u⟩ := p
    simp only [List.cons_append, getS] at h ⊢
    cases hb : Nat.beq k i with
    | true => rw [hb] at h; exact .inl h
    | false => rw [hb] at h; exact ih h
theorem SubS.spec {S : Slots} : ∀ {S' : Slots}, SubS S S' → ∀ i v, getS S' i = some v → getS S i = some v
  | [], _, i, v, h => by cases h
  | (k, u) :: r, hs, i, v, h => by
    simp only [getS] at h
    cases hb : Nat.beq k i with
    | true =>
      rw [hb] at h
      have : k = i := Nat.eq_of_beq_eq_true hb
      subst this
      have h : u = v := Option.some.inj h
      subst h
      exact hs.1
    | false => rw [hb] at h; exact SubS.spec hs.2 i v h
theorem Sl.join {n : Nat} {S C T : Slots} {a : Act} (h : Sl n S a) (hc : SubS S C) (ht : ∀ i v, getS T i = some v → getS S i = some v) : Sl n (C ++ T) a :=
  ⟨h.size, h.defers, fun i v hv => h.get i v ((getS_append C T i v hv).elim (hc.spec i v) (ht i v))⟩
/-- L's facts M, and what is left -/
inductive Take : List Fct → List Fct → List Fct → Prop
  | nil {L : List Fct} : Take L [] L
  | cons {L l r k : List Fct} {f : Fct} : Rem L f l → Take l r k → Take L (f :: r) k
theorem Take.perm {L M k : List Fct} (h : Take L M k) : L.Perm (M ++ k) := by
  induction h with
  | nil => exact .refl _
  | cons hr _ ih => exact hr.perm.trans (List.Perm.cons _ ih)
theorem SH.take {w : World} {M k : List Fct} (h : SH w0 X w L) (ht : Take L M k) : SH w0 X w (M ++ k) := h.perm ht.perm
theorem CW.loopC {α : Type} {c : Code} {Lk : List Fct} (ch : List Nat) (Pu : α → Prop) (Cx : α → Slots) (Mx : α → List Fct) (μ : α → Nat) (x0 : α) (hp : Pu x0) (hs : SubS S (Cx x0)) (hl : Take L (Mx x0) Lk)
    (round : ∀ x, Pu x → CW P c (Exit.then (fun a w => ∃ x', Pu x' ∧ μ x' < μ x ∧ Sl n (Cx x' ++ dropS ch S) a ∧ SH w0 X w (Mx x' ++ Lk)) Q) n (Cx x ++ dropS ch S) w0 X (Mx x ++ Lk)) : CW P (.loop c) Q n S w0 X L := by
  intro a w h1 h2
  exact CW.loop (L := Mx x0 ++ Lk) (S := Cx x0 ++ dropS ch S) Pu (fun x => Cx x ++ dropS ch S) (fun x => Mx x ++ Lk) μ x0 hp (fun _ _ h => h) .all round a w (h1.join hs (fun i v h => (getS_dropS ch S i v h).1)) (h2.take hl)
theorem QW.roundC {α : Type} {Pu : α → Prop} {Cx : α → Slots} {Mx : α → List Fct} {Lk : List Fct} {μ : α → Nat} {x : α} {ch : List Nat} {S0 : Slots} (x' : α) (hp : Pu x') (hm : μ x' < μ x) (hs : SubS S (Cx x')) (he : Ext ch (dropS ch S0) S) (hl : Sub L (Mx x' ++ Lk)) :
    QW (fun a w => ∃ x', Pu x' ∧ μ x' < μ x ∧ Sl n (Cx x' ++ dropS ch S0) a ∧ SH w0 X w (Mx x' ++ Lk)) n S w0 X L := fun a w h1 h2 =>
  ⟨x', hp, hm, h1.join hs (fun i v h => by rw [he.get (getS_dropS ch S0 i v h).2]; exact h), h2.sub hl⟩
/-- what is behind a piece of code, shown once; it may turn the slots ch and the facts M -/
theorem CW.cutC {α : Type} {c : Code} {M Lk : List Fct} (ch : List Nat) (Pu : α → Prop) (Cx : α → Slots) (Mx : α → List Fct) (hl : Take L M Lk)
    (h1 : CW P c (fun e a w => e = .normal ∧ ∃ x, Pu x ∧ Sl n (Cx x ++ dropS ch S) a ∧ SH w0 X w (Mx x ++ Lk)) n S w0 X (M ++ Lk)) (h2 : ∀ x, Pu x → QW (Q .normal) n (Cx x ++ dropS ch S) w0 X (Mx x ++ Lk)) : CW P c Q n S w0 X L :=
  fun a w hs hw => Code.wp_mono (fun e a' w' h => by obtain ⟨rfl, x, hp, h3, h4⟩ := h; exact h2 x hp a' w' h3 h4) (h1 a w hs (hw.take hl))
theorem QW.cutEndC {α : Type} {Pu : α → Prop} {Cx : α → Slots} {Mx : α → List Fct} {Lk : List Fct} {ch : List Nat} {S0 : Slots} (x : α) (hp : Pu x) (hs : SubS S (Cx x)) (he : Ext ch S0 S) (hl : Sub L (Mx x ++ Lk)) : QW ((fun e a w => e = Exit.normal ∧ ∃ x, Pu x ∧ Sl n (Cx x ++ dropS ch S0) a ∧ SH w0 X w (Mx x ++ Lk)) .normal) n S w0 X L :=
  fun a w h1 h2 => ⟨rfl, x, hp, h1.join hs (fun i v h => by obtain ⟨h3, h4⟩ := getS_dropS ch S0 i v h; rw [he.get h4]; exact h3), h2.sub hl⟩
def RoundQ1 {α : Type} (Pu : α → Prop) (Cx : α → Slots) (Mx : α → List Fct) (μ : α → Nat) (m n : Nat) (T : Slots) (w0 : World) (X : List Nat) (Lk : List Fct) : Act → World → Prop := fun a w => ∃ q : α, Pu q ∧ μ q < m ∧ Sl n (Cx q ++ T) a ∧ SH w0 X w (Mx q ++ Lk)
def CutQ1 {α : Type} (Pu : α → Prop) (Cx : α → Slots) (Mx : α → List Fct) (n : Nat) (T : Slots) (w0 : World) (X : List Nat) (Lk : List Fct) : Exit → Act → World → Prop := fun e a w => e = .normal ∧ ∃ q : α, Pu q ∧ Sl n (Cx q ++ T) a ∧ SH w0 X w (Mx q ++ Lk)
theorem CW.loopC1 {α : Type} {c : Code} {Lk : List Fct} (ch : List Nat) (Pu : α → Prop) (Cx : α → Slots) (Mx : α → List Fct) (μ : α → Nat) (y1 : α) (hp : Pu y1) (hs : SubS S (Cx y1)) (hl : Take L (Mx y1) Lk)
    (round : ∀ (x1 : α), Pu x1 → CW P c (Exit.then (RoundQ1 Pu Cx Mx μ (μ x1) n (dropS ch S) w0 X Lk) Q) n (Cx x1 ++ dropS ch S) w0 X (Mx x1 ++ Lk)) : CW P (.loop c) Q n S w0 X L :=
  CW.loopC (α := α) ch (fun q : α => Pu q) (fun q : α => Cx q) (fun q : α => Mx q) (fun q : α => μ q) y1 hp hs hl (fun q h => round q h)
theorem QW.roundC1 {α : Type} {Pu : α → Prop} {Cx : α → Slots} {Mx : α → List Fct} {Lk : List Fct} {μ : α → Nat} {m : Nat} {ch : List Nat} {S0 : Slots} (y1 : α) (hp : Pu y1) (hm : μ y1 < m) (hs : SubS S (Cx y1)) (he : Ext ch (dropS ch S0) S) (hl : Sub L (Mx y1 ++ Lk)) :
    QW (RoundQ1 Pu Cx Mx μ m n (dropS ch S0) w0 X Lk) n S w0 X L := fun a w h1 h2 =>
  ⟨y1, hp, hm, h1.join hs (fun i v h => by rw [he.get (getS_dropS ch S0 i v h).2]; exact h), h2.sub hl⟩
theorem CW.cutC1 {α : Type} {c : Code} {M Lk : List Fct} (ch : List Nat) (Pu : α → Prop) (Cx : α → Slots) (Mx : α → List Fct) (hl : Take L M Lk)
    (h1 : CW P c (CutQ1 Pu Cx Mx n (dropS ch S) w0 X Lk) n S w0 X (M ++ Lk)) (h2 : ∀ (x1 : α), Pu x1 → QW (Q .normal) n (Cx x1 ++ dropS ch S) w0 X (Mx x1 ++ Lk)) : CW P c Q n S w0 X L :=
  CW.cutC (α := α) ch (fun q : α => Pu q) (fun q : α => Cx q) (fun q : α => Mx q) hl h1 (fun q h => h2 q h)
theorem QW.cutEndC1 {α : Type} {Pu : α → Prop} {Cx : α → Slots} {Mx : α → List Fct} {Lk : List Fct} {ch : List Nat} {S0 : Slots} (y1 : α) (hp : Pu y1) (hs : SubS S (Cx y1)) (he : Ext ch S0 S) (hl : Sub L (Mx y1 ++ Lk)) :
    QW (CutQ1 Pu Cx Mx n (dropS ch S0) w0 X Lk .normal) n S w0 X L :=
  QW.cutEndC (α := α) (Pu := (fun q : α => Pu q)) (Cx := (fun q : α => Cx q)) (Mx := (fun q : α => Mx q)) y1 hp hs he hl
def RoundQ2 {α β : Type} (Pu : α → β → Prop) (Cx : α → β → Slots) (Mx : α → β → List Fct) (μ : α → β → Nat) (m n : Nat) (T : Slots) (w0 : World) (X : List Nat) (Lk : List Fct) : Act → World → Prop := fun a w => ∃ q : α × β, Pu q.1 q.2 ∧ μ q.1 q.2 < m ∧ Sl n (Cx q.1 q.2 ++ T) a ∧ SH w0 X w (Mx q.1 q.2 ++ Lk)
def CutQ2 {α β : Type} (Pu : α → β → Prop) (Cx : α → β → Slots) (Mx : α → β → List Fct) (n : Nat) (T : Slots) (w0 : World) (X : List Nat) (Lk : List Fct) : Exit → Act → World → Prop := fun e a w => e = .normal ∧ ∃ q : α × β, Pu q.1 q.2 ∧ Sl n (Cx q.1 q.2 ++ T) a ∧ SH w0 X w (Mx q.1 q.2 ++ Lk)
theorem CW.loopC2 {α β : Type} {c : Code} {Lk : List Fct} (ch : List Nat) (Pu : α → β → Prop) (Cx : α → β → Slots) (Mx : α → β → List Fct) (μ : α → β → Nat) (y1 : α) (y2 : β) (hp : Pu y1 y2) (hs : SubS S (Cx y1 y2)) (hl : Take L (Mx y1 y2) Lk)
    (round : ∀ (x1 : α) (x2 : β), Pu x1 x2 → CW P c (Exit.then (RoundQ2 Pu Cx Mx μ (μ x1 x2) n (dropS ch S) w0 X Lk) Q) n (Cx x1 x2 ++ dropS ch S) w0 X (Mx x1 x2 ++ Lk)) : CW P (.loop c) Q n S w0 X L :=
  CW.loopC (α := α × β) ch (fun q : α × β => Pu q.1 q.2) (fun q : α × β => Cx q.1 q.2) (fun q : α × β => Mx q.1 q.2) (fun q : α × β => μ q.1 q.2) (y1, y2) hp hs hl (fun q h => round q.1 q.2 h)
theorem QW.roundC2 {α β : Type} {Pu : α → β → Prop} {Cx : α → β → Slots} {Mx : α → β → List Fct} {Lk : List Fct} {μ : α → β → Nat} {m : Nat} {ch : List Nat} {S0 : Slots} (y1 : α) (y2 : β) (hp : Pu y1 y2) (hm : μ y1 y2 < m) (hs : SubS S (Cx y1 y2)) (he : Ext ch (dropS ch S0) S) (hl : Sub L (Mx y1 y2 ++ Lk)) :
    QW (RoundQ2 Pu Cx Mx μ m n (dropS ch S0) w0 X Lk) n S w0 X L := fun a w h1 h2 =>
  ⟨(y1, y2), hp, hm, h1.join hs (fun i v h => by rw [he.get (getS_dropS ch S0 i v h).2]; exact h), h2.sub hl⟩
theorem CW.cutC2 {α β : Type} {c : Code} {M Lk : List Fct} (ch : List Nat) (Pu : α → β → Prop) (Cx : α → β → Slots) (Mx : α → β → List Fct) (hl : Take L M Lk)
    (h1 : CW P c (CutQ2 Pu Cx Mx n (dropS ch S) w0 X Lk) n S w0 X (M ++ Lk)) (h2 : ∀ (x1 : α) (x2 : β), Pu x1 x2 → QW (Q .normal) n (Cx x1 x2 ++ dropS ch S) w0 X (Mx x1 x2 ++ Lk)) : CW P c Q n S w0 X L :=
  CW.cutC (α := α × β) ch (fun q : α × β => Pu q.1 q.2) (fun q : α × β => Cx q.1 q.2) (fun q : α × β => Mx q.1 q.2) hl h1 (fun q h => h2 q.1 q.2 h)
theorem QW.cutEndC2 {α β : Type} {Pu : α → β → Prop} {Cx : α → β → Slots} {Mx : α → β → List Fct} {Lk : List Fct} {ch : List Nat} {S0 : Slots} (y1 : α) (y2 : β) (hp : Pu y1 y2) (hs : SubS S (Cx y1 y2)) (he : Ext ch S0 S) (hl : Sub L (Mx y1 y2 ++ Lk)) :
    QW (CutQ2 Pu Cx Mx n (dropS ch S0) w0 X Lk .normal) n S w0 X L :=
  QW.cutEndC (α := α × β) (Pu := (fun q : α × β => Pu q.1 q.2)) (Cx := (fun q : α × β => Cx q.1 q.2)) (Mx := (fun q : α × β => Mx q.1 q.2)) (y1, y2) hp hs he hl
def RoundQ3 {α β γ : Type} (Pu : α → β → γ → Prop) (Cx : α → β → γ → Slots) (Mx : α → β → γ → List Fct) (μ : α → β → γ → Nat) (m n : Nat) (T : Slots) (w0 : World) (X : List Nat) (Lk : List Fct) : Act → World → Prop := fun a w => ∃ q : α × β × γ, Pu q.1 q.2.1 q.2.2 ∧ μ q.1 q.2.1 q.2.2 < m ∧ Sl n (Cx q.1 q.2.1 q.2.2 ++ T) a ∧ SH w0 X w (Mx q.1 q.2.1 q.2.2 ++ Lk)
def CutQ3 {α β γ : Type} (Pu : α → β → γ → Prop) (Cx : α → β → γ → Slots) (Mx : α → β → γ → List Fct) (n : Nat) (T : Slots) (w0 : World) (X : List Nat) (Lk : List Fct) : Exit → Act → World → Prop := fun e a w => e = .normal ∧ ∃ q : α × β × γ, Pu q.1 q.2.1 q.2.2 ∧ Sl n (Cx q.1 q.2.1 q.2.2 ++ T) a ∧ SH w0 X w (Mx q.1 q.2.1 q.2.2 ++ Lk)
theorem CW.loopC3 {α β γ : Type} {c : Code} {Lk : List Fct} (ch : List Nat) (Pu : α → β → γ → Prop) (Cx : α → β → γ → Slots) (Mx : α → β → γ → List Fct) (μ : α → β → γ → Nat) (y1 : α) (y2 : β) (y3 : γ) (hp : Pu y1 y2 y3) (hs : SubS S (Cx y1 y2 y3)) (hl : Take L (Mx y1 y2 y3) Lk)
    (round : ∀ (x1 : α) (x2 : β) (x3 : γ), Pu x1 x2 x3 → CW P c (Exit.then (RoundQ3 Pu Cx Mx μ (μ x1 x2 x3) n (dropS ch S) w0 X Lk) Q) n (Cx x1 x2 x3 ++ dropS ch S) w0 X (Mx x1 x2 x3 ++ Lk)) : CW P (.loop c) Q n S w0 X L :=
  CW.loopC (α := α × β × γ) ch (fun q : α × β × γ => Pu q.1 q.2.1 q.2.2) (fun q : α × β × γ => Cx q.1 q.2.1 q.2.2) (fun q : α × β × γ => Mx q.1 q.2.1 q.2.2) (fun q : α × β × γ => μ q.1 q.2.1 q.2.2) (y1, y2, y3) hp hs hl (fun q h => round q.1 q.2.1 q.2.2 h)
theorem QW.roundC3 {α β γ : Type} {Pu : α → β → γ → Prop} {Cx : α → β → γ → Slots} {Mx : α → β → γ → List Fct} {Lk : List Fct} {μ : α → β → γ → Nat} {m : Nat} {ch : List Nat} {S0 : Slots} (y1 : α) (y2 : β) (y3 : γ) (hp : Pu y1 y2 y3) (hm : μ y1 y2 y3 < m) (hs : SubS S (Cx y1 y2 y3)) (he : Ext ch (dropS ch S0) S) (hl : Sub L (Mx y1 y2 y3 ++ Lk)) :
    QW (RoundQ3 Pu Cx Mx μ m n (dropS ch S0) w0 X Lk) n S w0 X L := fun a w h1 h2 =>
  ⟨(y1, y2, y3), hp, hm, h1.join hs (fun i v h => by rw [he.get (getS_dropS ch S0 i v h).2]; exact h), h2.sub hl⟩
theorem CW.cutC3 {α β γ : Type} {c : Code} {M Lk : List Fct} (ch : List Nat) (Pu : α → β → γ → Prop) (Cx : α → β → γ → Slots) (Mx : α → β → γ → List Fct) (hl : Take L M Lk)
    (h1 : CW P c (CutQ3 Pu Cx Mx n (dropS ch S) w0 X Lk) n S w0 X (M ++ Lk)) (h2 : ∀ (x1 : α) (x2 : β) (x3 : γ), Pu x1 x2 x3 → QW (Q .normal) n (Cx x1 x2 x3 ++ dropS ch S) w0 X (Mx x1 x2 x3 ++ Lk)) : CW P c Q n S w0 X L :=
  CW.cutC (α := α × β × γ) ch (fun q : α × β × γ => Pu q.1 q.2.1 q.2.2) (fun q : α × β × γ => Cx q.1 q.2.1 q.2.2) (fun q : α × β × γ => Mx q.1 q.2.1 q.2.2) hl h1 (fun q h => h2 q.1 q.2.1 q.2.2 h)
theorem QW.cutEndC3 {α β γ : Type} {Pu : α → β → γ → Prop} {Cx : α → β → γ → Slots} {Mx : α → β → γ → List Fct} {Lk : List Fct} {ch : List Nat} {S0 : Slots} (y1 : α) (y2 : β) (y3 : γ) (hp : Pu y1 y2 y3) (hs : SubS S (Cx y1 y2 y3)) (he : Ext ch S0 S) (hl : Sub L (Mx y1 y2 y3 ++ Lk)) :
    QW (CutQ3 Pu Cx Mx n (dropS ch S0) w0 X Lk .normal) n S w0 X L :=
  QW.cutEndC (α := α × β × γ) (Pu := (fun q : α × β × γ => Pu q.1 q.2.1 q.2.2)) (Cx := (fun q : α × β × γ => Cx q.1 q.2.1 q.2.2)) (Mx := (fun q : α × β × γ => Mx q.1 q.2.1 q.2.2)) (y1, y2, y3) hp hs he hl
def RoundQ4 {α β γ δ : Type} (Pu : α → β → γ → δ → Prop) (Cx : α → β → γ → δ → Slots) (Mx : α → β → γ → δ → List Fct) (μ : α → β → γ → δ → Nat) (m n : Nat) (T : Slots) (w0 : World) (X : List Nat) (Lk : List Fct) : Act → World → Prop := fun a w => ∃ q : α × β × γ × δ, Pu q.1 q.2.1 q.2.2.1 q.2.2.2 ∧ μ q.1 q.2.1 q.2.2.1 q.2.2.2 < m ∧ Sl n (Cx q.1 q.2.1 q.2.2.1 q.2.2.2 ++ T) a ∧ SH w0 X w (Mx q.1 q.2.1 q.2.2.1 q.2.2.2 ++ Lk)
def CutQ4 {α β γ δ : Type} (Pu : α → β → γ → δ → Prop) (Cx : α → β → γ → δ → Slots) (Mx : α → β → γ → δ → List Fct) (n : Nat) (T : Slots) (w0 : World) (X : List Nat) (Lk : List Fct) : Exit → Act → World → Prop := fun e a w => e = .normal ∧ ∃ q : α × β × γ × δ, Pu q.1 q.2.1 q.2.2.1 q.2.2.2 ∧ Sl n (Cx q.1 q.2.1 q.2.2.1 q.2.2.2 ++ T) a ∧ SH w0 X w (Mx q.1 q.2.1 q.2.2.1 q.2.2.2 ++ Lk)
theorem CW.loopC4 {α β γ δ : Type} {c : Code} {Lk : List Fct} (ch : List Nat) (Pu : α → β → γ → δ → Prop) (Cx : α → β → γ → δ → Slots) (Mx : α → β → γ → δ → List Fct) (μ : α → β → γ → δ → Nat) (y1 : α) (y2 : β) (y3 : γ) (y4 : δ) (hp : Pu y1 y2 y3 y4) (hs : SubS S (Cx y1 y2 y3 y4)) (hl : Take L (Mx y1 y2 y3 y4) Lk)
    (round : ∀ (x1 : α) (x2 : β) (x3 : γ) (x4 : δ), Pu x1 x2 x3 x4 → CW P c (Exit.then (RoundQ4 Pu Cx Mx μ (μ x1 x2 x3 x4) n (dropS ch S) w0 X Lk) Q) n (Cx x1 x2 x3 x4 ++ dropS ch S) w0 X (Mx x1 x2 x3 x4 ++ Lk)) : CW P (.loop c) Q n S w0 X L :=
  CW.loopC (α := α × β × γ × δ) ch (fun q : α × β × γ × δ => Pu q.1 q.2.1 q.2.2.1 q.2.2.2) (fun q : α × β × γ × δ => Cx q.1 q.2.1 q.2.2.1 q.2.2.2) (fun q : α × β × γ × δ => Mx q.1 q.2.1 q.2.2.1 q.2.2.2) (fun q : α × β × γ × δ => μ q.1 q.2.1 q.2.2.1 q.2.2.2) (y1, y2, y3, y4) hp hs hl (fun q h => round q.1 q.2.1 q.2.2.1 q.2.2.2 h)
theorem QW.roundC4 {α β γ δ : Type} {Pu : α → β → γ → δ → Prop} {Cx : α → β → γ → δ → Slots} {Mx : α → β → γ → δ → List Fct} {Lk : List Fct} {μ : α → β → γ → δ → Nat} {m : Nat} {ch : List Nat} {S0 : Slots} (y1 : α) (y2 : β) (y3 : γ) (y4 : δ) (hp : Pu y1 y2 y3 y4) (hm : μ y1 y2 y3 y4 < m) (hs : SubS S (Cx y1 y2 y3 y4)) (he : Ext ch (dropS ch S0) S) (hl : Sub L (Mx y1 y2 y3 y4 ++ Lk)) :
    QW (RoundQ4 Pu Cx Mx μ m n (dropS ch S0) w0 X Lk) n S w0 X L := fun a w h1 h2 =>
  ⟨(y1, y2, y3, y4), hp, hm, h1.join hs (fun i v h => by rw [he.get (getS_dropS ch S0 i v h).2]; exact h), h2.sub hl⟩
theorem CW.cutC4 {α β γ δ : Type} {c : Code} {M Lk : List Fct} (ch : List Nat) (Pu : α → β → γ → δ → Prop) (Cx : α → β → γ → δ → Slots) (Mx : α → β → γ → δ → List Fct) (hl : Take L M Lk)
    (h1 : CW P c (CutQ4 Pu Cx Mx n (dropS ch S) w0 X Lk) n S w0 X (M ++ Lk)) (h2 : ∀ (x1 : α) (x2 : β) (x3 : γ) (x4 : δ), Pu x1 x2 x3 x4 → QW (Q .normal) n (Cx x1 x2 x3 x4 ++ dropS ch S) w0 X (Mx x1 x2 x3 x4 ++ Lk)) : CW P c Q n S w0 X L :=
  CW.cutC (α := α × β × γ × δ) ch (fun q : α × β × γ × δ => Pu q.1 q.2.1 q.2.2.1 q.2.2.2) (fun q : α × β × γ × δ => Cx q.1 q.2.1 q.2.2.1 q.2.2.2) (fun q : α × β × γ × δ => Mx q.1 q.2.1 q.2.2.1 q.2.2.2) hl h1 (fun q h => h2 q.1 q.2.1 q.2.2.1 q.2.2.2 h)
theorem QW.cutEndC4 {α β γ δ : Type} {Pu : α → β → γ → δ → Prop} {Cx : α → β → γ → δ → Slots} {Mx : α → β → γ → δ → List Fct} {Lk : List Fct} {ch : List Nat} {S0 : Slots} (y1 : α) (y2 : β) (y3 : γ) (y4 : δ) (hp : Pu y1 y2 y3 y4) (hs : SubS S (Cx y1 y2 y3 y4)) (he : Ext ch S0 S) (hl : Sub L (Mx y1 y2 y3 y4 ++ Lk)) :
    QW (CutQ4 Pu Cx Mx n (dropS ch S0) w0 X Lk .normal) n S w0 X L :=
  QW.cutEndC (α := α × β × γ × δ) (Pu := (fun q : α × β × γ × δ => Pu q.1 q.2.1 q.2.2.1 q.2.2.2)) (Cx := (fun q : α × β × γ × δ => Cx q.1 q.2.1 q.2.2.1 q.2.2.2)) (Mx := (fun q : α × β × γ × δ => Mx q.1 q.2.1 q.2.2.1 q.2.2.2)) (y1, y2, y3, y4) hp hs he hl
def RoundQ5 {α β γ δ ε : Type} (Pu : α → β → γ → δ → ε → Prop) (Cx : α → β → γ → δ → ε → Slots) (Mx : α → β → γ → δ → ε → List Fct) (μ : α → β → γ → δ → ε → Nat) (m n : Nat) (T : Slots) (w0 : World) (X : List Nat) (Lk : List Fct) : Act → World → Prop := fun a w => ∃ q : α × β × γ × δ × ε, Pu q.1 q.2.1 q.2.2.1 q.2.2.2.1 q.2.2.2.2 ∧ μ q.1 q.2.1 q.2.2.1 q.2.2.2.1 q.2.2.2.2 < m ∧ Sl n (Cx q.1 q.2.1 q.2.2.1 q.2.2.2.1 q.2.2.2.2 ++ T) a ∧ SH w0 X w (Mx q.1 q.2.1 q.2.2.1 q.2.2.2.1 q.2.2.2.2 ++ Lk)
def CutQ5 {α β γ δ ε : Type} (Pu : α → β → γ → δ → ε → Prop) (Cx : α → β → γ → δ → ε → Slots) (Mx : α → β → γ → δ → ε → List Fct) (n : Nat) (T : Slots) (w0 : World) (X : List Nat) (Lk : List Fct) : Exit → Act → World → Prop := fun e a w => e = .normal ∧ ∃ q : α × β × γ × δ × ε, Pu q.1 q.2.1 q.2.2.1 q.2.2.2.1 q.2.2.2.2 ∧ Sl n (Cx q.1 q.2.1 q.2.2.1 q.2.2.2.1 q.2.2.2.2 ++ T) a ∧ SH w0 X w (Mx q.1 q.2.1 q.2.2.1 q.2.2.2.1 q.2.2.2.2 ++ Lk)
theorem CW.loopC5 {α β γ δ ε : Type} {c : Code} {Lk : List Fct} (ch : List Nat) (Pu : α → β → γ → δ → ε → Prop) (Cx : α → β → γ → δ → ε → Slots) (Mx : α → β → γ → δ → ε → List Fct) (μ : α → β → γ → δ → ε → Nat) (y1 : α) (y2 : β) (y3 : γ) (y4 : δ) (y5 : ε) (hp : Pu y1 y2 y3 y4 y5) (hs : SubS S (Cx y1 y2 y3 y4 y5)) (hl : Take L (Mx y1 y2 y3 y4 y5) Lk)
    (round : ∀ (x1 : α) (x2 : β) (x3 : γ) (x4 : δ) (x5 : ε), Pu x1 x2 x3 x4 x5 → CW P c (Exit.then (RoundQ5 Pu Cx Mx μ (μ x1 x2 x3 x4 x5) n (dropS ch S) w0 X Lk) Q) n (Cx x1 x2 x3 x4 x5 ++ dropS ch S) w0 X (Mx x1 x2 x3 x4 x5 ++ Lk)) : CW P (.loop c) Q n S w0 X L :=
  CW.loopC (α := α × β × γ × δ × ε) ch (fun q : α × β × γ × δ × ε => Pu q.1 q.2.1 q.2.2.1 q.2.2.2.1 q.2.2.2.2) (fun q : α × β × γ × δ × ε => Cx q.1 q.2.1 q.2.2.1 q.2.2.2.1 q.2.2.2.2) (fun q : α × β × γ × δ × ε => Mx q.1 q.2.1 q.2.2.1 q.2.2.2.1 q.2.2.2.2) (fun q : α × β × γ × δ × ε => μ q.1 q.2.1 q.2.2.1 q.2.2.2.1 q.2.2.2.2) (y1, y2, y3, y4, y5) hp hs hl (fun q h => round q.1 q.2.1 q.2.2.1 q.2.2.2.1 q.2.2.2.2 h)
theorem QW.roundC5 {α β γ δ ε : Type} {Pu : α → β → γ → δ → ε → Prop} {Cx : α → β → γ → δ → ε → Slots} {Mx : α → β → γ → δ → ε → List Fct} {Lk : List Fct} {μ : α → β → γ → δ → ε → Nat} {m : Nat} {ch : List Nat} {S0 : Slots} (y1 : α) (y2 : β) (y3 : γ) (y4 : δ) (y5 : ε) (hp : Pu y1 y2 y3 y4 y5) (hm : μ y1 y2 y3 y4 y5 < m) (hs : SubS S (Cx y1 y2 y3 y4 y5)) (he : Ext ch (dropS ch S0) S) (hl : Sub L (Mx y1 y2 y3 y4 y5 ++ Lk)) :
    QW (RoundQ5 Pu Cx Mx μ m n (dropS ch S0) w0 X Lk) n S w0 X L := fun a w h1 h2 =>
  ⟨(y1, y2, y3, y4, y5), hp, hm, h1.join hs (fun i v h => by rw [he.get (getS_dropS ch S0 i v h).2]; exact h), h2.sub hl⟩
theorem CW.cutC5 {α β γ δ ε : Type} {c : Code} {M Lk : List Fct} (ch : List Nat) (Pu : α → β → γ → δ → ε → Prop) (Cx : α → β → γ → δ → ε → Slots) (Mx : α → β → γ → δ → ε → List Fct) (hl : Take L M Lk)
    (h1 : CW P c (CutQ5 Pu Cx Mx n (dropS ch S) w0 X Lk) n S w0 X (M ++ Lk)) (h2 : ∀ (x1 : α) (x2 : β) (x3 : γ) (x4 : δ) (x5 : ε), Pu x1 x2 x3 x4 x5 → QW (Q .normal) n (Cx x1 x2 x3 x4 x5 ++ dropS ch S) w0 X (Mx x1 x2 x3 x4 x5 ++ Lk)) : CW P c Q n S w0 X L :=
  CW.cutC (α := α × β × γ × δ × ε) ch (fun q : α × β × γ × δ × ε => Pu q.1 q.2.1 q.2.2.1 q.2.2.2.1 q.2.2.2.2) (fun q : α × β × γ × δ × ε => Cx q.1 q.2.1 q.2.2.1 q.2.2.2.1 q.2.2.2.2) (fun q : α × β × γ × δ × ε => Mx q.1 q.2.1 q.2.2.1 q.2.2.2.1 q.2.2.2.2) hl h1 (fun q h => h2 q.1 q.2.1 q.2.2.1 q.2.2.2.1 q.2.2.2.2 h)
theorem QW.cutEndC5 {α β γ δ ε : Type} {Pu : α → β → γ → δ → ε → Prop} {Cx : α → β → γ → δ → ε → Slots} {Mx : α → β → γ → δ → ε → List Fct} {Lk : List Fct} {ch : List Nat} {S0 : Slots} (y1 : α) (y2 : β) (y3 : γ) (y4 : δ) (y5 : ε) (hp : Pu y1 y2 y3 y4 y5) (hs : SubS S (Cx y1 y2 y3 y4 y5)) (he : Ext ch S0 S) (hl : Sub L (Mx y1 y2 y3 y4 y5 ++ Lk)) :
    QW (CutQ5 Pu Cx Mx n (dropS ch S0) w0 X Lk .normal) n S w0 X L :=
  QW.cutEndC (α := α × β × γ × δ × ε) (Pu := (fun q : α × β × γ × δ × ε => Pu q.1 q.2.1 q.2.2.1 q.2.2.2.1 q.2.2.2.2)) (Cx := (fun q : α × β × γ × δ × ε => Cx q.1 q.2.1 q.2.2.1 q.2.2.2.1 q.2.2.2.2)) (Mx := (fun q : α × β × γ × δ × ε => Mx q.1 q.2.1 q.2.2.1 q.2.2.2.1 q.2.2.2.2)) (y1, y2, y3, y4, y5) hp hs he hl
def RoundQ6 {α β γ δ ε ζ : Type} (Pu : α → β → γ → δ → ε → ζ → Prop) (Cx : α → β → γ → δ → ε → ζ → Slots) (Mx : α → β → γ → δ → ε → ζ → List Fct) (μ : α → β → γ → δ → ε → ζ → Nat) (m n : Nat) (T : Slots) (w0 : World) (X : List Nat) (Lk : List Fct) : Act → World → Prop := fun a w => ∃ q : α × β × γ × δ × ε × ζ, Pu q.1 q.2.1 q.2.2.1 q.2.2.2.1 q.2.2.2.2.1 q.2.2.2.2.2 ∧ μ q.1 q.2.1 q.2.2.1 q.2.2.2.1 q.2.2.2.2.1 q.2.2.2.2.2 < m ∧ Sl n (Cx q.1 q.2.1 q.2.2.1 q.2.2.2.1 q.2.2.2.2.1 q.2.2.2.2.2 ++ T) a ∧ SH w0 X w (Mx q.1 q.2.1 q.2.2.1 q.2.2.2.1 q.2.2.2.2.1 q.2.2.2.2.2 ++ Lk)
def CutQ6 {α β γ δ ε ζ : Type} (Pu : α → β → γ → δ → ε → ζ → Prop) (Cx : α → β → γ → δ → ε → ζ → Slots) (Mx : α → β → γ → δ → ε → ζ → List Fct) (n : Nat) (T : Slots) (w0 : World) (X : List Nat) (Lk : List Fct) : Exit → Act → World → Prop := fun e a w => e = .normal ∧ ∃ q : α × β × γ × δ × ε × ζ, Pu q.1 q.2.1 q.2.2.1 q.2.2.2.1 q.2.2.2.2.1 q.2.2.2.2.2 ∧ Sl n (Cx q.1 q.2.1 q.2.2.1 q.2.2.2.1 q.2.2.2.2.1 q.2.2.2.2.2 ++ T) a ∧ SH w0 X w (Mx q.1 q.2.1 q.2.2.1 q.2.2.2.1 q.2.2.2.2.1 q.2.2.2.2.2 ++ Lk)
theorem CW.loopC6 {α β γ δ ε ζ : Type} {c : Code} {Lk : List Fct} (ch : List Nat) (Pu : α → β → γ → δ → ε → ζ → Prop) (Cx : α → β → γ → δ → ε → ζ → Slots) (Mx : α → β → γ → δ → ε → ζ → List Fct) (μ : α → β → γ → δ → ε → ζ → Nat) (y1 : α) (y2 : β) (y3 : γ) (y4 : δ) (y5 : ε) (y6 : ζ) (hp : Pu y1 y2 y3 y4 y5 y6) (hs : SubS S (Cx y1 y2 y3 y4 y5 y6)) (hl : Take L (Mx y1 y2 y3 y4 y5 y6) Lk)
    (round : ∀ (x1 : α) (x2 : β) (x3 : γ) (x4 : δ) (x5 : ε) (x6 : ζ), Pu x1 x2 x3 x4 x5 x6 → CW P c (Exit.then (RoundQ6 Pu Cx Mx μ (μ x1 x2 x3 x4 x5 x6) n (dropS ch S) w0 X Lk) Q) n (Cx x1 x2 x3 x4 x5 x6 ++ dropS ch S) w0 X (Mx x1 x2 x3 x4 x5 x6 ++ Lk)) : CW P (.loop c) Q n S w0 X L :=
  CW.loopC (α := α × β × γ × δ × ε × ζ) ch (fun q : α × β × γ × δ × ε × ζ => Pu q.1 q.2.1 q.2.2.1 q.2.2.2.1 q.2.2.2.2.1 q.2.2.2.2.2) (fun q : α × β × γ × δ × ε × ζ => Cx q.1 q.2.1 q.2.2.1 q.2.2.2.1 q.2.2.2.2.1 q.2.2.2.2.2) (fun q : α × β × γ × δ × ε × ζ => Mx q.1 q.2.1 q.2.2.1 q.2.2.2.1 q.2.2.2.2.1 q.2.2.2.2.2) (fun q : α × β × γ × δ × ε × ζ => μ q.1 q.2.1 q.2.2.1 q.2.2.2.1 q.2.2.2.2.1 q.2.2.2.2.2) (y1, y2, y3, y4, y5, y6) hp hs hl (fun q h => round q.1 q.2.1 q.2.2.1 q.2.2.2.1 q.2.2.2.2.1 q.2.2.2.2.2 h)
theorem QW.roundC6 {α β γ δ ε ζ : Type} {Pu : α → β → γ → δ → ε → ζ → Prop} {Cx : α → β → γ → δ → ε → ζ → Slots} {Mx : α → β → γ → δ → ε → ζ → List Fct} {Lk : List Fct} {μ : α → β → γ → δ → ε → ζ → Nat} {m : Nat} {ch : List Nat} {S0 : Slots} (y1 : α) (y2 : β) (y3 : γ) (y4 : δ) (y5 : ε) (y6 : ζ) (hp : Pu y1 y2 y3 y4 y5 y6) (hm : μ y1 y2 y3 y4 y5 y6 < m) (hs : SubS S (Cx y1 y2 y3 y4 y5 y6)) (he : Ext ch (dropS ch S0) S) (hl : Sub L (Mx y1 y2 y3 y4 y5 y6 ++ Lk)) :
    QW (RoundQ6 Pu Cx Mx μ m n (dropS ch S0) w0 X Lk) n S w0 X L := fun a w h1 h2 =>
  ⟨(y1, y2, y3, y4, y5, y6), hp, hm, h1.join hs (fun i v h => by rw [he.get (getS_dropS ch S0 i v h).2]; exact h), h2.sub hl⟩
theorem CW.cutC6 {α β γ δ ε ζ : Type} {c : Code} {M Lk : List Fct} (ch : List Nat) (Pu : α → β → γ → δ → ε → ζ → Prop) (Cx : α → β → γ → δ → ε → ζ → Slots) (Mx : α → β → γ → δ → ε → ζ → List Fct) (hl : Take L M Lk)
    (h1 : CW P c (CutQ6 Pu Cx Mx n (dropS ch S) w0 X Lk) n S w0 X (M ++ Lk)) (h2 : ∀ (x1 : α) (x2 : β) (x3 : γ) (x4 : δ) (x5 : ε) (x6 : ζ), Pu x1 x2 x3 x4 x5 x6 → QW (Q .normal) n (Cx x1 x2 x3 x4 x5 x6 ++ dropS ch S) w0 X (Mx x1 x2 x3 x4 x5 x6 ++ Lk)) : CW P c Q n S w0 X L :=
  CW.cutC (α := α × β × γ × δ × ε × ζ) ch (fun q : α × β × γ × δ × ε × ζ => Pu q.1 q.2.1 q.2.2.1 q.2.2.2.1 q.2.2.2.2.1 q.2.2.2.2.2) (fun q : α × β × γ × δ × ε × ζ => Cx q.1 q.2.1 q.2.2.1 q.2.2.2.1 q.2.2.2.2.1 q.2.2.2.2.2) (fun q : α × β × γ × δ × ε × ζ => Mx q.1 q.2.1 q.2.2.1 q.2.2.2.1 q.2.2.2.2.1 q.2.2.2.2.2) hl h1 (fun q h => h2 q.1 q.2.1 q.2.2.1 q.2.2.2.1 q.2.2.2.2.1 q.2.2.2.2.2 h)
theorem QW.cutEndC6 {α β γ δ ε ζ : Type} {Pu : α → β → γ → δ → ε → ζ → Prop} {Cx : α → β → γ → δ → ε → ζ → Slots} {Mx : α → β → γ → δ → ε → ζ → List Fct} {Lk : List Fct} {ch : List Nat} {S0 : Slots} (y1 : α) (y2 : β) (y3 : γ) (y4 : δ) (y5 : ε) (y6 : ζ) (hp : Pu y1 y2 y3 y4 y5 y6) (hs : SubS S (Cx y1 y2 y3 y4 y5 y6)) (he : Ext ch S0 S) (hl : Sub L (Mx y1 y2 y3 y4 y5 y6 ++ Lk)) :
    QW (CutQ6 Pu Cx Mx n (dropS ch S0) w0 X Lk .normal) n S w0 X L :=
  QW.cutEndC (α := α × β × γ × δ × ε × ζ) (Pu := (fun q : α × β × γ × δ × ε × ζ => Pu q.1 q.2.1 q.2.2.1 q.2.2.2.1 q.2.2.2.2.1 q.2.2.2.2.2)) (Cx := (fun q : α × β × γ × δ × ε × ζ => Cx q.1 q.2.1 q.2.2.1 q.2.2.2.1 q.2.2.2.2.1 q.2.2.2.2.2)) (Mx := (fun q : α × β × γ × δ × ε × ζ => Mx q.1 q.2.1 q.2.2.1 q.2.2.2.1 q.2.2.2.2.1 q.2.2.2.2.2)) (y1, y2, y3, y4, y5, y6) hp hs he hl
/-- a fact said in other words -/
theorem Sub.row {r : List Fct} {e sz m m' n n' c : Nat} {A : Option Addr} {cs cs' : List Value} (hr : Rem L (.row e sz (.slice A m c) n cs) l) (h1 : m = m') (h2 : n = n') (h3 : cs = cs') (h : Sub l r) : Sub L (.row e sz (.slice A m' c) n' cs' :: r) := by subst h1 h2 h3; exact .cons hr h
theorem Take.row {r : List Fct} {e sz m m' n n' c : Nat} {A : Option Addr} {cs cs' : List Value} {k : List Fct} (hr : Rem L (.row e sz (.slice A m c) n cs) l) (h1 : m = m') (h2 : n = n') (h3 : cs = cs') (h : Take l r k) : Take L (.row e sz (.slice A m' c) n' cs' :: r) k := by subst h1 h2 h3; exact .cons hr h
theorem Sub.blk {r : List Fct} {b e : Nat} {cs cs' : List Value} (hr : Rem L (.blk b cs e) l) (h1 : cs = cs') (h : Sub l r) : Sub L (.blk b cs' e :: r) := by subst h1; exact .cons hr h
theorem Take.blk {r : List Fct} {b e : Nat} {cs cs' : List Value} {k : List Fct} (hr : Rem L (.blk b cs e) l) (h1 : cs = cs') (h : Take l r k) : Take L (.blk b cs' e :: r) k := by subst h1; exact .cons hr h
end
end Go.Proofs.Ytbgjlojnbdnoaaa
