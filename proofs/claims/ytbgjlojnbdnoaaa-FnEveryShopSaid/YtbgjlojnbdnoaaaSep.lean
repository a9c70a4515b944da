/- A walk by states: what the slots hold, which rows the call owns; one law a kind of operation. -/
import Derived.Below
import Derived.Laws.AppendOwn
import Derived.Laws.OwnMore
import Derived.Laws.CopyRow
import Derived.Tactics
import Derived.OrdersHeld
import Derived.KernelRfl
import Derived.RowKit3
import Derived.OwnWalk
import Derived.IntWalk
import Derived.Laws.Small
import Derived.Laws.Strings
import Derived.Laws.Slices

namespace Go.Proofs.Ytbgjlojnbdnoaaa
open Go.RowKit
set_option linter.unusedVariables false
set_option linter.unusedSimpArgs false
set_option linter.unusedSectionVars false

abbrev Slots := List (Nat × Value)
def getS : Slots → Nat → Option Value
  | [], _ => none
  | (k, v) :: r, i => bif Nat.beq k i then some v else getS r i
def evS (S : Slots) : Operand → Option Value
  | .tmp t => getS S t
  | .const v => some v
  | .global g => some (.pointer (some ⟨g, 0, none⟩))
  | .func f => some (.func (.func f) #[] #[])
def evL (S : Slots) : List Operand → Option (List Value)
  | [] => some []
  | x :: r => match evS S x, evL S r with
    | some v, some u => some (v :: u)
    | _, _ => none
def evP (S : Slots) : List (Nat × Operand) → Option (List (Nat × Value))
  | [] => some []
  | (i, x) :: r => match evS S x, evP S r with
    | some v, some u => some ((i, v) :: u)
    | _, _ => none
structure Sl (n : Nat) (S : Slots) (a : Act) : Prop where
  size : a.tmps.size = n
  defers : a.defers = []
  get : ∀ i v, getS S i = some v → a.tmps.getD i undef = v
theorem Sl.eval {n : Nat} {S : Slots} {a : Act} {x : Operand} {v : Value} (h : Sl n S a) (hx : evS S x = some v) : a.eval x = v := by
  cases x with
  | tmp t => exact h.get t v hx
  | const u => exact Option.some.inj hx
  | global g => exact Option.some.inj hx
  | func f => exact Option.some.inj hx
theorem Sl.put {n : Nat} {S : Slots} {a : Act} (h : Sl n S a) (d : Nat) (v : Value) (hd : Nat.blt d n = true) : Sl n ((d, v) :: S) (a.put (some d) v) := by
  have hd' : d < n := by simpa [Nat.blt_eq] using hd
  refine ⟨by simp [Act.put, h.size], by simp [Act.put, h.defers], fun i u hu => ?_⟩
  simp only [getS] at hu
  cases hb : Nat.beq d i with
  | true =>
    have : d = i := Nat.eq_of_beq_eq_true hb
    subst this
    rw [hb] at hu
    have hu : v = u := Option.some.inj hu
    subst hu
    simp [Act.put, h.size, hd']
  | false =>
    rw [hb] at hu
    have hne : d ≠ i := Nat.ne_of_beq_eq_false hb
    have := h.get i u hu
    simpa [Act.put, hne] using this
/-- what S' says S says -/
def SubS (S : Slots) : Slots → Prop
  | [] => True
  | (i, v) :: r => getS S i = some v ∧ SubS S r
theorem Sl.sub {n : Nat} {S S' : Slots} {a : Act} (h : Sl n S a) (hs : SubS S S') : Sl n S' a := by
  refine ⟨h.size, h.defers, fun i v hv => h.get i v ?_⟩
  induction S' with
  | nil => cases hv
  | cons p r ih =>
    obtain ⟨k, u⟩ := p
    simp only [getS] at hv
    cases hb : Nat.beq k i with
    | true =>
      have : k = i := Nat.eq_of_beq_eq_true hb
      subst this
      rw [hb] at hv
      have hv : u = v := Option.some.inj hv
      subst hv
      exact hs.1
    | false =>
      rw [hb] at hv
      exact ih hs.2 hv

inductive Fct where
  /-- a block, its cells known one by one -/
  | blk (b : Nat) (cs : List Value) (t : TypeId)
  /-- a slice value over a row of the call's own, which starts with cs -/
  | row (e : TypeId) (sz : Nat) (v : Value) (n : Nat) (cs : List Value)
def Fct.holds (w : World) : Fct → Prop
  | .blk b cs t => w.heap[b]? = some (.cells cs.toArray t (0, 0))
  | .row e sz v n cs => w.ownsRow 0 e sz v n cs
def Fct.foot : Fct → Option Nat
  | .blk b _ _ => some b
  | .row _ _ v _ _ => v.ownBlock
theorem Fct.lt {w : World} {f : Fct} (h : f.holds w) : ∀ k, f.foot = some k → k < w.heap.size := by
  cases f with
  | blk b cs t =>
    intro k hk
    have hk : b = k := Option.some.inj hk
    subst hk
    exact (Array.getElem?_eq_some_iff.1 h).1
  | row e sz v n cs => exact fun k hk => (World.ownsRow.lt h k hk).2
/-- it hangs on its own block alone -/
theorem Fct.stays {w w' : World} {f : Fct} (h : f.holds w) (hb : ∀ k, f.foot = some k → w'.heap[k]? = w.heap[k]?) : f.holds w' := by
  cases f with
  | blk b cs t => exact (hb b rfl).trans h
  | row e sz v n cs =>
    refine ⟨h.1, ?_⟩
    rcases h.2 with h2 | ⟨g, cap, cur, rfl, h0, hg, rest⟩
    · exact .inl h2
    · exact .inr ⟨g, cap, cur, rfl, h0, (hb g rfl).trans hg, rest⟩

/-- From w0 to w nothing old has turned but the blocks X; the facts L hold, each of a block of its own, new or one of X. -/
structure SH (w0 : World) (X : List Nat) (w : World) (L : List Fct) : Prop where
  os : w.os = w0.os
  tape : w.tape = w0.tape
  output : w.output = w0.output
  size : w0.heap.size ≤ w.heap.size
  old : ∀ k, k < w0.heap.size → k ∉ X → w.heap[k]? = w0.heap[k]?
  facts : ∀ f ∈ L, f.holds w
  base : ∀ f ∈ L, ∀ k, f.foot = some k → w0.heap.size ≤ k ∨ k ∈ X
  apart : L.Pairwise fun f g => ∀ k, f.foot = some k → g.foot ≠ some k
theorem SH.refl (w : World) (X : List Nat) : SH w X w [] := ⟨rfl, rfl, rfl, Nat.le_refl _, fun _ _ _ => rfl, fun _ h => (by cases h), fun _ h => (by cases h), .nil⟩
theorem SH.below {w0 w : World} {L : List Fct} (h : SH w0 [] w L) : Below w0.heap.size w0 w := ⟨h.os, h.tape, h.output, h.size, fun k hk => h.old k hk (by simp)⟩
theorem SH.ofBelow {w0 w : World} (h : Below w0.heap.size w0 w) : SH w0 [] w [] := ⟨h.os, h.tape, h.output, h.size, fun k hk _ => h.block k hk, fun _ h => (by cases h), fun _ h => (by cases h), .nil⟩
theorem SH.drew {w0 w : World} {X : List Nat} {L : List Fct} (h : SH w0 X w L) : SH w0 X w.drew L :=
  ⟨h.os, h.tape, h.output, h.size, h.old, fun f hf => Fct.stays (f := f) (h.facts f hf) (fun _ _ => rfl), h.base, h.apart⟩
theorem SH.drew' {w0 w : World} {X : List Nat} {L : List Fct} (h : SH w0 X w L) : SH w0 X { w with drawn := w.drawn + 1 } L := h.drew
/-- a world that has grown, and has turned at most the row that f has -/
theorem SH.step {w0 w w' : World} {X : List Nat} {L N : List Fct} {F : List Fct} {X' : List Nat} (h : SH w0 X w (F ++ L)) (hX : ∀ k ∈ X', ∃ f ∈ F, f.foot = some k) (h' : SH w X' w' N) : SH w0 X w' (N ++ L) := by
  have hap := List.pairwise_append.1 h.apart
  have hfx : ∀ g ∈ L, ∀ k, g.foot = some k → k ∉ X' := fun g hg k hk hx => by
    obtain ⟨f, hf, hk'⟩ := hX k hx
    exact hap.2.2 f hf g hg k hk' hk
  have hlt : ∀ g ∈ L, ∀ k, g.foot = some k → k < w.heap.size := fun g hg k hk => Fct.lt (f := g) (h.facts g (List.mem_append_right _ hg)) k hk
  refine ⟨h'.os.trans h.os, h'.tape.trans h.tape, h'.output.trans h.output, Nat.le_trans h.size h'.size, fun k hk hx => ?_, fun f hf => ?_, fun f hf k hk => ?_, ?_⟩
  · rw [h'.old k (Nat.lt_of_lt_of_le hk h.size) (fun hk' => ?_)]
    · exact h.old k hk hx
    · obtain ⟨f, hf, e⟩ := hX k hk'
      rcases h.base f (List.mem_append_left _ hf) k e with h1 | h1
      · omega
      · exact hx h1
  · rcases List.mem_append.1 hf with hf | hf
    · exact h'.facts f hf
    · exact Fct.stays (f := f) (h.facts f (List.mem_append_right _ hf)) fun k hk => h'.old k (hlt f hf k hk) (hfx f hf k hk)
  · rcases List.mem_append.1 hf with hf | hf
    · rcases h'.base f hf k hk with h1 | h1
      · exact .inl (Nat.le_trans h.size h1)
      · obtain ⟨g, hg, e⟩ := hX k h1
        exact h.base g (List.mem_append_left _ hg) k e
    · exact h.base f (List.mem_append_right _ hf) k hk
  · refine List.pairwise_append.2 ⟨h'.apart, hap.2.1, fun f hf g hg k hk hk' => ?_⟩
    rcases h'.base f hf k hk with h1 | h1
    · have := hlt g hg k hk'; omega
    · exact hfx g hg k hk' h1
theorem SH.call {w0 w w' : World} {X : List Nat} {L N : List Fct} (h : SH w0 X w L) (h' : SH w [] w' N) : SH w0 X w' (N ++ L) := SH.step (F := []) h (fun k hk => by cases hk) h'
/-- L with f taken out is l -/
inductive Rem : List Fct → Fct → List Fct → Prop
  | head {f : Fct} {l : List Fct} : Rem (f :: l) f l
  | tail {f g : Fct} {l l' : List Fct} : Rem l f l' → Rem (g :: l) f (g :: l')
theorem Rem.perm {L l : List Fct} {f : Fct} (h : Rem L f l) : L.Perm (f :: l) := by
  induction h with
  | head => exact .refl _
  | tail _ ih => exact (List.Perm.cons _ ih).trans (.swap _ _ _)
theorem SH.perm {w0 w : World} {X : List Nat} {L L' : List Fct} (h : SH w0 X w L) (hp : L.Perm L') : SH w0 X w L' :=
  ⟨h.os, h.tape, h.output, h.size, h.old, fun f hf => h.facts f (hp.mem_iff.2 hf), fun f hf => h.base f (hp.mem_iff.2 hf),
    hp.pairwise h.apart (fun {f g} hfg k hg hf => hfg k hf hg)⟩
theorem SH.front {w0 w : World} {X : List Nat} {L l : List Fct} {f : Fct} (h : SH w0 X w L) (hr : Rem L f l) : SH w0 X w (f :: l) := h.perm hr.perm
theorem SH.drop {w0 w : World} {X : List Nat} {l : List Fct} {f : Fct} (h : SH w0 X w (f :: l)) : SH w0 X w l :=
  ⟨h.os, h.tape, h.output, h.size, h.old, fun g hg => h.facts g (.tail _ hg), fun g hg => h.base g (.tail _ hg), (List.pairwise_cons.1 h.apart).2⟩
theorem SH.dropAll {w0 w : World} {X : List Nat} {F L : List Fct} (h : SH w0 X w (F ++ L)) : SH w0 X w L := by
  induction F with
  | nil => exact h
  | cons f r ih => exact ih (SH.drop h)
/-- each of L' stands in L, in a place of its own -/
inductive Sub : List Fct → List Fct → Prop
  | nil {L : List Fct} : Sub L []
  | all {L : List Fct} : Sub L L
  | cons {L l r : List Fct} {f : Fct} : Rem L f l → Sub l r → Sub L (f :: r)
theorem Sub.perm {L L' : List Fct} (h : Sub L L') : ∃ R, L.Perm (R ++ L') := by
  induction h with
  | nil => exact ⟨_, by simpa using .refl _⟩
  | all => exact ⟨[], .refl _⟩
  | cons hr _ ih =>
    obtain ⟨R, hp⟩ := ih
    exact ⟨R, (hr.perm.trans (List.Perm.cons _ hp)).trans List.perm_middle.symm⟩
theorem SH.sub {w0 w : World} {X : List Nat} {L L' : List Fct} (h : SH w0 X w L) (hs : Sub L L') : SH w0 X w L' := by
  obtain ⟨R, hp⟩ := hs.perm
  exact (h.perm hp).dropAll
theorem SH.has {w0 w : World} {X : List Nat} {L l : List Fct} {f : Fct} (h : SH w0 X w L) (hr : Rem L f l) : f.holds w := (h.front hr).facts f (.head _)

/-! ### judgements -/
section
variable (P : Program)
def CW (c : Code) (Q : Exit → Act → World → Prop) (n : Nat) (S : Slots) (w0 : World) (X : List Nat) (L : List Fct) : Prop :=
  ∀ a w, Sl n S a → SH w0 X w L → c.wp P Q a w
def QW (Q : Act → World → Prop) (n : Nat) (S : Slots) (w0 : World) (X : List Nat) (L : List Fct) : Prop :=
  ∀ a w, Sl n S a → SH w0 X w L → Q a w
def LW (ops : Array Oper) (Q : Exit → Act → World → Prop) (l : List Oper) (n : Nat) (S : Slots) (w0 : World) (X : List Nat) (L : List Fct) : Prop :=
  ∀ a w, Sl n S a → SH w0 X w L → wpList P ops Q l a w
/-- an operation that yields v in every such world, and leaves it -/
def OpV (o : Oper) (S : Slots) (w0 : World) (X : List Nat) (L : List Fct) (v : Value) : Prop :=
  ∀ n a w, Sl n S a → SH w0 X w L → (execOp a.eval o).run P w = .ok (.value v) w
/-- an operation that yields V p and comes to the facts N p, for some p -/
def OpW {α : Type} (o : Oper) (S : Slots) (w0 : World) (X : List Nat) (L : List Fct) (V : α → Value) (N : α → List Fct) : Prop :=
  ∀ n a w (K : Act → World → Prop) (Q : Exit → Act → World → Prop), Sl n S a → SH w0 X w L → (∀ p w', SH w0 X w' (N p) → K (a.put o.dst (V p)) w') → Oper.wp P o a w K Q
end
section
variable {P : Program} {Q : Exit → Act → World → Prop} {n : Nat} {S : Slots} {w0 : World} {X : List Nat} {L : List Fct} {ops : Array Oper} {rest : List Oper} {o : Oper}
theorem OpV.w {v : Value} (h : OpV P o S w0 X L v) : OpW P o S w0 X L (fun _ : Unit => v) (fun _ => L) := by
  intro n a w K Q hs hw hk
  unfold Oper.wp
  rw [h n a w hs hw]
  exact hk () w hw
theorem LW.nil (h : QW (Q .normal) n S w0 X L) : LW P ops Q [] n S w0 X L := fun a w hs hw => h a w hs hw
theorem LW.op {α : Type} {V : α → Value} {N : α → List Fct} {d : Nat} (hg : o.guard = none) (hd : o.dst = some d) (hn : Nat.blt d n = true) (ho : OpW P o S w0 X L V N)
    (h : ∀ p, LW P ops Q rest n ((d, V p) :: S) w0 X (N p)) : LW P ops Q (o :: rest) n S w0 X L := by
  intro a w hs hw
  unfold wpList
  rw [if_pos (by simp [Region.wanted, hg])]
  exact .inl (ho n a w _ _ hs hw fun p w' hw' => h p _ _ (by rw [hd]; exact hs.put d _ hn) hw')
theorem LW.op0 {α : Type} {V : α → Value} {N : α → List Fct} (hg : o.guard = none) (hd : o.dst = none) (ho : OpW P o S w0 X L V N)
    (h : ∀ p, LW P ops Q rest n S w0 X (N p)) : LW P ops Q (o :: rest) n S w0 X L := by
  intro a w hs hw
  unfold wpList
  rw [if_pos (by simp [Region.wanted, hg])]
  exact .inl (ho n a w _ _ hs hw fun p w' hw' => h p _ _ (by rw [hd]; exact hs) hw')
theorem LW.val {v : Value} {d : Nat} (hg : o.guard = none) (hd : o.dst = some d) (hn : Nat.blt d n = true) (ho : OpV P o S w0 X L v)
    (h : LW P ops Q rest n ((d, v) :: S) w0 X L) : LW P ops Q (o :: rest) n S w0 X L := LW.op hg hd hn ho.w fun _ => h
theorem LW.val0 {v : Value} (hg : o.guard = none) (hd : o.dst = none) (ho : OpV P o S w0 X L v)
    (h : LW P ops Q rest n S w0 X L) : LW P ops Q (o :: rest) n S w0 X L := LW.op0 hg hd ho.w fun _ => h
theorem LW.fact {p : Prop} {l : List Oper} (hp : ∀ w, SH w0 X w L → p) (h : p → LW P ops Q l n S w0 X L) : LW P ops Q l n S w0 X L := fun a w hs hw => h (hp w hw) a w hs hw
theorem CW.fact {p : Prop} {c : Code} (hp : ∀ w, SH w0 X w L → p) (h : p → CW P c Q n S w0 X L) : CW P c Q n S w0 X L := fun a w hs hw => h (hp w hw) a w hs hw
theorem LW.sub {l : List Oper} {S' : Slots} {L' : List Fct} (hs : SubS S S') (hl : Sub L L') (h : LW P ops Q l n S' w0 X L') : LW P ops Q l n S w0 X L := fun a w h1 h2 => h a w (h1.sub hs) (h2.sub hl)
theorem CW.region {id : Nat} {l : List Oper} (h : LW P l.toArray Q l n S w0 X L) : CW P (.region id l.toArray false) Q n S w0 X L := fun a w hs hw => wp_region_lit (h a w hs hw)
theorem CW.seq {x y : Code} (h : CW P x (Exit.then (y.wp P Q) Q) n S w0 X L) : CW P (.seq x y) Q n S w0 X L := fun a w hs hw => wp_seq (h a w hs hw)
theorem CW.block {id : Nat} {c : Code} (h : CW P c (Exit.inBlock id Q) n S w0 X L) : CW P (.block id c) Q n S w0 X L := fun a w hs hw => wp_block (h a w hs hw)
theorem CW.skip (h : QW (Q .normal) n S w0 X L) : CW P .skip Q n S w0 X L := fun a w hs hw => wp_skip (h a w hs hw)
theorem CW.exit {id : Nat} (h : QW (Q (.exit id)) n S w0 X L) : CW P (.exit id) Q n S w0 X L := fun a w hs hw => wp_exit (h a w hs hw)
theorem CW.ret (h : QW (Q .ret) n S w0 X L) : CW P .ret Q n S w0 X L := fun a w hs hw => wp_ret (h a w hs hw)
theorem CW.cond {c : Operand} {x y : Code} {b : Bool} (hc : evS S c = some (.bool b)) (ht : b = true → CW P x Q n S w0 X L) (hf : b = false → CW P y Q n S w0 X L) : CW P (.cond c x y) Q n S w0 X L :=
  fun a w hs hw => wp_cond_split (hs.eval hc) (fun e => ht e a w hs hw) (fun e => hf e a w hs hw)
theorem CW.condD {c : Operand} {x y : Code} {p : Prop} [Decidable p] (hc : evS S c = some (.bool (decide p))) (ht : p → CW P x Q n S w0 X L) (hf : ¬ p → CW P y Q n S w0 X L) : CW P (.cond c x y) Q n S w0 X L :=
  CW.cond hc (fun h => ht (of_decide_eq_true h)) (fun h => hf (of_decide_eq_false h))
theorem CW.condN {c : Operand} {x y : Code} {p : Prop} [Decidable p] (hc : evS S c = some (.bool (!decide p))) (ht : ¬ p → CW P x Q n S w0 X L) (hf : p → CW P y Q n S w0 X L) : CW P (.cond c x y) Q n S w0 X L :=
  CW.cond hc (fun h => ht (by simpa using h)) (fun h => hf (by simpa using h))
theorem CW.condT {c : Operand} {x y : Code} (hc : evS S c = some (.bool true)) (ht : CW P x Q n S w0 X L) : CW P (.cond c x y) Q n S w0 X L := CW.cond hc (fun _ => ht) (fun h => by cases h)
theorem CW.condF {c : Operand} {x y : Code} (hc : evS S c = some (.bool false)) (hf : CW P y Q n S w0 X L) : CW P (.cond c x y) Q n S w0 X L := CW.cond hc (fun h => by cases h) (fun _ => hf)
theorem QW.then_ {K : Act → World → Prop} (h : QW K n S w0 X L) : QW (Exit.then K Q .normal) n S w0 X L := h
theorem QW.thenC {y : Code} (h : CW P y Q n S w0 X L) : QW (Exit.then (y.wp P Q) Q .normal) n S w0 X L := h
theorem QW.then_exit {K : Act → World → Prop} {id : Nat} (h : QW (Q (.exit id)) n S w0 X L) : QW (Exit.then K Q (.exit id)) n S w0 X L := h
theorem QW.then_ret {K : Act → World → Prop} (h : QW (Q .ret) n S w0 X L) : QW (Exit.then K Q .ret) n S w0 X L := h
theorem QW.in_normal {id : Nat} (h : QW (Q .normal) n S w0 X L) : QW (Exit.inBlock id Q .normal) n S w0 X L := h
theorem QW.in_ret {id : Nat} (h : QW (Q .ret) n S w0 X L) : QW (Exit.inBlock id Q .ret) n S w0 X L := h
theorem QW.in_hit {id : Nat} (h : QW (Q .normal) n S w0 X L) : QW (Exit.inBlock id Q (.exit id)) n S w0 X L := fun a w hs hw => by simp only [Exit.inBlock, if_true]; exact h a w hs hw
theorem QW.in_miss {id id' : Nat} (hne : Nat.beq id' id = false) (h : QW (Q (.exit id')) n S w0 X L) : QW (Exit.inBlock id Q (.exit id')) n S w0 X L := fun a w hs hw => by
  simp only [Exit.inBlock, if_neg (Nat.ne_of_beq_eq_false hne)]; exact h a w hs hw
theorem CW.sub {c : Code} {S' : Slots} {L' : List Fct} (hs : SubS S S') (hl : Sub L L') (h : CW P c Q n S' w0 X L') : CW P c Q n S w0 X L := fun a w h1 h2 => h a w (h1.sub hs) (h2.sub hl)
theorem QW.sub {K : Act → World → Prop} {S' : Slots} {L' : List Fct} (hs : SubS S S') (hl : Sub L L') (h : QW K n S' w0 X L') : QW K n S w0 X L := fun a w h1 h2 => h a w (h1.sub hs) (h2.sub hl)

/-- a loop: at each round's head some x with Pu x, the slots Sx x, the facts Lx x; each round lowers μ -/
theorem CW.loop {α : Type} {c : Code} (Pu : α → Prop) (Sx : α → Slots) (Lx : α → List Fct) (μ : α → Nat) (x0 : α) (hp : Pu x0) (hs : ∀ i v, getS (Sx x0) i = some v → getS S i = some v) (hl : Sub L (Lx x0))
    (round : ∀ x, Pu x → CW P c (Exit.then (fun a w => ∃ x', Pu x' ∧ μ x' < μ x ∧ Sl n (Sx x') a ∧ SH w0 X w (Lx x')) Q) n (Sx x) w0 X (Lx x)) : CW P (.loop c) Q n S w0 X L := by
  intro a w h1 h2
  have key : ∀ m x, μ x = m → Pu x → ∀ a w, Sl n (Sx x) a → SH w0 X w (Lx x) → ∀ (b : Frame) (k : List Item) (cs : List Frame),
      ∃ e a' w', Q e a' w' ∧ Arrives P (lone (b.at a (.code c :: .inLoop c :: k)) cs w) b k cs e a' w' := by
    intro m
    induction m using Nat.strongRecOn with
    | _ m ih =>
      intro x hm hx a w hsl hsh b k cs
      obtain ⟨e, a₁, w₁, hq, harr⟩ := round x hx a w hsl hsh b (.inLoop c :: k) cs
      cases e with
      | normal =>
        obtain ⟨x', hx', hlt, hsl', hsh'⟩ := hq
        obtain ⟨e₂, a₂, w₂, hq₂, harr₂⟩ := ih (μ x') (hm ▸ hlt) x' rfl hx' a₁ w₁ hsl' hsh' b k cs
        exact ⟨e₂, a₂, w₂, hq₂, .of_steps (Steps.trans harr (.one step_inLoop)) harr₂⟩
      | exit id => exact ⟨_, a₁, w₁, hq, .pass (x := .inLoop c) rfl (fun _ _ => .inl (by simp)) harr⟩
      | goto l => exact ⟨_, a₁, w₁, hq, .pass (x := .inLoop c) rfl (fun _ _ => .inl (by simp)) harr⟩
      | ret => exact ⟨_, a₁, w₁, hq, .pass (x := .inLoop c) rfl (fun _ _ => .inl (by simp)) harr⟩
      | panic ch => exact ⟨_, a₁, w₁, hq, .pass (x := .inLoop c) rfl (fun _ _ => .inl (by simp)) harr⟩
      | outgrown => exact ⟨_, a₁, w₁, hq, .pass (x := .inLoop c) rfl (fun _ _ => .inl (by simp)) harr⟩
  intro b k cs
  obtain ⟨e, a', w', hq, harr⟩ := key _ x0 rfl hp a w ⟨h1.size, h1.defers, fun i v h => h1.get i v (hs i v h)⟩ (h2.sub hl) b k cs
  exact ⟨e, a', w', hq, .of_steps (.one step_loop) harr⟩
theorem QW.round {α : Type} {Pu : α → Prop} {Sx : α → Slots} {Lx : α → List Fct} {μ : α → Nat} {x : α} (x' : α) (hp : Pu x') (hm : μ x' < μ x) (hs : SubS S (Sx x')) (hl : Sub L (Lx x')) :
    QW (fun a w => ∃ x', Pu x' ∧ μ x' < μ x ∧ Sl n (Sx x') a ∧ SH w0 X w (Lx x')) n S w0 X L := fun a w h1 h2 => ⟨x', hp, hm, h1.sub hs, h2.sub hl⟩
/-- a cut: what follows is shown once -/
theorem QW.cut {α : Type} {K : Act → World → Prop} {Pu : α → Prop} {Sx : α → Slots} {Lx : α → List Fct} (h : ∀ x, Pu x → QW K n (Sx x) w0 X (Lx x)) (x : α) (hp : Pu x) (hs : SubS S (Sx x)) (hl : Sub L (Lx x)) : QW K n S w0 X L :=
  (h x hp).sub hs hl

/-! ### a region that draws its order -/
/-- whatever order is picked from here on; S holds behind every operation, till one of F (which write S's cells) has come up -/
def wpAnyW (P : Program) (md : Region.Mode) (ops : Array Oper) (Q : Exit → Act → World → Prop) (F : List Nat) (Sw : World → Prop) : Nat → Array Bool → Act → World → Prop
  | 0, listed, a, w => Region.ready md ops listed = [] ∧ Q .normal a w
  | fuel + 1, listed, a, w =>
    (Region.ready md ops listed = [] → Q .normal a w) ∧
    ∀ i ∈ Region.ready md ops listed, wpOp P ops Q i (fun a' w' => (F.any (fun s => (listed.setIfInBounds i true).getD s false) = true ∨ Sw w') ∧ wpAnyW P md ops Q F Sw fuel (listed.setIfInBounds i true) a' w') a w
theorem wpAny_of_W {md : Region.Mode} {F : List Nat} {Sw : World → Prop} : ∀ (fuel : Nat) (listed : Array Bool) (a : Act) (w : World), wpAnyW P md ops Q F Sw fuel listed a w → wpAny P md ops Q fuel listed a w
  | 0, _, _, _, h => h
  | fuel + 1, _, _, _, h => ⟨h.1, fun i hi => wpOp_mono (fun a' w' h' => wpAny_of_W fuel _ a' w' h'.2) (h.2 i hi)⟩
/-- each of F waits for i -/
def waits (md : Region.Mode) (ops : Array Oper) (F : List Nat) (i : Nat) : Bool := F.all fun s => s != i && match ops[s]? with
  | some o => o.after.any fun e => Region.binds md e && e.on == i
  | none => false
theorem any_set {F : List Nat} {listed : Array Bool} {j : Nat} (h : F.any (fun s => listed.getD s false) = false) (hj : j ∉ F) : F.any (fun s => (listed.setIfInBounds j true).getD s false) = false := by
  rw [List.any_eq_false] at h ⊢
  intro s hs
  have hne : j ≠ s := fun e => hj (e ▸ hs)
  rw [getD_set_ne false hne]
  exact h s hs
theorem wpAnyW_first {md : Region.Mode} {F : List Nat} {Sw : World → Prop} {i : Nat} {oi : Oper} {v : Value} (hi : ops[i]? = some oi) (hsel : ∀ (j : Nat) (o : Oper) cs b, ops[j]? = some o → o.op ≠ .select cs b)
    (hQ : ∀ c a w, Q (.panic c) (a.put oi.dst v) w → Q (.panic c) a w) (hW : waits md ops F i = true) :
    ∀ (fuel : Nat) (listed : Array Bool) (a : Act) (w : World),
      (∀ j oj, ops[j]? = some oj → j ≠ i → listed.getD j true = false → (∀ e ∈ oj.after, Region.binds md e = true → e.on ≠ i) → oi.apart ops oj = true) →
      i ∈ Region.ready md ops listed → F.any (fun s => listed.getD s false) = false → YieldsIf P ops Sw oi v a → Sw w →
      wpAnyW P md ops Q F Sw fuel (listed.setIfInBounds i true) (a.put oi.dst v) w → wpAnyW P md ops Q F Sw (fuel + 1) listed a w := by
  have hFi : i ∉ F := fun h => by
    have := List.all_eq_true.1 hW i h
    simp at this
  intro fuel
  induction fuel with
  | zero =>
    intro listed a w _ hr hF hy hS H
    refine ⟨fun h => (by rw [h] at hr; cases hr), fun j hj => ?_⟩
    by_cases hji : j = i
    · subst hji; exact hy.wpOp hi hS ⟨.inr hS, H⟩
    · have := ready_mono hj hji
      rw [H.1] at this
      cases this
  | succ fuel ih =>
    intro listed a w hfree hr hF hy hS H
    refine ⟨fun h => (by rw [h] at hr; cases hr), fun j hj => ?_⟩
    by_cases hji : j = i
    · subst hji; exact hy.wpOp hi hS ⟨.inr hS, H⟩
    · have h1 := H.2 j (ready_mono hj hji)
      obtain ⟨hjun, oj, hoj, hall⟩ := mem_ready.1 hj
      have hnot : ∀ e ∈ oj.after, Region.binds md e = true → e.on ≠ i := fun e he hb heq => by
        have h1 := hall e he hb
        have h0 := (mem_ready.1 hr).1
        rw [heq] at h1
        rcases Nat.lt_or_ge i listed.size with h' | h'
        · simp [h'] at h0 h1; rw [h0] at h1; cases h1
        · simp [Array.getElem?_eq_none h'] at h1
      have hjF : j ∉ F := fun hjF => by
        have h3 := List.all_eq_true.1 hW j hjF
        simp only [hoj, Bool.and_eq_true] at h3
        obtain ⟨e, he, hb⟩ := Array.any_eq_true'.1 h3.2
        simp only [Bool.and_eq_true, beq_iff_eq] at hb
        exact hnot e he hb.1 hb.2
      have hF' := any_set hF hjF
      have hF2 : F.any (fun s => ((listed.setIfInBounds i true).setIfInBounds j true).getD s false) = false := any_set (any_set hF hFi) hjF
      have h2 := wpOp_putIf hoj (hfree j oj hoj hji hjun hnot) (fun cs b => hsel i oi cs b hi) (fun cs b => hsel j oj cs b hoj) hQ hy h1
      have hfree' : ∀ k ok, ops[k]? = some ok → k ≠ i → (listed.setIfInBounds j true).getD k true = false →
          (∀ e ∈ ok.after, Region.binds md e = true → e.on ≠ i) → oi.apart ops ok = true := fun k ok hk hki hun hno => by
        refine hfree k ok hk hki ?_ hno
        by_cases hjk : j = k
        · subst hjk; exact hjun
        · rw [getD_set_ne true hjk] at hun; exact hun
      refine wpOp_mono (fun a' w' h3 => ?_) h2
      have hS' : Sw w' := h3.2.1.resolve_left (by rw [hF2]; simp)
      refine ⟨.inr hS', ih (listed.setIfInBounds j true) a' w' hfree' (ready_mono hr (Ne.symm hji)) hF' h3.1 hS' ?_⟩
      rw [Array.setIfInBounds_comm _ _ hji]
      exact h3.2.2
theorem wpAnyW_mono {md : Region.Mode} {F : List Nat} {S1 S2 : World → Prop} (hS : ∀ w, S1 w → S2 w) : ∀ (fuel : Nat) (listed : Array Bool) (a : Act) (w : World), wpAnyW P md ops Q F S1 fuel listed a w → wpAnyW P md ops Q F S2 fuel listed a w
  | 0, _, _, _, h => h
  | fuel + 1, _, _, _, h => ⟨h.1, fun i hi => wpOp_mono (fun a' w' h' => ⟨h'.1.imp id (hS _), wpAnyW_mono hS fuel _ a' w' h'.2⟩) (h.2 i hi)⟩
def DW (P : Program) (ops : Array Oper) (Q : Exit → Act → World → Prop) (F : List Nat) (fuel : Nat) (listed : Array Bool) (n : Nat) (S : Slots) (w0 : World) (X : List Nat) (L Ls : List Fct) : Prop :=
  ∀ a w, Sl n S a → SH w0 X w L → wpAnyW P .any ops Q F (fun w => SH w0 X w Ls) fuel listed a w
theorem CW.draw {id : Nat} {l : List Oper} (F : List Nat) (Ls : List Fct) (hm : P.follows .mixedOrders = true)
    (h : DW P l.toArray Q F l.toArray.size (Array.replicate l.toArray.size false) n S w0 X L Ls) : CW P (.region id l.toArray true) Q n S w0 X L :=
  fun a w hs hw => wp_region_any hm (wpAny_of_W _ _ _ _ (h a _ hs hw.drew'))
theorem CW.drawL {id : Nat} {l : List Oper} (F : List Nat) (hm : P.follows .mixedOrders = true)
    (h : DW P l.toArray Q F l.toArray.size (Array.replicate l.toArray.size false) n S w0 X L L) : CW P (.region id l.toArray true) Q n S w0 X L := CW.draw F L hm h
variable {fuel : Nat} {listed listed' : Array Bool} {Ls : List Fct} {F : List Nat}
theorem DW.done (hr : Region.ready .any ops listed = []) (h : QW (Q .normal) n S w0 X L) : DW P ops Q F fuel listed n S w0 X L Ls := fun a w hs hw => by
  cases fuel with
  | zero => exact ⟨hr, h a w hs hw⟩
  | succ m => exact ⟨fun _ => h a w hs hw, by rw [hr]; simp⟩
/-- the facts that stay, chosen anew -/
theorem DW.keep (Ls' : List Fct) (hl : Sub Ls' Ls) (h : DW P ops Q F fuel listed n S w0 X L Ls') : DW P ops Q F fuel listed n S w0 X L Ls :=
  fun a w hs hw => wpAnyW_mono (fun w h => h.sub hl) _ _ _ _ (h a w hs hw)
theorem DW.take (i : Nat) {v : Value} (hi : ops[i]? = some o) (hg : o.guard = none) (hn : Region.noSelect ops = true) (hf : Region.free .any ops listed i = true) (hr : (Region.ready .any ops listed).contains i = true) (hW : waits .any ops F i = true) (hF : F.any (fun s => listed.getD s false) = false)
    {d : Nat} (hd : o.dst = some d) (hQ : ∀ c a w, Q (.panic c) (a.put (some d) v) w → Q (.panic c) a w) (hdn : Nat.blt d n = true) (hl : Sub L Ls) (ho : OpV P o S w0 X Ls v) (he : listed.setIfInBounds i true = listed')
    (h : DW P ops Q F fuel listed' n ((d, v) :: S) w0 X L Ls) : DW P ops Q F (fuel + 1) listed n S w0 X L Ls := fun a w hs hw => by
  subst he
  exact wpAnyW_first hi (Region.noSelect_spec hn) (fun c a w h => hQ c a w (by rw [hd] at h; exact h)) hW fuel listed a w (Region.free_spec hi hf) (by simpa using hr) hF (.inl ⟨by simp [Region.wanted, hg], fun w' hw' => ho n a w' hs hw'⟩) (hw.sub hl) (h _ w (by rw [hd]; exact hs.put d v hdn) hw)
def AllR (P : Program) (ops : Array Oper) (Q : Exit → Act → World → Prop) (F : List Nat) (fuel : Nat) (listed : Array Bool) (n : Nat) (S : Slots) (w0 : World) (X : List Nat) (L Ls : List Fct) (rs : List Nat) : Prop :=
  ∀ i ∈ rs, ∀ a w, Sl n S a → SH w0 X w L → wpOp P ops Q i (fun a' w' => (F.any (fun s => (listed.setIfInBounds i true).getD s false) = true ∨ SH w0 X w' Ls) ∧ wpAnyW P .any ops Q F (fun w => SH w0 X w Ls) fuel (listed.setIfInBounds i true) a' w') a w
theorem DW.ready (rs : List Nat) (hr : Region.ready .any ops listed = rs) (hne : rs ≠ []) (h : AllR P ops Q F fuel listed n S w0 X L Ls rs) : DW P ops Q F (fuel + 1) listed n S w0 X L Ls :=
  fun a w hs hw => ⟨fun h0 => absurd (hr ▸ h0) hne, hr ▸ fun i hi => h i hi a w hs hw⟩
theorem AllR.nil : AllR P ops Q F fuel listed n S w0 X L Ls [] := fun _ h => by cases h
theorem AllR.cons0 {i : Nat} {rs : List Nat} {α : Type} {V : α → Value} {N : α → List Fct} (hi : ops[i]? = some o) (hg : o.guard = none) (hd : o.dst = none) (ho : OpW P o S w0 X L V N) (hk : ∀ p, Sub (N p) Ls) (he : listed.setIfInBounds i true = listed')
    (h : ∀ p, DW P ops Q F fuel listed' n S w0 X (N p) Ls) (hs : AllR P ops Q F fuel listed n S w0 X L Ls rs) : AllR P ops Q F fuel listed n S w0 X L Ls (i :: rs) := by
  intro j hj
  rcases List.mem_cons.1 hj with rfl | hj
  · intro a w hsl hw
    subst he
    unfold wpOp
    simp only [hi]
    rw [if_pos (by simp [Region.wanted, hg])]
    exact .inl (ho n a w _ _ hsl hw fun p w' hw' => ⟨.inr (hw'.sub (hk p)), h p _ _ (by rw [hd]; exact hsl) hw'⟩)
  · exact hs j hj
/-- i comes up next; K: what stays is shown, or i is one of F -/
theorem AllR.cons {i : Nat} {rs : List Nat} {α : Type} {V : α → Value} {N : α → List Fct} {d : Nat} (hi : ops[i]? = some o) (hg : o.guard = none) (hd : o.dst = some d) (hdn : Nat.blt d n = true) (ho : OpW P o S w0 X L V N) (hk : ∀ p, Sub (N p) Ls) (he : listed.setIfInBounds i true = listed')
    (h : ∀ p, DW P ops Q F fuel listed' n ((d, V p) :: S) w0 X (N p) Ls) (hs : AllR P ops Q F fuel listed n S w0 X L Ls rs) : AllR P ops Q F fuel listed n S w0 X L Ls (i :: rs) := by
  intro j hj
  rcases List.mem_cons.1 hj with rfl | hj
  · intro a w hsl hw
    subst he
    unfold wpOp
    simp only [hi]
    rw [if_pos (by simp [Region.wanted, hg])]
    exact .inl (ho n a w _ _ hsl hw fun p w' hw' => ⟨.inr (hw'.sub (hk p)), h p _ _ (by rw [hd]; exact hsl.put d _ hdn) hw'⟩)
  · exact hs j hj
theorem AllR.val {i : Nat} {rs : List Nat} {v : Value} {d : Nat} (hi : ops[i]? = some o) (hg : o.guard = none) (hd : o.dst = some d) (hdn : Nat.blt d n = true) (ho : OpV P o S w0 X L v) (hk : Sub L Ls) (he : listed.setIfInBounds i true = listed')
    (h : DW P ops Q F fuel listed' n ((d, v) :: S) w0 X L Ls) (hs : AllR P ops Q F fuel listed n S w0 X L Ls rs) : AllR P ops Q F fuel listed n S w0 X L Ls (i :: rs) := AllR.cons hi hg hd hdn ho.w (fun _ => hk) he (fun _ => h) hs
/-- .. one of F -/
theorem AllR.last {i : Nat} {rs : List Nat} {α : Type} {V : α → Value} {N : α → List Fct} (hi : ops[i]? = some o) (hg : o.guard = none) (hd : o.dst = none) (hF : F.any (fun s => (listed.setIfInBounds i true).getD s false) = true) (ho : OpW P o S w0 X L V N) (he : listed.setIfInBounds i true = listed')
    (h : ∀ p, DW P ops Q F fuel listed' n S w0 X (N p) Ls) (hs : AllR P ops Q F fuel listed n S w0 X L Ls rs) : AllR P ops Q F fuel listed n S w0 X L Ls (i :: rs) := by
  intro j hj
  rcases List.mem_cons.1 hj with rfl | hj
  · intro a w hsl hw
    subst he
    unfold wpOp
    simp only [hi]
    rw [if_pos (by simp [Region.wanted, hg])]
    exact .inl (ho n a w _ _ hsl hw fun p w' hw' => ⟨.inl hF, h p _ _ (by rw [hd]; exact hsl) hw'⟩)
  · exact hs j hj
theorem AllR.lastD {i : Nat} {rs : List Nat} {α : Type} {V : α → Value} {N : α → List Fct} {d : Nat} (hi : ops[i]? = some o) (hg : o.guard = none) (hd : o.dst = some d) (hdn : Nat.blt d n = true) (hF : F.any (fun s => (listed.setIfInBounds i true).getD s false) = true) (ho : OpW P o S w0 X L V N) (he : listed.setIfInBounds i true = listed')
    (h : ∀ p, DW P ops Q F fuel listed' n ((d, V p) :: S) w0 X (N p) Ls) (hs : AllR P ops Q F fuel listed n S w0 X L Ls rs) : AllR P ops Q F fuel listed n S w0 X L Ls (i :: rs) := by
  intro j hj
  rcases List.mem_cons.1 hj with rfl | hj
  · intro a w hsl hw
    subst he
    unfold wpOp
    simp only [hi]
    rw [if_pos (by simp [Region.wanted, hg])]
    exact .inl (ho n a w _ _ hsl hw fun p w' hw' => ⟨.inl hF, h p _ _ (by rw [hd]; exact hsl.put d _ hdn) hw'⟩)
  · exact hs j hj
theorem DW.open_ {p : Prop} (hp : ∀ w, SH w0 X w L → p) (h : p → DW P ops Q F fuel listed n S w0 X L Ls) : DW P ops Q F fuel listed n S w0 X L Ls := fun a w hs hw => h (hp w hw) a w hs hw
end
end Go.Proofs.Ytbgjlojnbdnoaaa
