/- What holds of a world while a law is walked. -/
import Derived.Test.YtbandmcdkcfpiaaConvC
namespace Go.Proofs.Ytbandmcdkcfpiaa
open Go.RowKit Go.Proofs.YtbandmcdkcfpiaaW.PrintWords
set_option linter.unusedVariables false
set_option linter.unusedSimpArgs false

inductive Fact where
  | blk (b : Nat) (cs : Array Value) (t : TypeId)
  | own (base : Nat) (v : Value) (xs : List Int)
  | below (w : World) (n : Nat)
def Fact.holds (W : World) : Fact → Prop
  | .blk b cs t => W.heap[b]? = some (.cells cs t (0, 0))
  | .own base v xs => OwnI W base v xs
  | .below w n => Below n w W ∧ n ≤ W.heap.size
/-- all of them hold -/
def Facts (W : World) : List Fact → Prop
  | [] => True
  | f :: r => f.holds W ∧ Facts W r
theorem Fact.up {W W' : World} {f : Fact} (h : f.holds W) (hb : Below W.heap.size W W') : f.holds W' := by
  cases f with
  | blk b cs t => exact blk_below h hb
  | own base v xs => exact OwnI.up h hb
  | below w n => exact ⟨h.1.trans (hb.mono h.2), Nat.le_trans h.2 hb.size⟩
theorem Facts.up {W W' : World} {l : List Fact} (h : Facts W l) (hb : Below W.heap.size W W') : Facts W' l := by
  induction l with
  | nil => trivial
  | cons f r ih => exact ⟨Fact.up h.1 hb, ih h.2⟩
theorem Facts.alloc {W : World} {l : List Fact} (h : Facts W l) (o : Obj) : Facts (W.alloc o) l := h.up (below_alloc (Below.refl _ W) o)
theorem Facts.drew {W : World} {l : List Fact} (h : Facts W l) : Facts W.drew l := h.up (below_drew (Below.refl _ W))
theorem Facts.more {W : World} {l : List Fact} {f : Fact} (hf : f.holds W) (h : Facts W l) : Facts W (f :: l) := ⟨hf, h⟩
/-- a fact that a row at block g does not touch -/
def Fact.off (g : Nat) : Fact → Prop
  | .blk b _ _ => b ≠ g
  | .own _ v _ => v.ownBlock ≠ some g
  | .below _ n => n ≤ g
theorem Fact.setc {W : World} {g o : Nat} {u : Value} {f : Fact} (h : f.holds W) (ho : f.off g) : f.holds (W.setCell ⟨g, o, none⟩ u) := by
  cases f with
  | blk b cs t => exact blk_far' (Ne.symm ho) h
  | own base v xs =>
    refine ⟨own_move h.1 (fun k hk => ?_), h.2⟩
    refine Below.heap_setCell _ _ _ _ ?_
    intro e
    have e : k = g := e
    subst e
    exact ho hk
  | below w n => exact ⟨below_setc' h.1 ho, by simpa using h.2⟩
def offAll (g : Nat) : List Fact → Prop
  | [] => True
  | f :: r => f.off g ∧ offAll g r
theorem Facts.setc {W : World} {l : List Fact} {g o : Nat} {u : Value} (h : Facts W l) (ho : offAll g l) : Facts (W.setCell ⟨g, o, none⟩ u) l := by
  induction l with
  | nil => trivial
  | cons f r ih => exact ⟨Fact.setc h.1 ho.1, ih h.2 ho.2⟩
def offRow (A : Option Addr) (l : List Fact) : Prop := ∀ g, A = some ⟨g, 0, none⟩ → offAll g l
theorem Fact.marked {W W' : World} {base : Nat} {A : Option Addr} {f : Fact} (h : f.holds W) (hm : Marked W W' base A) (ho : ∀ g, A = some ⟨g, 0, none⟩ → f.off g) (hn : ∀ w n, f = .below w n → n ≤ base) : f.holds W' := by
  cases f with
  | blk b cs t => exact hm.keep b _ (fun e => ho b e rfl) h
  | own b v xs =>
    refine ⟨own_move h.1 (fun k hk => ?_), h.2⟩
    have hlt : k < W.heap.size := by
      rcases h.1.2 with ⟨e, _⟩ | ⟨g, cap, cur, e, _, hh, _⟩
      · rw [e] at hk; simp [Value.ownBlock] at hk
      · have : g = k := by rw [e] at hk; simpa [Value.ownBlock] using hk
        subst this
        exact blk_lt hh
    have hx : W.heap[k]? = some (W.heap[k]) := Array.getElem?_eq_getElem hlt
    rw [hm.keep k _ (fun e => ho k e hk) hx, hx]
  | below w n => exact ⟨h.1.trans (hm.below.mono (hn w n rfl)), Nat.le_trans h.2 hm.below.size⟩
def lowAll (base : Nat) : List Fact → Prop
  | [] => True
  | .below _ n :: r => n ≤ base ∧ lowAll base r
  | _ :: r => lowAll base r
theorem Facts.marked {W W' : World} {base : Nat} {A : Option Addr} {l : List Fact} (h : Facts W l) (hm : Marked W W' base A) (ho : offRow A l) (hn : lowAll base l) : Facts W' l := by
  induction l with
  | nil => trivial
  | cons f r ih =>
    refine ⟨Fact.marked h.1 hm (fun g e => (ho g e).1) ?_, ih h.2 (fun g e => (ho g e).2) ?_⟩
    · rintro w n rfl; exact hn.1
    · cases f with
      | below w n => exact hn.2
      | blk b cs t => exact hn
      | own b v xs => exact hn
/-- the block of a row lies between -/
theorem own_off {W : World} {base g : Nat} {A : Option Addr} {n c : Nat} {xs : List Int} (h : OwnI W base (.slice A n c) xs) (hne : ∀ k, A = some ⟨k, 0, none⟩ → k ≠ g) : (Fact.own base (.slice A n c) xs).off g := by
  intro e
  rcases h.1.2 with ⟨e2, _⟩ | ⟨k, cap, cur, e2, _⟩
  · rw [e2] at e; simp [Value.ownBlock] at e
  · injection e2 with e3 e4 e5
    subst e3
    have : k = g := by simpa [Value.ownBlock] using e
    exact hne k rfl this
theorem own_in {W : World} {base : Nat} {A : Option Addr} {n c : Nat} {xs : List Int} (h : OwnI W base (.slice A n c) xs) {k : Nat} (e : A = some ⟨k, 0, none⟩) : base ≤ k ∧ k < W.heap.size := h.1.lt k (by subst e; rfl)
theorem blk_new_drew (w : World) (o : Obj) : (w.alloc o).drew.heap[w.heap.size]? = some o := blk_new w o
theorem leafA {w : World} {l : List Fact} {cs : Array Value} {t : TypeId} (h : Facts w l) : Facts (w.alloc (.cells cs t (0, 0))) (.blk w.heap.size cs t :: l) := ⟨blk_new _ _, h.alloc _⟩
theorem leafB {w : World} {l : List Fact} {B : Nat} {z0 z1 z2 v0 v1 v2 : Value} {t : TypeId} (h : Facts w l) (hB : w.heap[B]? = some (.cells #[z0, z1, z2] t (0, 0))) (ho : offAll B l) :
    Facts (((w.setCell ⟨B, 0, none⟩ v0).setCell ⟨B, 1, none⟩ v1).setCell ⟨B, 2, none⟩ v2) (.blk B #[v0, v1, v2] t :: l) := ⟨blk_set (blk_set (blk_set hB 0 _) 1 _) 2 _, ((h.setc ho).setc ho).setc ho⟩
theorem Facts.drop1 {W : World} {a b : Fact} {l : List Fact} (h : Facts W (a :: b :: l)) : Facts W (a :: l) := ⟨h.1, h.2.2⟩
theorem Facts.drop3 {W : World} {a b c d : Fact} {l : List Fact} (h : Facts W (a :: b :: c :: d :: l)) : Facts W (a :: b :: c :: l) := ⟨h.1, h.2.1, h.2.2.1, h.2.2.2.2⟩
theorem Facts.drop5 {W : World} {a b c d e f : Fact} {l : List Fact} (h : Facts W (a :: b :: c :: d :: e :: f :: l)) : Facts W (a :: b :: c :: d :: e :: l) := ⟨h.1, h.2.1, h.2.2.1, h.2.2.2.1, h.2.2.2.2.1, h.2.2.2.2.2.2⟩
theorem Facts.below5 {W w : World} {n : Nat} {a b c d e : Fact} {l : List Fact} (h : Facts W (a :: b :: c :: d :: e :: .below w n :: l)) : Below n w W := h.2.2.2.2.2.1.1
theorem Facts.below6 {W w : World} {n : Nat} {a b c d e f : Fact} {l : List Fact} (h : Facts W (a :: b :: c :: d :: e :: f :: .below w n :: l)) : Below n w W := h.2.2.2.2.2.2.1.1
theorem size_drew (w : World) : w.drew.heap.size = w.heap.size := rfl
theorem size_alloc (w : World) (o : Obj) : (w.alloc o).heap.size = w.heap.size + 1 := by simp
theorem act_all (T : Array Value) (n : Nat) (h : T.size = n) : T = ((List.range n).map fun i => T.getD i undef).toArray := by
  subst h
  apply Array.ext
  · simp
  · intro i h1 h2
    simp [Array.getD, h1]
theorem cutK {K : Act → World → Prop} {Q : Exit → Act → World → Prop} {R : Act → World → Prop} (H : ∀ a' W, R a' W → K a' W) {a : Act} {W : World} (h : R a W) : (Exit.then K Q) .normal a W := H a W h
theorem Facts.head {W w : World} {n : Nat} {l : List Fact} (h : Facts W (.below w n :: l)) : Below n w W := h.1.1
theorem Facts.own1 {W : World} {b : Nat} {v : Value} {xs : List Int} {l : List Fact} (h : Facts W (.own b v xs :: l)) : OwnI W b v xs := h.1
theorem Facts.own2 {W : World} {b : Nat} {v : Value} {xs : List Int} {f : Fact} {l : List Fact} (h : Facts W (f :: .own b v xs :: l)) : OwnI W b v xs := h.2.1
theorem Facts.below1 {W w : World} {n : Nat} {f : Fact} {l : List Fact} (h : Facts W (f :: .below w n :: l)) : Below n w W := h.2.1.1
theorem Facts.below2 {W w : World} {n : Nat} {f g : Fact} {l : List Fact} (h : Facts W (f :: g :: .below w n :: l)) : Below n w W := h.2.2.1.1
/-- behind a statement that leaves in the plain way: what is known there -/
theorem cut_at {P : Program} {c : Code} {Q : Exit → Act → World → Prop} {a : Act} {w : World} (R : Act → World → Prop) (h : c.wp P (fun e a' w' => e = .normal ∧ R a' w') a w) (h2 : ∀ a' w', R a' w' → Q .normal a' w') : c.wp P Q a w :=
  Code.wp_mono (fun e a' w' h => by obtain ⟨rfl, h⟩ := h; exact h2 a' w' h) h
end Go.Proofs.Ytbandmcdkcfpiaa
