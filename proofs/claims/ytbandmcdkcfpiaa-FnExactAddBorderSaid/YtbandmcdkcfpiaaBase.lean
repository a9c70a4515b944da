/- Words of no program: bools on numbers and lists; worlds that grow. -/
import Derived.Test.YtbandmcdkcfpiaaWWords
import Derived.Lib.Hide
import Derived.Shelf.Abstract
import Derived.Lib.SliceRun
import Derived.Deep.LoopGhost
import Derived.Deep.QuietTactic
import Derived.BigQuiet
import Derived.Outline
import Derived.Laws.EntriesVeiled
import Derived.WalkLawsBesides
namespace Go.Proofs.Ytbandmcdkcfpiaa
open Go.RowKit Go.Proofs.YtbandmcdkcfpiaaW.PrintWords
set_option linter.unusedVariables false
set_option linter.unusedSimpArgs false

/-- low ≤ n ≤ high -/
def inB (n lo hi : Int) : Bool := decide (lo ≤ n) && decide (n ≤ hi)
theorem inB_iff {n lo hi : Int} : inB n lo hi = true ↔ lo ≤ n ∧ n ≤ hi := by simp [inB]
/-- does p hold of all? -/
def allF {α : Type} (p : α → Bool) (xs : List α) : Bool := xs.all p
def anyF {α : Type} (p : α → Bool) (xs : List α) : Bool := xs.any p
theorem anyF_not {α : Type} (p : α → Bool) (xs : List α) : anyF (fun x => !p x) xs = !allF p xs := by
  show xs.any (fun x => !p x) = !xs.all p
  rw [List.all_eq_not_any_not, Bool.not_not]

/-- what was there reads as it did, cells and marks -/
theorem bcell {W w1 : World} (hb : Below W.heap.size W w1) : (∀ b o, b < W.heap.size → w1.cell? ⟨b, o, none⟩ = W.cell? ⟨b, o, none⟩) ∧ (∀ b o, b < W.heap.size → w1.frozen? ⟨b, o, none⟩ = W.frozen? ⟨b, o, none⟩) :=
  ⟨fun b o h => hb.cell (p := ⟨b, o, none⟩) h, fun b o h => hb.frozen (p := ⟨b, o, none⟩) h⟩
theorem below_up {w W w1 : World} (h : Below w.heap.size w W) (hb : Below W.heap.size W w1) : Below w.heap.size w w1 := below_then h h.size hb
theorem below_setc {w W : World} (h : Below w.heap.size w W) {b o : Nat} (hb : w.heap.size ≤ b) {v : Value} : Below w.heap.size w (W.setCell ⟨b, o, none⟩ v) := h.setCell hb v

theorem box3 {W : World} {b t : Nat} {v0 v1 v2 : Value} (h : W.heap[b]? = some (.cells #[v0, v1, v2] t (0, 0))) : (W.cell? ⟨b, 0, none⟩ = some v0 ∧ W.cell? ⟨b, 1, none⟩ = some v1 ∧ W.cell? ⟨b, 2, none⟩ = some v2) ∧ (∀ o, W.frozen? ⟨b, o, none⟩ = false) ∧ b < W.heap.size :=
  ⟨⟨(blk_cell h 0).trans rfl, (blk_cell h 1).trans rfl, (blk_cell h 2).trans rfl⟩, fun o => blk_frozen h o, blk_lt h⟩
theorem cell_far {w : World} {g o b o' : Nat} {u : Value} (h : g ≠ b) : (w.setCell ⟨g, o, none⟩ u).cell? ⟨b, o', none⟩ = w.cell? ⟨b, o', none⟩ :=
  World.cell?_setCell_other _ _ _ _ (fun e => h (congrArg Addr.block e))
theorem blk_far' {w : World} {g o b : Nat} {u : Value} {x : Obj} (h : g ≠ b) (hb : w.heap[b]? = some x) : (w.setCell ⟨g, o, none⟩ u).heap[b]? = some x :=
  (Below.heap_setCell _ _ _ _ (Ne.symm h)).trans hb
theorem blk0 (w : World) (o : Obj) : (w.alloc o).heap[w.heap.size]? = some o := blk_new w o
theorem blk1 (w : World) (o o' : Obj) : ((w.alloc o).alloc o').heap[w.heap.size + 1]? = some o' := by simpa using blk_new (w.alloc o) o'
theorem blk2 (w : World) (o o' o'' : Obj) : (((w.alloc o).alloc o').alloc o'').heap[w.heap.size + 1 + 1]? = some o'' := by simpa using blk_new ((w.alloc o).alloc o') o''

/-- the first place where p holds, or -1 -/
def idxF {α : Type} (p : α → Bool) (xs : List α) : Int := if xs.any p then xs.findIdx p else -1
theorem idxF_hit {α : Type} (p : α → Bool) (xs : List α) (k : Nat) (h : k < xs.length) (hp : p xs[k] = true) (hl : ∀ j (h : j < xs.length), j < k → p xs[j] = false) : idxF p xs = k := by
  have h1 : xs.any p = true := List.any_eq_true.2 ⟨xs[k], List.getElem_mem h, hp⟩
  have h2 : xs.findIdx p = k := by
    refine (List.findIdx_eq h).2 ⟨hp, fun j hj => by simpa using hl j (by omega) hj⟩
  simp [idxF, h1, h2]
theorem idxF_miss {α : Type} (p : α → Bool) (xs : List α) (hl : ∀ j (h : j < xs.length), p xs[j] = false) : idxF p xs = -1 := by
  have h1 : xs.any p = false := by
    rw [List.any_eq_false]
    intro x hx
    obtain ⟨i, hi, rfl⟩ := List.mem_iff_getElem.1 hx
    simp [hl i hi]
  simp [idxF, h1]
theorem idxF_nonneg {α : Type} (p : α → Bool) (xs : List α) : decide (0 ≤ idxF p xs) = anyF p xs := by
  unfold idxF anyF
  cases h : xs.any p
  · simp
  · simp

/-- A slice of ints that reads as xs. -/
structure RdI (w : World) (A : Option Addr) (c : Nat) (xs : List Int) : Prop where
  le : xs.length ≤ c
  capLe : c ≤ 9223372036854775807
  len : xs.length ≤ 17592186043904
  at_ : ∀ (i : Nat) (h : i < xs.length), ∃ ad, A = some ad ∧ w.cell? (ad.add i) = some (.int .i64 xs[i])
theorem RdI.up {w W : World} {A : Option Addr} {c : Nat} {xs : List Int} (h : RdI w A c xs) (hb : Below w.heap.size w W) : RdI W A c xs :=
  ⟨h.le, h.capLe, h.len, fun i hi => by
    obtain ⟨ad, e, h1⟩ := h.at_ i hi
    exact ⟨ad, e, pw_cell_below hb h1⟩⟩
theorem RdI.nil (w : World) : RdI w none 0 [] := ⟨by simp, by omega, by simp, fun i h => absurd h (by simp)⟩
theorem RdI.drew {w : World} {A : Option Addr} {c : Nat} {xs : List Int} (h : RdI w A c xs) : RdI w.drew A c xs := ⟨h.le, h.capLe, h.len, h.at_⟩
theorem RdI.reads {w : World} {A : Option Addr} {c : Nat} {xs : List Int} (h : RdI w A c xs) : ReadsInt w .i64 A xs.length xs := by
  refine ⟨rfl, by have := h.len; omega, fun hn => ?_⟩
  obtain ⟨ad, rfl, _⟩ := h.at_ 0 hn
  refine ⟨ad, rfl, fun j hj => ?_⟩
  obtain ⟨ad', e, h1⟩ := h.at_ j hj
  cases e
  rw [h1]
  simp [List.getD_eq_getElem?_getD, List.getElem?_eq_getElem hj]
end Go.Proofs.Ytbandmcdkcfpiaa
