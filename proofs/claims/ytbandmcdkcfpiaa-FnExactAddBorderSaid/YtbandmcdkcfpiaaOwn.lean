/- Rows of ints that the call has made. -/
import Derived.Test.YtbandmcdkcfpiaaNum
namespace Go.Proofs.Ytbandmcdkcfpiaa
open Go.RowKit Go.Proofs.YtbandmcdkcfpiaaW.PrintWords
set_option linter.unusedVariables false
set_option linter.unusedSimpArgs false

theorem infoInt : (Try.prog.info? 3).map (fun i => (i.zero, i.size, i.bytes)) = some (some (.int .i64 0), 1, 8) := by kernel_rfl
/-- a row of ints of the call's own: v holds xs in a block from base on -/
def OwnI (w : World) (base : Nat) (v : Value) (xs : List Int) : Prop := w.ownsRow base 3 1 v xs.length (nums .i64 xs) ∧ xs.length ≤ 17592186043904
theorem OwnI.nil (w : World) (base : Nat) : OwnI w base (.slice none 0 0) [] := ⟨own_nil _ _ _ _, by simp⟩
theorem OwnI.form {w : World} {base : Nat} {v : Value} {xs : List Int} (h : OwnI w base v xs) : ∃ A c, v = .slice A xs.length c ∧ RdI w A c xs := by
  obtain ⟨h, hl⟩ := h
  have h' := h
  rcases h.2 with ⟨rfl, h0⟩ | ⟨g, cap, cur, rfl, hb, hh, hlc, hm, hpre⟩
  · have : xs = [] := List.eq_nil_of_length_eq_zero h0
    subst this
    exact ⟨none, 0, rfl, RdI.nil w⟩
  · refine ⟨_, cap, rfl, hlc, by simpa [maxLen] using hm, hl, fun i hi => ⟨_, rfl, ?_⟩⟩
    exact World.ownsRow.cells h' (g := g) rfl i (.int .i64 xs[i]) (by simp [nums, hi])
theorem OwnI.up {w W : World} {base : Nat} {v : Value} {xs : List Int} (h : OwnI w base v xs) (hb : Below w.heap.size w W) : OwnI W base v xs := ⟨pw_own_below h.1 hb, h.2⟩
theorem OwnI.drew {w : World} {base : Nat} {v : Value} {xs : List Int} (h : OwnI w base v xs) : OwnI w.drew base v xs := ⟨h.1.drew, h.2⟩
theorem OwnI.alloc {w : World} {base : Nat} {v : Value} {xs : List Int} (h : OwnI w base v xs) (o : Obj) : OwnI (w.alloc o) base v xs := ⟨h.1.alloc o, h.2⟩
theorem OwnI.weaken {w : World} {base base' : Nat} {v : Value} {xs : List Int} (h : OwnI w base v xs) (hb : base' ≤ base) : OwnI w base' v xs := ⟨own_weaken h.1 hb, h.2⟩

theorem OwnI.setc {w : World} {base : Nat} {v : Value} {xs : List Int} (h : OwnI w base v xs) {b o : Nat} (hb : b < base) (u : Value) : OwnI (w.setCell ⟨b, o, none⟩ u) base v xs := ⟨ownsRow_setCell_below h.1 (a := ⟨b, o, none⟩) hb u, h.2⟩
theorem OwnI.reads {w : World} {base : Nat} {A : Option Addr} {c : Nat} {xs : List Int} (h : OwnI w base (.slice A xs.length c) xs) : RdI w A c xs := by
  obtain ⟨A', c', e, h1⟩ := h.form
  cases e
  exact h1

theorem OwnI.block {w : World} {base : Nat} {A : Option Addr} {n c : Nat} {xs : List Int} (h : OwnI w base (.slice A n c) xs) (hn : 0 < xs.length) : ∃ g, A = some ⟨g, 0, none⟩ ∧ n = xs.length ∧ base ≤ g ∧ g < w.heap.size := by
  obtain ⟨h, hl⟩ := h
  have hlt := h.lt
  rcases h.2 with ⟨e, h0⟩ | ⟨g, cap, cur, e, hb, hh, hlc, hm, hpre⟩
  · omega
  · injection e with e1 e2 e3
    subst e1 e2
    exact ⟨g, rfl, rfl, (hlt g rfl).1, (hlt g rfl).2⟩
theorem OwnI.n_eq {w : World} {base n c : Nat} {A : Option Addr} {xs : List Int} (h : OwnI w base (.slice A n c) xs) : n = xs.length := by
  rcases h.1.2 with ⟨e, h0⟩ | ⟨g, cap, cur, e, _⟩
  · injection e with e1 e2 e3
    omega
  · injection e with e1 e2 e3
theorem OwnI.cell {w : World} {base g n c : Nat} {xs : List Int} (h : OwnI w base (.slice (some ⟨g, 0, none⟩) n c) xs) (i : Nat) (hi : i < xs.length) : w.cell? ⟨g, i, none⟩ = some (.int .i64 xs[i]) ∧ w.frozen? ⟨g, i, none⟩ = false := by
  obtain rfl := h.n_eq
  have h1 := own_at h.1 (i : Int) (by omega) (by omega)
  simpa [rd, List.getD_eq_getElem?_getD, List.getElem?_eq_getElem hi] using h1
theorem OwnI.store {w : World} {base g n c : Nat} {xs : List Int} (h : OwnI w base (.slice (some ⟨g, 0, none⟩) n c) xs) (i : Nat) (x : Int) : OwnI (w.setCell ⟨g, i, none⟩ (.int .i64 x)) base (.slice (some ⟨g, 0, none⟩) n c) (xs.set i x) := by
  obtain rfl := h.n_eq
  have h1 := (own_store h.1 (i : Int) x).1
  refine ⟨?_, by simpa using h.2⟩
  simpa using h1
theorem OwnI.reads' {w : World} {base n c : Nat} {A : Option Addr} {xs : List Int} (h : OwnI w base (.slice A n c) xs) : RdI w A c xs := by
  obtain rfl := h.n_eq
  exact h.reads
theorem OwnI.cellI {w : World} {base g n c : Nat} {xs : List Int} (h : OwnI w base (.slice (some ⟨g, 0, none⟩) n c) xs) (i : Int) (h0 : 0 ≤ i) (hi : i < xs.length) : w.cell? ⟨g, i.toNat, none⟩ = some (.int .i64 (rd xs i)) ∧ w.frozen? ⟨g, i.toNat, none⟩ = false := by
  obtain rfl := h.n_eq
  exact own_at h.1 i h0 hi
theorem OwnI.storeI {w : World} {base g n c : Nat} {xs : List Int} (h : OwnI w base (.slice (some ⟨g, 0, none⟩) n c) xs) (i : Int) (x : Int) : OwnI (w.setCell ⟨g, i.toNat, none⟩ (.int .i64 x)) base (.slice (some ⟨g, 0, none⟩) n c) (xs.set i.toNat x) := by
  obtain rfl := h.n_eq
  exact ⟨by simpa using (own_store h.1 i x).1, by simpa using h.2⟩
/-- a store into another block -/
theorem OwnI.far {w : World} {base b o : Nat} {A : Option Addr} {n c : Nat} {xs : List Int} (h : OwnI w base (.slice A n c) xs) (hne : ∀ g, A = some ⟨g, 0, none⟩ → g ≠ b) (u : Value) : OwnI (w.setCell ⟨b, o, none⟩ u) base (.slice A n c) xs := by
  refine ⟨own_move h.1 (fun k hk => ?_), h.2⟩
  refine Below.heap_setCell _ _ _ _ ?_
  rcases h.1.2 with ⟨e, _⟩ | ⟨g, cap, cur, e, _⟩
  · rw [e] at hk; simp [Value.ownBlock] at hk
  · injection e with e1 e2 e3
    subst e1
    have : g = k := by simpa [Value.ownBlock] using hk
    subst this
    exact hne g rfl


/-- what slices.Clone and the like hand back -/
def RetI (w : World) (xs : List Int) (e : Ending) (w' : World) : Prop := ∃ A c, e = .returned (.slice A xs.length c) ∧ OwnI w' w.heap.size (.slice A xs.length c) xs ∧ Below w.heap.size w w'

set_option maxHeartbeats 800000 in
theorem l1Own_any (xs : List Int) (A : Option Addr) (c : Nat) (w : World) (hR : RdI w A c xs) :
    Calls Try.prog 209 #[.slice A xs.length c] w (RetI w xs) := by
  have hl := hR.len
  have HR := Lib.hid (hR.up (below_alloc (Below.refl _ w) (.cells #[] 3))).reads; clear hR
  go_enter Try.func209, Try.ntmps209
  go_wp2_with (at_builtin; refine print_append_row (w0 := w) w.heap.size rfl _ _ 22 3 .i64 8 rfl Try.underlying22 infoInt (by decide) _ [] xs A xs.length c rfl rfl ?HO HR.out ?HB ?hbase ?hl ?_)
  case HO => exact own_lit w w.heap.size 3 .i64 [] (Nat.le_refl _) (by simp)
  case HB => exact below_alloc (Below.refl _ w) _
  case hbase => simp
  case hl => simp; omega
  intro v1 w1 hown hB hg hat
  go_wp2
  go_ret
  have ho : OwnI w1 w.heap.size v1 xs := ⟨by simpa using hown, hl⟩
  obtain ⟨A', c', rfl, _⟩ := ho.form
  exact ⟨A', c', rfl, ho, hB⟩

set_option maxHeartbeats 800000 in
theorem Clone_any (xs : List Int) (A : Option Addr) (c : Nat) (w : World) (hR : RdI w A c xs) :
    Calls Try.prog 212 #[.slice A xs.length c] w (RetI w xs) := by
  have hl := hR.len
  have HR := Lib.hid (hR.up (below_alloc (Below.refl _ w) (.cells #[] 3))).reads
  rcases A with _ | ad
  · have hn : xs = [] := by
      cases xs with
      | nil => rfl
      | cons x r => obtain ⟨ad, e, _⟩ := hR.at_ 0 (by simp); cases e
    subst hn
    clear hR HR
    have hnil := fun w : World => Lib.run_eql_slice_nil (P := Try.prog) w 22 3 none 0 c 0 0 Try.underlying22
    go_enter Try.func212, Try.ntmps212
    go_wp2
    go_ret
    exact ⟨none, 0, rfl, OwnI.nil _ _, Below.refl _ _⟩
  · have hnil := fun w : World => Lib.run_eql_slice_nil (P := Try.prog) w 22 3 (some ad) xs.length c 0 0 Try.underlying22
    clear hR
    go_enter Try.func212, Try.ntmps212
    go_wp2_with (at_builtin; refine print_append_row (w0 := w) w.heap.size rfl _ _ 22 3 .i64 8 rfl Try.underlying22 infoInt (by decide) _ [] xs (some ad) xs.length c rfl rfl ?HO HR.out ?HB ?hbase ?hl ?_)
    case HO => exact own_lit w w.heap.size 3 .i64 [] (Nat.le_refl _) (by simp)
    case HB => exact below_alloc (Below.refl _ w) _
    case hbase => simp
    case hl => simp; omega
    intro v1 w1 hown hB hg hat
    go_wp2
    go_ret
    have ho : OwnI w1 w.heap.size v1 xs := ⟨by simpa using hown, hl⟩
    obtain ⟨A', c', rfl, _⟩ := ho.form
    exact ⟨A', c', rfl, ho, hB⟩
end Go.Proofs.Ytbandmcdkcfpiaa
