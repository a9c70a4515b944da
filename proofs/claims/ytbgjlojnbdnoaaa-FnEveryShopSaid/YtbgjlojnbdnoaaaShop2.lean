/- The workshop: when a shop is valid; copies. -/
import Derived.Test.YtbgjlojnbdnoaaaShop1
namespace Go.Proofs.Ytbgjlojnbdnoaaa
open Go.RowKit
set_option linter.unusedVariables false
set_option linter.unusedSimpArgs false
/-- no earlier carpet is on the same loom -/
def freeAt (xs : List Cp) (c : Cp) (k : Nat) : Bool := match xs[k]? with
  | some d => !(decide (0 < c.loom) && decide (d.loom = c.loom))
  | none => true
def okAt (day looms : Int) (xs : List Cp) (i : Nat) : Bool := match xs[i]? with
  | some c => carpetOk day looms c && (List.range i).all (freeAt xs c)
  | none => true
def goodSh (day looms money : Int) (xs : List Cp) : Bool := inB day 0 4000 && inB looms 1 4 && inB money 0 1000000 && decide (xs.length ≤ 8) && (List.range xs.length).all (okAt day looms xs)
theorem goodSh_bad {day looms money : Int} {xs : List Cp} {i : Nat} (hi : i < xs.length) (h : okAt day looms xs i = false) : goodSh day looms money xs = false := by
  have : (List.range xs.length).all (okAt day looms xs) = false := by
    rw [List.all_eq_false]; exact ⟨i, by simp [hi], by simp [h]⟩
  simp [goodSh, this]
theorem goodSh_good {day looms money : Int} {xs : List Cp} (h1 : inB day 0 4000 = true) (h2 : inB looms 1 4 = true) (h3 : inB money 0 1000000 = true) (h4 : xs.length ≤ 8) (h : ∀ j, j < xs.length → okAt day looms xs j = true) : goodSh day looms money xs = true := by
  have : (List.range xs.length).all (okAt day looms xs) = true := by
    rw [List.all_eq_true]; intro j hj; exact h j (by simpa using hj)
  simp [goodSh, this, h1, h2, h3, h4]
theorem goodSh_iff {day looms money : Int} {xs : List Cp} : goodSh day looms money xs = true ↔ inB day 0 4000 = true ∧ inB looms 1 4 = true ∧ inB money 0 1000000 = true ∧ xs.length ≤ 8 ∧ ∀ j, j < xs.length → okAt day looms xs j = true := by
  simp [goodSh, and_assoc]
theorem okAt_bad {day looms : Int} {xs : List Cp} {i : Nat} (hi : i < xs.length) (h : carpetOk day looms xs[i] = false) : okAt day looms xs i = false := by simp [okAt, hi, h]
theorem okAt_carpet {day looms : Int} {xs : List Cp} {i : Nat} (hi : i < xs.length) (h : okAt day looms xs i = true) : carpetOk day looms xs[i] = true := by
  simp [okAt, hi] at h; exact h.1
theorem carpetOk_loom {day looms : Int} {c : Cp} (h : carpetOk day looms c = true) : (c.state = 1 ∧ 0 < c.loom) ∨ (c.state ≠ 1 ∧ c.loom = 0) := by
  simp only [carpetOk, Bool.and_eq_true] at h
  obtain ⟨_, h⟩ := h
  split at h
  · simp at h; right; omega
  · split at h
    · rename_i h1; simp [inB] at h; left; omega
    · rename_i h1; simp at h; right; omega
theorem okAt_plain {day looms : Int} {xs : List Cp} {i : Nat} (hi : i < xs.length) (h : carpetOk day looms xs[i] = true) (hs : ¬ xs[i].state = 1) : okAt day looms xs i = true := by
  have := carpetOk_loom h
  have h0 : xs[i].loom = 0 := by rcases this with h | h; exact absurd h.1 hs; exact h.2
  simp only [okAt, List.getElem?_eq_getElem hi, h, Bool.true_and, List.all_eq_true]
  intro k _
  unfold freeAt
  split
  · simp [h0]
  · rfl
theorem okAt_free {day looms : Int} {xs : List Cp} {i : Nat} (hi : i < xs.length) (h : carpetOk day looms xs[i] = true) (hf : ∀ k, k < i → freeAt xs xs[i] k = true) : okAt day looms xs i = true := by
  simp only [okAt, List.getElem?_eq_getElem hi, h, Bool.true_and, List.all_eq_true]
  intro k hk; exact hf k (by simpa using hk)
theorem okAt_notFree {day looms : Int} {xs : List Cp} {i k : Nat} (hi : i < xs.length) (hk : k < i) (hf : freeAt xs xs[i] k = false) : okAt day looms xs i = false := by
  have : (List.range i).all (freeAt xs xs[i]) = false := by rw [List.all_eq_false]; exact ⟨k, by simp [hk], by simp [hf]⟩
  simp [okAt, hi, this]
theorem okAt_woven {day looms : Int} {xs : List Cp} {i : Nat} (hi : i < xs.length) (hb : ∀ j, j < i → okAt day looms xs j = true) (h : carpetOk day looms xs[i] = true) (hs : xs[i].state = 1) : okAt day looms xs i = decide (idxF (onL xs[i].loom) xs = i) := by
  have h0 : 0 < xs[i].loom := by
    rcases carpetOk_loom h with h | h
    · exact h.2
    · exact absurd hs h.1
  have key : ∀ k (hk : k < i), freeAt xs xs[i] k = !onL xs[i].loom (xs[k]'(by omega)) := fun k hk => by
    have hkx : k < xs.length := by omega
    have hc := carpetOk_loom (okAt_carpet hkx (hb k hk))
    simp only [freeAt, List.getElem?_eq_getElem hkx, onL, h0, decide_true, Bool.true_and]
    congr 1
    by_cases e : xs[k].loom = xs[i].loom
    · rcases hc with h1 | h1
      · simp [e, h1.1]
      · rw [h1.2] at e; omega
    · simp [e]
  by_cases hd : ∀ k, k < i → freeAt xs xs[i] k = true
  · rw [okAt_free hi h hd, idxF_hit (onL xs[i].loom) xs i hi (by simp [onL, hs]) (fun j hj hji => by have := hd j hji; rw [key j hji] at this; simpa using this)]
    simp
  · have ⟨k, hk, hf⟩ : ∃ k, k < i ∧ freeAt xs xs[i] k = false := by
      refine Classical.byContradiction fun hn => hd fun k hk => ?_
      cases e : freeAt xs xs[i] k with
      | true => rfl
      | false => exact absurd ⟨k, hk, e⟩ hn
    rw [okAt_notFree hi hk hf]
    have hkx : k < xs.length := by omega
    rw [key k hk] at hf
    have hne : idxF (onL xs[i].loom) xs ≠ i := by
      have h1 : xs.any (onL xs[i].loom) = true := List.any_eq_true.2 ⟨xs[k], List.getElem_mem hkx, by simpa using hf⟩
      have h2 : xs.findIdx (onL xs[i].loom) ≤ k := by
        refine Nat.le_of_not_lt fun hlt => ?_
        have := List.not_of_lt_findIdx hlt
        simp at hf this
        rw [this] at hf; cases hf
      simp only [idxF, h1, if_true]; omega
    simp [hne]

set_option maxRecDepth 20000 in
theorem IsShop_ct (day looms money : Int) (xs : List Cp) (A : Option Addr) (c : Nat) (w : World) (hR : RdC w A c xs) : Calls Try.prog 18 #[shV day looms money A xs.length c] w (Ret (fun _ : Unit => .bool (goodSh day looms money xs)) (fun _ => []) w) := by
  have hb := hR.bnd
  refine enter Try.func18 rfl rfl Try.ntmps18 rfl ?_
  refine CW.seq (CW.region ?_)
  refine LW.op rfl rfl rfl (y_box rfl rfl rfl) ?_
  intro b1
  refine LW.val rfl rfl rfl (x_assign rfl rfl) ?_
  refine LW.nil (QW.thenC (CW.seq (CW.seq (CW.region ?_))))
  refine LW.val rfl rfl rfl (x_fieldAddr rfl rfl fl31_0 rfl) ?_
  refine LW.val rfl rfl rfl (x_loadB rfl rfl ty3 (by (repeat (first | exact Rem.head | apply Rem.tail)); done) (by exact rfl)) ?_
  refine LW.op rfl rfl rfl (y_call rfl rfl rfl en38 (fun w HW => isDay_ct _ _)) ?_
  rintro ⟨⟩
  refine LW.val rfl rfl rfl (x_not rfl rfl) ?_
  refine LW.val rfl rfl rfl (x_move rfl rfl) ?_
  refine LW.split (t := 9) rfl (fun h1 => ?_) (fun h1 => ?_)
  · refine LW.gF rfl rfl rfl rfl rfl rfl ?_
    refine LW.gF rfl rfl rfl rfl rfl rfl ?_
    refine LW.gF rfl rfl rfl rfl rfl rfl ?_
    refine LW.gF rfl rfl rfl rfl rfl rfl ?_
    refine LW.val rfl rfl rfl (x_pickT rfl rfl rfl) ?_
    refine LW.val rfl rfl rfl (x_move rfl rfl) ?_
    refine LW.gF rfl rfl rfl rfl rfl rfl ?_
    refine LW.gF rfl rfl rfl rfl rfl rfl ?_
    refine LW.gF rfl rfl rfl rfl rfl rfl ?_
    refine LW.gF rfl rfl rfl rfl rfl rfl ?_
    refine LW.val rfl rfl rfl (x_pickT rfl rfl rfl) ?_
    refine LW.val rfl rfl rfl (x_move rfl rfl) ?_
    refine LW.gF rfl rfl rfl rfl rfl rfl ?_
    refine LW.gF rfl rfl rfl rfl rfl rfl ?_
    refine LW.gF rfl rfl rfl rfl rfl rfl ?_
    refine LW.gF rfl rfl rfl rfl rfl rfl ?_
    refine LW.val rfl rfl rfl (x_pickT rfl rfl rfl) ?_
    refine LW.nil (QW.thenC (CW.condT rfl (CW.seq (CW.region ?_))))
    refine LW.val rfl rfl rfl (x_assign rfl rfl) ?_
    refine LW.nil (QW.thenC (CW.ret (QW.then_ret ?_)))
    refine QW.res1 rfl (ResV.tmp rfl) (ret_eq (()) ?_ ?_)
    · simp_all [goodSh]
    · (repeat (first | exact Sub.nil | exact Sub.all | (apply Sub.cons; (focus ((repeat (first | exact Rem.head | apply Rem.tail)); done))) | (apply Sub.row; (focus ((repeat (first | exact Rem.head | apply Rem.tail)); done)); (focus (first | with_reducible rfl | assumption | omega | (simp; done) | (simp [Nat.mul_comm]; done) | (simp; omega))); (focus (first | with_reducible rfl | assumption | omega | (simp; done) | (simp [Nat.mul_comm]; done) | (simp; omega))); (focus (first | with_reducible rfl | (simp [nums]; done) | (simp [nums]; omega) | (simp; done) | (simp; omega)))) | (apply Sub.blk; (focus ((repeat (first | exact Rem.head | apply Rem.tail)); done)); (focus (first | with_reducible rfl | (simp [nums]; done) | (simp [nums]; omega) | (simp; done) | (simp; omega)))) | fail))
  · refine LW.valG rfl rfl rfl rfl rfl (x_fieldAddr rfl rfl fl31_1 rfl) ?_
    refine LW.valG rfl rfl rfl rfl rfl (x_loadB rfl rfl ty3 (by (repeat (first | exact Rem.head | apply Rem.tail)); done) (by exact rfl)) ?_
    refine LW.opG rfl rfl rfl rfl rfl (y_call rfl rfl rfl en26 (fun w HW => in_ct _ _ _ _)) ?_
    rintro ⟨⟩
    refine LW.valG rfl rfl rfl rfl rfl (x_not rfl rfl) ?_
    refine LW.val rfl rfl rfl (x_pickF rfl rfl rfl) ?_
    refine LW.val rfl rfl rfl (x_move rfl rfl) ?_
    refine LW.split (t := 15) rfl (fun h2 => ?_) (fun h2 => ?_)
    · refine LW.gF rfl rfl rfl rfl rfl rfl ?_
      refine LW.gF rfl rfl rfl rfl rfl rfl ?_
      refine LW.gF rfl rfl rfl rfl rfl rfl ?_
      refine LW.gF rfl rfl rfl rfl rfl rfl ?_
      refine LW.val rfl rfl rfl (x_pickT rfl rfl rfl) ?_
      refine LW.val rfl rfl rfl (x_move rfl rfl) ?_
      refine LW.gF rfl rfl rfl rfl rfl rfl ?_
      refine LW.gF rfl rfl rfl rfl rfl rfl ?_
      refine LW.gF rfl rfl rfl rfl rfl rfl ?_
      refine LW.gF rfl rfl rfl rfl rfl rfl ?_
      refine LW.val rfl rfl rfl (x_pickT rfl rfl rfl) ?_
      refine LW.nil (QW.thenC (CW.condT rfl (CW.seq (CW.region ?_))))
      refine LW.val rfl rfl rfl (x_assign rfl rfl) ?_
      refine LW.nil (QW.thenC (CW.ret (QW.then_ret ?_)))
      refine QW.res1 rfl (ResV.tmp rfl) (ret_eq (()) ?_ ?_)
      · simp_all [goodSh]
      · (repeat (first | exact Sub.nil | exact Sub.all | (apply Sub.cons; (focus ((repeat (first | exact Rem.head | apply Rem.tail)); done))) | (apply Sub.row; (focus ((repeat (first | exact Rem.head | apply Rem.tail)); done)); (focus (first | with_reducible rfl | assumption | omega | (simp; done) | (simp [Nat.mul_comm]; done) | (simp; omega))); (focus (first | with_reducible rfl | assumption | omega | (simp; done) | (simp [Nat.mul_comm]; done) | (simp; omega))); (focus (first | with_reducible rfl | (simp [nums]; done) | (simp [nums]; omega) | (simp; done) | (simp; omega)))) | (apply Sub.blk; (focus ((repeat (first | exact Rem.head | apply Rem.tail)); done)); (focus (first | with_reducible rfl | (simp [nums]; done) | (simp [nums]; omega) | (simp; done) | (simp; omega)))) | fail))
    · refine LW.valG rfl rfl rfl rfl rfl (x_fieldAddr rfl rfl fl31_2 rfl) ?_
      refine LW.valG rfl rfl rfl rfl rfl (x_loadB rfl rfl ty29 (by (repeat (first | exact Rem.head | apply Rem.tail)); done) (by exact rfl)) ?_
      refine LW.valG rfl rfl rfl rfl rfl (x_len (ty := 0) rfl rfl Try.underlying29) ?_
      refine LW.valG rfl rfl rfl rfl rfl (x_gtr rfl rfl rfl) ?_
      refine LW.val rfl rfl rfl (x_pickF rfl rfl rfl) ?_
      refine LW.val rfl rfl rfl (x_move rfl rfl) ?_
      refine LW.split (t := 21) rfl (fun h3 => ?_) (fun h3 => ?_)
      · refine LW.gF rfl rfl rfl rfl rfl rfl ?_
        refine LW.gF rfl rfl rfl rfl rfl rfl ?_
        refine LW.gF rfl rfl rfl rfl rfl rfl ?_
        refine LW.gF rfl rfl rfl rfl rfl rfl ?_
        refine LW.val rfl rfl rfl (x_pickT rfl rfl rfl) ?_
        refine LW.nil (QW.thenC (CW.condT rfl (CW.seq (CW.region ?_))))
        refine LW.val rfl rfl rfl (x_assign rfl rfl) ?_
        refine LW.nil (QW.thenC (CW.ret (QW.then_ret ?_)))
        refine QW.res1 rfl (ResV.tmp rfl) (ret_eq (()) ?_ ?_)
        · (have h3 : ¬ xs.length ≤ 8 := (by simp at h3; omega); simp [goodSh, h3])
        · (repeat (first | exact Sub.nil | exact Sub.all | (apply Sub.cons; (focus ((repeat (first | exact Rem.head | apply Rem.tail)); done))) | (apply Sub.row; (focus ((repeat (first | exact Rem.head | apply Rem.tail)); done)); (focus (first | with_reducible rfl | assumption | omega | (simp; done) | (simp [Nat.mul_comm]; done) | (simp; omega))); (focus (first | with_reducible rfl | assumption | omega | (simp; done) | (simp [Nat.mul_comm]; done) | (simp; omega))); (focus (first | with_reducible rfl | (simp [nums]; done) | (simp [nums]; omega) | (simp; done) | (simp; omega)))) | (apply Sub.blk; (focus ((repeat (first | exact Rem.head | apply Rem.tail)); done)); (focus (first | with_reducible rfl | (simp [nums]; done) | (simp [nums]; omega) | (simp; done) | (simp; omega)))) | fail))
      · refine LW.valG rfl rfl rfl rfl rfl (x_fieldAddr rfl rfl fl31_3 rfl) ?_
        refine LW.valG rfl rfl rfl rfl rfl (x_loadB rfl rfl ty3 (by (repeat (first | exact Rem.head | apply Rem.tail)); done) (by exact rfl)) ?_
        refine LW.opG rfl rfl rfl rfl rfl (y_call rfl rfl rfl en26 (fun w HW => in_ct _ _ _ _)) ?_
        rintro ⟨⟩
        refine LW.valG rfl rfl rfl rfl rfl (x_not rfl rfl) ?_
        refine LW.val rfl rfl rfl (x_pickF rfl rfl rfl) ?_
        refine LW.nil (QW.thenC ?_)
        refine CW.cond rfl (fun h4 => ?_) (fun h4 => ?_)
        · refine CW.seq (CW.region ?_)
          refine LW.val rfl rfl rfl (x_assign rfl rfl) ?_
          refine LW.nil (QW.thenC (CW.ret (QW.then_ret ?_)))
          refine QW.res1 rfl (ResV.tmp rfl) (ret_eq (()) ?_ ?_)
          · simp_all [goodSh]
          · (repeat (first | exact Sub.nil | exact Sub.all | (apply Sub.cons; (focus ((repeat (first | exact Rem.head | apply Rem.tail)); done))) | (apply Sub.row; (focus ((repeat (first | exact Rem.head | apply Rem.tail)); done)); (focus (first | with_reducible rfl | assumption | omega | (simp; done) | (simp [Nat.mul_comm]; done) | (simp; omega))); (focus (first | with_reducible rfl | assumption | omega | (simp; done) | (simp [Nat.mul_comm]; done) | (simp; omega))); (focus (first | with_reducible rfl | (simp [nums]; done) | (simp [nums]; omega) | (simp; done) | (simp; omega)))) | (apply Sub.blk; (focus ((repeat (first | exact Rem.head | apply Rem.tail)); done)); (focus (first | with_reducible rfl | (simp [nums]; done) | (simp [nums]; omega) | (simp; done) | (simp; omega)))) | fail))
        · have h3 : xs.length ≤ 8 := by simp at h3; omega
          refine CW.skip (QW.thenC (CW.seq (CW.seq (CW.region ?_))))
          refine LW.val rfl rfl rfl (x_fieldAddr rfl rfl fl31_2 rfl) ?_
          refine LW.val rfl rfl rfl (x_loadB rfl rfl ty29 (by (repeat (first | exact Rem.head | apply Rem.tail)); done) (by exact rfl)) ?_
          refine LW.val rfl rfl rfl (x_len (ty := 0) rfl rfl Try.underlying29) ?_
          refine LW.val rfl rfl rfl (x_move rfl rfl) ?_
          refine LW.nil (QW.thenC (CW.block ?_))
          refine CW.loopC1 [2, 3, 4, 30, 31, 32, 33, 34, 35, 36, 37, 38, 39, 40, 41, 42, 43, 44, 45, 46, 47, 48, 49, 50, 51, 52] (fun (i : Nat) => i ≤ xs.length ∧ ∀ j, j < i → okAt day looms xs j = true) (fun (i : Nat) => [(30, .int .i64 i)]) (fun (i : Nat) => []) (fun (i : Nat) => xs.length - i) (0) (by exact ⟨by omega, fun j hj => absurd hj (by omega)⟩) (by (repeat (first | exact trivial | (refine ⟨rfl, ?_⟩) | (refine ⟨gS rfl (by omega), ?_⟩)))) (Take.nil) ?_
          intro i hinv
          refine CW.seq (CW.region ?_)
          refine LW.val rfl rfl rfl (x_lss rfl rfl rfl) ?_
          refine LW.nil (QW.thenC (CW.seq ?_))
          refine CW.condD rfl (fun h => ?_) (fun h => ?_)
          · have hi : i < xs.length := by omega
            obtain ⟨ad, rfl⟩ := hR.some hi
            obtain ⟨y, hy⟩ : ∃ y, xs[i] = y := ⟨_, rfl⟩
            refine CW.skip (QW.thenC (CW.seq (CW.block (CW.seq (CW.region ?_)))))
            refine LW.val rfl rfl rfl (x_move rfl rfl) ?_
            refine LW.val rfl rfl rfl (x_idxN rfl rfl rfl el29 (by omega)) ?_
            refine LW.val rfl rfl rfl (x_loadF (y := y) hR (by simp) cpLen rfl rfl ty41 (by simp [hi, hy])) ?_
            refine LW.op rfl rfl rfl (y_alloc rfl ze41) ?_
            intro b4
            refine LW.val rfl rfl rfl (x_assign rfl rfl) ?_
            refine LW.op0 rfl rfl (y_storeB0 rfl rfl rfl rfl ty41 rfl (by (repeat (first | exact Rem.head | apply Rem.tail)); done) rfl) ?_
            intro _u
            refine LW.nil (QW.thenC (CW.seq (CW.region ?_)))
            refine LW.val rfl rfl rfl (x_loadB0 rfl rfl ty31 (by (repeat (first | exact Rem.head | apply Rem.tail)); done) rfl) ?_
            refine LW.val rfl rfl rfl (x_loadB0 rfl rfl ty41 (by (repeat (first | exact Rem.head | apply Rem.tail)); done) rfl) ?_
            refine LW.op rfl rfl rfl (y_call rfl rfl rfl en39 (fun w HW => isCarpet_ct day looms money (some ad) xs.length c y _)) ?_
            rintro ⟨⟩
            refine LW.val rfl rfl rfl (x_not rfl rfl) ?_
            refine LW.val rfl rfl rfl (x_move rfl rfl) ?_
            refine LW.split (t := 39) rfl (fun h5 => ?_) (fun h5 => ?_)
            · refine LW.gF rfl rfl rfl rfl rfl rfl ?_
              refine LW.gF rfl rfl rfl rfl rfl rfl ?_
              refine LW.gF rfl rfl rfl rfl rfl rfl ?_
              refine LW.gF rfl rfl rfl rfl rfl rfl ?_
              refine LW.gF rfl rfl rfl rfl rfl rfl ?_
              refine LW.gF rfl rfl rfl rfl rfl rfl ?_
              refine LW.gF rfl rfl rfl rfl rfl rfl ?_
              refine LW.gF rfl rfl rfl rfl rfl rfl ?_
              refine LW.gF rfl rfl rfl rfl rfl rfl ?_
              refine LW.gF rfl rfl rfl rfl rfl rfl ?_
              refine LW.gF rfl rfl rfl rfl rfl rfl ?_
              refine LW.val rfl rfl rfl (x_pickT rfl rfl rfl) ?_
              refine LW.nil (QW.thenC (CW.condT rfl (CW.seq (CW.region ?_))))
              refine LW.val rfl rfl rfl (x_assign rfl rfl) ?_
              refine LW.nil (QW.thenC (CW.ret (QW.in_ret (QW.then_ret (QW.then_ret (QW.in_ret (QW.then_ret ?_)))))))
              refine QW.res1 rfl (ResV.tmp rfl) (ret_eq (()) ?_ ?_)
              · (rw [goodSh_bad hi (okAt_bad hi (by rw [hy]; simpa using h5))])
              · (repeat (first | exact Sub.nil | exact Sub.all | (apply Sub.cons; (focus ((repeat (first | exact Rem.head | apply Rem.tail)); done))) | (apply Sub.row; (focus ((repeat (first | exact Rem.head | apply Rem.tail)); done)); (focus (first | with_reducible rfl | assumption | omega | (simp; done) | (simp [Nat.mul_comm]; done) | (simp; omega))); (focus (first | with_reducible rfl | assumption | omega | (simp; done) | (simp [Nat.mul_comm]; done) | (simp; omega))); (focus (first | with_reducible rfl | (simp [nums]; done) | (simp [nums]; omega) | (simp; done) | (simp; omega)))) | (apply Sub.blk; (focus ((repeat (first | exact Rem.head | apply Rem.tail)); done)); (focus (first | with_reducible rfl | (simp [nums]; done) | (simp [nums]; omega) | (simp; done) | (simp; omega)))) | fail))
            · have h5 : carpetOk day looms xs[i] = true := by rw [hy]; simpa using h5
              refine LW.valG rfl rfl rfl rfl rfl (x_fieldAddr rfl rfl fl41_2 rfl) ?_
              refine LW.valG rfl rfl rfl rfl rfl (x_loadB rfl rfl ty3 (by (repeat (first | exact Rem.head | apply Rem.tail)); done) (by exact rfl)) ?_
              refine LW.valG rfl rfl rfl rfl rfl (x_eql rfl rfl rfl) ?_
              refine LW.valG rfl rfl rfl rfl rfl (x_move rfl rfl) ?_
              refine LW.split (t := 43) rfl (fun h6 => ?_) (fun h6 => ?_)
              · have h6 : xs[i].state = 1 := by rw [hy]; simpa using h6
                have hw := okAt_woven hi hinv.2 h5 h6
                rw [hy] at hw
                refine LW.valG rfl rfl rfl rfl rfl (x_loadB0 rfl rfl ty31 (by (repeat (first | exact Rem.head | apply Rem.tail)); done) rfl) ?_
                refine LW.valG rfl rfl rfl rfl rfl (x_fieldAddr rfl rfl fl41_3 rfl) ?_
                refine LW.valG rfl rfl rfl rfl rfl (x_loadB rfl rfl ty3 (by (repeat (first | exact Rem.head | apply Rem.tail)); done) (by exact rfl)) ?_
                refine LW.opG rfl rfl rfl rfl rfl (y_call rfl rfl rfl en40 (fun w HW => onLoom_ct day looms money y.loom xs _ c _ (hR.up HW.below))) ?_
                rintro ⟨⟩
                refine LW.valG rfl rfl rfl rfl rfl (x_move rfl rfl) ?_
                refine LW.valG rfl rfl rfl rfl rfl (x_neq rfl rfl rfl) ?_
                refine LW.valG rfl rfl rfl rfl rfl (x_pickT rfl rfl rfl) ?_
                refine LW.val rfl rfl rfl (x_pickF rfl rfl rfl) ?_
                refine LW.nil (QW.thenC ?_)
                refine CW.condN rfl (fun h7 => ?_) (fun h7 => ?_)
                · refine CW.seq (CW.region ?_)
                  refine LW.val rfl rfl rfl (x_assign rfl rfl) ?_
                  refine LW.nil (QW.thenC (CW.ret (QW.in_ret (QW.then_ret (QW.then_ret (QW.in_ret (QW.then_ret ?_)))))))
                  refine QW.res1 rfl (ResV.tmp rfl) (ret_eq (()) ?_ ?_)
                  · (rw [goodSh_bad hi (by rw [hw]; simpa using h7)])
                  · (repeat (first | exact Sub.nil | exact Sub.all | (apply Sub.cons; (focus ((repeat (first | exact Rem.head | apply Rem.tail)); done))) | (apply Sub.row; (focus ((repeat (first | exact Rem.head | apply Rem.tail)); done)); (focus (first | with_reducible rfl | assumption | omega | (simp; done) | (simp [Nat.mul_comm]; done) | (simp; omega))); (focus (first | with_reducible rfl | assumption | omega | (simp; done) | (simp [Nat.mul_comm]; done) | (simp; omega))); (focus (first | with_reducible rfl | (simp [nums]; done) | (simp [nums]; omega) | (simp; done) | (simp; omega)))) | (apply Sub.blk; (focus ((repeat (first | exact Rem.head | apply Rem.tail)); done)); (focus (first | with_reducible rfl | (simp [nums]; done) | (simp [nums]; omega) | (simp; done) | (simp; omega)))) | fail))
                · refine CW.skip (QW.in_normal (QW.thenC (CW.region ?_)))
                  refine LW.val rfl rfl rfl (x_add rfl rfl rfl (by omega)) ?_
                  refine LW.val rfl rfl rfl (x_move rfl rfl) ?_
                  refine LW.nil ?_
                  refine QW.then_ (QW.roundC1 (i + 1) ?_ ?_ (by (repeat (first | exact trivial | (refine ⟨rfl, ?_⟩) | (refine ⟨gS rfl (by omega), ?_⟩)))) (by (repeat (first | exact Ext.refl | (refine Ext.cons rfl ?_)))) (by (repeat (first | exact Sub.nil | exact Sub.all | (apply Sub.cons; (focus ((repeat (first | exact Rem.head | apply Rem.tail)); done))) | (apply Sub.row; (focus ((repeat (first | exact Rem.head | apply Rem.tail)); done)); (focus (first | with_reducible rfl | assumption | omega | (simp; done) | (simp [Nat.mul_comm]; done) | (simp; omega))); (focus (first | with_reducible rfl | assumption | omega | (simp; done) | (simp [Nat.mul_comm]; done) | (simp; omega))); (focus (first | with_reducible rfl | (simp [nums]; done) | (simp [nums]; omega) | (simp; done) | (simp; omega)))) | (apply Sub.blk; (focus ((repeat (first | exact Rem.head | apply Rem.tail)); done)); (focus (first | with_reducible rfl | (simp [nums]; done) | (simp [nums]; omega) | (simp; done) | (simp; omega)))) | fail))))
                  · exact ⟨hi, fun j hj => if e : j = i then by subst e; rw [hw]; simpa using h7 else hinv.2 j (by omega)⟩
                  · first | omega | (simp; omega)
              · have h6 : ¬ xs[i].state = 1 := by rw [hy]; simpa using h6
                refine LW.gF rfl rfl rfl rfl rfl rfl ?_
                refine LW.gF rfl rfl rfl rfl rfl rfl ?_
                refine LW.gF rfl rfl rfl rfl rfl rfl ?_
                refine LW.gF rfl rfl rfl rfl rfl rfl ?_
                refine LW.gF rfl rfl rfl rfl rfl rfl ?_
                refine LW.gF rfl rfl rfl rfl rfl rfl ?_
                refine LW.valG rfl rfl rfl rfl rfl (x_pickF rfl rfl rfl) ?_
                refine LW.val rfl rfl rfl (x_pickF rfl rfl rfl) ?_
                refine LW.nil (QW.thenC (CW.condF rfl (CW.skip (QW.in_normal (QW.thenC (CW.region ?_))))))
                refine LW.val rfl rfl rfl (x_add rfl rfl rfl (by omega)) ?_
                refine LW.val rfl rfl rfl (x_move rfl rfl) ?_
                refine LW.nil ?_
                refine QW.then_ (QW.roundC1 (i + 1) ?_ ?_ (by (repeat (first | exact trivial | (refine ⟨rfl, ?_⟩) | (refine ⟨gS rfl (by omega), ?_⟩)))) (by (repeat (first | exact Ext.refl | (refine Ext.cons rfl ?_)))) (by (repeat (first | exact Sub.nil | exact Sub.all | (apply Sub.cons; (focus ((repeat (first | exact Rem.head | apply Rem.tail)); done))) | (apply Sub.row; (focus ((repeat (first | exact Rem.head | apply Rem.tail)); done)); (focus (first | with_reducible rfl | assumption | omega | (simp; done) | (simp [Nat.mul_comm]; done) | (simp; omega))); (focus (first | with_reducible rfl | assumption | omega | (simp; done) | (simp [Nat.mul_comm]; done) | (simp; omega))); (focus (first | with_reducible rfl | (simp [nums]; done) | (simp [nums]; omega) | (simp; done) | (simp; omega)))) | (apply Sub.blk; (focus ((repeat (first | exact Rem.head | apply Rem.tail)); done)); (focus (first | with_reducible rfl | (simp [nums]; done) | (simp [nums]; omega) | (simp; done) | (simp; omega)))) | fail))))
                · exact ⟨hi, fun j hj => if e : j = i then by subst e; exact okAt_plain hi h5 h6 else hinv.2 j (by omega)⟩
                · first | omega | (simp; omega)
          · refine CW.exit (QW.then_exit (QW.then_exit (QW.in_hit (QW.thenC (CW.seq (CW.region ?_))))))
            refine LW.val rfl rfl rfl (x_assign rfl rfl) ?_
            refine LW.nil (QW.thenC (CW.ret ?_))
            refine QW.res1 rfl (ResV.tmp rfl) (ret_eq (()) ?_ ?_)
            · (rw [goodSh_good (by simpa using h1) (by simpa using h2) (by simpa using h4) h3 (fun j hj => hinv.2 j (by omega))])
            · (repeat (first | exact Sub.nil | exact Sub.all | (apply Sub.cons; (focus ((repeat (first | exact Rem.head | apply Rem.tail)); done))) | (apply Sub.row; (focus ((repeat (first | exact Rem.head | apply Rem.tail)); done)); (focus (first | with_reducible rfl | assumption | omega | (simp; done) | (simp [Nat.mul_comm]; done) | (simp; omega))); (focus (first | with_reducible rfl | assumption | omega | (simp; done) | (simp [Nat.mul_comm]; done) | (simp; omega))); (focus (first | with_reducible rfl | (simp [nums]; done) | (simp [nums]; omega) | (simp; done) | (simp; omega)))) | (apply Sub.blk; (focus ((repeat (first | exact Rem.head | apply Rem.tail)); done)); (focus (first | with_reducible rfl | (simp [nums]; done) | (simp [nums]; omega) | (simp; done) | (simp; omega)))) | fail))

set_option maxRecDepth 20000 in
theorem l25Good_ct (day looms money : Int) (xs : List Cp) (A : Option Addr) (c : Nat) (w : World) (hR : RdC w A c xs) : Calls Try.prog 31 #[shV day looms money A xs.length c] w (Ret (fun _ : Unit => .bool (goodSh day looms money xs)) (fun _ => []) w) := by
  have hb := hR.bnd
  refine enter Try.func31 rfl rfl Try.ntmps31 rfl ?_
  refine CW.seq (CW.region ?_)
  refine LW.op rfl rfl rfl (y_box rfl rfl rfl) ?_
  intro b1
  refine LW.val rfl rfl rfl (x_assign rfl rfl) ?_
  refine LW.nil (QW.thenC (CW.seq (CW.seq (CW.region ?_))))
  refine LW.val rfl rfl rfl (x_fieldAddr rfl rfl fl31_0 rfl) ?_
  refine LW.val rfl rfl rfl (x_loadB rfl rfl ty3 (by (repeat (first | exact Rem.head | apply Rem.tail)); done) (by exact rfl)) ?_
  refine LW.op rfl rfl rfl (y_call rfl rfl rfl en54 (fun w HW => l2Day_ct _ _)) ?_
  rintro ⟨⟩
  refine LW.val rfl rfl rfl (x_not rfl rfl) ?_
  refine LW.val rfl rfl rfl (x_move rfl rfl) ?_
  refine LW.split (t := 9) rfl (fun h1 => ?_) (fun h1 => ?_)
  · refine LW.gF rfl rfl rfl rfl rfl rfl ?_
    refine LW.gF rfl rfl rfl rfl rfl rfl ?_
    refine LW.gF rfl rfl rfl rfl rfl rfl ?_
    refine LW.gF rfl rfl rfl rfl rfl rfl ?_
    refine LW.val rfl rfl rfl (x_pickT rfl rfl rfl) ?_
    refine LW.val rfl rfl rfl (x_move rfl rfl) ?_
    refine LW.gF rfl rfl rfl rfl rfl rfl ?_
    refine LW.gF rfl rfl rfl rfl rfl rfl ?_
    refine LW.gF rfl rfl rfl rfl rfl rfl ?_
    refine LW.gF rfl rfl rfl rfl rfl rfl ?_
    refine LW.val rfl rfl rfl (x_pickT rfl rfl rfl) ?_
    refine LW.val rfl rfl rfl (x_move rfl rfl) ?_
    refine LW.gF rfl rfl rfl rfl rfl rfl ?_
    refine LW.gF rfl rfl rfl rfl rfl rfl ?_
    refine LW.gF rfl rfl rfl rfl rfl rfl ?_
    refine LW.gF rfl rfl rfl rfl rfl rfl ?_
    refine LW.val rfl rfl rfl (x_pickT rfl rfl rfl) ?_
    refine LW.nil (QW.thenC (CW.condT rfl (CW.seq (CW.region ?_))))
    refine LW.val rfl rfl rfl (x_assign rfl rfl) ?_
    refine LW.nil (QW.thenC (CW.ret (QW.then_ret ?_)))
    refine QW.res1 rfl (ResV.tmp rfl) (ret_eq (()) ?_ ?_)
    · simp_all [goodSh]
    · (repeat (first | exact Sub.nil | exact Sub.all | (apply Sub.cons; (focus ((repeat (first | exact Rem.head | apply Rem.tail)); done))) | (apply Sub.row; (focus ((repeat (first | exact Rem.head | apply Rem.tail)); done)); (focus (first | with_reducible rfl | assumption | omega | (simp; done) | (simp [Nat.mul_comm]; done) | (simp; omega))); (focus (first | with_reducible rfl | assumption | omega | (simp; done) | (simp [Nat.mul_comm]; done) | (simp; omega))); (focus (first | with_reducible rfl | (simp [nums]; done) | (simp [nums]; omega) | (simp; done) | (simp; omega)))) | (apply Sub.blk; (focus ((repeat (first | exact Rem.head | apply Rem.tail)); done)); (focus (first | with_reducible rfl | (simp [nums]; done) | (simp [nums]; omega) | (simp; done) | (simp; omega)))) | fail))
  · refine LW.valG rfl rfl rfl rfl rfl (x_fieldAddr rfl rfl fl31_1 rfl) ?_
    refine LW.valG rfl rfl rfl rfl rfl (x_loadB rfl rfl ty3 (by (repeat (first | exact Rem.head | apply Rem.tail)); done) (by exact rfl)) ?_
    refine LW.opG rfl rfl rfl rfl rfl (y_call rfl rfl rfl en44 (fun w HW => l1In_ct _ _ _ _)) ?_
    rintro ⟨⟩
    refine LW.valG rfl rfl rfl rfl rfl (x_not rfl rfl) ?_
    refine LW.val rfl rfl rfl (x_pickF rfl rfl rfl) ?_
    refine LW.val rfl rfl rfl (x_move rfl rfl) ?_
    refine LW.split (t := 15) rfl (fun h2 => ?_) (fun h2 => ?_)
    · refine LW.gF rfl rfl rfl rfl rfl rfl ?_
      refine LW.gF rfl rfl rfl rfl rfl rfl ?_
      refine LW.gF rfl rfl rfl rfl rfl rfl ?_
      refine LW.gF rfl rfl rfl rfl rfl rfl ?_
      refine LW.val rfl rfl rfl (x_pickT rfl rfl rfl) ?_
      refine LW.val rfl rfl rfl (x_move rfl rfl) ?_
      refine LW.gF rfl rfl rfl rfl rfl rfl ?_
      refine LW.gF rfl rfl rfl rfl rfl rfl ?_
      refine LW.gF rfl rfl rfl rfl rfl rfl ?_
      refine LW.gF rfl rfl rfl rfl rfl rfl ?_
      refine LW.val rfl rfl rfl (x_pickT rfl rfl rfl) ?_
      refine LW.nil (QW.thenC (CW.condT rfl (CW.seq (CW.region ?_))))
      refine LW.val rfl rfl rfl (x_assign rfl rfl) ?_
      refine LW.nil (QW.thenC (CW.ret (QW.then_ret ?_)))
      refine QW.res1 rfl (ResV.tmp rfl) (ret_eq (()) ?_ ?_)
      · simp_all [goodSh]
      · (repeat (first | exact Sub.nil | exact Sub.all | (apply Sub.cons; (focus ((repeat (first | exact Rem.head | apply Rem.tail)); done))) | (apply Sub.row; (focus ((repeat (first | exact Rem.head | apply Rem.tail)); done)); (focus (first | with_reducible rfl | assumption | omega | (simp; done) | (simp [Nat.mul_comm]; done) | (simp; omega))); (focus (first | with_reducible rfl | assumption | omega | (simp; done) | (simp [Nat.mul_comm]; done) | (simp; omega))); (focus (first | with_reducible rfl | (simp [nums]; done) | (simp [nums]; omega) | (simp; done) | (simp; omega)))) | (apply Sub.blk; (focus ((repeat (first | exact Rem.head | apply Rem.tail)); done)); (focus (first | with_reducible rfl | (simp [nums]; done) | (simp [nums]; omega) | (simp; done) | (simp; omega)))) | fail))
    · refine LW.valG rfl rfl rfl rfl rfl (x_fieldAddr rfl rfl fl31_3 rfl) ?_
      refine LW.valG rfl rfl rfl rfl rfl (x_loadB rfl rfl ty3 (by (repeat (first | exact Rem.head | apply Rem.tail)); done) (by exact rfl)) ?_
      refine LW.opG rfl rfl rfl rfl rfl (y_call rfl rfl rfl en44 (fun w HW => l1In_ct _ _ _ _)) ?_
      rintro ⟨⟩
      refine LW.valG rfl rfl rfl rfl rfl (x_not rfl rfl) ?_
      refine LW.val rfl rfl rfl (x_pickF rfl rfl rfl) ?_
      refine LW.val rfl rfl rfl (x_move rfl rfl) ?_
      refine LW.split (t := 21) rfl (fun h3 => ?_) (fun h3 => ?_)
      · refine LW.gF rfl rfl rfl rfl rfl rfl ?_
        refine LW.gF rfl rfl rfl rfl rfl rfl ?_
        refine LW.gF rfl rfl rfl rfl rfl rfl ?_
        refine LW.gF rfl rfl rfl rfl rfl rfl ?_
        refine LW.val rfl rfl rfl (x_pickT rfl rfl rfl) ?_
        refine LW.nil (QW.thenC (CW.condT rfl (CW.seq (CW.region ?_))))
        refine LW.val rfl rfl rfl (x_assign rfl rfl) ?_
        refine LW.nil (QW.thenC (CW.ret (QW.then_ret ?_)))
        refine QW.res1 rfl (ResV.tmp rfl) (ret_eq (()) ?_ ?_)
        · simp_all [goodSh]
        · (repeat (first | exact Sub.nil | exact Sub.all | (apply Sub.cons; (focus ((repeat (first | exact Rem.head | apply Rem.tail)); done))) | (apply Sub.row; (focus ((repeat (first | exact Rem.head | apply Rem.tail)); done)); (focus (first | with_reducible rfl | assumption | omega | (simp; done) | (simp [Nat.mul_comm]; done) | (simp; omega))); (focus (first | with_reducible rfl | assumption | omega | (simp; done) | (simp [Nat.mul_comm]; done) | (simp; omega))); (focus (first | with_reducible rfl | (simp [nums]; done) | (simp [nums]; omega) | (simp; done) | (simp; omega)))) | (apply Sub.blk; (focus ((repeat (first | exact Rem.head | apply Rem.tail)); done)); (focus (first | with_reducible rfl | (simp [nums]; done) | (simp [nums]; omega) | (simp; done) | (simp; omega)))) | fail))
      · refine LW.valG rfl rfl rfl rfl rfl (x_fieldAddr rfl rfl fl31_2 rfl) ?_
        refine LW.valG rfl rfl rfl rfl rfl (x_loadB rfl rfl ty29 (by (repeat (first | exact Rem.head | apply Rem.tail)); done) (by exact rfl)) ?_
        refine LW.valG rfl rfl rfl rfl rfl (x_len (ty := 0) rfl rfl Try.underlying29) ?_
        refine LW.valG rfl rfl rfl rfl rfl (x_gtr rfl rfl rfl) ?_
        refine LW.val rfl rfl rfl (x_pickF rfl rfl rfl) ?_
        refine LW.nil (QW.thenC ?_)
        refine CW.condD rfl (fun h4 => ?_) (fun h4 => ?_)
        · refine CW.seq (CW.region ?_)
          refine LW.val rfl rfl rfl (x_assign rfl rfl) ?_
          refine LW.nil (QW.thenC (CW.ret (QW.then_ret ?_)))
          refine QW.res1 rfl (ResV.tmp rfl) (ret_eq (()) ?_ ?_)
          · (have h4 : ¬ xs.length ≤ 8 := (by omega); simp [goodSh, h4])
          · (repeat (first | exact Sub.nil | exact Sub.all | (apply Sub.cons; (focus ((repeat (first | exact Rem.head | apply Rem.tail)); done))) | (apply Sub.row; (focus ((repeat (first | exact Rem.head | apply Rem.tail)); done)); (focus (first | with_reducible rfl | assumption | omega | (simp; done) | (simp [Nat.mul_comm]; done) | (simp; omega))); (focus (first | with_reducible rfl | assumption | omega | (simp; done) | (simp [Nat.mul_comm]; done) | (simp; omega))); (focus (first | with_reducible rfl | (simp [nums]; done) | (simp [nums]; omega) | (simp; done) | (simp; omega)))) | (apply Sub.blk; (focus ((repeat (first | exact Rem.head | apply Rem.tail)); done)); (focus (first | with_reducible rfl | (simp [nums]; done) | (simp [nums]; omega) | (simp; done) | (simp; omega)))) | fail))
        · refine CW.skip (QW.thenC (CW.seq (CW.seq (CW.region ?_))))
          refine LW.val rfl rfl rfl (x_assign rfl rfl) ?_
          refine LW.nil (QW.thenC (CW.block ?_))
          refine CW.loopC1 [2, 3, 4, 27, 28, 29, 30, 31, 32, 33, 34, 35, 36, 37, 38, 39, 40, 41, 42, 43, 44, 45, 46, 47, 48, 49, 50, 51, 52, 53, 54, 55, 56, 57, 58, 59, 60, 61, 62, 63, 64, 65, 66, 67, 68] (fun (i : Nat) => i ≤ xs.length ∧ ∀ j, j < i → okAt day looms xs j = true) (fun (i : Nat) => [(3, .int .i64 i)]) (fun (i : Nat) => []) (fun (i : Nat) => xs.length - i) (0) (by exact ⟨by omega, fun j hj => absurd hj (by omega)⟩) (by (repeat (first | exact trivial | (refine ⟨rfl, ?_⟩) | (refine ⟨gS rfl (by omega), ?_⟩)))) (Take.nil) ?_
          intro i hinv
          refine CW.seq (CW.seq (CW.region ?_))
          refine LW.val rfl rfl rfl (x_move rfl rfl) ?_
          refine LW.val rfl rfl rfl (x_fieldAddr rfl rfl fl31_2 rfl) ?_
          refine LW.val rfl rfl rfl (x_loadB rfl rfl ty29 (by (repeat (first | exact Rem.head | apply Rem.tail)); done) (by exact rfl)) ?_
          refine LW.val rfl rfl rfl (x_len (ty := 0) rfl rfl Try.underlying29) ?_
          refine LW.val rfl rfl rfl (x_lss rfl rfl rfl) ?_
          refine LW.nil (QW.thenC ?_)
          refine CW.condD rfl (fun h => ?_) (fun h => ?_)
          · have hi : i < xs.length := by omega
            obtain ⟨ad, rfl⟩ := hR.some hi
            obtain ⟨y, hy⟩ : ∃ y, xs[i] = y := ⟨_, rfl⟩
            refine CW.skip (QW.thenC (CW.seq (CW.block (CW.seq (CW.seq ?_)))))
            refine CW.drawL [] follows ?_
            refine DW.take 0 rfl rfl (by kernel_rfl) (by kernel_rfl) (by kernel_rfl) (by kernel_rfl) (by kernel_rfl) rfl (fun _ _ _ h => h) rfl (by (repeat (first | exact Sub.nil | exact Sub.all | (apply Sub.cons; (focus ((repeat (first | exact Rem.head | apply Rem.tail)); done))) | fail))) (x_loadB0 rfl rfl ty31 (by (repeat (first | exact Rem.head | apply Rem.tail)); done) rfl) rfl ?_
            refine DW.take 1 rfl rfl (by kernel_rfl) (by kernel_rfl) (by kernel_rfl) (by kernel_rfl) (by kernel_rfl) rfl (fun _ _ _ h => h) rfl (by (repeat (first | exact Sub.nil | exact Sub.all | (apply Sub.cons; (focus ((repeat (first | exact Rem.head | apply Rem.tail)); done))) | fail))) (x_fieldAddr rfl rfl fl31_2 rfl) rfl ?_
            refine DW.take 2 rfl rfl (by kernel_rfl) (by kernel_rfl) (by kernel_rfl) (by kernel_rfl) (by kernel_rfl) rfl (fun _ _ _ h => h) rfl (by (repeat (first | exact Sub.nil | exact Sub.all | (apply Sub.cons; (focus ((repeat (first | exact Rem.head | apply Rem.tail)); done))) | fail))) (x_loadB rfl rfl ty29 (by (repeat (first | exact Rem.head | apply Rem.tail)); done) (by exact rfl)) rfl ?_
            refine DW.take 3 rfl rfl (by kernel_rfl) (by kernel_rfl) (by kernel_rfl) (by kernel_rfl) (by kernel_rfl) rfl (fun _ _ _ h => h) rfl (by (repeat (first | exact Sub.nil | exact Sub.all | (apply Sub.cons; (focus ((repeat (first | exact Rem.head | apply Rem.tail)); done))) | fail))) (x_move rfl rfl) rfl ?_
            refine DW.take 4 rfl rfl (by kernel_rfl) (by kernel_rfl) (by kernel_rfl) (by kernel_rfl) (by kernel_rfl) rfl (fun _ _ _ h => h) rfl (by (repeat (first | exact Sub.nil | exact Sub.all | (apply Sub.cons; (focus ((repeat (first | exact Rem.head | apply Rem.tail)); done))) | fail))) (x_idxN rfl rfl rfl el29 (by omega)) rfl ?_
            refine DW.take 5 rfl rfl (by kernel_rfl) (by kernel_rfl) (by kernel_rfl) (by kernel_rfl) (by kernel_rfl) rfl (fun _ _ _ h => h) rfl (by (repeat (first | exact Sub.nil | exact Sub.all | (apply Sub.cons; (focus ((repeat (first | exact Rem.head | apply Rem.tail)); done))) | fail))) (x_loadF (y := y) hR (by simp) cpLen rfl rfl ty41 (by simp [hi, hy])) rfl ?_
            refine DW.ready [6] (by kernel_rfl) (by simp) ?_
            refine AllR.cons rfl rfl rfl rfl (y_call rfl rfl rfl en55 (fun w HW => l25Carpet_ct day looms money (some ad) xs.length c y _)) (fun _ => by (repeat (first | exact Sub.nil | exact Sub.all | (apply Sub.cons; (focus ((repeat (first | exact Rem.head | apply Rem.tail)); done))) | fail))) rfl ?_ AllR.nil
            rintro ⟨⟩
            refine DW.take 7 rfl rfl (by kernel_rfl) (by kernel_rfl) (by kernel_rfl) (by kernel_rfl) (by kernel_rfl) rfl (fun _ _ _ h => h) rfl (by (repeat (first | exact Sub.nil | exact Sub.all | (apply Sub.cons; (focus ((repeat (first | exact Rem.head | apply Rem.tail)); done))) | fail))) (x_not rfl rfl) rfl ?_
            refine DW.done (by kernel_rfl) ?_
            refine QW.thenC ?_
            refine CW.cond rfl (fun h5 => ?_) (fun h5 => ?_)
            · refine CW.seq (CW.region ?_)
              refine LW.val rfl rfl rfl (x_assign rfl rfl) ?_
              refine LW.nil (QW.thenC (CW.ret (QW.then_ret (QW.in_ret (QW.then_ret (QW.then_ret (QW.in_ret (QW.then_ret ?_))))))))
              refine QW.res1 rfl (ResV.tmp rfl) (ret_eq (()) ?_ ?_)
              · (rw [goodSh_bad hi (okAt_bad hi (by rw [hy]; simpa using h5))])
              · (repeat (first | exact Sub.nil | exact Sub.all | (apply Sub.cons; (focus ((repeat (first | exact Rem.head | apply Rem.tail)); done))) | (apply Sub.row; (focus ((repeat (first | exact Rem.head | apply Rem.tail)); done)); (focus (first | with_reducible rfl | assumption | omega | (simp; done) | (simp [Nat.mul_comm]; done) | (simp; omega))); (focus (first | with_reducible rfl | assumption | omega | (simp; done) | (simp [Nat.mul_comm]; done) | (simp; omega))); (focus (first | with_reducible rfl | (simp [nums]; done) | (simp [nums]; omega) | (simp; done) | (simp; omega)))) | (apply Sub.blk; (focus ((repeat (first | exact Rem.head | apply Rem.tail)); done)); (focus (first | with_reducible rfl | (simp [nums]; done) | (simp [nums]; omega) | (simp; done) | (simp; omega)))) | fail))
            · have h5 : carpetOk day looms xs[i] = true := by rw [hy]; simpa using h5
              refine CW.skip (QW.thenC (CW.seq (CW.region ?_)))
              refine LW.val rfl rfl rfl (x_assign rfl rfl) ?_
              refine LW.nil (QW.thenC (CW.block ?_))
              refine CW.loopC1 [2, 4, 42, 43, 44, 45, 46, 47, 48, 49, 50, 51, 52, 53, 54, 55, 56, 57, 58, 59, 60, 61, 62, 63, 64, 65, 66, 67, 68] (fun (k : Nat) => k ≤ i ∧ ∀ j, j < k → freeAt xs xs[i] j = true) (fun (k : Nat) => [(4, .int .i64 k)]) (fun (k : Nat) => []) (fun (k : Nat) => i - k) (0) (by exact ⟨by omega, fun j hj => absurd hj (by omega)⟩) (by (repeat (first | exact trivial | (refine ⟨rfl, ?_⟩) | (refine ⟨gS rfl (by omega), ?_⟩)))) (Take.nil) ?_
              intro k hinv
              rename_i hinv1 _
              refine CW.seq (CW.seq (CW.region ?_))
              refine LW.val rfl rfl rfl (x_move rfl rfl) ?_
              refine LW.val rfl rfl rfl (x_move rfl rfl) ?_
              refine LW.val rfl rfl rfl (x_lss rfl rfl rfl) ?_
              refine LW.nil (QW.thenC ?_)
              refine CW.condD rfl (fun h6 => ?_) (fun h6 => ?_)
              · have hk : k < i := by omega
                have hkx : k < xs.length := by omega
                refine CW.skip (QW.thenC (CW.seq (CW.block (CW.seq ?_))))
                refine CW.drawL [] follows ?_
                refine DW.take 0 rfl rfl (by kernel_rfl) (by kernel_rfl) (by kernel_rfl) (by kernel_rfl) (by kernel_rfl) rfl (fun _ _ _ h => h) rfl (by (repeat (first | exact Sub.nil | exact Sub.all | (apply Sub.cons; (focus ((repeat (first | exact Rem.head | apply Rem.tail)); done))) | fail))) (x_fieldAddr rfl rfl fl31_2 rfl) rfl ?_
                refine DW.take 1 rfl rfl (by kernel_rfl) (by kernel_rfl) (by kernel_rfl) (by kernel_rfl) (by kernel_rfl) rfl (fun _ _ _ h => h) rfl (by (repeat (first | exact Sub.nil | exact Sub.all | (apply Sub.cons; (focus ((repeat (first | exact Rem.head | apply Rem.tail)); done))) | fail))) (x_loadB rfl rfl ty29 (by (repeat (first | exact Rem.head | apply Rem.tail)); done) (by exact rfl)) rfl ?_
                refine DW.take 2 rfl rfl (by kernel_rfl) (by kernel_rfl) (by kernel_rfl) (by kernel_rfl) (by kernel_rfl) rfl (fun _ _ _ h => h) rfl (by (repeat (first | exact Sub.nil | exact Sub.all | (apply Sub.cons; (focus ((repeat (first | exact Rem.head | apply Rem.tail)); done))) | fail))) (x_move rfl rfl) rfl ?_
                refine DW.take 3 rfl rfl (by kernel_rfl) (by kernel_rfl) (by kernel_rfl) (by kernel_rfl) (by kernel_rfl) rfl (fun _ _ _ h => h) rfl (by (repeat (first | exact Sub.nil | exact Sub.all | (apply Sub.cons; (focus ((repeat (first | exact Rem.head | apply Rem.tail)); done))) | fail))) (x_idxN rfl rfl rfl el29 (by omega)) rfl ?_
                refine DW.take 4 rfl rfl (by kernel_rfl) (by kernel_rfl) (by kernel_rfl) (by kernel_rfl) (by kernel_rfl) rfl (fun _ _ _ h => h) rfl (by (repeat (first | exact Sub.nil | exact Sub.all | (apply Sub.cons; (focus ((repeat (first | exact Rem.head | apply Rem.tail)); done))) | fail))) (x_fieldAddrG rfl rfl fl41_3) rfl ?_
                refine DW.take 5 rfl rfl (by kernel_rfl) (by kernel_rfl) (by kernel_rfl) (by kernel_rfl) (by kernel_rfl) rfl (fun _ _ _ h => h) rfl (by (repeat (first | exact Sub.nil | exact Sub.all | (apply Sub.cons; (focus ((repeat (first | exact Rem.head | apply Rem.tail)); done))) | fail))) (x_loadF1 (y := xs[i]) (j := 3) hR (by simp) cpLen rfl rfl ty3 (by simp [hi]) rfl) rfl ?_
                refine DW.take 6 rfl rfl (by kernel_rfl) (by kernel_rfl) (by kernel_rfl) (by kernel_rfl) (by kernel_rfl) rfl (fun _ _ _ h => h) rfl (by (repeat (first | exact Sub.nil | exact Sub.all | (apply Sub.cons; (focus ((repeat (first | exact Rem.head | apply Rem.tail)); done))) | fail))) (x_gtr rfl rfl rfl) rfl ?_
                refine DW.take 7 rfl rfl (by kernel_rfl) (by kernel_rfl) (by kernel_rfl) (by kernel_rfl) (by kernel_rfl) rfl (fun _ _ _ h => h) rfl (by (repeat (first | exact Sub.nil | exact Sub.all | (apply Sub.cons; (focus ((repeat (first | exact Rem.head | apply Rem.tail)); done))) | fail))) (x_move rfl rfl) rfl ?_
                refine DW.split (t := 54) rfl (fun h7 => ?_) (fun h7 => ?_)
                · refine DW.takeG 8 rfl rfl rfl rfl (by kernel_rfl) (by kernel_rfl) (by kernel_rfl) (by kernel_rfl) (by kernel_rfl) rfl (fun _ _ _ h => h) rfl (by (repeat (first | exact Sub.nil | exact Sub.all | (apply Sub.cons; (focus ((repeat (first | exact Rem.head | apply Rem.tail)); done))) | fail))) (x_fieldAddr rfl rfl fl31_2 rfl) rfl ?_
                  refine DW.takeG 9 rfl rfl rfl rfl (by kernel_rfl) (by kernel_rfl) (by kernel_rfl) (by kernel_rfl) (by kernel_rfl) rfl (fun _ _ _ h => h) rfl (by (repeat (first | exact Sub.nil | exact Sub.all | (apply Sub.cons; (focus ((repeat (first | exact Rem.head | apply Rem.tail)); done))) | fail))) (x_loadB rfl rfl ty29 (by (repeat (first | exact Rem.head | apply Rem.tail)); done) (by exact rfl)) rfl ?_
                  refine DW.takeG 10 rfl rfl rfl rfl (by kernel_rfl) (by kernel_rfl) (by kernel_rfl) (by kernel_rfl) (by kernel_rfl) rfl (fun _ _ _ h => h) rfl (by (repeat (first | exact Sub.nil | exact Sub.all | (apply Sub.cons; (focus ((repeat (first | exact Rem.head | apply Rem.tail)); done))) | fail))) (x_move rfl rfl) rfl ?_
                  refine DW.takeG 11 rfl rfl rfl rfl (by kernel_rfl) (by kernel_rfl) (by kernel_rfl) (by kernel_rfl) (by kernel_rfl) rfl (fun _ _ _ h => h) rfl (by (repeat (first | exact Sub.nil | exact Sub.all | (apply Sub.cons; (focus ((repeat (first | exact Rem.head | apply Rem.tail)); done))) | fail))) (x_idxN rfl rfl rfl el29 (by omega)) rfl ?_
                  refine DW.takeG 12 rfl rfl rfl rfl (by kernel_rfl) (by kernel_rfl) (by kernel_rfl) (by kernel_rfl) (by kernel_rfl) rfl (fun _ _ _ h => h) rfl (by (repeat (first | exact Sub.nil | exact Sub.all | (apply Sub.cons; (focus ((repeat (first | exact Rem.head | apply Rem.tail)); done))) | fail))) (x_fieldAddrG rfl rfl fl41_3) rfl ?_
                  refine DW.takeG 13 rfl rfl rfl rfl (by kernel_rfl) (by kernel_rfl) (by kernel_rfl) (by kernel_rfl) (by kernel_rfl) rfl (fun _ _ _ h => h) rfl (by (repeat (first | exact Sub.nil | exact Sub.all | (apply Sub.cons; (focus ((repeat (first | exact Rem.head | apply Rem.tail)); done))) | fail))) (x_loadF1 (y := xs[k]) (j := 3) hR (by simp) cpLen rfl rfl ty3 (by simp [hkx]) rfl) rfl ?_
                  refine DW.takeG 14 rfl rfl rfl rfl (by kernel_rfl) (by kernel_rfl) (by kernel_rfl) (by kernel_rfl) (by kernel_rfl) rfl (fun _ _ _ h => h) rfl (by (repeat (first | exact Sub.nil | exact Sub.all | (apply Sub.cons; (focus ((repeat (first | exact Rem.head | apply Rem.tail)); done))) | fail))) (x_fieldAddr rfl rfl fl31_2 rfl) rfl ?_
                  refine DW.takeG 15 rfl rfl rfl rfl (by kernel_rfl) (by kernel_rfl) (by kernel_rfl) (by kernel_rfl) (by kernel_rfl) rfl (fun _ _ _ h => h) rfl (by (repeat (first | exact Sub.nil | exact Sub.all | (apply Sub.cons; (focus ((repeat (first | exact Rem.head | apply Rem.tail)); done))) | fail))) (x_loadB rfl rfl ty29 (by (repeat (first | exact Rem.head | apply Rem.tail)); done) (by exact rfl)) rfl ?_
                  refine DW.takeG 16 rfl rfl rfl rfl (by kernel_rfl) (by kernel_rfl) (by kernel_rfl) (by kernel_rfl) (by kernel_rfl) rfl (fun _ _ _ h => h) rfl (by (repeat (first | exact Sub.nil | exact Sub.all | (apply Sub.cons; (focus ((repeat (first | exact Rem.head | apply Rem.tail)); done))) | fail))) (x_move rfl rfl) rfl ?_
                  refine DW.takeG 17 rfl rfl rfl rfl (by kernel_rfl) (by kernel_rfl) (by kernel_rfl) (by kernel_rfl) (by kernel_rfl) rfl (fun _ _ _ h => h) rfl (by (repeat (first | exact Sub.nil | exact Sub.all | (apply Sub.cons; (focus ((repeat (first | exact Rem.head | apply Rem.tail)); done))) | fail))) (x_idxN rfl rfl rfl el29 (by omega)) rfl ?_
                  refine DW.takeG 18 rfl rfl rfl rfl (by kernel_rfl) (by kernel_rfl) (by kernel_rfl) (by kernel_rfl) (by kernel_rfl) rfl (fun _ _ _ h => h) rfl (by (repeat (first | exact Sub.nil | exact Sub.all | (apply Sub.cons; (focus ((repeat (first | exact Rem.head | apply Rem.tail)); done))) | fail))) (x_fieldAddrG rfl rfl fl41_3) rfl ?_
                  refine DW.takeG 19 rfl rfl rfl rfl (by kernel_rfl) (by kernel_rfl) (by kernel_rfl) (by kernel_rfl) (by kernel_rfl) rfl (fun _ _ _ h => h) rfl (by (repeat (first | exact Sub.nil | exact Sub.all | (apply Sub.cons; (focus ((repeat (first | exact Rem.head | apply Rem.tail)); done))) | fail))) (x_loadF1 (y := xs[i]) (j := 3) hR (by simp) cpLen rfl rfl ty3 (by simp [hi]) rfl) rfl ?_
                  refine DW.takeG 20 rfl rfl rfl rfl (by kernel_rfl) (by kernel_rfl) (by kernel_rfl) (by kernel_rfl) (by kernel_rfl) rfl (fun _ _ _ h => h) rfl (by (repeat (first | exact Sub.nil | exact Sub.all | (apply Sub.cons; (focus ((repeat (first | exact Rem.head | apply Rem.tail)); done))) | fail))) (x_eql rfl rfl rfl) rfl ?_
                  refine DW.take 21 rfl rfl (by kernel_rfl) (by kernel_rfl) (by kernel_rfl) (by kernel_rfl) (by kernel_rfl) rfl (fun _ _ _ h => h) rfl (by (repeat (first | exact Sub.nil | exact Sub.all | (apply Sub.cons; (focus ((repeat (first | exact Rem.head | apply Rem.tail)); done))) | fail))) (x_pickT rfl rfl rfl) rfl ?_
                  refine DW.done (by kernel_rfl) ?_
                  refine QW.thenC ?_
                  refine CW.condD rfl (fun h8 => ?_) (fun h8 => ?_)
                  · refine CW.seq (CW.region ?_)
                    refine LW.val rfl rfl rfl (x_assign rfl rfl) ?_
                    refine LW.nil (QW.thenC (CW.ret (QW.in_ret (QW.then_ret (QW.then_ret (QW.in_ret (QW.in_ret (QW.then_ret (QW.then_ret (QW.in_ret (QW.then_ret ?_)))))))))))
                    refine QW.res1 rfl (ResV.tmp rfl) (ret_eq (()) ?_ ?_)
                    · (rw [goodSh_bad hi (okAt_notFree hi hk (by simp_all [freeAt]))])
                    · (repeat (first | exact Sub.nil | exact Sub.all | (apply Sub.cons; (focus ((repeat (first | exact Rem.head | apply Rem.tail)); done))) | (apply Sub.row; (focus ((repeat (first | exact Rem.head | apply Rem.tail)); done)); (focus (first | with_reducible rfl | assumption | omega | (simp; done) | (simp [Nat.mul_comm]; done) | (simp; omega))); (focus (first | with_reducible rfl | assumption | omega | (simp; done) | (simp [Nat.mul_comm]; done) | (simp; omega))); (focus (first | with_reducible rfl | (simp [nums]; done) | (simp [nums]; omega) | (simp; done) | (simp; omega)))) | (apply Sub.blk; (focus ((repeat (first | exact Rem.head | apply Rem.tail)); done)); (focus (first | with_reducible rfl | (simp [nums]; done) | (simp [nums]; omega) | (simp; done) | (simp; omega)))) | fail))
                  · refine CW.skip (QW.in_normal (QW.thenC (CW.region ?_)))
                    refine LW.val rfl rfl rfl (x_move rfl rfl) ?_
                    refine LW.val rfl rfl rfl (x_add rfl rfl rfl (by omega)) ?_
                    refine LW.val rfl rfl rfl (x_assign rfl rfl) ?_
                    refine LW.nil ?_
                    refine QW.then_ (QW.roundC1 (k + 1) ?_ ?_ (by (repeat (first | exact trivial | (refine ⟨rfl, ?_⟩) | (refine ⟨gS rfl (by omega), ?_⟩)))) (by (repeat (first | exact Ext.refl | (refine Ext.cons rfl ?_)))) (by (repeat (first | exact Sub.nil | exact Sub.all | (apply Sub.cons; (focus ((repeat (first | exact Rem.head | apply Rem.tail)); done))) | (apply Sub.row; (focus ((repeat (first | exact Rem.head | apply Rem.tail)); done)); (focus (first | with_reducible rfl | assumption | omega | (simp; done) | (simp [Nat.mul_comm]; done) | (simp; omega))); (focus (first | with_reducible rfl | assumption | omega | (simp; done) | (simp [Nat.mul_comm]; done) | (simp; omega))); (focus (first | with_reducible rfl | (simp [nums]; done) | (simp [nums]; omega) | (simp; done) | (simp; omega)))) | (apply Sub.blk; (focus ((repeat (first | exact Rem.head | apply Rem.tail)); done)); (focus (first | with_reducible rfl | (simp [nums]; done) | (simp [nums]; omega) | (simp; done) | (simp; omega)))) | fail))))
                    · exact ⟨hk, fun j hj => if e : j = k then by subst e; simp_all [freeAt] else hinv.2 j (by omega)⟩
                    · first | omega | (simp; omega)
                · refine DW.takeF 8 rfl rfl rfl rfl rfl (by kernel_rfl) (by kernel_rfl) (by kernel_rfl) (by kernel_rfl) (by kernel_rfl) rfl (fun _ _ _ h => h) rfl (by (repeat (first | exact Sub.nil | exact Sub.all | (apply Sub.cons; (focus ((repeat (first | exact Rem.head | apply Rem.tail)); done))) | fail))) rfl ?_
                  refine DW.takeF 9 rfl rfl rfl rfl rfl (by kernel_rfl) (by kernel_rfl) (by kernel_rfl) (by kernel_rfl) (by kernel_rfl) rfl (fun _ _ _ h => h) rfl (by (repeat (first | exact Sub.nil | exact Sub.all | (apply Sub.cons; (focus ((repeat (first | exact Rem.head | apply Rem.tail)); done))) | fail))) rfl ?_
                  refine DW.takeF 10 rfl rfl rfl rfl rfl (by kernel_rfl) (by kernel_rfl) (by kernel_rfl) (by kernel_rfl) (by kernel_rfl) rfl (fun _ _ _ h => h) rfl (by (repeat (first | exact Sub.nil | exact Sub.all | (apply Sub.cons; (focus ((repeat (first | exact Rem.head | apply Rem.tail)); done))) | fail))) rfl ?_
                  refine DW.takeF 11 rfl rfl rfl rfl rfl (by kernel_rfl) (by kernel_rfl) (by kernel_rfl) (by kernel_rfl) (by kernel_rfl) rfl (fun _ _ _ h => h) rfl (by (repeat (first | exact Sub.nil | exact Sub.all | (apply Sub.cons; (focus ((repeat (first | exact Rem.head | apply Rem.tail)); done))) | fail))) rfl ?_
                  refine DW.takeF 12 rfl rfl rfl rfl rfl (by kernel_rfl) (by kernel_rfl) (by kernel_rfl) (by kernel_rfl) (by kernel_rfl) rfl (fun _ _ _ h => h) rfl (by (repeat (first | exact Sub.nil | exact Sub.all | (apply Sub.cons; (focus ((repeat (first | exact Rem.head | apply Rem.tail)); done))) | fail))) rfl ?_
                  refine DW.takeF 13 rfl rfl rfl rfl rfl (by kernel_rfl) (by kernel_rfl) (by kernel_rfl) (by kernel_rfl) (by kernel_rfl) rfl (fun _ _ _ h => h) rfl (by (repeat (first | exact Sub.nil | exact Sub.all | (apply Sub.cons; (focus ((repeat (first | exact Rem.head | apply Rem.tail)); done))) | fail))) rfl ?_
                  refine DW.takeF 14 rfl rfl rfl rfl rfl (by kernel_rfl) (by kernel_rfl) (by kernel_rfl) (by kernel_rfl) (by kernel_rfl) rfl (fun _ _ _ h => h) rfl (by (repeat (first | exact Sub.nil | exact Sub.all | (apply Sub.cons; (focus ((repeat (first | exact Rem.head | apply Rem.tail)); done))) | fail))) rfl ?_
                  refine DW.takeF 15 rfl rfl rfl rfl rfl (by kernel_rfl) (by kernel_rfl) (by kernel_rfl) (by kernel_rfl) (by kernel_rfl) rfl (fun _ _ _ h => h) rfl (by (repeat (first | exact Sub.nil | exact Sub.all | (apply Sub.cons; (focus ((repeat (first | exact Rem.head | apply Rem.tail)); done))) | fail))) rfl ?_
                  refine DW.takeF 16 rfl rfl rfl rfl rfl (by kernel_rfl) (by kernel_rfl) (by kernel_rfl) (by kernel_rfl) (by kernel_rfl) rfl (fun _ _ _ h => h) rfl (by (repeat (first | exact Sub.nil | exact Sub.all | (apply Sub.cons; (focus ((repeat (first | exact Rem.head | apply Rem.tail)); done))) | fail))) rfl ?_
                  refine DW.takeF 17 rfl rfl rfl rfl rfl (by kernel_rfl) (by kernel_rfl) (by kernel_rfl) (by kernel_rfl) (by kernel_rfl) rfl (fun _ _ _ h => h) rfl (by (repeat (first | exact Sub.nil | exact Sub.all | (apply Sub.cons; (focus ((repeat (first | exact Rem.head | apply Rem.tail)); done))) | fail))) rfl ?_
                  refine DW.takeF 18 rfl rfl rfl rfl rfl (by kernel_rfl) (by kernel_rfl) (by kernel_rfl) (by kernel_rfl) (by kernel_rfl) rfl (fun _ _ _ h => h) rfl (by (repeat (first | exact Sub.nil | exact Sub.all | (apply Sub.cons; (focus ((repeat (first | exact Rem.head | apply Rem.tail)); done))) | fail))) rfl ?_
                  refine DW.takeF 19 rfl rfl rfl rfl rfl (by kernel_rfl) (by kernel_rfl) (by kernel_rfl) (by kernel_rfl) (by kernel_rfl) rfl (fun _ _ _ h => h) rfl (by (repeat (first | exact Sub.nil | exact Sub.all | (apply Sub.cons; (focus ((repeat (first | exact Rem.head | apply Rem.tail)); done))) | fail))) rfl ?_
                  refine DW.takeF 20 rfl rfl rfl rfl rfl (by kernel_rfl) (by kernel_rfl) (by kernel_rfl) (by kernel_rfl) (by kernel_rfl) rfl (fun _ _ _ h => h) rfl (by (repeat (first | exact Sub.nil | exact Sub.all | (apply Sub.cons; (focus ((repeat (first | exact Rem.head | apply Rem.tail)); done))) | fail))) rfl ?_
                  refine DW.take 21 rfl rfl (by kernel_rfl) (by kernel_rfl) (by kernel_rfl) (by kernel_rfl) (by kernel_rfl) rfl (fun _ _ _ h => h) rfl (by (repeat (first | exact Sub.nil | exact Sub.all | (apply Sub.cons; (focus ((repeat (first | exact Rem.head | apply Rem.tail)); done))) | fail))) (x_pickF rfl rfl rfl) rfl ?_
                  refine DW.done (by kernel_rfl) ?_
                  refine QW.thenC (CW.condF rfl (CW.skip (QW.in_normal (QW.thenC (CW.region ?_)))))
                  refine LW.val rfl rfl rfl (x_move rfl rfl) ?_
                  refine LW.val rfl rfl rfl (x_add rfl rfl rfl (by omega)) ?_
                  refine LW.val rfl rfl rfl (x_assign rfl rfl) ?_
                  refine LW.nil ?_
                  refine QW.then_ (QW.roundC1 (k + 1) ?_ ?_ (by (repeat (first | exact trivial | (refine ⟨rfl, ?_⟩) | (refine ⟨gS rfl (by omega), ?_⟩)))) (by (repeat (first | exact Ext.refl | (refine Ext.cons rfl ?_)))) (by (repeat (first | exact Sub.nil | exact Sub.all | (apply Sub.cons; (focus ((repeat (first | exact Rem.head | apply Rem.tail)); done))) | (apply Sub.row; (focus ((repeat (first | exact Rem.head | apply Rem.tail)); done)); (focus (first | with_reducible rfl | assumption | omega | (simp; done) | (simp [Nat.mul_comm]; done) | (simp; omega))); (focus (first | with_reducible rfl | assumption | omega | (simp; done) | (simp [Nat.mul_comm]; done) | (simp; omega))); (focus (first | with_reducible rfl | (simp [nums]; done) | (simp [nums]; omega) | (simp; done) | (simp; omega)))) | (apply Sub.blk; (focus ((repeat (first | exact Rem.head | apply Rem.tail)); done)); (focus (first | with_reducible rfl | (simp [nums]; done) | (simp [nums]; omega) | (simp; done) | (simp; omega)))) | fail))))
                  · exact ⟨hk, fun j hj => if e : j = k then by subst e; simp_all [freeAt] else hinv.2 j (by omega)⟩
                  · first | omega | (simp; omega)
              · refine CW.exit (QW.then_exit (QW.then_exit (QW.in_hit (QW.in_normal (QW.thenC (CW.region ?_))))))
                refine LW.val rfl rfl rfl (x_move rfl rfl) ?_
                refine LW.val rfl rfl rfl (x_add rfl rfl rfl (by omega)) ?_
                refine LW.val rfl rfl rfl (x_assign rfl rfl) ?_
                refine LW.nil ?_
                refine QW.then_ (QW.roundC1 (i + 1) ?_ ?_ (by (repeat (first | exact trivial | (refine ⟨rfl, ?_⟩) | (refine ⟨gS rfl (by omega), ?_⟩)))) (by (repeat (first | exact Ext.refl | (refine Ext.cons rfl ?_)))) (by (repeat (first | exact Sub.nil | exact Sub.all | (apply Sub.cons; (focus ((repeat (first | exact Rem.head | apply Rem.tail)); done))) | (apply Sub.row; (focus ((repeat (first | exact Rem.head | apply Rem.tail)); done)); (focus (first | with_reducible rfl | assumption | omega | (simp; done) | (simp [Nat.mul_comm]; done) | (simp; omega))); (focus (first | with_reducible rfl | assumption | omega | (simp; done) | (simp [Nat.mul_comm]; done) | (simp; omega))); (focus (first | with_reducible rfl | (simp [nums]; done) | (simp [nums]; omega) | (simp; done) | (simp; omega)))) | (apply Sub.blk; (focus ((repeat (first | exact Rem.head | apply Rem.tail)); done)); (focus (first | with_reducible rfl | (simp [nums]; done) | (simp [nums]; omega) | (simp; done) | (simp; omega)))) | fail))))
                · exact ⟨hi, fun j hj => if e : j = i then by subst e; exact okAt_free hi h5 (fun k hk => hinv.2 k (by omega)) else hinv1.2 j (by omega)⟩
                · first | omega | (simp; omega)
          · refine CW.exit (QW.then_exit (QW.then_exit (QW.in_hit (QW.thenC (CW.seq (CW.region ?_))))))
            refine LW.val rfl rfl rfl (x_assign rfl rfl) ?_
            refine LW.nil (QW.thenC (CW.ret ?_))
            refine QW.res1 rfl (ResV.tmp rfl) (ret_eq (()) ?_ ?_)
            · (rw [goodSh_good (by simpa using h1) (by simpa using h2) (by simpa using h3) (by omega) (fun j hj => hinv.2 j (by omega))])
            · (repeat (first | exact Sub.nil | exact Sub.all | (apply Sub.cons; (focus ((repeat (first | exact Rem.head | apply Rem.tail)); done))) | (apply Sub.row; (focus ((repeat (first | exact Rem.head | apply Rem.tail)); done)); (focus (first | with_reducible rfl | assumption | omega | (simp; done) | (simp [Nat.mul_comm]; done) | (simp; omega))); (focus (first | with_reducible rfl | assumption | omega | (simp; done) | (simp [Nat.mul_comm]; done) | (simp; omega))); (focus (first | with_reducible rfl | (simp [nums]; done) | (simp [nums]; omega) | (simp; done) | (simp; omega)))) | (apply Sub.blk; (focus ((repeat (first | exact Rem.head | apply Rem.tail)); done)); (focus (first | with_reducible rfl | (simp [nums]; done) | (simp [nums]; omega) | (simp; done) | (simp; omega)))) | fail))
set_option maxRecDepth 20000 in
theorem Clone_ct (xs : List Cp) (A : Option Addr) (c : Nat) (w : World) (hR : RdC w A c xs) : Calls Try.prog 50 #[.slice A xs.length c] w (Ret (fun p : Option Addr × Nat => .slice p.1 xs.length p.2) (fun p => [rowCp p.1 xs.length p.2 xs]) w) := by
  have hb := hR.bnd
  refine enter Try.func50 rfl rfl Try.ntmps50 rfl ?_
  refine CW.seq (CW.region ?_)
  refine LW.val rfl rfl rfl (x_assign rfl rfl) ?_
  refine LW.nil (QW.thenC (CW.seq (CW.seq (CW.region ?_))))
  refine LW.val rfl rfl rfl (x_move rfl rfl) ?_
  refine LW.val rfl rfl rfl (x_nilEq (e := 41) rfl rfl rfl Try.underlying29) ?_
  refine LW.nil (QW.thenC ?_)
  refine CW.cond rfl (fun h => ?_) (fun h => ?_)
  · have hA : A = none := by simpa using h
    have hx : xs = [] := by
      cases xs with
      | nil => rfl
      | cons x r => obtain ⟨ad, e⟩ := hR.some (i := 0) (by simp); rw [hA] at e; cases e
    subst hA hx
    refine CW.nilRow 41 5 ?_
    refine CW.seq (CW.region ?_)
    refine LW.val rfl rfl rfl (x_assign rfl rfl) ?_
    refine LW.nil (QW.thenC (CW.ret (QW.then_ret ?_)))
    refine QW.res1 rfl (ResV.tmp rfl) (ret_eq ((none, 0)) ?_ ?_)
    · first | rfl | (simp only []; rfl)
    · (repeat (first | exact Sub.nil | exact Sub.all | (apply Sub.cons; (focus ((repeat (first | exact Rem.head | apply Rem.tail)); done))) | (apply Sub.row; (focus ((repeat (first | exact Rem.head | apply Rem.tail)); done)); (focus (first | with_reducible rfl | assumption | omega | (simp; done) | (simp [Nat.mul_comm]; done) | (simp; omega))); (focus (first | with_reducible rfl | assumption | omega | (simp; done) | (simp [Nat.mul_comm]; done) | (simp; omega))); (focus (first | with_reducible rfl | (simp [nums]; done) | (simp [nums]; omega) | (simp; done) | (simp; omega)))) | (apply Sub.blk; (focus ((repeat (first | exact Rem.head | apply Rem.tail)); done)); (focus (first | with_reducible rfl | (simp [nums]; done) | (simp [nums]; omega) | (simp; done) | (simp; omega)))) | fail))
  · refine CW.skip (QW.thenC (CW.seq (CW.region ?_)))
    refine LW.op rfl rfl rfl (y_bs rfl rfl rfl el29 ze41 rfl rfl rfl (by simp [fillL, Value.cells]; rfl) rfl) ?_
    intro g5
    refine LW.val rfl rfl rfl (x_move rfl rfl) ?_
    refine LW.op rfl rfl rfl (y_appendA (ty := 0) hR (by simp) rfl rfl rfl el29 in41 rfl (by (repeat (first | exact Rem.head | apply Rem.tail)); done) (flat_ones cpOne xs) (by omega)) ?_
    rintro ⟨A1, c1⟩
    refine LW.val rfl rfl rfl (x_assign rfl rfl) ?_
    refine LW.nil (QW.thenC (CW.ret ?_))
    refine QW.res1 rfl (ResV.tmp rfl) (ret_eq ((A1, c1)) ?_ ?_)
    · (simp)
    · (repeat (first | exact Sub.nil | exact Sub.all | (apply Sub.cons; (focus ((repeat (first | exact Rem.head | apply Rem.tail)); done))) | (apply Sub.row; (focus ((repeat (first | exact Rem.head | apply Rem.tail)); done)); (focus (first | with_reducible rfl | assumption | omega | (simp; done) | (simp [Nat.mul_comm]; done) | (simp; omega))); (focus (first | with_reducible rfl | assumption | omega | (simp; done) | (simp [Nat.mul_comm]; done) | (simp; omega))); (focus (first | with_reducible rfl | (simp; done)))) | (apply Sub.blk; (focus ((repeat (first | exact Rem.head | apply Rem.tail)); done)); (focus (first | with_reducible rfl | (simp; done)))) | fail))
theorem copied_ct (day looms money : Int) (xs : List Cp) (A : Option Addr) (c : Nat) (w : World) (hR : RdC w A c xs) : Calls Try.prog 29 #[shV day looms money A xs.length c] w (Ret (fun p : Option Addr × Nat => shV day looms money p.1 xs.length p.2) (fun p => [rowCp p.1 xs.length p.2 xs]) w) := by
  refine enter Try.func29 rfl rfl Try.ntmps29 rfl ?_
  refine CW.seq (CW.region ?_)
  refine LW.op rfl rfl rfl (y_box rfl rfl rfl) ?_
  intro b1
  refine LW.op rfl rfl rfl (y_alloc rfl ze31) ?_
  intro b2
  refine LW.nil (QW.thenC (CW.seq (CW.region ?_)))
  refine LW.val rfl rfl rfl (x_fieldAddr rfl rfl fl31_2 rfl) ?_
  refine LW.val rfl rfl rfl (x_loadB rfl rfl ty29 (by (repeat (first | exact Rem.head | apply Rem.tail)); done) (by exact rfl)) ?_
  refine LW.op rfl rfl rfl (y_call rfl rfl rfl en50 (fun w HW => Clone_ct xs A c _ (hR.up HW.below))) ?_
  rintro ⟨A1, c1⟩
  refine LW.val rfl rfl rfl (x_fieldAddr rfl rfl fl31_2 rfl) ?_
  refine LW.op0 rfl rfl (y_storeB rfl rfl rfl rfl rfl ty29 (by (repeat (first | exact Rem.head | apply Rem.tail)); done) (by exact rfl) (by (simp only [List.set_cons_zero, List.set_cons_succ]; rfl))) ?_
  intro _u
  refine LW.nil (QW.thenC (CW.seq (CW.region ?_)))
  refine LW.val rfl rfl rfl (x_loadB0 rfl rfl ty31 (by (repeat (first | exact Rem.head | apply Rem.tail)); done) rfl) ?_
  refine LW.op0 rfl rfl (y_storeB0 rfl rfl rfl rfl ty31 rfl (by (repeat (first | exact Rem.head | apply Rem.tail)); done) rfl) ?_
  intro _u
  refine LW.nil (QW.thenC (CW.ret ?_))
  refine QW.res1 rfl (ResV.cellN rfl ty31 (by (repeat (first | exact Rem.head | apply Rem.tail)); done) (by exact rfl)) (ret_eq ((A1, c1)) ?_ ?_)
  · first | rfl | (simp only []; rfl)
  · (repeat (first | exact Sub.nil | exact Sub.all | (apply Sub.cons; (focus ((repeat (first | exact Rem.head | apply Rem.tail)); done))) | (apply Sub.row; (focus ((repeat (first | exact Rem.head | apply Rem.tail)); done)); (focus (first | with_reducible rfl | assumption | omega | (simp; done) | (simp [Nat.mul_comm]; done) | (simp; omega))); (focus (first | with_reducible rfl | assumption | omega | (simp; done) | (simp [Nat.mul_comm]; done) | (simp; omega))); (focus (first | with_reducible rfl | (simp [nums]; done) | (simp [nums]; omega) | (simp; done) | (simp; omega)))) | (apply Sub.blk; (focus ((repeat (first | exact Rem.head | apply Rem.tail)); done)); (focus (first | with_reducible rfl | (simp [nums]; done) | (simp [nums]; omega) | (simp; done) | (simp; omega)))) | fail))
set_option maxRecDepth 20000 in
theorem l25Own_ct (day looms money : Int) (xs : List Cp) (A : Option Addr) (c : Nat) (w : World) (hR : RdC w A c xs) : Calls Try.prog 32 #[shV day looms money A xs.length c] w (Ret (fun p : Option Addr × Nat => shV day looms money p.1 xs.length p.2) (fun p => [rowCp p.1 xs.length p.2 xs]) w) := by
  have hb := hR.bnd
  refine enter Try.func32 rfl rfl Try.ntmps32 rfl ?_
  refine CW.seq (CW.region ?_)
  refine LW.op rfl rfl rfl (y_box rfl rfl rfl) ?_
  intro b1
  refine LW.op rfl rfl rfl (y_alloc rfl ze31) ?_
  intro b2
  refine LW.nil (QW.thenC (CW.seq ?_))
  refine CW.cutC2 (M := [.blk b2 (shL 0 0 0 none 0 0) 31]) [3, 4, 5, 6, 7, 8, 9, 10, 11, 12, 13] (fun (A1 : Option Addr) (c1 : Nat) => True) (fun (A1 : Option Addr) (c1 : Nat) => []) (fun (A1 : Option Addr) (c1 : Nat) => [.blk b2 (shL day looms money A1 xs.length c1) 31, rowCp A1 xs.length c1 xs]) (Take.blk (by (repeat (first | exact Rem.head | apply Rem.tail)); done) (by first | with_reducible rfl | (simp [nums]; done) | (simp [nums]; omega) | (simp; done) | (simp; omega)) (Take.nil)) ?_ ?_
  · skip
    refine CW.draw [] ([.blk b1 (shL day looms money A xs.length c) 31]) follows ?_
    refine DW.take 0 rfl rfl (by kernel_rfl) (by kernel_rfl) (by kernel_rfl) (by kernel_rfl) (by kernel_rfl) rfl (fun _ _ _ h => nomatch h.1) rfl (by (repeat (first | exact Sub.nil | exact Sub.all | (apply Sub.cons; (focus ((repeat (first | exact Rem.head | apply Rem.tail)); done))) | fail))) (x_fieldAddr rfl rfl fl31_0 rfl) rfl ?_
    refine DW.take 1 rfl rfl (by kernel_rfl) (by kernel_rfl) (by kernel_rfl) (by kernel_rfl) (by kernel_rfl) rfl (fun _ _ _ h => nomatch h.1) rfl (by (repeat (first | exact Sub.nil | exact Sub.all | (apply Sub.cons; (focus ((repeat (first | exact Rem.head | apply Rem.tail)); done))) | fail))) (x_loadB rfl rfl ty3 (by (repeat (first | exact Rem.head | apply Rem.tail)); done) (by exact rfl)) rfl ?_
    refine DW.take 2 rfl rfl (by kernel_rfl) (by kernel_rfl) (by kernel_rfl) (by kernel_rfl) (by kernel_rfl) rfl (fun _ _ _ h => nomatch h.1) rfl (by (repeat (first | exact Sub.nil | exact Sub.all | (apply Sub.cons; (focus ((repeat (first | exact Rem.head | apply Rem.tail)); done))) | fail))) (x_fieldAddr rfl rfl fl31_1 rfl) rfl ?_
    refine DW.take 3 rfl rfl (by kernel_rfl) (by kernel_rfl) (by kernel_rfl) (by kernel_rfl) (by kernel_rfl) rfl (fun _ _ _ h => nomatch h.1) rfl (by (repeat (first | exact Sub.nil | exact Sub.all | (apply Sub.cons; (focus ((repeat (first | exact Rem.head | apply Rem.tail)); done))) | fail))) (x_loadB rfl rfl ty3 (by (repeat (first | exact Rem.head | apply Rem.tail)); done) (by exact rfl)) rfl ?_
    refine DW.take 5 rfl rfl (by kernel_rfl) (by kernel_rfl) (by kernel_rfl) (by kernel_rfl) (by kernel_rfl) rfl (fun _ _ _ h => nomatch h.1) rfl (by (repeat (first | exact Sub.nil | exact Sub.all | (apply Sub.cons; (focus ((repeat (first | exact Rem.head | apply Rem.tail)); done))) | fail))) (x_fieldAddr rfl rfl fl31_2 rfl) rfl ?_
    refine DW.take 6 rfl rfl (by kernel_rfl) (by kernel_rfl) (by kernel_rfl) (by kernel_rfl) (by kernel_rfl) rfl (fun _ _ _ h => nomatch h.1) rfl (by (repeat (first | exact Sub.nil | exact Sub.all | (apply Sub.cons; (focus ((repeat (first | exact Rem.head | apply Rem.tail)); done))) | fail))) (x_loadB rfl rfl ty29 (by (repeat (first | exact Rem.head | apply Rem.tail)); done) (by exact rfl)) rfl ?_
    refine DW.take 8 rfl rfl (by kernel_rfl) (by kernel_rfl) (by kernel_rfl) (by kernel_rfl) (by kernel_rfl) rfl (fun _ _ _ h => nomatch h.1) rfl (by (repeat (first | exact Sub.nil | exact Sub.all | (apply Sub.cons; (focus ((repeat (first | exact Rem.head | apply Rem.tail)); done))) | fail))) (x_fieldAddr rfl rfl fl31_3 rfl) rfl ?_
    refine DW.take 9 rfl rfl (by kernel_rfl) (by kernel_rfl) (by kernel_rfl) (by kernel_rfl) (by kernel_rfl) rfl (fun _ _ _ h => nomatch h.1) rfl (by (repeat (first | exact Sub.nil | exact Sub.all | (apply Sub.cons; (focus ((repeat (first | exact Rem.head | apply Rem.tail)); done))) | fail))) (x_loadB rfl rfl ty3 (by (repeat (first | exact Rem.head | apply Rem.tail)); done) (by exact rfl)) rfl ?_
    refine DW.ready [4] (by kernel_rfl) (by simp) ?_
    refine AllR.cons rfl rfl rfl rfl (y_bs rfl rfl rfl el29 ze41 rfl rfl rfl (by simp [fillL, Value.cells]; rfl) rfl) (fun _ => by (repeat (first | exact Sub.nil | exact Sub.all | (apply Sub.cons; (focus ((repeat (first | exact Rem.head | apply Rem.tail)); done))) | fail))) rfl ?_ AllR.nil
    rintro g7
    refine DW.ready [7] (by kernel_rfl) (by simp) ?_
    refine AllR.cons rfl rfl rfl rfl (y_appendA (ty := 0) hR (by simp) rfl rfl rfl el29 in41 rfl (by (repeat (first | exact Rem.head | apply Rem.tail)); done) (flat_ones cpOne xs) (by omega)) (fun _ => by (repeat (first | exact Sub.nil | exact Sub.all | (apply Sub.cons; (focus ((repeat (first | exact Rem.head | apply Rem.tail)); done))) | fail))) rfl ?_ AllR.nil
    rintro ⟨A1, c1⟩
    refine DW.take 10 rfl rfl (by kernel_rfl) (by kernel_rfl) (by kernel_rfl) (by kernel_rfl) (by kernel_rfl) rfl (fun _ _ _ h => nomatch h.1) rfl (by (repeat (first | exact Sub.nil | exact Sub.all | (apply Sub.cons; (focus ((repeat (first | exact Rem.head | apply Rem.tail)); done))) | fail))) (x_build rfl rfl rfl ze31 st31 pl31 (by simp [fillL, Value.cells]; rfl)) rfl ?_
    refine DW.ready [11] (by kernel_rfl) (by simp) ?_
    refine AllR.cons0 rfl rfl rfl (y_storeB0 rfl rfl rfl rfl ty31 rfl (by (repeat (first | exact Rem.head | apply Rem.tail)); done) rfl) (fun _ => by (repeat (first | exact Sub.nil | exact Sub.all | (apply Sub.cons; (focus ((repeat (first | exact Rem.head | apply Rem.tail)); done))) | fail))) rfl ?_ AllR.nil
    intro _u
    refine DW.done (by kernel_rfl) ?_
    refine QW.cutEndC2 (A1) (c1) ?_ (by (repeat (first | exact trivial | (refine ⟨rfl, ?_⟩) | (refine ⟨gS rfl (by omega), ?_⟩)))) (by (repeat (first | exact Ext.refl | (refine Ext.cons rfl ?_)))) (by (repeat (first | exact Sub.nil | exact Sub.all | (apply Sub.cons; (focus ((repeat (first | exact Rem.head | apply Rem.tail)); done))) | (apply Sub.row; (focus ((repeat (first | exact Rem.head | apply Rem.tail)); done)); (focus (first | with_reducible rfl | assumption | omega | (simp; done) | (simp [Nat.mul_comm]; done) | (simp; omega))); (focus (first | with_reducible rfl | assumption | omega | (simp; done) | (simp [Nat.mul_comm]; done) | (simp; omega))); (focus (first | with_reducible rfl | (simp [nums]; done) | (simp [nums]; omega) | (simp; done) | (simp; omega)))) | (apply Sub.blk; (focus ((repeat (first | exact Rem.head | apply Rem.tail)); done)); (focus (first | with_reducible rfl | (simp [nums]; done) | (simp [nums]; omega) | (simp; done) | (simp; omega)))) | fail)))
    · first | exact trivial | omega
  · intro A1 c1 _
    refine QW.thenC (CW.ret ?_)
    refine QW.res1 rfl (ResV.cellN rfl ty31 (by (repeat (first | exact Rem.head | apply Rem.tail)); done) (by exact rfl)) (ret_eq ((A1, c1)) ?_ ?_)
    · first | rfl | (simp only []; rfl)
    · (repeat (first | exact Sub.nil | exact Sub.all | (apply Sub.cons; (focus ((repeat (first | exact Rem.head | apply Rem.tail)); done))) | (apply Sub.row; (focus ((repeat (first | exact Rem.head | apply Rem.tail)); done)); (focus (first | with_reducible rfl | assumption | omega | (simp; done) | (simp [Nat.mul_comm]; done) | (simp; omega))); (focus (first | with_reducible rfl | assumption | omega | (simp; done) | (simp [Nat.mul_comm]; done) | (simp; omega))); (focus (first | with_reducible rfl | (simp [nums]; done) | (simp [nums]; omega) | (simp; done) | (simp; omega)))) | (apply Sub.blk; (focus ((repeat (first | exact Rem.head | apply Rem.tail)); done)); (focus (first | with_reducible rfl | (simp [nums]; done) | (simp [nums]; omega) | (simp; done) | (simp; omega)))) | fail))
end Go.Proofs.Ytbgjlojnbdnoaaa
