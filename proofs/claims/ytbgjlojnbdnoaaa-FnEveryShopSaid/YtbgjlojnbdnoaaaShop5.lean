/- The workshop: runs of the program's. -/
import Derived.Test.YtbgjlojnbdnoaaaShop4
namespace Go.Proofs.Ytbgjlojnbdnoaaa
open Go.RowKit
set_option linter.unusedVariables false
set_option linter.unusedSimpArgs false
theorem stepR_ok {day looms money d l m : Int} {xs ys : List Cp} {x : Sp} (h : stepR day looms money xs x = (true, d, l, m, ys)) : l = looms ∧ goodSh d looms m ys = true := by
  unfold stepR at h
  split at h
  · split at h
    · rename_i h2; simp at h; obtain ⟨h3, h4, h5, h6⟩ := h; subst h3 h4 h5 h6; exact ⟨rfl, h2⟩
    · simp at h
  · simp at h
theorem good_len {day looms money : Int} {xs : List Cp} (h : goodSh day looms money xs = true) : xs.length ≤ 8 := (goodSh_iff.1 h).2.2.2.1
abbrev St := Int × Int × List Cp × Nat
def runStep (looms : Int) (q : St) (x : Sp) : St := match stepR q.1 looms q.2.1 q.2.2.1 x with
  | (true, d, _, m, ys) => (d, m, ys, q.2.2.2 + 1)
  | _ => q
def runN (looms : Int) (q : St) (steps : List Sp) (n : Nat) : St := (steps.take n).foldl (runStep looms) q
theorem runN_zero (looms : Int) (q : St) (steps : List Sp) : runN looms q steps 0 = q := by simp [runN]
theorem runN_succ (looms : Int) (q : St) (steps : List Sp) (n : Nat) (h : n < steps.length) : runN looms q steps (n + 1) = runStep looms (runN looms q steps n) steps[n] := by
  unfold runN
  rw [List.take_add_one, List.getElem?_eq_getElem h, List.foldl_append]; rfl
theorem runN_full (looms : Int) (q : St) (steps : List Sp) : runN looms q steps steps.length = steps.foldl (runStep looms) q := by simp [runN]
theorem runStep_yes {looms d' l' m' : Int} {q : St} {ys' : List Cp} {x : Sp} (h : stepR q.1 looms q.2.1 q.2.2.1 x = (true, d', l', m', ys')) : runStep looms q x = (d', m', ys', q.2.2.2 + 1) := by simp [runStep, h]
theorem runStep_no {looms d' l' m' : Int} {q : St} {ys' : List Cp} {x : Sp} (h : stepR q.1 looms q.2.1 q.2.2.1 x = (false, d', l', m', ys')) : runStep looms q x = q := by simp [runStep, h]
theorem runN_cnt (looms : Int) (q : St) (steps : List Sp) (n : Nat) : (runN looms q steps n).2.2.2 ≤ q.2.2.2 + n := by
  induction n with
  | zero => simp [runN]
  | succ n ih =>
    by_cases h : n < steps.length
    · rw [runN_succ _ _ _ _ h]
      unfold runStep
      split
      · simp only []; omega
      · omega
    · have e : runN looms q steps (n + 1) = runN looms q steps n := by simp [runN, List.take_of_length_le (show steps.length ≤ n by omega), List.take_of_length_le (show steps.length ≤ n + 1 by omega)]
      rw [e]; omega
/-- what a run gives: ok, the steps made, the shop -/
def runR (day looms money : Int) (xs : List Cp) (steps : List Sp) : Bool × Nat × Int × Int × Int × List Cp :=
  if goodSh day looms money xs = true ∧ steps.length ≤ 40 then (true, (runN looms (day, money, xs, 0) steps steps.length).2.2.2, (runN looms (day, money, xs, 0) steps steps.length).1, looms, (runN looms (day, money, xs, 0) steps steps.length).2.1, (runN looms (day, money, xs, 0) steps steps.length).2.2.1) else (false, 0, 0, 0, 0, [])
abbrev RdS (w : World) (A : Option Addr) (c : Nat) (xs : List Sp) : Prop := RdR w A xs.length c 24 3 (flat spL xs)
theorem RdS.some {w : World} {A : Option Addr} {c i : Nat} {xs : List Sp} (h : RdS w A c xs) (hi : i < xs.length) : ∃ ad, A = some ad := by
  have : i * 3 < (flat spL xs).length := by rw [h.len]; omega
  obtain ⟨ad, e, _⟩ := h.at_ (i * 3) _ (by rw [List.getElem?_eq_getElem this])
  exact ⟨ad, e⟩
abbrev shT3 (ok : Bool) (cnt : Nat) (day looms money : Int) (m : Nat) (p : Option Addr × Nat) : Value := .tuple #[shV day looms money p.1 m p.2, .int .i64 cnt, .bool ok]
set_option maxRecDepth 20000 in
theorem StepShop_ct (day looms money : Int) (xs : List Cp) (A : Option Addr) (c : Nat) (x : Sp) (w : World) (hR : RdC w A c xs) (hg : goodSh day looms money xs = true) (hv : x.val ≤ 9223372036854775807)
    (ok : Bool) (d l mny : Int) (ys : List Cp) (hr : stepR day looms money xs x = (ok, d, l, mny, ys)) :
    Calls Try.prog 13 #[shV day looms money A xs.length c, .agg (spL x).toArray] w (Ret (shT ok d l mny ys.length) (fun p => [rowCp p.1 ys.length p.2 ys]) w) := by
  refine enter Try.func13 rfl rfl Try.ntmps13 rfl ?_
  refine CW.seq (CW.region ?_)
  refine LW.op rfl rfl rfl (y_box rfl rfl rfl) ?_
  intro b2
  refine LW.op rfl rfl rfl (y_box rfl rfl rfl) ?_
  intro b3
  refine LW.op rfl rfl rfl (y_alloc rfl ze31) ?_
  intro b4
  refine LW.val rfl rfl rfl (x_assign rfl rfl) ?_
  refine LW.nil (QW.thenC (CW.seq (CW.seq (CW.region ?_))))
  refine LW.val rfl rfl rfl (x_loadB0 rfl rfl ty31 (by (repeat (first | exact Rem.head | apply Rem.tail)); done) rfl) ?_
  refine LW.op rfl rfl rfl (y_call rfl rfl rfl en18 (fun w HW => IsShop_ct day looms money xs A c _ (hR.up HW.below))) ?_
  rintro ⟨⟩
  refine LW.val rfl rfl rfl (x_not rfl rfl) ?_
  refine LW.nil (QW.thenC ?_)
  refine CW.cond rfl (fun hno => absurd hno (by (rw [hg]; decide))) (fun _ => ?_)
  refine CW.skip (QW.thenC (CW.seq (CW.region ?_)))
  refine LW.val rfl rfl rfl (x_loadB0 rfl rfl ty31 (by (repeat (first | exact Rem.head | apply Rem.tail)); done) rfl) ?_
  refine LW.val rfl rfl rfl (x_loadB0 rfl rfl ty37 (by (repeat (first | exact Rem.head | apply Rem.tail)); done) rfl) ?_
  refine LW.op rfl rfl rfl (y_call rfl rfl rfl en30 (fun w HW => step_ct day looms money xs A c x _ (hR.up HW.below) hg hv ok d l mny ys hr)) ?_
  rintro ⟨A1, c1⟩
  refine LW.val rfl rfl rfl (x_extract rfl rfl rfl) ?_
  refine LW.val rfl rfl rfl (x_extract rfl rfl rfl) ?_
  refine LW.op0 rfl rfl (y_storeB0 rfl rfl rfl rfl ty31 rfl (by (repeat (first | exact Rem.head | apply Rem.tail)); done) rfl) ?_
  intro _u
  refine LW.val rfl rfl rfl (x_assign rfl rfl) ?_
  refine LW.nil (QW.thenC (CW.ret ?_))
  refine QW.res2 rfl (ResV.cellN rfl ty31 (by (repeat (first | exact Rem.head | apply Rem.tail)); done) (by exact rfl)) (ResV.tmp rfl) (ret_eq ((A1, c1)) ?_ ?_)
  · first | rfl | (simp only []; rfl)
  · (repeat (first | exact Sub.nil | exact Sub.all | (apply Sub.cons; (focus ((repeat (first | exact Rem.head | apply Rem.tail)); done))) | (apply Sub.row; (focus ((repeat (first | exact Rem.head | apply Rem.tail)); done)); (focus (first | with_reducible rfl | assumption | omega | (simp; done) | (simp [Nat.mul_comm]; done) | (simp; omega))); (focus (first | with_reducible rfl | assumption | omega | (simp; done) | (simp [Nat.mul_comm]; done) | (simp; omega))); (focus (first | with_reducible rfl | (simp [nums]; done) | (simp [nums]; omega) | (simp; done) | (simp; omega)))) | (apply Sub.blk; (focus ((repeat (first | exact Rem.head | apply Rem.tail)); done)); (focus (first | with_reducible rfl | (simp [nums]; done) | (simp [nums]; omega) | (simp; done) | (simp; omega)))) | fail))
set_option maxRecDepth 20000 in
theorem RunShop_ct (day looms money : Int) (xs : List Cp) (A : Option Addr) (c : Nat) (steps : List Sp) (B : Option Addr) (e : Nat) (w : World) (hR : RdC w A c xs) (hS : RdS w B e steps) (hv : ∀ x ∈ steps, x.val ≤ 9223372036854775807)
    (ok : Bool) (cnt : Nat) (d l mny : Int) (ys : List Cp) (hr : runR day looms money xs steps = (ok, cnt, d, l, mny, ys)) :
    Calls Try.prog 10 #[shV day looms money A xs.length c, .slice B steps.length e] w (Ret (shT3 ok cnt d l mny ys.length) (fun p => [rowCp p.1 ys.length p.2 ys]) w) := by
  have no : ¬ (goodSh day looms money xs = true ∧ steps.length ≤ 40) → ok = false ∧ cnt = 0 ∧ d = 0 ∧ l = 0 ∧ mny = 0 ∧ ys = [] := fun h => by
    rw [runR, if_neg h] at hr; simp at hr; exact ⟨hr.1, hr.2.1.symm, hr.2.2.1.symm, hr.2.2.2.1.symm, hr.2.2.2.2.1.symm, hr.2.2.2.2.2⟩
  have hb := hS.bnd
  refine enter Try.func10 rfl rfl Try.ntmps10 rfl ?_
  refine CW.nilRow 41 5 ?_
  refine CW.seq (CW.region ?_)
  refine LW.op rfl rfl rfl (y_box rfl rfl rfl) ?_
  intro b2
  refine LW.op rfl rfl rfl (y_alloc rfl ze31) ?_
  intro b4
  refine LW.val rfl rfl rfl (x_assign rfl rfl) ?_
  refine LW.val rfl rfl rfl (x_assign rfl rfl) ?_
  refine LW.nil (QW.thenC (CW.seq (CW.seq (CW.region ?_))))
  refine LW.val rfl rfl rfl (x_loadB0 rfl rfl ty31 (by (repeat (first | exact Rem.head | apply Rem.tail)); done) rfl) ?_
  refine LW.op rfl rfl rfl (y_call rfl rfl rfl en18 (fun w HW => IsShop_ct day looms money xs A c _ (hR.up HW.below))) ?_
  rintro ⟨⟩
  refine LW.val rfl rfl rfl (x_not rfl rfl) ?_
  refine LW.val rfl rfl rfl (x_move rfl rfl) ?_
  refine LW.split (t := 16) rfl (fun h1 => ?_) (fun h1 => ?_)
  · obtain ⟨rfl, rfl, rfl, rfl, rfl, rfl⟩ := no (fun h => by rw [h.1] at h1; cases h1)
    refine LW.gF rfl rfl rfl rfl rfl rfl ?_
    refine LW.gF rfl rfl rfl rfl rfl rfl ?_
    refine LW.gF rfl rfl rfl rfl rfl rfl ?_
    refine LW.val rfl rfl rfl (x_pickT rfl rfl rfl) ?_
    refine LW.nil (QW.thenC (CW.condT rfl (CW.seq (CW.region ?_))))
    refine LW.val rfl rfl rfl (x_build rfl rfl rfl ze31 st31 pl31 (by simp [fillL, Value.cells]; rfl)) ?_
    refine LW.op0 rfl rfl (y_storeB0 rfl rfl rfl rfl ty31 rfl (by (repeat (first | exact Rem.head | apply Rem.tail)); done) rfl) ?_
    intro _u
    refine LW.val rfl rfl rfl (x_assign rfl rfl) ?_
    refine LW.val rfl rfl rfl (x_assign rfl rfl) ?_
    refine LW.nil (QW.thenC (CW.ret (QW.then_ret ?_)))
    refine QW.res3 rfl (ResV.cellN rfl ty31 (by (repeat (first | exact Rem.head | apply Rem.tail)); done) (by exact rfl)) (ResV.tmp rfl) (ResV.tmp rfl) (ret_eq ((none, 0)) ?_ ?_)
    · first | rfl | (simp only []; rfl)
    · (repeat (first | exact Sub.nil | exact Sub.all | (apply Sub.cons; (focus ((repeat (first | exact Rem.head | apply Rem.tail)); done))) | (apply Sub.row; (focus ((repeat (first | exact Rem.head | apply Rem.tail)); done)); (focus (first | with_reducible rfl | assumption | omega | (simp; done) | (simp [Nat.mul_comm]; done) | (simp; omega))); (focus (first | with_reducible rfl | assumption | omega | (simp; done) | (simp [Nat.mul_comm]; done) | (simp; omega))); (focus (first | with_reducible rfl | (simp [nums]; done) | (simp [nums]; omega) | (simp; done) | (simp; omega)))) | (apply Sub.blk; (focus ((repeat (first | exact Rem.head | apply Rem.tail)); done)); (focus (first | with_reducible rfl | (simp [nums]; done) | (simp [nums]; omega) | (simp; done) | (simp; omega)))) | fail))
  · have h1 : goodSh day looms money xs = true := by simpa using h1
    refine LW.valG rfl rfl rfl rfl rfl (x_move rfl rfl) ?_
    refine LW.valG rfl rfl rfl rfl rfl (x_len (ty := 0) rfl rfl Try.underlying32) ?_
    refine LW.valG rfl rfl rfl rfl rfl (x_gtr rfl rfl rfl) ?_
    refine LW.val rfl rfl rfl (x_pickF rfl rfl rfl) ?_
    refine LW.nil (QW.thenC ?_)
    refine CW.condD rfl (fun h2 => ?_) (fun h2 => ?_)
    · obtain ⟨rfl, rfl, rfl, rfl, rfl, rfl⟩ := no (fun h => by omega)
      refine CW.seq (CW.region ?_)
      refine LW.val rfl rfl rfl (x_build rfl rfl rfl ze31 st31 pl31 (by simp [fillL, Value.cells]; rfl)) ?_
      refine LW.op0 rfl rfl (y_storeB0 rfl rfl rfl rfl ty31 rfl (by (repeat (first | exact Rem.head | apply Rem.tail)); done) rfl) ?_
      intro _u
      refine LW.val rfl rfl rfl (x_assign rfl rfl) ?_
      refine LW.val rfl rfl rfl (x_assign rfl rfl) ?_
      refine LW.nil (QW.thenC (CW.ret (QW.then_ret ?_)))
      refine QW.res3 rfl (ResV.cellN rfl ty31 (by (repeat (first | exact Rem.head | apply Rem.tail)); done) (by exact rfl)) (ResV.tmp rfl) (ResV.tmp rfl) (ret_eq ((none, 0)) ?_ ?_)
      · first | rfl | (simp only []; rfl)
      · (repeat (first | exact Sub.nil | exact Sub.all | (apply Sub.cons; (focus ((repeat (first | exact Rem.head | apply Rem.tail)); done))) | (apply Sub.row; (focus ((repeat (first | exact Rem.head | apply Rem.tail)); done)); (focus (first | with_reducible rfl | assumption | omega | (simp; done) | (simp [Nat.mul_comm]; done) | (simp; omega))); (focus (first | with_reducible rfl | assumption | omega | (simp; done) | (simp [Nat.mul_comm]; done) | (simp; omega))); (focus (first | with_reducible rfl | (simp [nums]; done) | (simp [nums]; omega) | (simp; done) | (simp; omega)))) | (apply Sub.blk; (focus ((repeat (first | exact Rem.head | apply Rem.tail)); done)); (focus (first | with_reducible rfl | (simp [nums]; done) | (simp [nums]; omega) | (simp; done) | (simp; omega)))) | fail))
    · have hn : steps.length ≤ 40 := by omega
      rw [runR, if_pos ⟨h1, hn⟩] at hr
      refine CW.skip (QW.thenC (CW.seq (CW.region ?_)))
      refine LW.val rfl rfl rfl (x_loadB0 rfl rfl ty31 (by (repeat (first | exact Rem.head | apply Rem.tail)); done) rfl) ?_
      refine LW.op rfl rfl rfl (y_call rfl rfl rfl en29 (fun w HW => copied_ct day looms money xs A c _ (hR.up HW.below))) ?_
      rintro ⟨A1, c1⟩
      refine LW.op rfl rfl rfl (y_alloc rfl ze31) ?_
      intro b7
      refine LW.op0 rfl rfl (y_storeB0 rfl rfl rfl rfl ty31 rfl (by (repeat (first | exact Rem.head | apply Rem.tail)); done) rfl) ?_
      intro _u
      refine LW.val rfl rfl rfl (x_assign rfl rfl) ?_
      refine LW.nil (QW.thenC (CW.seq (CW.seq (CW.region ?_))))
      refine LW.val rfl rfl rfl (x_move rfl rfl) ?_
      refine LW.val rfl rfl rfl (x_len (ty := 0) rfl rfl Try.underlying32) ?_
      refine LW.val rfl rfl rfl (x_move rfl rfl) ?_
      refine LW.nil (QW.thenC (CW.block ?_))
      refine CW.loopC4 [8, 10, 11, 12, 26, 27, 28, 29, 30, 31, 32, 33, 34, 35, 36, 37, 38, 39, 40] (fun (n : Nat) (q : St) (A1 : Option Addr) (c1 : Nat) => n ≤ steps.length ∧ runN looms (day, money, xs, 0) steps n = q ∧ goodSh q.1 looms q.2.1 q.2.2.1 = true ∧ q.2.2.2 ≤ n) (fun (n : Nat) (q : St) (A1 : Option Addr) (c1 : Nat) => [(26, .int .i64 n), (8, .int .i64 q.2.2.2)]) (fun (n : Nat) (q : St) (A1 : Option Addr) (c1 : Nat) => [.blk b7 (shL q.1 looms q.2.1 A1 q.2.2.1.length c1) 31, rowCp A1 q.2.2.1.length c1 q.2.2.1]) (fun (n : Nat) (q : St) (A1 : Option Addr) (c1 : Nat) => steps.length - n) (0) ((day, money, xs, 0)) (A1) (c1) (by exact ⟨by omega, runN_zero _ _ _, h1, Nat.le_refl _⟩) (by (repeat (first | exact trivial | (refine ⟨rfl, ?_⟩) | (refine ⟨gS rfl (by omega), ?_⟩)))) (Take.blk (by (repeat (first | exact Rem.head | apply Rem.tail)); done) (by first | with_reducible rfl | rfl) (Take.row (by (repeat (first | exact Rem.head | apply Rem.tail)); done) (by first | with_reducible rfl | assumption | omega | (simp; done) | (simp [Nat.mul_comm]; done) | (simp; omega)) (by first | with_reducible rfl | assumption | omega | (simp; done) | (simp [Nat.mul_comm]; done) | (simp; omega)) (by first | with_reducible rfl | rfl) (Take.nil))) ?_
      intro n q A1 c1 hinv
      obtain ⟨d0, m0, ys0, k0⟩ := q
      obtain ⟨i1, i2, i3, i4⟩ := hinv
      have i4 : k0 ≤ n := i4
      have hl8 : ys0.length ≤ 8 := good_len i3
      refine CW.seq (CW.region ?_)
      refine LW.val rfl rfl rfl (x_lss rfl rfl rfl) ?_
      refine LW.nil (QW.thenC (CW.seq ?_))
      refine CW.condD rfl (fun h3 => ?_) (fun h3 => ?_)
      · have hi : n < steps.length := by omega
        obtain ⟨ad, rfl⟩ := hS.some hi
        obtain ⟨y, hy⟩ : ∃ y, steps[n] = y := ⟨_, rfl⟩
        have hvy : y.val ≤ 9223372036854775807 := hv y (by rw [← hy]; exact List.getElem_mem hi)
        obtain ⟨ok', d', l', m', ys', hq⟩ : ∃ ok' d' l' m' ys', stepR d0 looms m0 ys0 y = (ok', d', l', m', ys') := ⟨_, _, _, _, _, rfl⟩
        have hsu := runN_succ looms (day, money, xs, 0) steps n hi
        rw [i2, hy] at hsu
        refine CW.skip (QW.thenC (CW.seq (CW.block (CW.seq (CW.region ?_)))))
        refine LW.val rfl rfl rfl (x_idxN rfl rfl rfl el32 (by omega)) ?_
        refine LW.val rfl rfl rfl (x_loadF (y := y) hS (by simp) spLen rfl rfl ty37 (by simp [hi, hy])) ?_
        refine LW.op rfl rfl rfl (y_alloc rfl ze37) ?_
        intro b10
        refine LW.op0 rfl rfl (y_storeB0 rfl rfl rfl rfl ty37 rfl (by (repeat (first | exact Rem.head | apply Rem.tail)); done) rfl) ?_
        intro _u
        refine LW.nil (QW.thenC (CW.seq (CW.region ?_)))
        refine LW.val rfl rfl rfl (x_loadB0 rfl rfl ty31 (by (repeat (first | exact Rem.head | apply Rem.tail)); done) rfl) ?_
        refine LW.val rfl rfl rfl (x_loadB0 rfl rfl ty37 (by (repeat (first | exact Rem.head | apply Rem.tail)); done) rfl) ?_
        refine LW.op rfl rfl rfl (y_call rfl rfl rfl en30 (fun w HW => step_ct d0 looms m0 ys0 A1 c1 y _ (SH.rdR (by (repeat (first | exact Rem.head | apply Rem.tail)); done) (by omega) HW) i3 hvy ok' d' l' m' ys' hq)) ?_
        rintro ⟨A2, c2⟩
        refine LW.val rfl rfl rfl (x_move rfl rfl) ?_
        refine LW.val rfl rfl rfl (x_extract rfl rfl rfl) ?_
        refine LW.val rfl rfl rfl (x_extract rfl rfl rfl) ?_
        refine LW.op rfl rfl rfl (y_alloc rfl ze31) ?_
        intro b11
        refine LW.op0 rfl rfl (y_storeB0 rfl rfl rfl rfl ty31 rfl (by (repeat (first | exact Rem.head | apply Rem.tail)); done) rfl) ?_
        intro _u
        refine LW.val rfl rfl rfl (x_assign rfl rfl) ?_
        refine LW.nil (QW.thenC (CW.seq (CW.region ?_)))
        refine LW.val rfl rfl rfl (x_move rfl rfl) ?_
        refine LW.nil (QW.thenC ?_)
        refine CW.cond rfl (fun h4 => ?_) (fun h4 => ?_)
        · subst h4
          obtain ⟨rfl, hg'⟩ := stepR_ok hq
          refine CW.seq (CW.region ?_)
          refine LW.val rfl rfl rfl (x_loadB0 rfl rfl ty31 (by (repeat (first | exact Rem.head | apply Rem.tail)); done) rfl) ?_
          refine LW.op0 rfl rfl (y_storeB0 rfl rfl rfl rfl ty31 rfl (by (repeat (first | exact Rem.head | apply Rem.tail)); done) rfl) ?_
          intro _u
          refine LW.nil (QW.thenC (CW.region ?_))
          refine LW.val rfl rfl rfl (x_move rfl rfl) ?_
          refine LW.val rfl rfl rfl (x_add rfl rfl rfl (by omega)) ?_
          refine LW.val rfl rfl rfl (x_assign rfl rfl) ?_
          refine LW.nil (QW.in_normal (QW.thenC (CW.region ?_)))
          refine LW.val rfl rfl rfl (x_add rfl rfl rfl (by omega)) ?_
          refine LW.val rfl rfl rfl (x_move rfl rfl) ?_
          refine LW.nil ?_
          refine QW.then_ (QW.roundC4 (n + 1) ((d', m', ys', k0 + 1)) (A2) (c2) ?_ ?_ (by (repeat (first | exact trivial | (refine ⟨rfl, ?_⟩) | (refine ⟨gS rfl (by omega), ?_⟩)))) (by (repeat (first | exact Ext.refl | (refine Ext.cons rfl ?_)))) (by (repeat (first | exact Sub.nil | exact Sub.all | (apply Sub.cons; (focus ((repeat (first | exact Rem.head | apply Rem.tail)); done))) | (apply Sub.row; (focus ((repeat (first | exact Rem.head | apply Rem.tail)); done)); (focus (first | with_reducible rfl | assumption | omega | (simp; done) | (simp [Nat.mul_comm]; done) | (simp; omega))); (focus (first | with_reducible rfl | assumption | omega | (simp; done) | (simp [Nat.mul_comm]; done) | (simp; omega))); (focus (first | with_reducible rfl | (simp [nums]; done) | (simp [nums]; omega) | (simp; done) | (simp; omega)))) | (apply Sub.blk; (focus ((repeat (first | exact Rem.head | apply Rem.tail)); done)); (focus (first | with_reducible rfl | (simp [nums]; done) | (simp [nums]; omega) | (simp; done) | (simp; omega)))) | fail))))
          · exact ⟨by omega, by rw [hsu]; exact runStep_yes (q := (d0, m0, ys0, k0)) hq, hg', by show k0 + 1 ≤ n + 1; omega⟩
          · first | omega | (simp; omega)
        · subst h4
          refine CW.skip (QW.in_normal (QW.thenC (CW.region ?_)))
          refine LW.val rfl rfl rfl (x_add rfl rfl rfl (by omega)) ?_
          refine LW.val rfl rfl rfl (x_move rfl rfl) ?_
          refine LW.nil ?_
          refine QW.then_ (QW.roundC4 (n + 1) ((d0, m0, ys0, k0)) (A1) (c1) ?_ ?_ (by (repeat (first | exact trivial | (refine ⟨rfl, ?_⟩) | (refine ⟨gS rfl (by omega), ?_⟩)))) (by (repeat (first | exact Ext.refl | (refine Ext.cons rfl ?_)))) (by (repeat (first | exact Sub.nil | exact Sub.all | (apply Sub.cons; (focus ((repeat (first | exact Rem.head | apply Rem.tail)); done))) | (apply Sub.row; (focus ((repeat (first | exact Rem.head | apply Rem.tail)); done)); (focus (first | with_reducible rfl | assumption | omega | (simp; done) | (simp [Nat.mul_comm]; done) | (simp; omega))); (focus (first | with_reducible rfl | assumption | omega | (simp; done) | (simp [Nat.mul_comm]; done) | (simp; omega))); (focus (first | with_reducible rfl | (simp [nums]; done) | (simp [nums]; omega) | (simp; done) | (simp; omega)))) | (apply Sub.blk; (focus ((repeat (first | exact Rem.head | apply Rem.tail)); done)); (focus (first | with_reducible rfl | (simp [nums]; done) | (simp [nums]; omega) | (simp; done) | (simp; omega)))) | fail))))
          · exact ⟨by omega, by rw [hsu]; exact runStep_no (q := (d0, m0, ys0, k0)) hq, i3, by show k0 ≤ n + 1; omega⟩
          · first | omega | (simp; omega)
      · have e1 : n = steps.length := by omega
        subst e1
        rw [i2] at hr
        simp only [Prod.mk.injEq] at hr
        obtain ⟨rfl, rfl, rfl, rfl, rfl, rfl⟩ := hr
        refine CW.exit (QW.then_exit (QW.then_exit (QW.in_hit (QW.thenC (CW.seq (CW.region ?_))))))
        refine LW.val rfl rfl rfl (x_loadB0 rfl rfl ty31 (by (repeat (first | exact Rem.head | apply Rem.tail)); done) rfl) ?_
        refine LW.val rfl rfl rfl (x_move rfl rfl) ?_
        refine LW.op0 rfl rfl (y_storeB0 rfl rfl rfl rfl ty31 rfl (by (repeat (first | exact Rem.head | apply Rem.tail)); done) rfl) ?_
        intro _u
        refine LW.val rfl rfl rfl (x_assign rfl rfl) ?_
        refine LW.val rfl rfl rfl (x_assign rfl rfl) ?_
        refine LW.nil (QW.thenC (CW.ret ?_))
        refine QW.res3 rfl (ResV.cellN rfl ty31 (by (repeat (first | exact Rem.head | apply Rem.tail)); done) (by exact rfl)) (ResV.tmp rfl) (ResV.tmp rfl) (ret_eq ((A1, c1)) ?_ ?_)
        · first | rfl | (simp only []; rfl)
        · (repeat (first | exact Sub.nil | exact Sub.all | (apply Sub.cons; (focus ((repeat (first | exact Rem.head | apply Rem.tail)); done))) | (apply Sub.row; (focus ((repeat (first | exact Rem.head | apply Rem.tail)); done)); (focus (first | with_reducible rfl | assumption | omega | (simp; done) | (simp [Nat.mul_comm]; done) | (simp; omega))); (focus (first | with_reducible rfl | assumption | omega | (simp; done) | (simp [Nat.mul_comm]; done) | (simp; omega))); (focus (first | with_reducible rfl | (simp [nums]; done) | (simp [nums]; omega) | (simp; done) | (simp; omega)))) | (apply Sub.blk; (focus ((repeat (first | exact Rem.head | apply Rem.tail)); done)); (focus (first | with_reducible rfl | (simp [nums]; done) | (simp [nums]; omega) | (simp; done) | (simp; omega)))) | fail))
end Go.Proofs.Ytbgjlojnbdnoaaa
