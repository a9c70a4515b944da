/- The law FnEveryShop returns true. -/
import Derived.Test.YtbgjlojnbdnoaaaShop9
namespace Go.Proofs.Ytbgjlojnbdnoaaa
open Go.RowKit
set_option linter.unusedVariables false
set_option linter.unusedSimpArgs false
theorem runR_ok {day looms money d l m : Int} {xs ys : List Cp} {steps : List Sp} {cnt : Nat} (h : runR day looms money xs steps = (true, cnt, d, l, m, ys)) : goodSh day looms money xs = true ∧ steps.length ≤ 40 ∧ l = looms ∧ runN looms (day, money, xs, 0) steps steps.length = (d, m, ys, cnt) := by
  unfold runR at h
  split at h
  · rename_i h1
    simp only [Prod.mk.injEq] at h
    obtain ⟨_, h2, h3, h4, h5, h6⟩ := h
    refine ⟨h1.1, h1.2, h4.symm, ?_⟩
    rw [← h2, ← h3, ← h5, ← h6]
  · simp at h
set_option maxHeartbeats 2000000 in
set_option maxRecDepth 20000 in
theorem FnEveryShop_ct (day looms money : Int) (xs : List Cp) (A : Option Addr) (c : Nat) (steps : List Sp) (B : Option Addr) (e : Nat) (w : World) (hR : RdC w A c xs) (hS : RdS w B e steps) (hv : ∀ x ∈ steps, x.val ≤ 9223372036854775807) :
    Calls Try.prog 4 #[shV day looms money A xs.length c, .slice B steps.length e] w (Ret (fun _ : Unit => .bool true) (fun _ => []) w) := by
  obtain ⟨ok, cnt, d, l, mny, ys, hr⟩ : ∃ ok cnt d l mny ys, runR day looms money xs steps = (ok, cnt, d, l, mny, ys) := ⟨_, _, _, _, _, _, rfl⟩
  have hb := hS.bnd
  have hys : ys.length ≤ 8 ∨ ok = false := by
    cases ok with
    | false => exact .inr rfl
    | true =>
      left
      obtain ⟨h1, h2, h3, h4⟩ := runR_ok hr
      have key : ∀ n, n ≤ steps.length → goodSh (runN looms (day, money, xs, 0) steps n).1 looms (runN looms (day, money, xs, 0) steps n).2.1 (runN looms (day, money, xs, 0) steps n).2.2.1 = true := by
        intro n
        induction n with
        | zero => intro _; rw [runN_zero]; exact h1
        | succ n ih =>
          intro hn
          have hi := ih (by omega)
          rw [runN_succ _ _ _ _ (by omega)]
          generalize runN looms (day, money, xs, 0) steps n = q at hi
          obtain ⟨ok', d', l', m', ys', hq⟩ : ∃ ok' d' l' m' ys', stepR q.1 looms q.2.1 q.2.2.1 steps[n] = (ok', d', l', m', ys') := ⟨_, _, _, _, _, rfl⟩
          cases ok' with
          | true => rw [runStep_yes hq]; exact (stepR_ok hq).2
          | false => rw [runStep_no hq]; exact hi
      have := good_len (key steps.length (Nat.le_refl _))
      rw [h4] at this; exact this
  have hys' : ys.length * 40 ≤ 140737488351232 := by
    rcases hys with h | h
    · omega
    · subst h
      unfold runR at hr
      split at hr
      · simp at hr
      · simp at hr; rw [hr.2.2.2.2]; simp
  refine enter Try.func4 rfl rfl Try.ntmps4 rfl ?_
  refine CW.nilRow 41 5 ?_
  refine CW.seq (CW.region ?_)
  refine LW.op rfl rfl rfl (y_box rfl rfl rfl) ?_
  intro b2
  refine LW.val rfl rfl rfl (x_assign rfl rfl) ?_
  refine LW.nil (QW.thenC (CW.seq (CW.region ?_)))
  refine LW.val rfl rfl rfl (x_loadB0 rfl rfl ty31 (by (repeat (first | exact Rem.head | apply Rem.tail)); done) rfl) ?_
  refine LW.val rfl rfl rfl (x_move rfl rfl) ?_
  refine LW.op rfl rfl rfl (y_call rfl rfl rfl en10 (fun w HW => RunShop_ct day looms money xs A c steps B e _ (hR.up HW.below) (hS.up HW.below) hv ok cnt d l mny ys hr)) ?_
  rintro ⟨A1, c1⟩
  refine LW.val rfl rfl rfl (x_move rfl rfl) ?_
  refine LW.val rfl rfl rfl (x_extract rfl rfl rfl) ?_
  refine LW.val rfl rfl rfl (x_extract rfl rfl rfl) ?_
  refine LW.val rfl rfl rfl (x_extract rfl rfl rfl) ?_
  refine LW.op rfl rfl rfl (y_alloc rfl ze31) ?_
  intro b5
  refine LW.op0 rfl rfl (y_storeB0 rfl rfl rfl rfl ty31 rfl (by (repeat (first | exact Rem.head | apply Rem.tail)); done) rfl) ?_
  intro _u
  refine LW.val rfl rfl rfl (x_assign rfl rfl) ?_
  refine LW.val rfl rfl rfl (x_assign rfl rfl) ?_
  refine LW.nil (QW.thenC (CW.seq (CW.region ?_)))
  refine LW.val rfl rfl rfl (x_loadB0 rfl rfl ty31 (by (repeat (first | exact Rem.head | apply Rem.tail)); done) rfl) ?_
  refine LW.val rfl rfl rfl (x_move rfl rfl) ?_
  refine LW.op rfl rfl rfl (y_call rfl rfl rfl en11 (fun w HW => specRunShop_ct day looms money xs A c steps B e _ (hR.up HW.below) (hS.up HW.below) hv ok cnt d l mny ys hr)) ?_
  rintro ⟨A2, c2⟩
  refine LW.val rfl rfl rfl (x_move rfl rfl) ?_
  refine LW.val rfl rfl rfl (x_extract rfl rfl rfl) ?_
  refine LW.val rfl rfl rfl (x_extract rfl rfl rfl) ?_
  refine LW.val rfl rfl rfl (x_extract rfl rfl rfl) ?_
  refine LW.op rfl rfl rfl (y_alloc rfl ze31) ?_
  intro b8
  refine LW.op0 rfl rfl (y_storeB0 rfl rfl rfl rfl ty31 rfl (by (repeat (first | exact Rem.head | apply Rem.tail)); done) rfl) ?_
  intro _u
  refine LW.val rfl rfl rfl (x_assign rfl rfl) ?_
  refine LW.val rfl rfl rfl (x_assign rfl rfl) ?_
  refine LW.nil (QW.thenC (CW.seq (CW.seq (CW.region ?_))))
  refine LW.val rfl rfl rfl (x_move rfl rfl) ?_
  refine LW.val rfl rfl rfl (x_move rfl rfl) ?_
  refine LW.val rfl rfl rfl (x_neqB rfl rfl rfl Try.underlying4) ?_
  refine LW.val rfl rfl rfl (x_move rfl rfl) ?_
  refine LW.split (t := 38) rfl (fun hno => absurd hno (by simp)) (fun _ => ?_)
  refine LW.valG rfl rfl rfl rfl rfl (x_move rfl rfl) ?_
  refine LW.valG rfl rfl rfl rfl rfl (x_move rfl rfl) ?_
  refine LW.valG rfl rfl rfl rfl rfl (x_neq rfl rfl rfl) ?_
  refine LW.val rfl rfl rfl (x_pickF rfl rfl rfl) ?_
  refine LW.val rfl rfl rfl (x_move rfl rfl) ?_
  refine LW.split (t := 43) rfl (fun hno => absurd hno (by simp)) (fun _ => ?_)
  refine LW.valG rfl rfl rfl rfl rfl (x_loadB0 rfl rfl ty31 (by (repeat (first | exact Rem.head | apply Rem.tail)); done) rfl) ?_
  refine LW.valG rfl rfl rfl rfl rfl (x_loadB0 rfl rfl ty31 (by (repeat (first | exact Rem.head | apply Rem.tail)); done) rfl) ?_
  refine LW.opG rfl rfl rfl rfl rfl (y_call rfl rfl rfl en12 (fun w HW => tdShop_ct d l mny ys A1 c1 A2 c2 _ (SH.rdR (by (repeat (first | exact Rem.head | apply Rem.tail)); done) hys' HW) (SH.rdR (by (repeat (first | exact Rem.head | apply Rem.tail)); done) hys' HW))) ?_
  rintro ⟨⟩
  refine LW.valG rfl rfl rfl rfl rfl (x_not rfl rfl) ?_
  refine LW.val rfl rfl rfl (x_pickF rfl rfl rfl) ?_
  refine LW.nil (QW.thenC ?_)
  refine CW.cond rfl (fun hno => absurd hno (by decide)) (fun _ => ?_)
  refine CW.skip (QW.thenC (CW.seq (CW.seq (CW.region ?_))))
  refine LW.val rfl rfl rfl (x_move rfl rfl) ?_
  refine LW.val rfl rfl rfl (x_not rfl rfl) ?_
  refine LW.nil (QW.thenC ?_)
  refine CW.cond rfl (fun ho => ?_) (fun ho => ?_)
  · refine CW.seq (CW.region ?_)
    refine LW.val rfl rfl rfl (x_assign rfl rfl) ?_
    refine LW.nil (QW.thenC (CW.ret (QW.then_ret ?_)))
    refine QW.res1 rfl (ResV.tmp rfl) (ret_eq (()) ?_ ?_)
    · first | rfl | (simp only []; rfl)
    · (repeat (first | exact Sub.nil | exact Sub.all | (apply Sub.cons; (focus ((repeat (first | exact Rem.head | apply Rem.tail)); done))) | (apply Sub.row; (focus ((repeat (first | exact Rem.head | apply Rem.tail)); done)); (focus (first | with_reducible rfl | assumption | omega | (simp; done) | (simp [Nat.mul_comm]; done) | (simp; omega))); (focus (first | with_reducible rfl | assumption | omega | (simp; done) | (simp [Nat.mul_comm]; done) | (simp; omega))); (focus (first | with_reducible rfl | (simp [nums]; done) | (simp [nums]; omega) | (simp; done) | (simp; omega)))) | (apply Sub.blk; (focus ((repeat (first | exact Rem.head | apply Rem.tail)); done)); (focus (first | with_reducible rfl | (simp [nums]; done) | (simp [nums]; omega) | (simp; done) | (simp; omega)))) | fail))
  · have ho : ok = true := by simpa using ho
    subst ho
    obtain ⟨h1, hn, hl, hrun⟩ := runR_ok hr
    subst hl
    refine CW.skip (QW.thenC (CW.seq (CW.region ?_)))
    refine LW.val rfl rfl rfl (x_loadB0 rfl rfl ty31 (by (repeat (first | exact Rem.head | apply Rem.tail)); done) rfl) ?_
    refine LW.op rfl rfl rfl (y_alloc rfl ze31) ?_
    intro b11
    refine LW.op0 rfl rfl (y_storeB0 rfl rfl rfl rfl ty31 rfl (by (repeat (first | exact Rem.head | apply Rem.tail)); done) rfl) ?_
    intro _u
    refine LW.val rfl rfl rfl (x_assign rfl rfl) ?_
    refine LW.nil (QW.thenC (CW.seq (CW.seq (CW.region ?_))))
    refine LW.val rfl rfl rfl (x_move rfl rfl) ?_
    refine LW.val rfl rfl rfl (x_len (ty := 0) rfl rfl Try.underlying32) ?_
    refine LW.val rfl rfl rfl (x_move rfl rfl) ?_
    refine LW.nil (QW.thenC (CW.block ?_))
    refine CW.loopC5 [4, 12, 14, 15, 16, 17, 18, 19, 20, 54, 55, 56, 57, 58, 59, 60, 61, 62, 63, 64, 65, 66, 67, 68, 69, 70, 71, 72, 73, 74, 75, 76, 77, 78, 79, 80, 81, 82, 83, 84, 85, 86, 87, 88, 89, 90, 91, 92, 93, 94, 95, 96, 97, 98, 99, 100, 101, 102, 103, 104, 105, 106, 107, 108, 109, 110, 111, 112, 113, 114, 115, 116, 117, 118, 119, 120, 121, 122, 123, 124, 125, 126, 127, 128, 129, 130, 131, 132, 133, 134, 135, 136, 137, 138, 139, 140, 141, 142, 143, 144, 145, 146, 147, 148, 149, 150, 151, 152, 153] (fun (n : Nat) (q : St) (p3 : Option Addr × Nat) (p4 : Option Addr × Nat) (zs : List Cp) => n ≤ steps.length ∧ runN l (day, money, xs, 0) steps n = q ∧ goodSh q.1 l q.2.1 q.2.2.1 = true ∧ q.2.2.2 ≤ n ∧ ((p3 = (A, c) ∧ q.2.2.1 = xs) ∨ (p3 = p4 ∧ q.2.2.1 = zs))) (fun (n : Nat) (q : St) (p3 : Option Addr × Nat) (p4 : Option Addr × Nat) (zs : List Cp) => [(54, .int .i64 n), (12, .int .i64 q.2.2.2)]) (fun (n : Nat) (q : St) (p3 : Option Addr × Nat) (p4 : Option Addr × Nat) (zs : List Cp) => [.blk b11 (shL q.1 l q.2.1 p3.1 q.2.2.1.length p3.2) 31, rowCp p4.1 zs.length p4.2 zs]) (fun (n : Nat) (q : St) (p3 : Option Addr × Nat) (p4 : Option Addr × Nat) (zs : List Cp) => steps.length - n) (0) ((day, money, xs, 0)) ((A, c)) ((none, 0)) ([]) (by exact ⟨by omega, runN_zero _ _ _, h1, Nat.le_refl _, .inl ⟨rfl, rfl⟩⟩) (by (repeat (first | exact trivial | (refine ⟨rfl, ?_⟩) | (refine ⟨gS rfl (by omega), ?_⟩)))) (Take.blk (by (repeat (first | exact Rem.head | apply Rem.tail)); done) (by first | with_reducible rfl | rfl) (Take.row (by (repeat (first | exact Rem.head | apply Rem.tail)); done) (by first | with_reducible rfl | assumption | omega | (simp; done) | (simp [Nat.mul_comm]; done) | (simp; omega)) (by first | with_reducible rfl | assumption | omega | (simp; done) | (simp [Nat.mul_comm]; done) | (simp; omega)) (by first | with_reducible rfl | rfl) (Take.nil))) ?_
    intro n q p3 p4 zs hinv
    obtain ⟨d0, m0, ys0, k0⟩ := q
    obtain ⟨A3, c3⟩ := p3
    obtain ⟨A4, c4⟩ := p4
    obtain ⟨i1, i2, i3, i4, i5⟩ := hinv
    have i4 : k0 ≤ n := i4
    have i5 : (A3 = A ∧ c3 = c ∧ ys0 = xs) ∨ (A3 = A4 ∧ c3 = c4 ∧ ys0 = zs) := by
      rcases i5 with ⟨h, h'⟩ | ⟨h, h'⟩
      · left; simp at h; exact ⟨h.1, h.2, h'⟩
      · right; simp at h; exact ⟨h.1, h.2, h'⟩
    have hl8 : ys0.length ≤ 8 := good_len i3
    have hread : ∀ (W : World) (L l' : List Fct), SH w [] W L → Rem L (rowCp A4 zs.length c4 zs) l' → RdC W A3 c3 ys0 := fun W L l' hWW hrem => by
      rcases i5 with ⟨rfl, rfl, rfl⟩ | ⟨rfl, rfl, rfl⟩
      · exact hR.up hWW.below
      · exact SH.rdR hrem (by omega) hWW
    refine CW.seq (CW.region ?_)
    refine LW.val rfl rfl rfl (x_lss rfl rfl rfl) ?_
    refine LW.nil (QW.thenC (CW.seq ?_))
    refine CW.condD rfl (fun h3 => ?_) (fun h3 => ?_)
    · have hi : n < steps.length := by omega
      obtain ⟨ad, rfl⟩ := hS.some hi
      obtain ⟨y, hy⟩ : ∃ y, steps[n] = y := ⟨_, rfl⟩
      have hvy : y.val ≤ 9223372036854775807 := hv y (by rw [← hy]; exact List.getElem_mem hi)
      obtain ⟨ok', d', l', m', ys', hq⟩ : ∃ ok' d' l' m' ys', stepR d0 l m0 ys0 y = (ok', d', l', m', ys') := ⟨_, _, _, _, _, rfl⟩
      have hsu := runN_succ l (day, money, xs, 0) steps n hi
      rw [i2, hy] at hsu
      refine CW.skip (QW.thenC (CW.seq (CW.block (CW.seq (CW.region ?_)))))
      refine LW.val rfl rfl rfl (x_idxN rfl rfl rfl el32 (by omega)) ?_
      refine LW.val rfl rfl rfl (x_loadF (y := y) hS (by simp) spLen rfl rfl ty37 (by simp [hi, hy])) ?_
      refine LW.op rfl rfl rfl (y_alloc rfl ze37) ?_
      intro b14
      refine LW.op0 rfl rfl (y_storeB0 rfl rfl rfl rfl ty37 rfl (by (repeat (first | exact Rem.head | apply Rem.tail)); done) rfl) ?_
      intro _u
      refine LW.nil (QW.thenC (CW.seq (CW.region ?_)))
      refine LW.val rfl rfl rfl (x_loadB0 rfl rfl ty31 (by (repeat (first | exact Rem.head | apply Rem.tail)); done) rfl) ?_
      refine LW.val rfl rfl rfl (x_loadB0 rfl rfl ty37 (by (repeat (first | exact Rem.head | apply Rem.tail)); done) rfl) ?_
      refine LW.op rfl rfl rfl (y_call rfl rfl rfl en13 (fun w HW => StepShop_ct d0 l m0 ys0 A3 c3 y _ (hread _ _ _ HW (by (repeat (first | exact Rem.head | apply Rem.tail)); done)) i3 hvy ok' d' l' m' ys' hq)) ?_
      rintro ⟨A5, c5⟩
      refine LW.val rfl rfl rfl (x_move rfl rfl) ?_
      refine LW.val rfl rfl rfl (x_extract rfl rfl rfl) ?_
      refine LW.val rfl rfl rfl (x_extract rfl rfl rfl) ?_
      refine LW.op rfl rfl rfl (y_alloc rfl ze31) ?_
      intro b15
      refine LW.op0 rfl rfl (y_storeB0 rfl rfl rfl rfl ty31 rfl (by (repeat (first | exact Rem.head | apply Rem.tail)); done) rfl) ?_
      intro _u
      refine LW.val rfl rfl rfl (x_assign rfl rfl) ?_
      refine LW.nil (QW.thenC (CW.seq (CW.seq (CW.region ?_))))
      refine LW.val rfl rfl rfl (x_move rfl rfl) ?_
      refine LW.val rfl rfl rfl (x_not rfl rfl) ?_
      refine LW.nil (QW.thenC ?_)
      refine CW.cond rfl (fun h4 => ?_) (fun h4 => ?_)
      · have h4 : ok' = false := by simpa using h4
        subst h4
        refine CW.exit (QW.then_exit (QW.in_hit (QW.thenC (CW.region ?_))))
        refine LW.val rfl rfl rfl (x_add rfl rfl rfl (by omega)) ?_
        refine LW.val rfl rfl rfl (x_move rfl rfl) ?_
        refine LW.nil ?_
        refine QW.then_ (QW.roundC5 (n + 1) ((d0, m0, ys0, k0)) ((A3, c3)) ((A4, c4)) (zs) ?_ ?_ (by (repeat (first | exact trivial | (refine ⟨rfl, ?_⟩) | (refine ⟨gS rfl (by omega), ?_⟩)))) (by (repeat (first | exact Ext.refl | (refine Ext.cons rfl ?_)))) (by (repeat (first | exact Sub.nil | exact Sub.all | (apply Sub.cons; (focus ((repeat (first | exact Rem.head | apply Rem.tail)); done))) | (apply Sub.row; (focus ((repeat (first | exact Rem.head | apply Rem.tail)); done)); (focus (first | with_reducible rfl | assumption | omega | (simp; done) | (simp [Nat.mul_comm]; done) | (simp; omega))); (focus (first | with_reducible rfl | assumption | omega | (simp; done) | (simp [Nat.mul_comm]; done) | (simp; omega))); (focus (first | with_reducible rfl | (simp [nums]; done) | (simp [nums]; omega) | (simp; done) | (simp; omega)))) | (apply Sub.blk; (focus ((repeat (first | exact Rem.head | apply Rem.tail)); done)); (focus (first | with_reducible rfl | (simp [nums]; done) | (simp [nums]; omega) | (simp; done) | (simp; omega)))) | fail))))
        · exact ⟨by omega, by rw [hsu]; exact runStep_no (q := (d0, m0, ys0, k0)) hq, i3, by show k0 ≤ n + 1; omega, by rcases i5 with ⟨h1, h2, h3⟩ | ⟨h1, h2, h3⟩; exact .inl ⟨by rw [h1, h2], h3⟩; exact .inr ⟨by rw [h1, h2], h3⟩⟩
        · first | omega | (simp; omega)
      · have h4 : ok' = true := by simpa using h4
        subst h4
        obtain ⟨hll, hg'⟩ := stepR_ok hq
        subst hll
        obtain ⟨hlen, hfair⟩ := step_fair i3 hq
        have hl8' : ys'.length ≤ 8 := good_len hg'
        refine CW.skip (QW.thenC (CW.seq (CW.seq (CW.region ?_))))
        refine LW.val rfl rfl rfl (x_fieldAddr rfl rfl fl31_2 rfl) ?_
        refine LW.val rfl rfl rfl (x_loadB rfl rfl ty29 (by (repeat (first | exact Rem.head | apply Rem.tail)); done) (by exact rfl)) ?_
        refine LW.val rfl rfl rfl (x_len (ty := 0) rfl rfl Try.underlying29) ?_
        refine LW.val rfl rfl rfl (x_move rfl rfl) ?_
        refine LW.nil (QW.thenC (CW.block ?_))
        refine CW.loopC1 [4, 17, 18, 19, 20, 69, 70, 71, 72, 73, 74, 75, 76, 77, 78, 79, 80, 81, 82, 83, 84, 85, 86, 87, 88, 89, 90, 91, 92, 93, 94, 95, 96, 97, 98, 99, 100, 101, 102, 103, 104, 105, 106, 107, 108, 109, 110, 111, 112, 113, 114, 115, 116, 117, 118, 119, 120, 121, 122, 123, 124, 125, 126, 127, 128, 129, 130, 131, 132, 133, 134, 135, 136, 137, 138, 139, 140, 141, 142, 143, 144, 145, 146, 147, 148, 149] (fun (i : Nat) => i ≤ ys0.length) (fun (i : Nat) => [(69, .int .i64 i)]) (fun (i : Nat) => []) (fun (i : Nat) => ys0.length - i) (0) (by first | exact trivial | omega) (by (repeat (first | exact trivial | (refine ⟨rfl, ?_⟩) | (refine ⟨gS rfl (by omega), ?_⟩)))) (Take.nil) ?_
        intro i hinv
        refine CW.seq (CW.region ?_)
        refine LW.val rfl rfl rfl (x_lss rfl rfl rfl) ?_
        refine LW.nil (QW.thenC (CW.seq ?_))
        refine CW.condD rfl (fun h5 => ?_) (fun h5 => ?_)
        · have h5 : (i : Int) < (ys0.length : Int) := h5
          have hi0 : i < ys0.length := by omega
          have hi1 : i < ys'.length := by omega
          obtain ⟨y0, hy0⟩ : ∃ y0, ys0[i] = y0 := ⟨_, rfl⟩
          obtain ⟨y1, hy1⟩ : ∃ y1, ys'[i] = y1 := ⟨_, rfl⟩
          obtain ⟨f1, f2, f3, f4, f5, f6⟩ := hfair i y0 y1 (by simp [hi0, hy0]) (by simp [hi1, hy1])
          have hyc := okAt_carpet hi0 ((goodSh_iff.1 i3).2.2.2.2 i hi0)
          rw [hy0] at hyc
          have g0 := inB_iff.1 (goodSh_iff.1 i3).1
          have g1 := inB_iff.1 (goodSh_iff.1 hg').1
          simp only [carpetOk, Bool.and_eq_true, inB_iff] at hyc
          obtain ⟨⟨⟨⟨b1, b2⟩, b3⟩, b4⟩, _⟩ := hyc
          refine CW.fact (p := ∃ ad3, A3 = some ad3) (fun W hW => (hread _ _ _ hW (by (repeat (first | exact Rem.head | apply Rem.tail)); done)).some hi0) ?_
          rintro ⟨ad3, rfl⟩
          refine CW.open_ (e := 41) (sz := 5) (A := A5) (m := ys'.length) (c := c5) (n' := ys'.length) (cs := flat cpL ys') (by (repeat (first | exact Rem.head | apply Rem.tail)); done) (by rw [flat_len cpLen]; omega) ?_
          rintro g5 rfl
          refine CW.skip (QW.thenC (CW.seq (CW.block (CW.seq (CW.region ?_)))))
          refine LW.val rfl rfl rfl (x_move rfl rfl) ?_
          refine LW.val rfl rfl rfl (x_idxN rfl rfl rfl el29 (by omega)) ?_
          refine LW.val rfl rfl rfl (x_loadW (y := y0) (fun W hW => hread _ _ _ hW (by (repeat (first | exact Rem.head | apply Rem.tail)); done)) cpLen rfl rfl ty41 (by simp [hi0, hy0])) ?_
          refine LW.op rfl rfl rfl (y_alloc rfl ze41) ?_
          intro b18
          refine LW.val rfl rfl rfl (x_assign rfl rfl) ?_
          refine LW.op0 rfl rfl (y_storeB0 rfl rfl rfl rfl ty41 rfl (by (repeat (first | exact Rem.head | apply Rem.tail)); done) rfl) ?_
          intro _u
          refine LW.nil (QW.thenC (CW.seq (CW.region ?_)))
          refine LW.val rfl rfl rfl (x_fieldAddr rfl rfl fl31_2 rfl) ?_
          refine LW.val rfl rfl rfl (x_loadB rfl rfl ty29 (by (repeat (first | exact Rem.head | apply Rem.tail)); done) (by exact rfl)) ?_
          refine LW.val rfl rfl rfl (x_move rfl rfl) ?_
          refine LW.val rfl rfl rfl (x_idxN rfl rfl rfl el29 (by omega)) ?_
          refine LW.val rfl rfl rfl (x_loadO (xs := ys') (g := g5) (y := y1) (by (repeat (first | exact Rem.head | apply Rem.tail)); done) cpLen rfl rfl ty41 (by simp [hi1, hy1])) ?_
          refine LW.op rfl rfl rfl (y_alloc rfl ze41) ?_
          intro b19
          refine LW.op0 rfl rfl (y_storeB0 rfl rfl rfl rfl ty41 rfl (by (repeat (first | exact Rem.head | apply Rem.tail)); done) rfl) ?_
          intro _u
          refine LW.nil (QW.thenC (CW.seq (CW.region ?_)))
          refine LW.val rfl rfl rfl (x_fieldAddr rfl rfl fl41_2 rfl) ?_
          refine LW.val rfl rfl rfl (x_loadB rfl rfl ty3 (by (repeat (first | exact Rem.head | apply Rem.tail)); done) (by exact rfl)) ?_
          refine LW.val rfl rfl rfl (x_eql rfl rfl rfl) ?_
          refine LW.val rfl rfl rfl (x_move rfl rfl) ?_
          refine LW.split (t := 82) rfl (fun h82 => ?_) (fun h82 => ?_)
          · skip
            refine LW.valG rfl rfl rfl rfl rfl (x_fieldAddr rfl rfl fl41_2 rfl) ?_
            refine LW.valG rfl rfl rfl rfl rfl (x_loadB rfl rfl ty3 (by (repeat (first | exact Rem.head | apply Rem.tail)); done) (by exact rfl)) ?_
            refine LW.valG rfl rfl rfl rfl rfl (x_neq rfl rfl rfl) ?_
            refine LW.val rfl rfl rfl (x_pickT rfl rfl rfl) ?_
            refine LW.val rfl rfl rfl (x_assign rfl rfl) ?_
            refine LW.nil (QW.thenC (CW.seq (CW.region ?_)))
            refine LW.val rfl rfl rfl (x_move rfl rfl) ?_
            refine LW.val rfl rfl rfl (x_move rfl rfl) ?_
            refine LW.split (t := 88) rfl (fun h88 => ?_) (fun h88 => ?_)
            · skip
              refine LW.valG rfl rfl rfl rfl rfl (x_fieldAddr rfl rfl fl41_1 rfl) ?_
              refine LW.valG rfl rfl rfl rfl rfl (x_loadB rfl rfl ty3 (by (repeat (first | exact Rem.head | apply Rem.tail)); done) (by exact rfl)) ?_
              refine LW.valG rfl rfl rfl rfl rfl (x_fieldAddr rfl rfl fl41_0 rfl) ?_
              refine LW.valG rfl rfl rfl rfl rfl (x_loadB rfl rfl ty3 (by (repeat (first | exact Rem.head | apply Rem.tail)); done) (by exact rfl)) ?_
              refine LW.valG rfl rfl rfl rfl rfl (x_neq rfl rfl rfl) ?_
              refine LW.valG rfl rfl rfl rfl rfl (x_move rfl rfl) ?_
              refine LW.split (t := 94) rfl (fun h94 => ?_) (fun h94 => ?_)
              · skip
                refine LW.gF rfl rfl rfl rfl rfl rfl ?_
                refine LW.gF rfl rfl rfl rfl rfl rfl ?_
                refine LW.gF rfl rfl rfl rfl rfl rfl ?_
                refine LW.valG rfl rfl rfl rfl rfl (x_pickT rfl rfl rfl) ?_
                refine LW.valG rfl rfl rfl rfl rfl (x_move rfl rfl) ?_
                refine LW.gF rfl rfl rfl rfl rfl rfl ?_
                refine LW.gF rfl rfl rfl rfl rfl rfl ?_
                refine LW.gF rfl rfl rfl rfl rfl rfl ?_
                refine LW.gF rfl rfl rfl rfl rfl rfl ?_
                refine LW.gF rfl rfl rfl rfl rfl rfl ?_
                refine LW.gF rfl rfl rfl rfl rfl rfl ?_
                refine LW.valG rfl rfl rfl rfl rfl (x_pickT rfl rfl rfl) ?_
                refine LW.val rfl rfl rfl (x_pickT rfl rfl rfl) ?_
                refine LW.val rfl rfl rfl (x_move rfl rfl) ?_
                refine LW.gF rfl rfl rfl rfl rfl rfl ?_
                refine LW.gF rfl rfl rfl rfl rfl rfl ?_
                refine LW.gF rfl rfl rfl rfl rfl rfl ?_
                refine LW.gF rfl rfl rfl rfl rfl rfl ?_
                refine LW.gF rfl rfl rfl rfl rfl rfl ?_
                refine LW.val rfl rfl rfl (x_pickT rfl rfl rfl) ?_
                refine LW.val rfl rfl rfl (x_move rfl rfl) ?_
                refine LW.gF rfl rfl rfl rfl rfl rfl ?_
                refine LW.gF rfl rfl rfl rfl rfl rfl ?_
                refine LW.gF rfl rfl rfl rfl rfl rfl ?_
                refine LW.gF rfl rfl rfl rfl rfl rfl ?_
                refine LW.gF rfl rfl rfl rfl rfl rfl ?_
                refine LW.gF rfl rfl rfl rfl rfl rfl ?_
                refine LW.val rfl rfl rfl (x_pickT rfl rfl rfl) ?_
                refine LW.val rfl rfl rfl (x_move rfl rfl) ?_
                refine LW.gF rfl rfl rfl rfl rfl rfl ?_
                refine LW.gF rfl rfl rfl rfl rfl rfl ?_
                refine LW.gF rfl rfl rfl rfl rfl rfl ?_
                refine LW.gF rfl rfl rfl rfl rfl rfl ?_
                refine LW.gF rfl rfl rfl rfl rfl rfl ?_
                refine LW.val rfl rfl rfl (x_pickT rfl rfl rfl) ?_
                refine LW.val rfl rfl rfl (x_move rfl rfl) ?_
                refine LW.gF rfl rfl rfl rfl rfl rfl ?_
                refine LW.gF rfl rfl rfl rfl rfl rfl ?_
                refine LW.gF rfl rfl rfl rfl rfl rfl ?_
                refine LW.gF rfl rfl rfl rfl rfl rfl ?_
                refine LW.gF rfl rfl rfl rfl rfl rfl ?_
                refine LW.val rfl rfl rfl (x_pickT rfl rfl rfl) ?_
                refine LW.val rfl rfl rfl (x_move rfl rfl) ?_
                refine LW.gF rfl rfl rfl rfl rfl rfl ?_
                refine LW.gF rfl rfl rfl rfl rfl rfl ?_
                refine LW.gF rfl rfl rfl rfl rfl rfl ?_
                refine LW.gF rfl rfl rfl rfl rfl rfl ?_
                refine LW.gF rfl rfl rfl rfl rfl rfl ?_
                refine LW.gF rfl rfl rfl rfl rfl rfl ?_
                refine LW.gF rfl rfl rfl rfl rfl rfl ?_
                refine LW.gF rfl rfl rfl rfl rfl rfl ?_
                refine LW.gF rfl rfl rfl rfl rfl rfl ?_
                refine LW.gF rfl rfl rfl rfl rfl rfl ?_
                refine LW.val rfl rfl rfl (x_pickT rfl rfl rfl) ?_
                refine LW.nil (QW.thenC (CW.condT rfl (CW.seq (CW.region ?_))))
                refine LW.val rfl rfl rfl (x_assign rfl rfl) ?_
                refine LW.nil (QW.thenC (CW.ret (QW.in_ret (QW.then_ret (QW.then_ret (QW.in_ret (QW.then_ret (QW.in_ret (QW.then_ret (QW.then_ret (QW.in_ret (QW.then_ret ?_))))))))))))
                refine QW.res1 rfl (ResV.tmp rfl) (ret_eq (()) ?_ ?_)
                · (exfalso; clear hfair hread hq hsu i2 i5 hr hrun hv; first | (simp_all; done) | (simp_all; omega) | (have f7 := f1 (by simpa using h82) (by simpa using h88); simp at h108; omega))
                · (repeat (first | exact Sub.nil | exact Sub.all | (apply Sub.cons; (focus ((repeat (first | exact Rem.head | apply Rem.tail)); done))) | (apply Sub.row; (focus ((repeat (first | exact Rem.head | apply Rem.tail)); done)); (focus (first | with_reducible rfl | assumption | omega | (simp; done) | (simp [Nat.mul_comm]; done) | (simp; omega))); (focus (first | with_reducible rfl | assumption | omega | (simp; done) | (simp [Nat.mul_comm]; done) | (simp; omega))); (focus (first | with_reducible rfl | (simp [nums]; done) | (simp [nums]; omega) | (simp; done) | (simp; omega)))) | (apply Sub.blk; (focus ((repeat (first | exact Rem.head | apply Rem.tail)); done)); (focus (first | with_reducible rfl | (simp [nums]; done) | (simp [nums]; omega) | (simp; done) | (simp; omega)))) | fail))
              · skip
                refine LW.valG rfl rfl rfl rfl rfl (x_fieldAddr rfl rfl fl41_2 rfl) ?_
                refine LW.valG rfl rfl rfl rfl rfl (x_loadB rfl rfl ty3 (by (repeat (first | exact Rem.head | apply Rem.tail)); done) (by exact rfl)) ?_
                refine LW.valG rfl rfl rfl rfl rfl (x_neq rfl rfl rfl) ?_
                refine LW.valG rfl rfl rfl rfl rfl (x_pickF rfl rfl rfl) ?_
                refine LW.valG rfl rfl rfl rfl rfl (x_move rfl rfl) ?_
                refine LW.split (t := 99) rfl (fun h99 => ?_) (fun h99 => ?_)
                · skip
                  refine LW.gF rfl rfl rfl rfl rfl rfl ?_
                  refine LW.gF rfl rfl rfl rfl rfl rfl ?_
                  refine LW.gF rfl rfl rfl rfl rfl rfl ?_
                  refine LW.gF rfl rfl rfl rfl rfl rfl ?_
                  refine LW.gF rfl rfl rfl rfl rfl rfl ?_
                  refine LW.gF rfl rfl rfl rfl rfl rfl ?_
                  refine LW.valG rfl rfl rfl rfl rfl (x_pickT rfl rfl rfl) ?_
                  refine LW.val rfl rfl rfl (x_pickT rfl rfl rfl) ?_
                  refine LW.val rfl rfl rfl (x_move rfl rfl) ?_
                  refine LW.gF rfl rfl rfl rfl rfl rfl ?_
                  refine LW.gF rfl rfl rfl rfl rfl rfl ?_
                  refine LW.gF rfl rfl rfl rfl rfl rfl ?_
                  refine LW.gF rfl rfl rfl rfl rfl rfl ?_
                  refine LW.gF rfl rfl rfl rfl rfl rfl ?_
                  refine LW.val rfl rfl rfl (x_pickT rfl rfl rfl) ?_
                  refine LW.val rfl rfl rfl (x_move rfl rfl) ?_
                  refine LW.gF rfl rfl rfl rfl rfl rfl ?_
                  refine LW.gF rfl rfl rfl rfl rfl rfl ?_
                  refine LW.gF rfl rfl rfl rfl rfl rfl ?_
                  refine LW.gF rfl rfl rfl rfl rfl rfl ?_
                  refine LW.gF rfl rfl rfl rfl rfl rfl ?_
                  refine LW.gF rfl rfl rfl rfl rfl rfl ?_
                  refine LW.val rfl rfl rfl (x_pickT rfl rfl rfl) ?_
                  refine LW.val rfl rfl rfl (x_move rfl rfl) ?_
                  refine LW.gF rfl rfl rfl rfl rfl rfl ?_
                  refine LW.gF rfl rfl rfl rfl rfl rfl ?_
                  refine LW.gF rfl rfl rfl rfl rfl rfl ?_
                  refine LW.gF rfl rfl rfl rfl rfl rfl ?_
                  refine LW.gF rfl rfl rfl rfl rfl rfl ?_
                  refine LW.val rfl rfl rfl (x_pickT rfl rfl rfl) ?_
                  refine LW.val rfl rfl rfl (x_move rfl rfl) ?_
                  refine LW.gF rfl rfl rfl rfl rfl rfl ?_
                  refine LW.gF rfl rfl rfl rfl rfl rfl ?_
                  refine LW.gF rfl rfl rfl rfl rfl rfl ?_
                  refine LW.gF rfl rfl rfl rfl rfl rfl ?_
                  refine LW.gF rfl rfl rfl rfl rfl rfl ?_
                  refine LW.val rfl rfl rfl (x_pickT rfl rfl rfl) ?_
                  refine LW.val rfl rfl rfl (x_move rfl rfl) ?_
                  refine LW.gF rfl rfl rfl rfl rfl rfl ?_
                  refine LW.gF rfl rfl rfl rfl rfl rfl ?_
                  refine LW.gF rfl rfl rfl rfl rfl rfl ?_
                  refine LW.gF rfl rfl rfl rfl rfl rfl ?_
                  refine LW.gF rfl rfl rfl rfl rfl rfl ?_
                  refine LW.gF rfl rfl rfl rfl rfl rfl ?_
                  refine LW.gF rfl rfl rfl rfl rfl rfl ?_
                  refine LW.gF rfl rfl rfl rfl rfl rfl ?_
                  refine LW.gF rfl rfl rfl rfl rfl rfl ?_
                  refine LW.gF rfl rfl rfl rfl rfl rfl ?_
                  refine LW.val rfl rfl rfl (x_pickT rfl rfl rfl) ?_
                  refine LW.nil (QW.thenC (CW.condT rfl (CW.seq (CW.region ?_))))
                  refine LW.val rfl rfl rfl (x_assign rfl rfl) ?_
                  refine LW.nil (QW.thenC (CW.ret (QW.in_ret (QW.then_ret (QW.then_ret (QW.in_ret (QW.then_ret (QW.in_ret (QW.then_ret (QW.then_ret (QW.in_ret (QW.then_ret ?_))))))))))))
                  refine QW.res1 rfl (ResV.tmp rfl) (ret_eq (()) ?_ ?_)
                  · (exfalso; clear hfair hread hq hsu i2 i5 hr hrun hv; first | (simp_all; done) | (simp_all; omega) | (have f7 := f1 (by simpa using h82) (by simpa using h88); simp at h108; omega))
                  · (repeat (first | exact Sub.nil | exact Sub.all | (apply Sub.cons; (focus ((repeat (first | exact Rem.head | apply Rem.tail)); done))) | (apply Sub.row; (focus ((repeat (first | exact Rem.head | apply Rem.tail)); done)); (focus (first | with_reducible rfl | assumption | omega | (simp; done) | (simp [Nat.mul_comm]; done) | (simp; omega))); (focus (first | with_reducible rfl | assumption | omega | (simp; done) | (simp [Nat.mul_comm]; done) | (simp; omega))); (focus (first | with_reducible rfl | (simp [nums]; done) | (simp [nums]; omega) | (simp; done) | (simp; omega)))) | (apply Sub.blk; (focus ((repeat (first | exact Rem.head | apply Rem.tail)); done)); (focus (first | with_reducible rfl | (simp [nums]; done) | (simp [nums]; omega) | (simp; done) | (simp; omega)))) | fail))
                · skip
                  refine LW.valG rfl rfl rfl rfl rfl (x_fieldAddr rfl rfl fl31_0 rfl) ?_
                  refine LW.valG rfl rfl rfl rfl rfl (x_loadB rfl rfl ty3 (by (repeat (first | exact Rem.head | apply Rem.tail)); done) (by exact rfl)) ?_
                  refine LW.valG rfl rfl rfl rfl rfl (x_fieldAddr rfl rfl fl41_4 rfl) ?_
                  refine LW.valG rfl rfl rfl rfl rfl (x_loadB rfl rfl ty3 (by (repeat (first | exact Rem.head | apply Rem.tail)); done) (by exact rfl)) ?_
                  refine LW.valG rfl rfl rfl rfl rfl (x_sub rfl rfl rfl (by omega)) ?_
                  refine LW.valG rfl rfl rfl rfl rfl (x_lss rfl rfl rfl) ?_
                  refine LW.valG rfl rfl rfl rfl rfl (x_pickF rfl rfl rfl) ?_
                  refine LW.val rfl rfl rfl (x_pickT rfl rfl rfl) ?_
                  refine LW.val rfl rfl rfl (x_move rfl rfl) ?_
                  refine LW.split (t := 108) rfl (fun h108 => ?_) (fun h108 => ?_)
                  · skip
                    refine LW.gF rfl rfl rfl rfl rfl rfl ?_
                    refine LW.gF rfl rfl rfl rfl rfl rfl ?_
                    refine LW.gF rfl rfl rfl rfl rfl rfl ?_
                    refine LW.gF rfl rfl rfl rfl rfl rfl ?_
                    refine LW.gF rfl rfl rfl rfl rfl rfl ?_
                    refine LW.val rfl rfl rfl (x_pickT rfl rfl rfl) ?_
                    refine LW.val rfl rfl rfl (x_move rfl rfl) ?_
                    refine LW.gF rfl rfl rfl rfl rfl rfl ?_
                    refine LW.gF rfl rfl rfl rfl rfl rfl ?_
                    refine LW.gF rfl rfl rfl rfl rfl rfl ?_
                    refine LW.gF rfl rfl rfl rfl rfl rfl ?_
                    refine LW.gF rfl rfl rfl rfl rfl rfl ?_
                    refine LW.gF rfl rfl rfl rfl rfl rfl ?_
                    refine LW.val rfl rfl rfl (x_pickT rfl rfl rfl) ?_
                    refine LW.val rfl rfl rfl (x_move rfl rfl) ?_
                    refine LW.gF rfl rfl rfl rfl rfl rfl ?_
                    refine LW.gF rfl rfl rfl rfl rfl rfl ?_
                    refine LW.gF rfl rfl rfl rfl rfl rfl ?_
                    refine LW.gF rfl rfl rfl rfl rfl rfl ?_
                    refine LW.gF rfl rfl rfl rfl rfl rfl ?_
                    refine LW.val rfl rfl rfl (x_pickT rfl rfl rfl) ?_
                    refine LW.val rfl rfl rfl (x_move rfl rfl) ?_
                    refine LW.gF rfl rfl rfl rfl rfl rfl ?_
                    refine LW.gF rfl rfl rfl rfl rfl rfl ?_
                    refine LW.gF rfl rfl rfl rfl rfl rfl ?_
                    refine LW.gF rfl rfl rfl rfl rfl rfl ?_
                    refine LW.gF rfl rfl rfl rfl rfl rfl ?_
                    refine LW.val rfl rfl rfl (x_pickT rfl rfl rfl) ?_
                    refine LW.val rfl rfl rfl (x_move rfl rfl) ?_
                    refine LW.gF rfl rfl rfl rfl rfl rfl ?_
                    refine LW.gF rfl rfl rfl rfl rfl rfl ?_
                    refine LW.gF rfl rfl rfl rfl rfl rfl ?_
                    refine LW.gF rfl rfl rfl rfl rfl rfl ?_
                    refine LW.gF rfl rfl rfl rfl rfl rfl ?_
                    refine LW.gF rfl rfl rfl rfl rfl rfl ?_
                    refine LW.gF rfl rfl rfl rfl rfl rfl ?_
                    refine LW.gF rfl rfl rfl rfl rfl rfl ?_
                    refine LW.gF rfl rfl rfl rfl rfl rfl ?_
                    refine LW.gF rfl rfl rfl rfl rfl rfl ?_
                    refine LW.val rfl rfl rfl (x_pickT rfl rfl rfl) ?_
                    refine LW.nil (QW.thenC (CW.condT rfl (CW.seq (CW.region ?_))))
                    refine LW.val rfl rfl rfl (x_assign rfl rfl) ?_
                    refine LW.nil (QW.thenC (CW.ret (QW.in_ret (QW.then_ret (QW.then_ret (QW.in_ret (QW.then_ret (QW.in_ret (QW.then_ret (QW.then_ret (QW.in_ret (QW.then_ret ?_))))))))))))
                    refine QW.res1 rfl (ResV.tmp rfl) (ret_eq (()) ?_ ?_)
                    · (exfalso; clear hfair hread hq hsu i2 i5 hr hrun hv; first | (simp_all; done) | (simp_all; omega) | (have f7 := f1 (by simpa using h82) (by simpa using h88); simp at h108; omega))
                    · (repeat (first | exact Sub.nil | exact Sub.all | (apply Sub.cons; (focus ((repeat (first | exact Rem.head | apply Rem.tail)); done))) | (apply Sub.row; (focus ((repeat (first | exact Rem.head | apply Rem.tail)); done)); (focus (first | with_reducible rfl | assumption | omega | (simp; done) | (simp [Nat.mul_comm]; done) | (simp; omega))); (focus (first | with_reducible rfl | assumption | omega | (simp; done) | (simp [Nat.mul_comm]; done) | (simp; omega))); (focus (first | with_reducible rfl | (simp [nums]; done) | (simp [nums]; omega) | (simp; done) | (simp; omega)))) | (apply Sub.blk; (focus ((repeat (first | exact Rem.head | apply Rem.tail)); done)); (focus (first | with_reducible rfl | (simp [nums]; done) | (simp [nums]; omega) | (simp; done) | (simp; omega)))) | fail))
                  · skip
                    refine LW.valG rfl rfl rfl rfl rfl (x_fieldAddr rfl rfl fl41_2 rfl) ?_
                    refine LW.valG rfl rfl rfl rfl rfl (x_loadB rfl rfl ty3 (by (repeat (first | exact Rem.head | apply Rem.tail)); done) (by exact rfl)) ?_
                    refine LW.valG rfl rfl rfl rfl rfl (x_fieldAddr rfl rfl fl41_2 rfl) ?_
                    refine LW.valG rfl rfl rfl rfl rfl (x_loadB rfl rfl ty3 (by (repeat (first | exact Rem.head | apply Rem.tail)); done) (by exact rfl)) ?_
                    refine LW.valG rfl rfl rfl rfl rfl (x_lss rfl rfl rfl) ?_
                    refine LW.val rfl rfl rfl (x_pickF rfl rfl rfl) ?_
                    refine LW.val rfl rfl rfl (x_move rfl rfl) ?_
                    refine LW.split (t := 115) rfl (fun h115 => ?_) (fun h115 => ?_)
                    · skip
                      refine LW.gF rfl rfl rfl rfl rfl rfl ?_
                      refine LW.gF rfl rfl rfl rfl rfl rfl ?_
                      refine LW.gF rfl rfl rfl rfl rfl rfl ?_
                      refine LW.gF rfl rfl rfl rfl rfl rfl ?_
                      refine LW.gF rfl rfl rfl rfl rfl rfl ?_
                      refine LW.gF rfl rfl rfl rfl rfl rfl ?_
                      refine LW.val rfl rfl rfl (x_pickT rfl rfl rfl) ?_
                      refine LW.val rfl rfl rfl (x_move rfl rfl) ?_
                      refine LW.gF rfl rfl rfl rfl rfl rfl ?_
                      refine LW.gF rfl rfl rfl rfl rfl rfl ?_
                      refine LW.gF rfl rfl rfl rfl rfl rfl ?_
                      refine LW.gF rfl rfl rfl rfl rfl rfl ?_
                      refine LW.gF rfl rfl rfl rfl rfl rfl ?_
                      refine LW.val rfl rfl rfl (x_pickT rfl rfl rfl) ?_
                      refine LW.val rfl rfl rfl (x_move rfl rfl) ?_
                      refine LW.gF rfl rfl rfl rfl rfl rfl ?_
                      refine LW.gF rfl rfl rfl rfl rfl rfl ?_
                      refine LW.gF rfl rfl rfl rfl rfl rfl ?_
                      refine LW.gF rfl rfl rfl rfl rfl rfl ?_
                      refine LW.gF rfl rfl rfl rfl rfl rfl ?_
                      refine LW.val rfl rfl rfl (x_pickT rfl rfl rfl) ?_
                      refine LW.val rfl rfl rfl (x_move rfl rfl) ?_
                      refine LW.gF rfl rfl rfl rfl rfl rfl ?_
                      refine LW.gF rfl rfl rfl rfl rfl rfl ?_
                      refine LW.gF rfl rfl rfl rfl rfl rfl ?_
                      refine LW.gF rfl rfl rfl rfl rfl rfl ?_
                      refine LW.gF rfl rfl rfl rfl rfl rfl ?_
                      refine LW.gF rfl rfl rfl rfl rfl rfl ?_
                      refine LW.gF rfl rfl rfl rfl rfl rfl ?_
                      refine LW.gF rfl rfl rfl rfl rfl rfl ?_
                      refine LW.gF rfl rfl rfl rfl rfl rfl ?_
                      refine LW.gF rfl rfl rfl rfl rfl rfl ?_
                      refine LW.val rfl rfl rfl (x_pickT rfl rfl rfl) ?_
                      refine LW.nil (QW.thenC (CW.condT rfl (CW.seq (CW.region ?_))))
                      refine LW.val rfl rfl rfl (x_assign rfl rfl) ?_
                      refine LW.nil (QW.thenC (CW.ret (QW.in_ret (QW.then_ret (QW.then_ret (QW.in_ret (QW.then_ret (QW.in_ret (QW.then_ret (QW.then_ret (QW.in_ret (QW.then_ret ?_))))))))))))
                      refine QW.res1 rfl (ResV.tmp rfl) (ret_eq (()) ?_ ?_)
                      · (exfalso; clear hfair hread hq hsu i2 i5 hr hrun hv; first | (simp_all; done) | (simp_all; omega) | (have f7 := f1 (by simpa using h82) (by simpa using h88); simp at h108; omega))
                      · (repeat (first | exact Sub.nil | exact Sub.all | (apply Sub.cons; (focus ((repeat (first | exact Rem.head | apply Rem.tail)); done))) | (apply Sub.row; (focus ((repeat (first | exact Rem.head | apply Rem.tail)); done)); (focus (first | with_reducible rfl | assumption | omega | (simp; done) | (simp [Nat.mul_comm]; done) | (simp; omega))); (focus (first | with_reducible rfl | assumption | omega | (simp; done) | (simp [Nat.mul_comm]; done) | (simp; omega))); (focus (first | with_reducible rfl | (simp [nums]; done) | (simp [nums]; omega) | (simp; done) | (simp; omega)))) | (apply Sub.blk; (focus ((repeat (first | exact Rem.head | apply Rem.tail)); done)); (focus (first | with_reducible rfl | (simp [nums]; done) | (simp [nums]; omega) | (simp; done) | (simp; omega)))) | fail))
                    · skip
                      refine LW.valG rfl rfl rfl rfl rfl (x_fieldAddr rfl rfl fl41_2 rfl) ?_
                      refine LW.valG rfl rfl rfl rfl rfl (x_loadB rfl rfl ty3 (by (repeat (first | exact Rem.head | apply Rem.tail)); done) (by exact rfl)) ?_
                      refine LW.valG rfl rfl rfl rfl rfl (x_fieldAddr rfl rfl fl41_2 rfl) ?_
                      refine LW.valG rfl rfl rfl rfl rfl (x_loadB rfl rfl ty3 (by (repeat (first | exact Rem.head | apply Rem.tail)); done) (by exact rfl)) ?_
                      refine LW.valG rfl rfl rfl rfl rfl (x_add rfl rfl rfl (by omega)) ?_
                      refine LW.valG rfl rfl rfl rfl rfl (x_gtr rfl rfl rfl) ?_
                      refine LW.val rfl rfl rfl (x_pickF rfl rfl rfl) ?_
                      refine LW.val rfl rfl rfl (x_move rfl rfl) ?_
                      refine LW.split (t := 123) rfl (fun h123 => ?_) (fun h123 => ?_)
                      · skip
                        refine LW.gF rfl rfl rfl rfl rfl rfl ?_
                        refine LW.gF rfl rfl rfl rfl rfl rfl ?_
                        refine LW.gF rfl rfl rfl rfl rfl rfl ?_
                        refine LW.gF rfl rfl rfl rfl rfl rfl ?_
                        refine LW.gF rfl rfl rfl rfl rfl rfl ?_
                        refine LW.val rfl rfl rfl (x_pickT rfl rfl rfl) ?_
                        refine LW.val rfl rfl rfl (x_move rfl rfl) ?_
                        refine LW.gF rfl rfl rfl rfl rfl rfl ?_
                        refine LW.gF rfl rfl rfl rfl rfl rfl ?_
                        refine LW.gF rfl rfl rfl rfl rfl rfl ?_
                        refine LW.gF rfl rfl rfl rfl rfl rfl ?_
                        refine LW.gF rfl rfl rfl rfl rfl rfl ?_
                        refine LW.val rfl rfl rfl (x_pickT rfl rfl rfl) ?_
                        refine LW.val rfl rfl rfl (x_move rfl rfl) ?_
                        refine LW.gF rfl rfl rfl rfl rfl rfl ?_
                        refine LW.gF rfl rfl rfl rfl rfl rfl ?_
                        refine LW.gF rfl rfl rfl rfl rfl rfl ?_
                        refine LW.gF rfl rfl rfl rfl rfl rfl ?_
                        refine LW.gF rfl rfl rfl rfl rfl rfl ?_
                        refine LW.gF rfl rfl rfl rfl rfl rfl ?_
                        refine LW.gF rfl rfl rfl rfl rfl rfl ?_
                        refine LW.gF rfl rfl rfl rfl rfl rfl ?_
                        refine LW.gF rfl rfl rfl rfl rfl rfl ?_
                        refine LW.gF rfl rfl rfl rfl rfl rfl ?_
                        refine LW.val rfl rfl rfl (x_pickT rfl rfl rfl) ?_
                        refine LW.nil (QW.thenC (CW.condT rfl (CW.seq (CW.region ?_))))
                        refine LW.val rfl rfl rfl (x_assign rfl rfl) ?_
                        refine LW.nil (QW.thenC (CW.ret (QW.in_ret (QW.then_ret (QW.then_ret (QW.in_ret (QW.then_ret (QW.in_ret (QW.then_ret (QW.then_ret (QW.in_ret (QW.then_ret ?_))))))))))))
                        refine QW.res1 rfl (ResV.tmp rfl) (ret_eq (()) ?_ ?_)
                        · (exfalso; clear hfair hread hq hsu i2 i5 hr hrun hv; first | (simp_all; done) | (simp_all; omega) | (have f7 := f1 (by simpa using h82) (by simpa using h88); simp at h108; omega))
                        · (repeat (first | exact Sub.nil | exact Sub.all | (apply Sub.cons; (focus ((repeat (first | exact Rem.head | apply Rem.tail)); done))) | (apply Sub.row; (focus ((repeat (first | exact Rem.head | apply Rem.tail)); done)); (focus (first | with_reducible rfl | assumption | omega | (simp; done) | (simp [Nat.mul_comm]; done) | (simp; omega))); (focus (first | with_reducible rfl | assumption | omega | (simp; done) | (simp [Nat.mul_comm]; done) | (simp; omega))); (focus (first | with_reducible rfl | (simp [nums]; done) | (simp [nums]; omega) | (simp; done) | (simp; omega)))) | (apply Sub.blk; (focus ((repeat (first | exact Rem.head | apply Rem.tail)); done)); (focus (first | with_reducible rfl | (simp [nums]; done) | (simp [nums]; omega) | (simp; done) | (simp; omega)))) | fail))
                      · skip
                        refine LW.valG rfl rfl rfl rfl rfl (x_fieldAddr rfl rfl fl41_0 rfl) ?_
                        refine LW.valG rfl rfl rfl rfl rfl (x_loadB rfl rfl ty3 (by (repeat (first | exact Rem.head | apply Rem.tail)); done) (by exact rfl)) ?_
                        refine LW.valG rfl rfl rfl rfl rfl (x_fieldAddr rfl rfl fl41_0 rfl) ?_
                        refine LW.valG rfl rfl rfl rfl rfl (x_loadB rfl rfl ty3 (by (repeat (first | exact Rem.head | apply Rem.tail)); done) (by exact rfl)) ?_
                        refine LW.valG rfl rfl rfl rfl rfl (x_neq rfl rfl rfl) ?_
                        refine LW.val rfl rfl rfl (x_pickF rfl rfl rfl) ?_
                        refine LW.val rfl rfl rfl (x_move rfl rfl) ?_
                        refine LW.split (t := 130) rfl (fun h130 => ?_) (fun h130 => ?_)
                        · skip
                          refine LW.gF rfl rfl rfl rfl rfl rfl ?_
                          refine LW.gF rfl rfl rfl rfl rfl rfl ?_
                          refine LW.gF rfl rfl rfl rfl rfl rfl ?_
                          refine LW.gF rfl rfl rfl rfl rfl rfl ?_
                          refine LW.gF rfl rfl rfl rfl rfl rfl ?_
                          refine LW.val rfl rfl rfl (x_pickT rfl rfl rfl) ?_
                          refine LW.val rfl rfl rfl (x_move rfl rfl) ?_
                          refine LW.gF rfl rfl rfl rfl rfl rfl ?_
                          refine LW.gF rfl rfl rfl rfl rfl rfl ?_
                          refine LW.gF rfl rfl rfl rfl rfl rfl ?_
                          refine LW.gF rfl rfl rfl rfl rfl rfl ?_
                          refine LW.gF rfl rfl rfl rfl rfl rfl ?_
                          refine LW.gF rfl rfl rfl rfl rfl rfl ?_
                          refine LW.gF rfl rfl rfl rfl rfl rfl ?_
                          refine LW.gF rfl rfl rfl rfl rfl rfl ?_
                          refine LW.gF rfl rfl rfl rfl rfl rfl ?_
                          refine LW.gF rfl rfl rfl rfl rfl rfl ?_
                          refine LW.val rfl rfl rfl (x_pickT rfl rfl rfl) ?_
                          refine LW.nil (QW.thenC (CW.condT rfl (CW.seq (CW.region ?_))))
                          refine LW.val rfl rfl rfl (x_assign rfl rfl) ?_
                          refine LW.nil (QW.thenC (CW.ret (QW.in_ret (QW.then_ret (QW.then_ret (QW.in_ret (QW.then_ret (QW.in_ret (QW.then_ret (QW.then_ret (QW.in_ret (QW.then_ret ?_))))))))))))
                          refine QW.res1 rfl (ResV.tmp rfl) (ret_eq (()) ?_ ?_)
                          · (exfalso; clear hfair hread hq hsu i2 i5 hr hrun hv; first | (simp_all; done) | (simp_all; omega) | (have f7 := f1 (by simpa using h82) (by simpa using h88); simp at h108; omega))
                          · (repeat (first | exact Sub.nil | exact Sub.all | (apply Sub.cons; (focus ((repeat (first | exact Rem.head | apply Rem.tail)); done))) | (apply Sub.row; (focus ((repeat (first | exact Rem.head | apply Rem.tail)); done)); (focus (first | with_reducible rfl | assumption | omega | (simp; done) | (simp [Nat.mul_comm]; done) | (simp; omega))); (focus (first | with_reducible rfl | assumption | omega | (simp; done) | (simp [Nat.mul_comm]; done) | (simp; omega))); (focus (first | with_reducible rfl | (simp [nums]; done) | (simp [nums]; omega) | (simp; done) | (simp; omega)))) | (apply Sub.blk; (focus ((repeat (first | exact Rem.head | apply Rem.tail)); done)); (focus (first | with_reducible rfl | (simp [nums]; done) | (simp [nums]; omega) | (simp; done) | (simp; omega)))) | fail))
                        · skip
                          refine LW.valG rfl rfl rfl rfl rfl (x_fieldAddr rfl rfl fl41_1 rfl) ?_
                          refine LW.valG rfl rfl rfl rfl rfl (x_loadB rfl rfl ty3 (by (repeat (first | exact Rem.head | apply Rem.tail)); done) (by exact rfl)) ?_
                          refine LW.valG rfl rfl rfl rfl rfl (x_fieldAddr rfl rfl fl41_1 rfl) ?_
                          refine LW.valG rfl rfl rfl rfl rfl (x_loadB rfl rfl ty3 (by (repeat (first | exact Rem.head | apply Rem.tail)); done) (by exact rfl)) ?_
                          refine LW.valG rfl rfl rfl rfl rfl (x_lss rfl rfl rfl) ?_
                          refine LW.val rfl rfl rfl (x_pickF rfl rfl rfl) ?_
                          refine LW.val rfl rfl rfl (x_move rfl rfl) ?_
                          refine LW.split (t := 137) rfl (fun h137 => ?_) (fun h137 => ?_)
                          · skip
                            refine LW.gF rfl rfl rfl rfl rfl rfl ?_
                            refine LW.gF rfl rfl rfl rfl rfl rfl ?_
                            refine LW.gF rfl rfl rfl rfl rfl rfl ?_
                            refine LW.gF rfl rfl rfl rfl rfl rfl ?_
                            refine LW.gF rfl rfl rfl rfl rfl rfl ?_
                            refine LW.gF rfl rfl rfl rfl rfl rfl ?_
                            refine LW.gF rfl rfl rfl rfl rfl rfl ?_
                            refine LW.gF rfl rfl rfl rfl rfl rfl ?_
                            refine LW.gF rfl rfl rfl rfl rfl rfl ?_
                            refine LW.gF rfl rfl rfl rfl rfl rfl ?_
                            refine LW.val rfl rfl rfl (x_pickT rfl rfl rfl) ?_
                            refine LW.nil (QW.thenC (CW.condT rfl (CW.seq (CW.region ?_))))
                            refine LW.val rfl rfl rfl (x_assign rfl rfl) ?_
                            refine LW.nil (QW.thenC (CW.ret (QW.in_ret (QW.then_ret (QW.then_ret (QW.in_ret (QW.then_ret (QW.in_ret (QW.then_ret (QW.then_ret (QW.in_ret (QW.then_ret ?_))))))))))))
                            refine QW.res1 rfl (ResV.tmp rfl) (ret_eq (()) ?_ ?_)
                            · (exfalso; clear hfair hread hq hsu i2 i5 hr hrun hv; first | (simp_all; done) | (simp_all; omega) | (have f7 := f1 (by simpa using h82) (by simpa using h88); simp at h108; omega))
                            · (repeat (first | exact Sub.nil | exact Sub.all | (apply Sub.cons; (focus ((repeat (first | exact Rem.head | apply Rem.tail)); done))) | (apply Sub.row; (focus ((repeat (first | exact Rem.head | apply Rem.tail)); done)); (focus (first | with_reducible rfl | assumption | omega | (simp; done) | (simp [Nat.mul_comm]; done) | (simp; omega))); (focus (first | with_reducible rfl | assumption | omega | (simp; done) | (simp [Nat.mul_comm]; done) | (simp; omega))); (focus (first | with_reducible rfl | (simp [nums]; done) | (simp [nums]; omega) | (simp; done) | (simp; omega)))) | (apply Sub.blk; (focus ((repeat (first | exact Rem.head | apply Rem.tail)); done)); (focus (first | with_reducible rfl | (simp [nums]; done) | (simp [nums]; omega) | (simp; done) | (simp; omega)))) | fail))
                          · skip
                            refine LW.valG rfl rfl rfl rfl rfl (x_fieldAddr rfl rfl fl41_2 rfl) ?_
                            refine LW.valG rfl rfl rfl rfl rfl (x_loadB rfl rfl ty3 (by (repeat (first | exact Rem.head | apply Rem.tail)); done) (by exact rfl)) ?_
                            refine LW.valG rfl rfl rfl rfl rfl (x_geq rfl rfl rfl) ?_
                            refine LW.valG rfl rfl rfl rfl rfl (x_move rfl rfl) ?_
                            refine LW.split (t := 141) rfl (fun h141 => ?_) (fun h141 => ?_)
                            · skip
                              refine LW.valG rfl rfl rfl rfl rfl (x_fieldAddr rfl rfl fl41_1 rfl) ?_
                              refine LW.valG rfl rfl rfl rfl rfl (x_loadB rfl rfl ty3 (by (repeat (first | exact Rem.head | apply Rem.tail)); done) (by exact rfl)) ?_
                              refine LW.valG rfl rfl rfl rfl rfl (x_fieldAddr rfl rfl fl41_0 rfl) ?_
                              refine LW.valG rfl rfl rfl rfl rfl (x_loadB rfl rfl ty3 (by (repeat (first | exact Rem.head | apply Rem.tail)); done) (by exact rfl)) ?_
                              refine LW.valG rfl rfl rfl rfl rfl (x_neq rfl rfl rfl) ?_
                              refine LW.valG rfl rfl rfl rfl rfl (x_pickT rfl rfl rfl) ?_
                              refine LW.val rfl rfl rfl (x_pickF rfl rfl rfl) ?_
                              refine LW.nil (QW.thenC ?_)
                              refine CW.split (t := 148) rfl (fun h148 => ?_) (fun h148 => ?_)
                              · skip
                                refine CW.condT rfl (CW.seq (CW.region ?_))
                                refine LW.val rfl rfl rfl (x_assign rfl rfl) ?_
                                refine LW.nil (QW.thenC (CW.ret (QW.in_ret (QW.then_ret (QW.then_ret (QW.in_ret (QW.then_ret (QW.in_ret (QW.then_ret (QW.then_ret (QW.in_ret (QW.then_ret ?_))))))))))))
                                refine QW.res1 rfl (ResV.tmp rfl) (ret_eq (()) ?_ ?_)
                                · (exfalso; clear hfair hread hq hsu i2 i5 hr hrun hv; first | (simp_all; done) | (simp_all; omega) | (have f7 := f1 (by simpa using h82) (by simpa using h88); simp at h108; omega))
                                · (repeat (first | exact Sub.nil | exact Sub.all | (apply Sub.cons; (focus ((repeat (first | exact Rem.head | apply Rem.tail)); done))) | (apply Sub.row; (focus ((repeat (first | exact Rem.head | apply Rem.tail)); done)); (focus (first | with_reducible rfl | assumption | omega | (simp; done) | (simp [Nat.mul_comm]; done) | (simp; omega))); (focus (first | with_reducible rfl | assumption | omega | (simp; done) | (simp [Nat.mul_comm]; done) | (simp; omega))); (focus (first | with_reducible rfl | (simp [nums]; done) | (simp [nums]; omega) | (simp; done) | (simp; omega)))) | (apply Sub.blk; (focus ((repeat (first | exact Rem.head | apply Rem.tail)); done)); (focus (first | with_reducible rfl | (simp [nums]; done) | (simp [nums]; omega) | (simp; done) | (simp; omega)))) | fail))
                              · skip
                                refine CW.condF rfl (CW.skip (QW.in_normal (QW.thenC (CW.region ?_))))
                                refine LW.val rfl rfl rfl (x_add rfl rfl rfl (by omega)) ?_
                                refine LW.val rfl rfl rfl (x_move rfl rfl) ?_
                                refine LW.nil ?_
                                refine QW.then_ (QW.roundC1 (i + 1) ?_ ?_ (by (repeat (first | exact trivial | (refine ⟨rfl, ?_⟩) | (refine ⟨gS rfl (by omega), ?_⟩)))) (by (repeat (first | exact Ext.refl | (refine Ext.cons rfl ?_)))) (by (repeat (first | exact Sub.nil | exact Sub.all | (apply Sub.cons; (focus ((repeat (first | exact Rem.head | apply Rem.tail)); done))) | (apply Sub.row; (focus ((repeat (first | exact Rem.head | apply Rem.tail)); done)); (focus (first | with_reducible rfl | assumption | omega | (simp; done) | (simp [Nat.mul_comm]; done) | (simp; omega))); (focus (first | with_reducible rfl | assumption | omega | (simp; done) | (simp [Nat.mul_comm]; done) | (simp; omega))); (focus (first | with_reducible rfl | (simp [nums]; done) | (simp [nums]; omega) | (simp; done) | (simp; omega)))) | (apply Sub.blk; (focus ((repeat (first | exact Rem.head | apply Rem.tail)); done)); (focus (first | with_reducible rfl | (simp [nums]; done) | (simp [nums]; omega) | (simp; done) | (simp; omega)))) | fail))))
                                · first | exact trivial | omega
                                · first | omega | (simp; omega)
                            · skip
                              refine LW.gF rfl rfl rfl rfl rfl rfl ?_
                              refine LW.gF rfl rfl rfl rfl rfl rfl ?_
                              refine LW.gF rfl rfl rfl rfl rfl rfl ?_
                              refine LW.gF rfl rfl rfl rfl rfl rfl ?_
                              refine LW.gF rfl rfl rfl rfl rfl rfl ?_
                              refine LW.valG rfl rfl rfl rfl rfl (x_pickF rfl rfl rfl) ?_
                              refine LW.val rfl rfl rfl (x_pickF rfl rfl rfl) ?_
                              refine LW.nil (QW.thenC (CW.condF rfl (CW.skip (QW.in_normal (QW.thenC (CW.region ?_))))))
                              refine LW.val rfl rfl rfl (x_add rfl rfl rfl (by omega)) ?_
                              refine LW.val rfl rfl rfl (x_move rfl rfl) ?_
                              refine LW.nil ?_
                              refine QW.then_ (QW.roundC1 (i + 1) ?_ ?_ (by (repeat (first | exact trivial | (refine ⟨rfl, ?_⟩) | (refine ⟨gS rfl (by omega), ?_⟩)))) (by (repeat (first | exact Ext.refl | (refine Ext.cons rfl ?_)))) (by (repeat (first | exact Sub.nil | exact Sub.all | (apply Sub.cons; (focus ((repeat (first | exact Rem.head | apply Rem.tail)); done))) | (apply Sub.row; (focus ((repeat (first | exact Rem.head | apply Rem.tail)); done)); (focus (first | with_reducible rfl | assumption | omega | (simp; done) | (simp [Nat.mul_comm]; done) | (simp; omega))); (focus (first | with_reducible rfl | assumption | omega | (simp; done) | (simp [Nat.mul_comm]; done) | (simp; omega))); (focus (first | with_reducible rfl | (simp [nums]; done) | (simp [nums]; omega) | (simp; done) | (simp; omega)))) | (apply Sub.blk; (focus ((repeat (first | exact Rem.head | apply Rem.tail)); done)); (focus (first | with_reducible rfl | (simp [nums]; done) | (simp [nums]; omega) | (simp; done) | (simp; omega)))) | fail))))
                              · first | exact trivial | omega
                              · first | omega | (simp; omega)
            · skip
              refine LW.gF rfl rfl rfl rfl rfl rfl ?_
              refine LW.gF rfl rfl rfl rfl rfl rfl ?_
              refine LW.gF rfl rfl rfl rfl rfl rfl ?_
              refine LW.gF rfl rfl rfl rfl rfl rfl ?_
              refine LW.gF rfl rfl rfl rfl rfl rfl ?_
              refine LW.gF rfl rfl rfl rfl rfl rfl ?_
              refine LW.gF rfl rfl rfl rfl rfl rfl ?_
              refine LW.gF rfl rfl rfl rfl rfl rfl ?_
              refine LW.gF rfl rfl rfl rfl rfl rfl ?_
              refine LW.gF rfl rfl rfl rfl rfl rfl ?_
              refine LW.gF rfl rfl rfl rfl rfl rfl ?_
              refine LW.gF rfl rfl rfl rfl rfl rfl ?_
              refine LW.gF rfl rfl rfl rfl rfl rfl ?_
              refine LW.gF rfl rfl rfl rfl rfl rfl ?_
              refine LW.gF rfl rfl rfl rfl rfl rfl ?_
              refine LW.gF rfl rfl rfl rfl rfl rfl ?_
              refine LW.gF rfl rfl rfl rfl rfl rfl ?_
              refine LW.gF rfl rfl rfl rfl rfl rfl ?_
              refine LW.val rfl rfl rfl (x_pickF rfl rfl rfl) ?_
              refine LW.val rfl rfl rfl (x_move rfl rfl) ?_
              refine LW.valG rfl rfl rfl rfl rfl (x_fieldAddr rfl rfl fl41_2 rfl) ?_
              refine LW.valG rfl rfl rfl rfl rfl (x_loadB rfl rfl ty3 (by (repeat (first | exact Rem.head | apply Rem.tail)); done) (by exact rfl)) ?_
              refine LW.valG rfl rfl rfl rfl rfl (x_fieldAddr rfl rfl fl41_2 rfl) ?_
              refine LW.valG rfl rfl rfl rfl rfl (x_loadB rfl rfl ty3 (by (repeat (first | exact Rem.head | apply Rem.tail)); done) (by exact rfl)) ?_
              refine LW.valG rfl rfl rfl rfl rfl (x_lss rfl rfl rfl) ?_
              refine LW.val rfl rfl rfl (x_pickF rfl rfl rfl) ?_
              refine LW.val rfl rfl rfl (x_move rfl rfl) ?_
              refine LW.split (t := 115) rfl (fun h115 => ?_) (fun h115 => ?_)
              · skip
                refine LW.gF rfl rfl rfl rfl rfl rfl ?_
                refine LW.gF rfl rfl rfl rfl rfl rfl ?_
                refine LW.gF rfl rfl rfl rfl rfl rfl ?_
                refine LW.gF rfl rfl rfl rfl rfl rfl ?_
                refine LW.gF rfl rfl rfl rfl rfl rfl ?_
                refine LW.gF rfl rfl rfl rfl rfl rfl ?_
                refine LW.val rfl rfl rfl (x_pickT rfl rfl rfl) ?_
                refine LW.val rfl rfl rfl (x_move rfl rfl) ?_
                refine LW.gF rfl rfl rfl rfl rfl rfl ?_
                refine LW.gF rfl rfl rfl rfl rfl rfl ?_
                refine LW.gF rfl rfl rfl rfl rfl rfl ?_
                refine LW.gF rfl rfl rfl rfl rfl rfl ?_
                refine LW.gF rfl rfl rfl rfl rfl rfl ?_
                refine LW.val rfl rfl rfl (x_pickT rfl rfl rfl) ?_
                refine LW.val rfl rfl rfl (x_move rfl rfl) ?_
                refine LW.gF rfl rfl rfl rfl rfl rfl ?_
                refine LW.gF rfl rfl rfl rfl rfl rfl ?_
                refine LW.gF rfl rfl rfl rfl rfl rfl ?_
                refine LW.gF rfl rfl rfl rfl rfl rfl ?_
                refine LW.gF rfl rfl rfl rfl rfl rfl ?_
                refine LW.val rfl rfl rfl (x_pickT rfl rfl rfl) ?_
                refine LW.val rfl rfl rfl (x_move rfl rfl) ?_
                refine LW.gF rfl rfl rfl rfl rfl rfl ?_
                refine LW.gF rfl rfl rfl rfl rfl rfl ?_
                refine LW.gF rfl rfl rfl rfl rfl rfl ?_
                refine LW.gF rfl rfl rfl rfl rfl rfl ?_
                refine LW.gF rfl rfl rfl rfl rfl rfl ?_
                refine LW.gF rfl rfl rfl rfl rfl rfl ?_
                refine LW.gF rfl rfl rfl rfl rfl rfl ?_
                refine LW.gF rfl rfl rfl rfl rfl rfl ?_
                refine LW.gF rfl rfl rfl rfl rfl rfl ?_
                refine LW.gF rfl rfl rfl rfl rfl rfl ?_
                refine LW.val rfl rfl rfl (x_pickT rfl rfl rfl) ?_
                refine LW.nil (QW.thenC (CW.condT rfl (CW.seq (CW.region ?_))))
                refine LW.val rfl rfl rfl (x_assign rfl rfl) ?_
                refine LW.nil (QW.thenC (CW.ret (QW.in_ret (QW.then_ret (QW.then_ret (QW.in_ret (QW.then_ret (QW.in_ret (QW.then_ret (QW.then_ret (QW.in_ret (QW.then_ret ?_))))))))))))
                refine QW.res1 rfl (ResV.tmp rfl) (ret_eq (()) ?_ ?_)
                · (exfalso; clear hfair hread hq hsu i2 i5 hr hrun hv; first | (simp_all; done) | (simp_all; omega) | (have f7 := f1 (by simpa using h82) (by simpa using h88); simp at h108; omega))
                · (repeat (first | exact Sub.nil | exact Sub.all | (apply Sub.cons; (focus ((repeat (first | exact Rem.head | apply Rem.tail)); done))) | (apply Sub.row; (focus ((repeat (first | exact Rem.head | apply Rem.tail)); done)); (focus (first | with_reducible rfl | assumption | omega | (simp; done) | (simp [Nat.mul_comm]; done) | (simp; omega))); (focus (first | with_reducible rfl | assumption | omega | (simp; done) | (simp [Nat.mul_comm]; done) | (simp; omega))); (focus (first | with_reducible rfl | (simp [nums]; done) | (simp [nums]; omega) | (simp; done) | (simp; omega)))) | (apply Sub.blk; (focus ((repeat (first | exact Rem.head | apply Rem.tail)); done)); (focus (first | with_reducible rfl | (simp [nums]; done) | (simp [nums]; omega) | (simp; done) | (simp; omega)))) | fail))
              · skip
                refine LW.valG rfl rfl rfl rfl rfl (x_fieldAddr rfl rfl fl41_2 rfl) ?_
                refine LW.valG rfl rfl rfl rfl rfl (x_loadB rfl rfl ty3 (by (repeat (first | exact Rem.head | apply Rem.tail)); done) (by exact rfl)) ?_
                refine LW.valG rfl rfl rfl rfl rfl (x_fieldAddr rfl rfl fl41_2 rfl) ?_
                refine LW.valG rfl rfl rfl rfl rfl (x_loadB rfl rfl ty3 (by (repeat (first | exact Rem.head | apply Rem.tail)); done) (by exact rfl)) ?_
                refine LW.valG rfl rfl rfl rfl rfl (x_add rfl rfl rfl (by omega)) ?_
                refine LW.valG rfl rfl rfl rfl rfl (x_gtr rfl rfl rfl) ?_
                refine LW.val rfl rfl rfl (x_pickF rfl rfl rfl) ?_
                refine LW.val rfl rfl rfl (x_move rfl rfl) ?_
                refine LW.split (t := 123) rfl (fun h123 => ?_) (fun h123 => ?_)
                · skip
                  refine LW.gF rfl rfl rfl rfl rfl rfl ?_
                  refine LW.gF rfl rfl rfl rfl rfl rfl ?_
                  refine LW.gF rfl rfl rfl rfl rfl rfl ?_
                  refine LW.gF rfl rfl rfl rfl rfl rfl ?_
                  refine LW.gF rfl rfl rfl rfl rfl rfl ?_
                  refine LW.val rfl rfl rfl (x_pickT rfl rfl rfl) ?_
                  refine LW.val rfl rfl rfl (x_move rfl rfl) ?_
                  refine LW.gF rfl rfl rfl rfl rfl rfl ?_
                  refine LW.gF rfl rfl rfl rfl rfl rfl ?_
                  refine LW.gF rfl rfl rfl rfl rfl rfl ?_
                  refine LW.gF rfl rfl rfl rfl rfl rfl ?_
                  refine LW.gF rfl rfl rfl rfl rfl rfl ?_
                  refine LW.val rfl rfl rfl (x_pickT rfl rfl rfl) ?_
                  refine LW.val rfl rfl rfl (x_move rfl rfl) ?_
                  refine LW.gF rfl rfl rfl rfl rfl rfl ?_
                  refine LW.gF rfl rfl rfl rfl rfl rfl ?_
                  refine LW.gF rfl rfl rfl rfl rfl rfl ?_
                  refine LW.gF rfl rfl rfl rfl rfl rfl ?_
                  refine LW.gF rfl rfl rfl rfl rfl rfl ?_
                  refine LW.gF rfl rfl rfl rfl rfl rfl ?_
                  refine LW.gF rfl rfl rfl rfl rfl rfl ?_
                  refine LW.gF rfl rfl rfl rfl rfl rfl ?_
                  refine LW.gF rfl rfl rfl rfl rfl rfl ?_
                  refine LW.gF rfl rfl rfl rfl rfl rfl ?_
                  refine LW.val rfl rfl rfl (x_pickT rfl rfl rfl) ?_
                  refine LW.nil (QW.thenC (CW.condT rfl (CW.seq (CW.region ?_))))
                  refine LW.val rfl rfl rfl (x_assign rfl rfl) ?_
                  refine LW.nil (QW.thenC (CW.ret (QW.in_ret (QW.then_ret (QW.then_ret (QW.in_ret (QW.then_ret (QW.in_ret (QW.then_ret (QW.then_ret (QW.in_ret (QW.then_ret ?_))))))))))))
                  refine QW.res1 rfl (ResV.tmp rfl) (ret_eq (()) ?_ ?_)
                  · (exfalso; clear hfair hread hq hsu i2 i5 hr hrun hv; first | (simp_all; done) | (simp_all; omega) | (have f7 := f1 (by simpa using h82) (by simpa using h88); simp at h108; omega))
                  · (repeat (first | exact Sub.nil | exact Sub.all | (apply Sub.cons; (focus ((repeat (first | exact Rem.head | apply Rem.tail)); done))) | (apply Sub.row; (focus ((repeat (first | exact Rem.head | apply Rem.tail)); done)); (focus (first | with_reducible rfl | assumption | omega | (simp; done) | (simp [Nat.mul_comm]; done) | (simp; omega))); (focus (first | with_reducible rfl | assumption | omega | (simp; done) | (simp [Nat.mul_comm]; done) | (simp; omega))); (focus (first | with_reducible rfl | (simp [nums]; done) | (simp [nums]; omega) | (simp; done) | (simp; omega)))) | (apply Sub.blk; (focus ((repeat (first | exact Rem.head | apply Rem.tail)); done)); (focus (first | with_reducible rfl | (simp [nums]; done) | (simp [nums]; omega) | (simp; done) | (simp; omega)))) | fail))
                · skip
                  refine LW.valG rfl rfl rfl rfl rfl (x_fieldAddr rfl rfl fl41_0 rfl) ?_
                  refine LW.valG rfl rfl rfl rfl rfl (x_loadB rfl rfl ty3 (by (repeat (first | exact Rem.head | apply Rem.tail)); done) (by exact rfl)) ?_
                  refine LW.valG rfl rfl rfl rfl rfl (x_fieldAddr rfl rfl fl41_0 rfl) ?_
                  refine LW.valG rfl rfl rfl rfl rfl (x_loadB rfl rfl ty3 (by (repeat (first | exact Rem.head | apply Rem.tail)); done) (by exact rfl)) ?_
                  refine LW.valG rfl rfl rfl rfl rfl (x_neq rfl rfl rfl) ?_
                  refine LW.val rfl rfl rfl (x_pickF rfl rfl rfl) ?_
                  refine LW.val rfl rfl rfl (x_move rfl rfl) ?_
                  refine LW.split (t := 130) rfl (fun h130 => ?_) (fun h130 => ?_)
                  · skip
                    refine LW.gF rfl rfl rfl rfl rfl rfl ?_
                    refine LW.gF rfl rfl rfl rfl rfl rfl ?_
                    refine LW.gF rfl rfl rfl rfl rfl rfl ?_
                    refine LW.gF rfl rfl rfl rfl rfl rfl ?_
                    refine LW.gF rfl rfl rfl rfl rfl rfl ?_
                    refine LW.val rfl rfl rfl (x_pickT rfl rfl rfl) ?_
                    refine LW.val rfl rfl rfl (x_move rfl rfl) ?_
                    refine LW.gF rfl rfl rfl rfl rfl rfl ?_
                    refine LW.gF rfl rfl rfl rfl rfl rfl ?_
                    refine LW.gF rfl rfl rfl rfl rfl rfl ?_
                    refine LW.gF rfl rfl rfl rfl rfl rfl ?_
                    refine LW.gF rfl rfl rfl rfl rfl rfl ?_
                    refine LW.gF rfl rfl rfl rfl rfl rfl ?_
                    refine LW.gF rfl rfl rfl rfl rfl rfl ?_
                    refine LW.gF rfl rfl rfl rfl rfl rfl ?_
                    refine LW.gF rfl rfl rfl rfl rfl rfl ?_
                    refine LW.gF rfl rfl rfl rfl rfl rfl ?_
                    refine LW.val rfl rfl rfl (x_pickT rfl rfl rfl) ?_
                    refine LW.nil (QW.thenC (CW.condT rfl (CW.seq (CW.region ?_))))
                    refine LW.val rfl rfl rfl (x_assign rfl rfl) ?_
                    refine LW.nil (QW.thenC (CW.ret (QW.in_ret (QW.then_ret (QW.then_ret (QW.in_ret (QW.then_ret (QW.in_ret (QW.then_ret (QW.then_ret (QW.in_ret (QW.then_ret ?_))))))))))))
                    refine QW.res1 rfl (ResV.tmp rfl) (ret_eq (()) ?_ ?_)
                    · (exfalso; clear hfair hread hq hsu i2 i5 hr hrun hv; first | (simp_all; done) | (simp_all; omega) | (have f7 := f1 (by simpa using h82) (by simpa using h88); simp at h108; omega))
                    · (repeat (first | exact Sub.nil | exact Sub.all | (apply Sub.cons; (focus ((repeat (first | exact Rem.head | apply Rem.tail)); done))) | (apply Sub.row; (focus ((repeat (first | exact Rem.head | apply Rem.tail)); done)); (focus (first | with_reducible rfl | assumption | omega | (simp; done) | (simp [Nat.mul_comm]; done) | (simp; omega))); (focus (first | with_reducible rfl | assumption | omega | (simp; done) | (simp [Nat.mul_comm]; done) | (simp; omega))); (focus (first | with_reducible rfl | (simp [nums]; done) | (simp [nums]; omega) | (simp; done) | (simp; omega)))) | (apply Sub.blk; (focus ((repeat (first | exact Rem.head | apply Rem.tail)); done)); (focus (first | with_reducible rfl | (simp [nums]; done) | (simp [nums]; omega) | (simp; done) | (simp; omega)))) | fail))
                  · skip
                    refine LW.valG rfl rfl rfl rfl rfl (x_fieldAddr rfl rfl fl41_1 rfl) ?_
                    refine LW.valG rfl rfl rfl rfl rfl (x_loadB rfl rfl ty3 (by (repeat (first | exact Rem.head | apply Rem.tail)); done) (by exact rfl)) ?_
                    refine LW.valG rfl rfl rfl rfl rfl (x_fieldAddr rfl rfl fl41_1 rfl) ?_
                    refine LW.valG rfl rfl rfl rfl rfl (x_loadB rfl rfl ty3 (by (repeat (first | exact Rem.head | apply Rem.tail)); done) (by exact rfl)) ?_
                    refine LW.valG rfl rfl rfl rfl rfl (x_lss rfl rfl rfl) ?_
                    refine LW.val rfl rfl rfl (x_pickF rfl rfl rfl) ?_
                    refine LW.val rfl rfl rfl (x_move rfl rfl) ?_
                    refine LW.split (t := 137) rfl (fun h137 => ?_) (fun h137 => ?_)
                    · skip
                      refine LW.gF rfl rfl rfl rfl rfl rfl ?_
                      refine LW.gF rfl rfl rfl rfl rfl rfl ?_
                      refine LW.gF rfl rfl rfl rfl rfl rfl ?_
                      refine LW.gF rfl rfl rfl rfl rfl rfl ?_
                      refine LW.gF rfl rfl rfl rfl rfl rfl ?_
                      refine LW.gF rfl rfl rfl rfl rfl rfl ?_
                      refine LW.gF rfl rfl rfl rfl rfl rfl ?_
                      refine LW.gF rfl rfl rfl rfl rfl rfl ?_
                      refine LW.gF rfl rfl rfl rfl rfl rfl ?_
                      refine LW.gF rfl rfl rfl rfl rfl rfl ?_
                      refine LW.val rfl rfl rfl (x_pickT rfl rfl rfl) ?_
                      refine LW.nil (QW.thenC (CW.condT rfl (CW.seq (CW.region ?_))))
                      refine LW.val rfl rfl rfl (x_assign rfl rfl) ?_
                      refine LW.nil (QW.thenC (CW.ret (QW.in_ret (QW.then_ret (QW.then_ret (QW.in_ret (QW.then_ret (QW.in_ret (QW.then_ret (QW.then_ret (QW.in_ret (QW.then_ret ?_))))))))))))
                      refine QW.res1 rfl (ResV.tmp rfl) (ret_eq (()) ?_ ?_)
                      · (exfalso; clear hfair hread hq hsu i2 i5 hr hrun hv; first | (simp_all; done) | (simp_all; omega) | (have f7 := f1 (by simpa using h82) (by simpa using h88); simp at h108; omega))
                      · (repeat (first | exact Sub.nil | exact Sub.all | (apply Sub.cons; (focus ((repeat (first | exact Rem.head | apply Rem.tail)); done))) | (apply Sub.row; (focus ((repeat (first | exact Rem.head | apply Rem.tail)); done)); (focus (first | with_reducible rfl | assumption | omega | (simp; done) | (simp [Nat.mul_comm]; done) | (simp; omega))); (focus (first | with_reducible rfl | assumption | omega | (simp; done) | (simp [Nat.mul_comm]; done) | (simp; omega))); (focus (first | with_reducible rfl | (simp [nums]; done) | (simp [nums]; omega) | (simp; done) | (simp; omega)))) | (apply Sub.blk; (focus ((repeat (first | exact Rem.head | apply Rem.tail)); done)); (focus (first | with_reducible rfl | (simp [nums]; done) | (simp [nums]; omega) | (simp; done) | (simp; omega)))) | fail))
                    · skip
                      refine LW.valG rfl rfl rfl rfl rfl (x_fieldAddr rfl rfl fl41_2 rfl) ?_
                      refine LW.valG rfl rfl rfl rfl rfl (x_loadB rfl rfl ty3 (by (repeat (first | exact Rem.head | apply Rem.tail)); done) (by exact rfl)) ?_
                      refine LW.valG rfl rfl rfl rfl rfl (x_geq rfl rfl rfl) ?_
                      refine LW.valG rfl rfl rfl rfl rfl (x_move rfl rfl) ?_
                      refine LW.split (t := 141) rfl (fun h141 => ?_) (fun h141 => ?_)
                      · skip
                        refine LW.valG rfl rfl rfl rfl rfl (x_fieldAddr rfl rfl fl41_1 rfl) ?_
                        refine LW.valG rfl rfl rfl rfl rfl (x_loadB rfl rfl ty3 (by (repeat (first | exact Rem.head | apply Rem.tail)); done) (by exact rfl)) ?_
                        refine LW.valG rfl rfl rfl rfl rfl (x_fieldAddr rfl rfl fl41_0 rfl) ?_
                        refine LW.valG rfl rfl rfl rfl rfl (x_loadB rfl rfl ty3 (by (repeat (first | exact Rem.head | apply Rem.tail)); done) (by exact rfl)) ?_
                        refine LW.valG rfl rfl rfl rfl rfl (x_neq rfl rfl rfl) ?_
                        refine LW.valG rfl rfl rfl rfl rfl (x_pickT rfl rfl rfl) ?_
                        refine LW.val rfl rfl rfl (x_pickF rfl rfl rfl) ?_
                        refine LW.nil (QW.thenC ?_)
                        refine CW.split (t := 148) rfl (fun h148 => ?_) (fun h148 => ?_)
                        · skip
                          refine CW.condT rfl (CW.seq (CW.region ?_))
                          refine LW.val rfl rfl rfl (x_assign rfl rfl) ?_
                          refine LW.nil (QW.thenC (CW.ret (QW.in_ret (QW.then_ret (QW.then_ret (QW.in_ret (QW.then_ret (QW.in_ret (QW.then_ret (QW.then_ret (QW.in_ret (QW.then_ret ?_))))))))))))
                          refine QW.res1 rfl (ResV.tmp rfl) (ret_eq (()) ?_ ?_)
                          · (exfalso; clear hfair hread hq hsu i2 i5 hr hrun hv; first | (simp_all; done) | (simp_all; omega) | (have f7 := f1 (by simpa using h82) (by simpa using h88); simp at h108; omega))
                          · (repeat (first | exact Sub.nil | exact Sub.all | (apply Sub.cons; (focus ((repeat (first | exact Rem.head | apply Rem.tail)); done))) | (apply Sub.row; (focus ((repeat (first | exact Rem.head | apply Rem.tail)); done)); (focus (first | with_reducible rfl | assumption | omega | (simp; done) | (simp [Nat.mul_comm]; done) | (simp; omega))); (focus (first | with_reducible rfl | assumption | omega | (simp; done) | (simp [Nat.mul_comm]; done) | (simp; omega))); (focus (first | with_reducible rfl | (simp [nums]; done) | (simp [nums]; omega) | (simp; done) | (simp; omega)))) | (apply Sub.blk; (focus ((repeat (first | exact Rem.head | apply Rem.tail)); done)); (focus (first | with_reducible rfl | (simp [nums]; done) | (simp [nums]; omega) | (simp; done) | (simp; omega)))) | fail))
                        · skip
                          refine CW.condF rfl (CW.skip (QW.in_normal (QW.thenC (CW.region ?_))))
                          refine LW.val rfl rfl rfl (x_add rfl rfl rfl (by omega)) ?_
                          refine LW.val rfl rfl rfl (x_move rfl rfl) ?_
                          refine LW.nil ?_
                          refine QW.then_ (QW.roundC1 (i + 1) ?_ ?_ (by (repeat (first | exact trivial | (refine ⟨rfl, ?_⟩) | (refine ⟨gS rfl (by omega), ?_⟩)))) (by (repeat (first | exact Ext.refl | (refine Ext.cons rfl ?_)))) (by (repeat (first | exact Sub.nil | exact Sub.all | (apply Sub.cons; (focus ((repeat (first | exact Rem.head | apply Rem.tail)); done))) | (apply Sub.row; (focus ((repeat (first | exact Rem.head | apply Rem.tail)); done)); (focus (first | with_reducible rfl | assumption | omega | (simp; done) | (simp [Nat.mul_comm]; done) | (simp; omega))); (focus (first | with_reducible rfl | assumption | omega | (simp; done) | (simp [Nat.mul_comm]; done) | (simp; omega))); (focus (first | with_reducible rfl | (simp [nums]; done) | (simp [nums]; omega) | (simp; done) | (simp; omega)))) | (apply Sub.blk; (focus ((repeat (first | exact Rem.head | apply Rem.tail)); done)); (focus (first | with_reducible rfl | (simp [nums]; done) | (simp [nums]; omega) | (simp; done) | (simp; omega)))) | fail))))
                          · first | exact trivial | omega
                          · first | omega | (simp; omega)
                      · skip
                        refine LW.gF rfl rfl rfl rfl rfl rfl ?_
                        refine LW.gF rfl rfl rfl rfl rfl rfl ?_
                        refine LW.gF rfl rfl rfl rfl rfl rfl ?_
                        refine LW.gF rfl rfl rfl rfl rfl rfl ?_
                        refine LW.gF rfl rfl rfl rfl rfl rfl ?_
                        refine LW.valG rfl rfl rfl rfl rfl (x_pickF rfl rfl rfl) ?_
                        refine LW.val rfl rfl rfl (x_pickF rfl rfl rfl) ?_
                        refine LW.nil (QW.thenC (CW.condF rfl (CW.skip (QW.in_normal (QW.thenC (CW.region ?_))))))
                        refine LW.val rfl rfl rfl (x_add rfl rfl rfl (by omega)) ?_
                        refine LW.val rfl rfl rfl (x_move rfl rfl) ?_
                        refine LW.nil ?_
                        refine QW.then_ (QW.roundC1 (i + 1) ?_ ?_ (by (repeat (first | exact trivial | (refine ⟨rfl, ?_⟩) | (refine ⟨gS rfl (by omega), ?_⟩)))) (by (repeat (first | exact Ext.refl | (refine Ext.cons rfl ?_)))) (by (repeat (first | exact Sub.nil | exact Sub.all | (apply Sub.cons; (focus ((repeat (first | exact Rem.head | apply Rem.tail)); done))) | (apply Sub.row; (focus ((repeat (first | exact Rem.head | apply Rem.tail)); done)); (focus (first | with_reducible rfl | assumption | omega | (simp; done) | (simp [Nat.mul_comm]; done) | (simp; omega))); (focus (first | with_reducible rfl | assumption | omega | (simp; done) | (simp [Nat.mul_comm]; done) | (simp; omega))); (focus (first | with_reducible rfl | (simp [nums]; done) | (simp [nums]; omega) | (simp; done) | (simp; omega)))) | (apply Sub.blk; (focus ((repeat (first | exact Rem.head | apply Rem.tail)); done)); (focus (first | with_reducible rfl | (simp [nums]; done) | (simp [nums]; omega) | (simp; done) | (simp; omega)))) | fail))))
                        · first | exact trivial | omega
                        · first | omega | (simp; omega)
          · skip
            refine LW.gF rfl rfl rfl rfl rfl rfl ?_
            refine LW.gF rfl rfl rfl rfl rfl rfl ?_
            refine LW.gF rfl rfl rfl rfl rfl rfl ?_
            refine LW.val rfl rfl rfl (x_pickF rfl rfl rfl) ?_
            refine LW.val rfl rfl rfl (x_assign rfl rfl) ?_
            refine LW.nil (QW.thenC (CW.seq (CW.region ?_)))
            refine LW.val rfl rfl rfl (x_move rfl rfl) ?_
            refine LW.val rfl rfl rfl (x_move rfl rfl) ?_
            refine LW.gF rfl rfl rfl rfl rfl rfl ?_
            refine LW.gF rfl rfl rfl rfl rfl rfl ?_
            refine LW.gF rfl rfl rfl rfl rfl rfl ?_
            refine LW.gF rfl rfl rfl rfl rfl rfl ?_
            refine LW.gF rfl rfl rfl rfl rfl rfl ?_
            refine LW.gF rfl rfl rfl rfl rfl rfl ?_
            refine LW.gF rfl rfl rfl rfl rfl rfl ?_
            refine LW.gF rfl rfl rfl rfl rfl rfl ?_
            refine LW.gF rfl rfl rfl rfl rfl rfl ?_
            refine LW.gF rfl rfl rfl rfl rfl rfl ?_
            refine LW.gF rfl rfl rfl rfl rfl rfl ?_
            refine LW.gF rfl rfl rfl rfl rfl rfl ?_
            refine LW.gF rfl rfl rfl rfl rfl rfl ?_
            refine LW.gF rfl rfl rfl rfl rfl rfl ?_
            refine LW.gF rfl rfl rfl rfl rfl rfl ?_
            refine LW.gF rfl rfl rfl rfl rfl rfl ?_
            refine LW.gF rfl rfl rfl rfl rfl rfl ?_
            refine LW.gF rfl rfl rfl rfl rfl rfl ?_
            refine LW.val rfl rfl rfl (x_pickF rfl rfl rfl) ?_
            refine LW.val rfl rfl rfl (x_move rfl rfl) ?_
            refine LW.valG rfl rfl rfl rfl rfl (x_fieldAddr rfl rfl fl41_2 rfl) ?_
            refine LW.valG rfl rfl rfl rfl rfl (x_loadB rfl rfl ty3 (by (repeat (first | exact Rem.head | apply Rem.tail)); done) (by exact rfl)) ?_
            refine LW.valG rfl rfl rfl rfl rfl (x_fieldAddr rfl rfl fl41_2 rfl) ?_
            refine LW.valG rfl rfl rfl rfl rfl (x_loadB rfl rfl ty3 (by (repeat (first | exact Rem.head | apply Rem.tail)); done) (by exact rfl)) ?_
            refine LW.valG rfl rfl rfl rfl rfl (x_lss rfl rfl rfl) ?_
            refine LW.val rfl rfl rfl (x_pickF rfl rfl rfl) ?_
            refine LW.val rfl rfl rfl (x_move rfl rfl) ?_
            refine LW.split (t := 115) rfl (fun h115 => ?_) (fun h115 => ?_)
            · skip
              refine LW.gF rfl rfl rfl rfl rfl rfl ?_
              refine LW.gF rfl rfl rfl rfl rfl rfl ?_
              refine LW.gF rfl rfl rfl rfl rfl rfl ?_
              refine LW.gF rfl rfl rfl rfl rfl rfl ?_
              refine LW.gF rfl rfl rfl rfl rfl rfl ?_
              refine LW.gF rfl rfl rfl rfl rfl rfl ?_
              refine LW.val rfl rfl rfl (x_pickT rfl rfl rfl) ?_
              refine LW.val rfl rfl rfl (x_move rfl rfl) ?_
              refine LW.gF rfl rfl rfl rfl rfl rfl ?_
              refine LW.gF rfl rfl rfl rfl rfl rfl ?_
              refine LW.gF rfl rfl rfl rfl rfl rfl ?_
              refine LW.gF rfl rfl rfl rfl rfl rfl ?_
              refine LW.gF rfl rfl rfl rfl rfl rfl ?_
              refine LW.val rfl rfl rfl (x_pickT rfl rfl rfl) ?_
              refine LW.val rfl rfl rfl (x_move rfl rfl) ?_
              refine LW.gF rfl rfl rfl rfl rfl rfl ?_
              refine LW.gF rfl rfl rfl rfl rfl rfl ?_
              refine LW.gF rfl rfl rfl rfl rfl rfl ?_
              refine LW.gF rfl rfl rfl rfl rfl rfl ?_
              refine LW.gF rfl rfl rfl rfl rfl rfl ?_
              refine LW.val rfl rfl rfl (x_pickT rfl rfl rfl) ?_
              refine LW.val rfl rfl rfl (x_move rfl rfl) ?_
              refine LW.gF rfl rfl rfl rfl rfl rfl ?_
              refine LW.gF rfl rfl rfl rfl rfl rfl ?_
              refine LW.gF rfl rfl rfl rfl rfl rfl ?_
              refine LW.gF rfl rfl rfl rfl rfl rfl ?_
              refine LW.gF rfl rfl rfl rfl rfl rfl ?_
              refine LW.gF rfl rfl rfl rfl rfl rfl ?_
              refine LW.gF rfl rfl rfl rfl rfl rfl ?_
              refine LW.gF rfl rfl rfl rfl rfl rfl ?_
              refine LW.gF rfl rfl rfl rfl rfl rfl ?_
              refine LW.gF rfl rfl rfl rfl rfl rfl ?_
              refine LW.val rfl rfl rfl (x_pickT rfl rfl rfl) ?_
              refine LW.nil (QW.thenC (CW.condT rfl (CW.seq (CW.region ?_))))
              refine LW.val rfl rfl rfl (x_assign rfl rfl) ?_
              refine LW.nil (QW.thenC (CW.ret (QW.in_ret (QW.then_ret (QW.then_ret (QW.in_ret (QW.then_ret (QW.in_ret (QW.then_ret (QW.then_ret (QW.in_ret (QW.then_ret ?_))))))))))))
              refine QW.res1 rfl (ResV.tmp rfl) (ret_eq (()) ?_ ?_)
              · (exfalso; clear hfair hread hq hsu i2 i5 hr hrun hv; first | (simp_all; done) | (simp_all; omega) | (have f7 := f1 (by simpa using h82) (by simpa using h88); simp at h108; omega))
              · (repeat (first | exact Sub.nil | exact Sub.all | (apply Sub.cons; (focus ((repeat (first | exact Rem.head | apply Rem.tail)); done))) | (apply Sub.row; (focus ((repeat (first | exact Rem.head | apply Rem.tail)); done)); (focus (first | with_reducible rfl | assumption | omega | (simp; done) | (simp [Nat.mul_comm]; done) | (simp; omega))); (focus (first | with_reducible rfl | assumption | omega | (simp; done) | (simp [Nat.mul_comm]; done) | (simp; omega))); (focus (first | with_reducible rfl | (simp [nums]; done) | (simp [nums]; omega) | (simp; done) | (simp; omega)))) | (apply Sub.blk; (focus ((repeat (first | exact Rem.head | apply Rem.tail)); done)); (focus (first | with_reducible rfl | (simp [nums]; done) | (simp [nums]; omega) | (simp; done) | (simp; omega)))) | fail))
            · skip
              refine LW.valG rfl rfl rfl rfl rfl (x_fieldAddr rfl rfl fl41_2 rfl) ?_
              refine LW.valG rfl rfl rfl rfl rfl (x_loadB rfl rfl ty3 (by (repeat (first | exact Rem.head | apply Rem.tail)); done) (by exact rfl)) ?_
              refine LW.valG rfl rfl rfl rfl rfl (x_fieldAddr rfl rfl fl41_2 rfl) ?_
              refine LW.valG rfl rfl rfl rfl rfl (x_loadB rfl rfl ty3 (by (repeat (first | exact Rem.head | apply Rem.tail)); done) (by exact rfl)) ?_
              refine LW.valG rfl rfl rfl rfl rfl (x_add rfl rfl rfl (by omega)) ?_
              refine LW.valG rfl rfl rfl rfl rfl (x_gtr rfl rfl rfl) ?_
              refine LW.val rfl rfl rfl (x_pickF rfl rfl rfl) ?_
              refine LW.val rfl rfl rfl (x_move rfl rfl) ?_
              refine LW.split (t := 123) rfl (fun h123 => ?_) (fun h123 => ?_)
              · skip
                refine LW.gF rfl rfl rfl rfl rfl rfl ?_
                refine LW.gF rfl rfl rfl rfl rfl rfl ?_
                refine LW.gF rfl rfl rfl rfl rfl rfl ?_
                refine LW.gF rfl rfl rfl rfl rfl rfl ?_
                refine LW.gF rfl rfl rfl rfl rfl rfl ?_
                refine LW.val rfl rfl rfl (x_pickT rfl rfl rfl) ?_
                refine LW.val rfl rfl rfl (x_move rfl rfl) ?_
                refine LW.gF rfl rfl rfl rfl rfl rfl ?_
                refine LW.gF rfl rfl rfl rfl rfl rfl ?_
                refine LW.gF rfl rfl rfl rfl rfl rfl ?_
                refine LW.gF rfl rfl rfl rfl rfl rfl ?_
                refine LW.gF rfl rfl rfl rfl rfl rfl ?_
                refine LW.val rfl rfl rfl (x_pickT rfl rfl rfl) ?_
                refine LW.val rfl rfl rfl (x_move rfl rfl) ?_
                refine LW.gF rfl rfl rfl rfl rfl rfl ?_
                refine LW.gF rfl rfl rfl rfl rfl rfl ?_
                refine LW.gF rfl rfl rfl rfl rfl rfl ?_
                refine LW.gF rfl rfl rfl rfl rfl rfl ?_
                refine LW.gF rfl rfl rfl rfl rfl rfl ?_
                refine LW.gF rfl rfl rfl rfl rfl rfl ?_
                refine LW.gF rfl rfl rfl rfl rfl rfl ?_
                refine LW.gF rfl rfl rfl rfl rfl rfl ?_
                refine LW.gF rfl rfl rfl rfl rfl rfl ?_
                refine LW.gF rfl rfl rfl rfl rfl rfl ?_
                refine LW.val rfl rfl rfl (x_pickT rfl rfl rfl) ?_
                refine LW.nil (QW.thenC (CW.condT rfl (CW.seq (CW.region ?_))))
                refine LW.val rfl rfl rfl (x_assign rfl rfl) ?_
                refine LW.nil (QW.thenC (CW.ret (QW.in_ret (QW.then_ret (QW.then_ret (QW.in_ret (QW.then_ret (QW.in_ret (QW.then_ret (QW.then_ret (QW.in_ret (QW.then_ret ?_))))))))))))
                refine QW.res1 rfl (ResV.tmp rfl) (ret_eq (()) ?_ ?_)
                · (exfalso; clear hfair hread hq hsu i2 i5 hr hrun hv; first | (simp_all; done) | (simp_all; omega) | (have f7 := f1 (by simpa using h82) (by simpa using h88); simp at h108; omega))
                · (repeat (first | exact Sub.nil | exact Sub.all | (apply Sub.cons; (focus ((repeat (first | exact Rem.head | apply Rem.tail)); done))) | (apply Sub.row; (focus ((repeat (first | exact Rem.head | apply Rem.tail)); done)); (focus (first | with_reducible rfl | assumption | omega | (simp; done) | (simp [Nat.mul_comm]; done) | (simp; omega))); (focus (first | with_reducible rfl | assumption | omega | (simp; done) | (simp [Nat.mul_comm]; done) | (simp; omega))); (focus (first | with_reducible rfl | (simp [nums]; done) | (simp [nums]; omega) | (simp; done) | (simp; omega)))) | (apply Sub.blk; (focus ((repeat (first | exact Rem.head | apply Rem.tail)); done)); (focus (first | with_reducible rfl | (simp [nums]; done) | (simp [nums]; omega) | (simp; done) | (simp; omega)))) | fail))
              · skip
                refine LW.valG rfl rfl rfl rfl rfl (x_fieldAddr rfl rfl fl41_0 rfl) ?_
                refine LW.valG rfl rfl rfl rfl rfl (x_loadB rfl rfl ty3 (by (repeat (first | exact Rem.head | apply Rem.tail)); done) (by exact rfl)) ?_
                refine LW.valG rfl rfl rfl rfl rfl (x_fieldAddr rfl rfl fl41_0 rfl) ?_
                refine LW.valG rfl rfl rfl rfl rfl (x_loadB rfl rfl ty3 (by (repeat (first | exact Rem.head | apply Rem.tail)); done) (by exact rfl)) ?_
                refine LW.valG rfl rfl rfl rfl rfl (x_neq rfl rfl rfl) ?_
                refine LW.val rfl rfl rfl (x_pickF rfl rfl rfl) ?_
                refine LW.val rfl rfl rfl (x_move rfl rfl) ?_
                refine LW.split (t := 130) rfl (fun h130 => ?_) (fun h130 => ?_)
                · skip
                  refine LW.gF rfl rfl rfl rfl rfl rfl ?_
                  refine LW.gF rfl rfl rfl rfl rfl rfl ?_
                  refine LW.gF rfl rfl rfl rfl rfl rfl ?_
                  refine LW.gF rfl rfl rfl rfl rfl rfl ?_
                  refine LW.gF rfl rfl rfl rfl rfl rfl ?_
                  refine LW.val rfl rfl rfl (x_pickT rfl rfl rfl) ?_
                  refine LW.val rfl rfl rfl (x_move rfl rfl) ?_
                  refine LW.gF rfl rfl rfl rfl rfl rfl ?_
                  refine LW.gF rfl rfl rfl rfl rfl rfl ?_
                  refine LW.gF rfl rfl rfl rfl rfl rfl ?_
                  refine LW.gF rfl rfl rfl rfl rfl rfl ?_
                  refine LW.gF rfl rfl rfl rfl rfl rfl ?_
                  refine LW.gF rfl rfl rfl rfl rfl rfl ?_
                  refine LW.gF rfl rfl rfl rfl rfl rfl ?_
                  refine LW.gF rfl rfl rfl rfl rfl rfl ?_
                  refine LW.gF rfl rfl rfl rfl rfl rfl ?_
                  refine LW.gF rfl rfl rfl rfl rfl rfl ?_
                  refine LW.val rfl rfl rfl (x_pickT rfl rfl rfl) ?_
                  refine LW.nil (QW.thenC (CW.condT rfl (CW.seq (CW.region ?_))))
                  refine LW.val rfl rfl rfl (x_assign rfl rfl) ?_
                  refine LW.nil (QW.thenC (CW.ret (QW.in_ret (QW.then_ret (QW.then_ret (QW.in_ret (QW.then_ret (QW.in_ret (QW.then_ret (QW.then_ret (QW.in_ret (QW.then_ret ?_))))))))))))
                  refine QW.res1 rfl (ResV.tmp rfl) (ret_eq (()) ?_ ?_)
                  · (exfalso; clear hfair hread hq hsu i2 i5 hr hrun hv; first | (simp_all; done) | (simp_all; omega) | (have f7 := f1 (by simpa using h82) (by simpa using h88); simp at h108; omega))
                  · (repeat (first | exact Sub.nil | exact Sub.all | (apply Sub.cons; (focus ((repeat (first | exact Rem.head | apply Rem.tail)); done))) | (apply Sub.row; (focus ((repeat (first | exact Rem.head | apply Rem.tail)); done)); (focus (first | with_reducible rfl | assumption | omega | (simp; done) | (simp [Nat.mul_comm]; done) | (simp; omega))); (focus (first | with_reducible rfl | assumption | omega | (simp; done) | (simp [Nat.mul_comm]; done) | (simp; omega))); (focus (first | with_reducible rfl | (simp [nums]; done) | (simp [nums]; omega) | (simp; done) | (simp; omega)))) | (apply Sub.blk; (focus ((repeat (first | exact Rem.head | apply Rem.tail)); done)); (focus (first | with_reducible rfl | (simp [nums]; done) | (simp [nums]; omega) | (simp; done) | (simp; omega)))) | fail))
                · skip
                  refine LW.valG rfl rfl rfl rfl rfl (x_fieldAddr rfl rfl fl41_1 rfl) ?_
                  refine LW.valG rfl rfl rfl rfl rfl (x_loadB rfl rfl ty3 (by (repeat (first | exact Rem.head | apply Rem.tail)); done) (by exact rfl)) ?_
                  refine LW.valG rfl rfl rfl rfl rfl (x_fieldAddr rfl rfl fl41_1 rfl) ?_
                  refine LW.valG rfl rfl rfl rfl rfl (x_loadB rfl rfl ty3 (by (repeat (first | exact Rem.head | apply Rem.tail)); done) (by exact rfl)) ?_
                  refine LW.valG rfl rfl rfl rfl rfl (x_lss rfl rfl rfl) ?_
                  refine LW.val rfl rfl rfl (x_pickF rfl rfl rfl) ?_
                  refine LW.val rfl rfl rfl (x_move rfl rfl) ?_
                  refine LW.split (t := 137) rfl (fun h137 => ?_) (fun h137 => ?_)
                  · skip
                    refine LW.gF rfl rfl rfl rfl rfl rfl ?_
                    refine LW.gF rfl rfl rfl rfl rfl rfl ?_
                    refine LW.gF rfl rfl rfl rfl rfl rfl ?_
                    refine LW.gF rfl rfl rfl rfl rfl rfl ?_
                    refine LW.gF rfl rfl rfl rfl rfl rfl ?_
                    refine LW.gF rfl rfl rfl rfl rfl rfl ?_
                    refine LW.gF rfl rfl rfl rfl rfl rfl ?_
                    refine LW.gF rfl rfl rfl rfl rfl rfl ?_
                    refine LW.gF rfl rfl rfl rfl rfl rfl ?_
                    refine LW.gF rfl rfl rfl rfl rfl rfl ?_
                    refine LW.val rfl rfl rfl (x_pickT rfl rfl rfl) ?_
                    refine LW.nil (QW.thenC (CW.condT rfl (CW.seq (CW.region ?_))))
                    refine LW.val rfl rfl rfl (x_assign rfl rfl) ?_
                    refine LW.nil (QW.thenC (CW.ret (QW.in_ret (QW.then_ret (QW.then_ret (QW.in_ret (QW.then_ret (QW.in_ret (QW.then_ret (QW.then_ret (QW.in_ret (QW.then_ret ?_))))))))))))
                    refine QW.res1 rfl (ResV.tmp rfl) (ret_eq (()) ?_ ?_)
                    · (exfalso; clear hfair hread hq hsu i2 i5 hr hrun hv; first | (simp_all; done) | (simp_all; omega) | (have f7 := f1 (by simpa using h82) (by simpa using h88); simp at h108; omega))
                    · (repeat (first | exact Sub.nil | exact Sub.all | (apply Sub.cons; (focus ((repeat (first | exact Rem.head | apply Rem.tail)); done))) | (apply Sub.row; (focus ((repeat (first | exact Rem.head | apply Rem.tail)); done)); (focus (first | with_reducible rfl | assumption | omega | (simp; done) | (simp [Nat.mul_comm]; done) | (simp; omega))); (focus (first | with_reducible rfl | assumption | omega | (simp; done) | (simp [Nat.mul_comm]; done) | (simp; omega))); (focus (first | with_reducible rfl | (simp [nums]; done) | (simp [nums]; omega) | (simp; done) | (simp; omega)))) | (apply Sub.blk; (focus ((repeat (first | exact Rem.head | apply Rem.tail)); done)); (focus (first | with_reducible rfl | (simp [nums]; done) | (simp [nums]; omega) | (simp; done) | (simp; omega)))) | fail))
                  · skip
                    refine LW.valG rfl rfl rfl rfl rfl (x_fieldAddr rfl rfl fl41_2 rfl) ?_
                    refine LW.valG rfl rfl rfl rfl rfl (x_loadB rfl rfl ty3 (by (repeat (first | exact Rem.head | apply Rem.tail)); done) (by exact rfl)) ?_
                    refine LW.valG rfl rfl rfl rfl rfl (x_geq rfl rfl rfl) ?_
                    refine LW.valG rfl rfl rfl rfl rfl (x_move rfl rfl) ?_
                    refine LW.split (t := 141) rfl (fun h141 => ?_) (fun h141 => ?_)
                    · skip
                      refine LW.valG rfl rfl rfl rfl rfl (x_fieldAddr rfl rfl fl41_1 rfl) ?_
                      refine LW.valG rfl rfl rfl rfl rfl (x_loadB rfl rfl ty3 (by (repeat (first | exact Rem.head | apply Rem.tail)); done) (by exact rfl)) ?_
                      refine LW.valG rfl rfl rfl rfl rfl (x_fieldAddr rfl rfl fl41_0 rfl) ?_
                      refine LW.valG rfl rfl rfl rfl rfl (x_loadB rfl rfl ty3 (by (repeat (first | exact Rem.head | apply Rem.tail)); done) (by exact rfl)) ?_
                      refine LW.valG rfl rfl rfl rfl rfl (x_neq rfl rfl rfl) ?_
                      refine LW.valG rfl rfl rfl rfl rfl (x_pickT rfl rfl rfl) ?_
                      refine LW.val rfl rfl rfl (x_pickF rfl rfl rfl) ?_
                      refine LW.nil (QW.thenC ?_)
                      refine CW.split (t := 148) rfl (fun h148 => ?_) (fun h148 => ?_)
                      · skip
                        refine CW.condT rfl (CW.seq (CW.region ?_))
                        refine LW.val rfl rfl rfl (x_assign rfl rfl) ?_
                        refine LW.nil (QW.thenC (CW.ret (QW.in_ret (QW.then_ret (QW.then_ret (QW.in_ret (QW.then_ret (QW.in_ret (QW.then_ret (QW.then_ret (QW.in_ret (QW.then_ret ?_))))))))))))
                        refine QW.res1 rfl (ResV.tmp rfl) (ret_eq (()) ?_ ?_)
                        · (exfalso; clear hfair hread hq hsu i2 i5 hr hrun hv; first | (simp_all; done) | (simp_all; omega) | (have f7 := f1 (by simpa using h82) (by simpa using h88); simp at h108; omega))
                        · (repeat (first | exact Sub.nil | exact Sub.all | (apply Sub.cons; (focus ((repeat (first | exact Rem.head | apply Rem.tail)); done))) | (apply Sub.row; (focus ((repeat (first | exact Rem.head | apply Rem.tail)); done)); (focus (first | with_reducible rfl | assumption | omega | (simp; done) | (simp [Nat.mul_comm]; done) | (simp; omega))); (focus (first | with_reducible rfl | assumption | omega | (simp; done) | (simp [Nat.mul_comm]; done) | (simp; omega))); (focus (first | with_reducible rfl | (simp [nums]; done) | (simp [nums]; omega) | (simp; done) | (simp; omega)))) | (apply Sub.blk; (focus ((repeat (first | exact Rem.head | apply Rem.tail)); done)); (focus (first | with_reducible rfl | (simp [nums]; done) | (simp [nums]; omega) | (simp; done) | (simp; omega)))) | fail))
                      · skip
                        refine CW.condF rfl (CW.skip (QW.in_normal (QW.thenC (CW.region ?_))))
                        refine LW.val rfl rfl rfl (x_add rfl rfl rfl (by omega)) ?_
                        refine LW.val rfl rfl rfl (x_move rfl rfl) ?_
                        refine LW.nil ?_
                        refine QW.then_ (QW.roundC1 (i + 1) ?_ ?_ (by (repeat (first | exact trivial | (refine ⟨rfl, ?_⟩) | (refine ⟨gS rfl (by omega), ?_⟩)))) (by (repeat (first | exact Ext.refl | (refine Ext.cons rfl ?_)))) (by (repeat (first | exact Sub.nil | exact Sub.all | (apply Sub.cons; (focus ((repeat (first | exact Rem.head | apply Rem.tail)); done))) | (apply Sub.row; (focus ((repeat (first | exact Rem.head | apply Rem.tail)); done)); (focus (first | with_reducible rfl | assumption | omega | (simp; done) | (simp [Nat.mul_comm]; done) | (simp; omega))); (focus (first | with_reducible rfl | assumption | omega | (simp; done) | (simp [Nat.mul_comm]; done) | (simp; omega))); (focus (first | with_reducible rfl | (simp [nums]; done) | (simp [nums]; omega) | (simp; done) | (simp; omega)))) | (apply Sub.blk; (focus ((repeat (first | exact Rem.head | apply Rem.tail)); done)); (focus (first | with_reducible rfl | (simp [nums]; done) | (simp [nums]; omega) | (simp; done) | (simp; omega)))) | fail))))
                        · first | exact trivial | omega
                        · first | omega | (simp; omega)
                    · skip
                      refine LW.gF rfl rfl rfl rfl rfl rfl ?_
                      refine LW.gF rfl rfl rfl rfl rfl rfl ?_
                      refine LW.gF rfl rfl rfl rfl rfl rfl ?_
                      refine LW.gF rfl rfl rfl rfl rfl rfl ?_
                      refine LW.gF rfl rfl rfl rfl rfl rfl ?_
                      refine LW.valG rfl rfl rfl rfl rfl (x_pickF rfl rfl rfl) ?_
                      refine LW.val rfl rfl rfl (x_pickF rfl rfl rfl) ?_
                      refine LW.nil (QW.thenC (CW.condF rfl (CW.skip (QW.in_normal (QW.thenC (CW.region ?_))))))
                      refine LW.val rfl rfl rfl (x_add rfl rfl rfl (by omega)) ?_
                      refine LW.val rfl rfl rfl (x_move rfl rfl) ?_
                      refine LW.nil ?_
                      refine QW.then_ (QW.roundC1 (i + 1) ?_ ?_ (by (repeat (first | exact trivial | (refine ⟨rfl, ?_⟩) | (refine ⟨gS rfl (by omega), ?_⟩)))) (by (repeat (first | exact Ext.refl | (refine Ext.cons rfl ?_)))) (by (repeat (first | exact Sub.nil | exact Sub.all | (apply Sub.cons; (focus ((repeat (first | exact Rem.head | apply Rem.tail)); done))) | (apply Sub.row; (focus ((repeat (first | exact Rem.head | apply Rem.tail)); done)); (focus (first | with_reducible rfl | assumption | omega | (simp; done) | (simp [Nat.mul_comm]; done) | (simp; omega))); (focus (first | with_reducible rfl | assumption | omega | (simp; done) | (simp [Nat.mul_comm]; done) | (simp; omega))); (focus (first | with_reducible rfl | (simp [nums]; done) | (simp [nums]; omega) | (simp; done) | (simp; omega)))) | (apply Sub.blk; (focus ((repeat (first | exact Rem.head | apply Rem.tail)); done)); (focus (first | with_reducible rfl | (simp [nums]; done) | (simp [nums]; omega) | (simp; done) | (simp; omega)))) | fail))))
                      · first | exact trivial | omega
                      · first | omega | (simp; omega)
        · refine CW.exit (QW.then_exit (QW.then_exit (QW.in_hit (QW.thenC (CW.seq (CW.region ?_))))))
          refine LW.val rfl rfl rfl (x_loadB0 rfl rfl ty31 (by (repeat (first | exact Rem.head | apply Rem.tail)); done) rfl) ?_
          refine LW.op0 rfl rfl (y_storeB0 rfl rfl rfl rfl ty31 rfl (by (repeat (first | exact Rem.head | apply Rem.tail)); done) rfl) ?_
          intro _u
          refine LW.nil (QW.thenC (CW.region ?_))
          refine LW.val rfl rfl rfl (x_move rfl rfl) ?_
          refine LW.val rfl rfl rfl (x_add rfl rfl rfl (by omega)) ?_
          refine LW.val rfl rfl rfl (x_assign rfl rfl) ?_
          refine LW.nil (QW.in_normal (QW.thenC (CW.region ?_)))
          refine LW.val rfl rfl rfl (x_add rfl rfl rfl (by omega)) ?_
          refine LW.val rfl rfl rfl (x_move rfl rfl) ?_
          refine LW.nil ?_
          refine QW.then_ (QW.roundC5 (n + 1) ((d', m', ys', k0 + 1)) ((A5, c5)) ((A5, c5)) (ys') ?_ ?_ (by (repeat (first | exact trivial | (refine ⟨rfl, ?_⟩) | (refine ⟨gS rfl (by omega), ?_⟩)))) (by (repeat (first | exact Ext.refl | (refine Ext.cons rfl ?_)))) (by (repeat (first | exact Sub.nil | exact Sub.all | (apply Sub.cons; (focus ((repeat (first | exact Rem.head | apply Rem.tail)); done))) | (apply Sub.row; (focus ((repeat (first | exact Rem.head | apply Rem.tail)); done)); (focus (first | with_reducible rfl | assumption | omega | (simp; done) | (simp [Nat.mul_comm]; done) | (simp; omega))); (focus (first | with_reducible rfl | assumption | omega | (simp; done) | (simp [Nat.mul_comm]; done) | (simp; omega))); (focus (first | with_reducible rfl | (simp [nums]; done) | (simp [nums]; omega) | (simp; done) | (simp; omega)))) | (apply Sub.blk; (focus ((repeat (first | exact Rem.head | apply Rem.tail)); done)); (focus (first | with_reducible rfl | (simp [nums]; done) | (simp [nums]; omega) | (simp; done) | (simp; omega)))) | fail))))
          · exact ⟨by omega, by rw [hsu]; exact runStep_yes (q := (d0, m0, ys0, k0)) hq, hg', by show k0 + 1 ≤ n + 1; omega, .inr ⟨rfl, rfl⟩⟩
          · first | omega | (simp; omega)
    · have e1 : n = steps.length := by omega
      subst e1
      rw [hrun] at i2
      simp only [Prod.mk.injEq] at i2
      obtain ⟨rfl, rfl, rfl, rfl⟩ := i2
      refine CW.exit (QW.then_exit (QW.then_exit (QW.in_hit (QW.thenC (CW.seq (CW.region ?_))))))
      refine LW.val rfl rfl rfl (x_move rfl rfl) ?_
      refine LW.val rfl rfl rfl (x_move rfl rfl) ?_
      refine LW.val rfl rfl rfl (x_eql rfl rfl rfl) ?_
      refine LW.val rfl rfl rfl (x_move rfl rfl) ?_
      refine LW.split (t := 157) rfl (fun _ => ?_) (fun hno => absurd hno (by simp))
      refine LW.valG rfl rfl rfl rfl rfl (x_loadB0 rfl rfl ty31 (by (repeat (first | exact Rem.head | apply Rem.tail)); done) rfl) ?_
      refine LW.valG rfl rfl rfl rfl rfl (x_loadB0 rfl rfl ty31 (by (repeat (first | exact Rem.head | apply Rem.tail)); done) rfl) ?_
      refine LW.opG rfl rfl rfl rfl rfl (y_call rfl rfl rfl en12 (fun w HW => tdShop_ct d l mny ys A3 c3 A1 c1 _ (hread _ _ _ HW (by (repeat (first | exact Rem.head | apply Rem.tail)); done)) (SH.rdR (by (repeat (first | exact Rem.head | apply Rem.tail)); done) hys' HW))) ?_
      rintro ⟨⟩
      refine LW.val rfl rfl rfl (x_pickT rfl rfl rfl) ?_
      refine LW.val rfl rfl rfl (x_assign rfl rfl) ?_
      refine LW.nil (QW.thenC (CW.ret ?_))
      refine QW.res1 rfl (ResV.tmp rfl) (ret_eq (()) ?_ ?_)
      · first | rfl | (simp only []; rfl)
      · (repeat (first | exact Sub.nil | exact Sub.all | (apply Sub.cons; (focus ((repeat (first | exact Rem.head | apply Rem.tail)); done))) | (apply Sub.row; (focus ((repeat (first | exact Rem.head | apply Rem.tail)); done)); (focus (first | with_reducible rfl | assumption | omega | (simp; done) | (simp [Nat.mul_comm]; done) | (simp; omega))); (focus (first | with_reducible rfl | assumption | omega | (simp; done) | (simp [Nat.mul_comm]; done) | (simp; omega))); (focus (first | with_reducible rfl | (simp [nums]; done) | (simp [nums]; omega) | (simp; done) | (simp; omega)))) | (apply Sub.blk; (focus ((repeat (first | exact Rem.head | apply Rem.tail)); done)); (focus (first | with_reducible rfl | (simp [nums]; done) | (simp [nums]; omega) | (simp; done) | (simp; omega)))) | fail))
end Go.Proofs.Ytbgjlojnbdnoaaa
