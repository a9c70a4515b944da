/- The law of AddBorder, walked. -/
import Derived.Test.YtbandmcdkcfpiaaAddB
namespace Go.Proofs.Ytbandmcdkcfpiaa
open Go.RowKit Go.Proofs.YtbandmcdkcfpiaaW.PrintWords
set_option linter.unusedVariables false
set_option linter.unusedSimpArgs false
theorem szN_leave {n : Nat} {m : Int} (h : ¬ szN n m < 0) : (n : Int) ≤ m ∧ szN n m = m - n := by
  unfold szN at *; split at h <;> omega
theorem szN_bd (n : Nat) (m : Int) (h : m ≤ 1048576) : -1 ≤ szN n m ∧ szN n m ≤ 1048576 := by unfold szN; split <;> omega
theorem toIntS_ct (xs : List Int) (A : Option Addr) (c : Nat) (w : World) (hR : RdI w A c xs) : Calls Try.prog 34 #[.slice A xs.length c] w (Ret (fun p : Option Addr × Nat => .slice p.1 xs.length p.2) (fun p => [rowI p.1 xs.length p.2 xs]) w) := ret_i (toIntS_any xs A c w hR)
theorem eqIntS_ct (xs : List Int) (A B : Option Addr) (c d : Nat) (w : World) (hR : RdI w A c xs) (hR' : RdI w B d xs) : Calls Try.prog 36 #[.slice A xs.length c, .slice B xs.length d] w (Ret (fun _ : Unit => .bool true) (fun _ => []) w) := ret_b (by have := eqIntS_any xs xs A B c d w hR hR'; simpa using this)
theorem markIntS_ct (xs : List Int) (A : Option Addr) (c n : Nat) (w : World) (hn : n ≤ 17592186043904) (hO : OwnI w 0 (.slice A xs.length c) xs) : Calls Try.prog 37 #[.slice A xs.length c, .int .i64 n] w fun e w' => ∃ p : Unit, e = .returned ((fun _ => .int .i64 ((n + xs.length : Nat) : Int)) p) ∧ SH w (Value.slice A xs.length c).ownBlock.toList w' ((fun _ => [rowI A xs.length c (marks n xs.length)]) p) :=
  ret_mark (base := 0) (ys := marks n xs.length) (by simp [marks]) (own_at0 hO) (markIntS_any xs n 0 A c w hO hn)
theorem abR_len {cw ch : Int} {k p : List Int} {ok : Bool} {rw rh : Int} {rk : List Int} (hr : abR cw ch k p = (ok, rw, rh, rk)) : rk.length ≤ 100 := by
  unfold abR at hr
  split at hr
  · rename_i h
    simp only [abOk, Bool.and_eq_true] at h
    obtain ⟨⟨a1, a2⟩, ⟨a3, a4⟩, _⟩ := goodB_iff.1 h.1.1.1.1
    have c1 := inB_iff.1 h.1.1.2
    have c2 := inB_iff.1 h.1.2
    simp only [Prod.mk.injEq] at hr
    obtain ⟨_, _, _, rfl⟩ := hr
    rw [ringed_length, putN_length, List.length_replicate]
    have : (cw.toNat + 2) * (ch.toNat + 2) ≤ 10 * 10 := Nat.mul_le_mul (by omega) (by omega)
    omega
  · simp only [Prod.mk.injEq] at hr
    obtain ⟨_, _, _, rfl⟩ := hr
    simp

set_option maxRecDepth 40000 in
set_option maxHeartbeats 1000000 in
theorem FnExactAddBorder_ct (cw ch : Int) (k p : List Int) (A C : Option Addr) (c d : Nat) (w : World) (hR : RdI w A c k) (hR' : RdI w C d p) :
    Calls Try.prog 5 #[chA cw ch A k.length c, .slice C p.length d] w (Ret (fun _ : Unit => .bool true) (fun _ => []) w) := by
  have hl := hR.len
  have hlp := hR'.len
  obtain ⟨ok, rw, rh, rk, hr⟩ : ∃ ok rw rh rk, abR cw ch k p = (ok, rw, rh, rk) := ⟨_, _, _, _, rfl⟩
  refine enter Try.func5 rfl rfl Try.ntmps5 rfl ?_
  refine CW.seq (CW.region ?_)
  refine LW.op rfl rfl rfl (y_box rfl rfl rfl) ?_
  intro b2
  refine LW.val rfl rfl rfl (x_assign rfl rfl) ?_
  refine LW.nil (QW.thenC (CW.seq (CW.seq (CW.region ?_))))
  refine LW.val rfl rfl rfl (x_move rfl rfl) ?_
  refine LW.val rfl rfl rfl (x_len (ty := 0) rfl rfl Try.underlying22) ?_
  refine LW.val rfl rfl rfl (x_gtr rfl rfl rfl) ?_
  refine LW.nil (QW.thenC ?_)
  refine CW.condD rfl (fun h1 => ?_) (fun h1 => ?_)
  · refine CW.seq (CW.region ?_)
    refine LW.val rfl rfl rfl (x_assign rfl rfl) ?_
    refine LW.nil (QW.thenC (CW.ret (QW.then_ret ?_)))
    refine QW.res1 rfl (ResV.tmp rfl) (ret_eq (()) ?_ ?_)
    · first | rfl | (simp only []; rfl)
    · (repeat (first | exact Sub.nil | exact Sub.all | (apply Sub.cons; (focus ((repeat (first | exact Rem.head | apply Rem.tail)); done))) | (apply Sub.row; (focus ((repeat (first | exact Rem.head | apply Rem.tail)); done)); (focus (first | with_reducible rfl | assumption | omega | (simp; done) | (simp [Nat.mul_comm]; done) | (simp; omega))); (focus (first | with_reducible rfl | assumption | omega | (simp; done) | (simp [Nat.mul_comm]; done) | (simp; omega))); (focus (first | with_reducible rfl | (simp [nums]; done) | (simp [nums]; omega) | (simp; done) | (simp; omega)))) | (apply Sub.blk; (focus ((repeat (first | exact Rem.head | apply Rem.tail)); done)); (focus (first | with_reducible rfl | (simp [nums]; done) | (simp [nums]; omega) | (simp; done) | (simp; omega)))) | fail))
  · refine CW.skip (QW.thenC (CW.seq (CW.region ?_)))
    refine LW.val rfl rfl rfl (x_assign rfl rfl) ?_
    refine LW.nil (QW.thenC (CW.seq (CW.region ?_)))
    refine LW.val rfl rfl rfl (x_loadBN rfl rfl ty24 (by (repeat (first | exact Rem.head | apply Rem.tail)); done) (by exact rfl) rfl) ?_
    refine LW.val rfl rfl rfl (x_move rfl rfl) ?_
    refine LW.op rfl rfl rfl (y_call rfl rfl rfl en13 (fun w HW => szChart_ct cw ch k _ _ _ w rfl 1048576 hl (by omega) (by omega))) ?_
    rintro ⟨⟩
    refine LW.val rfl rfl rfl (x_assign rfl rfl) ?_
    refine LW.nil (QW.thenC (CW.seq (CW.seq (CW.region ?_))))
    refine LW.val rfl rfl rfl (x_move rfl rfl) ?_
    refine LW.val rfl rfl rfl (x_lss rfl rfl rfl) ?_
    refine LW.nil (QW.thenC ?_)
    refine CW.condD rfl (fun h2 => ?_) (fun h2 => ?_)
    · refine CW.seq (CW.region ?_)
      refine LW.val rfl rfl rfl (x_assign rfl rfl) ?_
      refine LW.nil (QW.thenC (CW.ret (QW.then_ret ?_)))
      refine QW.res1 rfl (ResV.tmp rfl) (ret_eq (()) ?_ ?_)
      · first | rfl | (simp only []; rfl)
      · (repeat (first | exact Sub.nil | exact Sub.all | (apply Sub.cons; (focus ((repeat (first | exact Rem.head | apply Rem.tail)); done))) | (apply Sub.row; (focus ((repeat (first | exact Rem.head | apply Rem.tail)); done)); (focus (first | with_reducible rfl | assumption | omega | (simp; done) | (simp [Nat.mul_comm]; done) | (simp; omega))); (focus (first | with_reducible rfl | assumption | omega | (simp; done) | (simp [Nat.mul_comm]; done) | (simp; omega))); (focus (first | with_reducible rfl | (simp [nums]; done) | (simp [nums]; omega) | (simp; done) | (simp; omega)))) | (apply Sub.blk; (focus ((repeat (first | exact Rem.head | apply Rem.tail)); done)); (focus (first | with_reducible rfl | (simp [nums]; done) | (simp [nums]; omega) | (simp; done) | (simp; omega)))) | fail))
    · obtain ⟨h3, _⟩ := szN_leave h2
      refine CW.skip (QW.thenC (CW.seq (CW.region ?_)))
      refine LW.val rfl rfl rfl (x_loadBN rfl rfl ty24 (by (repeat (first | exact Rem.head | apply Rem.tail)); done) (by exact rfl) rfl) ?_
      refine LW.op rfl rfl rfl (y_call rfl rfl rfl en15 (fun w HW => toChart_ct cw ch k _ _ _ w rfl (hR.up HW.below))) ?_
      rintro ⟨A1, c1⟩
      refine LW.val rfl rfl rfl (x_move rfl rfl) ?_
      refine LW.op rfl rfl rfl (y_call rfl rfl rfl en34 (fun w HW => toIntS_ct p _ _ w (hR'.up HW.below))) ?_
      rintro ⟨A2, c2⟩
      refine LW.op rfl rfl rfl (y_call rfl rfl rfl en33 (fun w HW => specAddBorder_ct cw ch k p _ _ _ _ w (SH.rdI (by (repeat (first | exact Rem.head | apply Rem.tail)); done) hl HW) (SH.rdI (by (repeat (first | exact Rem.head | apply Rem.tail)); done) hlp HW) ok rw rh rk hr)) ?_
      rintro ⟨A3, c3⟩
      refine LW.val rfl rfl rfl (x_move rfl rfl) ?_
      refine LW.val rfl rfl rfl (x_extract rfl rfl rfl) ?_
      refine LW.val rfl rfl rfl (x_extract rfl rfl rfl) ?_
      refine LW.op rfl rfl rfl (y_alloc rfl ze26) ?_
      intro b6
      refine LW.op0 rfl rfl (y_storeBN rfl rfl rfl rfl ty26 rfl (by (repeat (first | exact Rem.head | apply Rem.tail)); done) (by exact rfl) (by (simp only [List.take, List.drop, List.nil_append, List.cons_append, Nat.add_zero, Nat.zero_add]; rfl))) ?_
      intro _u
      refine LW.val rfl rfl rfl (x_assign rfl rfl) ?_
      refine LW.nil (QW.thenC (CW.seq (CW.region ?_)))
      refine LW.val rfl rfl rfl (x_loadBN rfl rfl ty24 (by (repeat (first | exact Rem.head | apply Rem.tail)); done) (by exact rfl) rfl) ?_
      refine LW.op rfl rfl rfl (y_call rfl rfl rfl en15 (fun w HW => toChart_ct cw ch k _ _ _ w rfl (hR.up HW.below))) ?_
      rintro ⟨A4, c4⟩
      refine LW.op rfl rfl rfl (y_alloc rfl ze26) ?_
      intro b8
      refine LW.op0 rfl rfl (y_storeBN rfl rfl rfl rfl ty26 rfl (by (repeat (first | exact Rem.head | apply Rem.tail)); done) (by exact rfl) (by (simp only [List.take, List.drop, List.nil_append, List.cons_append, Nat.add_zero, Nat.zero_add]; rfl))) ?_
      intro _u
      refine LW.nil (QW.thenC (CW.seq (CW.region ?_)))
      refine LW.val rfl rfl rfl (x_move rfl rfl) ?_
      refine LW.op rfl rfl rfl (y_call rfl rfl rfl en34 (fun w HW => toIntS_ct p _ _ w (hR'.up HW.below))) ?_
      rintro ⟨A5, c5⟩
      refine LW.val rfl rfl rfl (x_assign rfl rfl) ?_
      refine LW.nil (QW.thenC (CW.seq (CW.region ?_)))
      refine LW.val rfl rfl rfl (x_loadBN rfl rfl ty26 (by (repeat (first | exact Rem.head | apply Rem.tail)); done) (by exact rfl) rfl) ?_
      refine LW.val rfl rfl rfl (x_move rfl rfl) ?_
      refine LW.op rfl rfl rfl (y_call rfl rfl rfl en35 (fun w HW => AddBorder_ct cw ch k p _ _ _ _ w (SH.rdI (by (repeat (first | exact Rem.head | apply Rem.tail)); done) hl HW) (SH.rdI (by (repeat (first | exact Rem.head | apply Rem.tail)); done) hlp HW) ok rw rh rk hr)) ?_
      rintro ⟨A6, c6⟩
      have hlr := abR_len hr
      have hlr2 : rk.length ≤ 17592186043904 := by omega
      refine LW.val rfl rfl rfl (x_move rfl rfl) ?_
      refine LW.val rfl rfl rfl (x_extract rfl rfl rfl) ?_
      refine LW.val rfl rfl rfl (x_extract rfl rfl rfl) ?_
      refine LW.op rfl rfl rfl (y_alloc rfl ze26) ?_
      intro b10
      refine LW.op0 rfl rfl (y_storeBN rfl rfl rfl rfl ty26 rfl (by (repeat (first | exact Rem.head | apply Rem.tail)); done) (by exact rfl) (by (simp only [List.take, List.drop, List.nil_append, List.cons_append, Nat.add_zero, Nat.zero_add]; rfl))) ?_
      intro _u
      refine LW.val rfl rfl rfl (x_assign rfl rfl) ?_
      refine LW.nil (QW.thenC (CW.seq (CW.seq (CW.region ?_))))
      refine LW.val rfl rfl rfl (x_loadBN rfl rfl ty26 (by (repeat (first | exact Rem.head | apply Rem.tail)); done) (by exact rfl) rfl) ?_
      refine LW.val rfl rfl rfl (x_loadBN rfl rfl ty26 (by (repeat (first | exact Rem.head | apply Rem.tail)); done) (by exact rfl) rfl) ?_
      refine LW.op rfl rfl rfl (y_call rfl rfl rfl en17 (fun w HW => eqChart_ct rw rh rk _ _ _ w rfl _ _ (SH.rdI (by (repeat (first | exact Rem.head | apply Rem.tail)); done) hlr2 HW) (SH.rdI (by (repeat (first | exact Rem.head | apply Rem.tail)); done) hlr2 HW))) ?_
      rintro ⟨⟩
      refine LW.val rfl rfl rfl (x_not rfl rfl) ?_
      refine LW.val rfl rfl rfl (x_move rfl rfl) ?_
      refine LW.valG rfl rfl rfl rfl rfl (x_move rfl rfl) ?_
      refine LW.valG rfl rfl rfl rfl rfl (x_move rfl rfl) ?_
      refine LW.valG rfl rfl rfl rfl rfl (x_neqB rfl rfl rfl Try.underlying4) ?_
      refine LW.val rfl rfl rfl (x_pickF rfl rfl rfl) ?_
      refine LW.nil (QW.thenC ?_)
      refine CW.cond rfl (fun hno => absurd hno (by simp)) (fun _ => ?_)
      refine CW.skip (QW.thenC (CW.seq (CW.seq ?_)))
      refine CW.drawL [] follows ?_
      refine DW.take 0 rfl rfl (by kernel_rfl) (by kernel_rfl) (by kernel_rfl) (by kernel_rfl) (by kernel_rfl) rfl (fun _ _ _ h => h) rfl (by (repeat (first | exact Sub.nil | exact Sub.all | (apply Sub.cons; (focus ((repeat (first | exact Rem.head | apply Rem.tail)); done))) | fail))) (x_loadBN rfl rfl ty26 (by (repeat (first | exact Rem.head | apply Rem.tail)); done) (by exact rfl) rfl) rfl ?_
      refine DW.take 1 rfl rfl (by kernel_rfl) (by kernel_rfl) (by kernel_rfl) (by kernel_rfl) (by kernel_rfl) rfl (fun _ _ _ h => h) rfl (by (repeat (first | exact Sub.nil | exact Sub.all | (apply Sub.cons; (focus ((repeat (first | exact Rem.head | apply Rem.tail)); done))) | fail))) (x_loadBN rfl rfl ty24 (by (repeat (first | exact Rem.head | apply Rem.tail)); done) (by exact rfl) rfl) rfl ?_
      refine DW.ready [2] (by kernel_rfl) (by simp) ?_
      refine AllR.cons rfl rfl rfl rfl (y_call rfl rfl rfl en15 (fun w HW => toChart_ct cw ch k _ _ _ w rfl (hR.up HW.below))) (fun _ => by (repeat (first | exact Sub.nil | exact Sub.all | (apply Sub.cons; (focus ((repeat (first | exact Rem.head | apply Rem.tail)); done))) | fail))) rfl ?_ AllR.nil
      rintro ⟨A7, c7⟩
      refine DW.ready [3] (by kernel_rfl) (by simp) ?_
      refine AllR.cons rfl rfl rfl rfl (y_call rfl rfl rfl en17 (fun w HW => eqChart_ct cw ch k _ _ _ w rfl _ _ (SH.rdI (by (repeat (first | exact Rem.head | apply Rem.tail)); done) hl HW) (SH.rdI (by (repeat (first | exact Rem.head | apply Rem.tail)); done) hl HW))) (fun _ => by (repeat (first | exact Sub.nil | exact Sub.all | (apply Sub.cons; (focus ((repeat (first | exact Rem.head | apply Rem.tail)); done))) | fail))) rfl ?_ AllR.nil
      rintro ⟨⟩
      refine DW.take 4 rfl rfl (by kernel_rfl) (by kernel_rfl) (by kernel_rfl) (by kernel_rfl) (by kernel_rfl) rfl (fun _ _ _ h => h) rfl (by (repeat (first | exact Sub.nil | exact Sub.all | (apply Sub.cons; (focus ((repeat (first | exact Rem.head | apply Rem.tail)); done))) | fail))) (x_not rfl rfl) rfl ?_
      refine DW.done (by kernel_rfl) ?_
      refine QW.thenC (CW.condF rfl (CW.skip (QW.thenC (CW.seq (CW.seq (CW.region ?_))))))
      refine LW.val rfl rfl rfl (x_move rfl rfl) ?_
      refine LW.val rfl rfl rfl (x_move rfl rfl) ?_
      refine LW.op rfl rfl rfl (y_call rfl rfl rfl en34 (fun w HW => toIntS_ct p _ _ w (hR'.up HW.below))) ?_
      rintro ⟨A8, c8⟩
      refine LW.op rfl rfl rfl (y_call rfl rfl rfl en36 (fun w HW => eqIntS_ct p _ _ _ _ w (SH.rdI (by (repeat (first | exact Rem.head | apply Rem.tail)); done) hlp HW) (SH.rdI (by (repeat (first | exact Rem.head | apply Rem.tail)); done) hlp HW))) ?_
      rintro ⟨⟩
      refine LW.val rfl rfl rfl (x_not rfl rfl) ?_
      refine LW.nil (QW.thenC (CW.condF rfl (CW.skip (QW.thenC (CW.seq (CW.region ?_))))))
      refine LW.val rfl rfl rfl (x_assign rfl rfl) ?_
      refine LW.nil (QW.thenC (CW.seq (CW.region ?_)))
      refine LW.val rfl rfl rfl (x_loadBN rfl rfl ty26 (by (repeat (first | exact Rem.head | apply Rem.tail)); done) (by exact rfl) rfl) ?_
      refine LW.val rfl rfl rfl (x_move rfl rfl) ?_
      refine LW.op rfl rfl rfl (y_callX [rowI A4 k.length c4 k] (Value.slice A4 k.length c4).ownBlock.toList rfl rfl rfl en18 (fun _ h => h.front (by (repeat (first | exact Rem.head | apply Rem.tail)); done)) (fun k hk => ⟨_, .head _, by simpa [Fct.foot] using hk⟩) (fun w HW => markChart_ct cw ch k A4 k.length c4 w rfl 1 (by omega) (SH.ownI (by (repeat (first | exact Rem.head | apply Rem.tail)); done) hl HW))) ?_
      rintro ⟨⟩
      refine LW.val rfl rfl rfl (x_assign rfl rfl) ?_
      refine LW.nil (QW.thenC (CW.seq (CW.region ?_)))
      refine LW.val rfl rfl rfl (x_move rfl rfl) ?_
      refine LW.val rfl rfl rfl (x_move rfl rfl) ?_
      refine LW.op rfl rfl rfl (y_callX [rowI A5 p.length c5 p] (Value.slice A5 p.length c5).ownBlock.toList rfl rfl rfl en37 (fun _ h => h.front (by (repeat (first | exact Rem.head | apply Rem.tail)); done)) (fun k hk => ⟨_, .head _, by simpa [Fct.foot] using hk⟩) (fun w HW => markIntS_ct p A5 c5 (1 + k.length) w (by omega) (SH.ownI (by (repeat (first | exact Rem.head | apply Rem.tail)); done) hlp HW))) ?_
      rintro ⟨⟩
      refine LW.val rfl rfl rfl (x_assign rfl rfl) ?_
      refine LW.nil (QW.thenC (CW.seq (CW.seq (CW.region ?_))))
      refine LW.val rfl rfl rfl (x_move rfl rfl) ?_
      refine LW.val rfl rfl rfl (x_lss rfl rfl rfl) ?_
      refine LW.val rfl rfl rfl (x_move rfl rfl) ?_
      refine LW.split (t := 70) rfl (fun hno => absurd hno (by simp; omega)) (fun _ => ?_)
      refine LW.valG rfl rfl rfl rfl rfl (x_loadBN rfl rfl ty26 (by (repeat (first | exact Rem.head | apply Rem.tail)); done) (by exact rfl) rfl) ?_
      refine LW.valG rfl rfl rfl rfl rfl (x_loadBN rfl rfl ty26 (by (repeat (first | exact Rem.head | apply Rem.tail)); done) (by exact rfl) rfl) ?_
      refine LW.opG rfl rfl rfl rfl rfl (y_call rfl rfl rfl en17 (fun w HW => eqChart_ct rw rh rk _ _ _ w rfl _ _ (SH.rdI (by (repeat (first | exact Rem.head | apply Rem.tail)); done) hlr2 HW) (SH.rdI (by (repeat (first | exact Rem.head | apply Rem.tail)); done) hlr2 HW))) ?_
      rintro ⟨⟩
      refine LW.valG rfl rfl rfl rfl rfl (x_not rfl rfl) ?_
      refine LW.val rfl rfl rfl (x_pickF rfl rfl rfl) ?_
      refine LW.val rfl rfl rfl (x_move rfl rfl) ?_
      refine LW.valG rfl rfl rfl rfl rfl (x_move rfl rfl) ?_
      refine LW.valG rfl rfl rfl rfl rfl (x_move rfl rfl) ?_
      refine LW.valG rfl rfl rfl rfl rfl (x_neqB rfl rfl rfl Try.underlying4) ?_
      refine LW.val rfl rfl rfl (x_pickF rfl rfl rfl) ?_
      refine LW.nil (QW.thenC ?_)
      refine CW.cond rfl (fun hno => absurd hno (by simp)) (fun _ => ?_)
      refine CW.skip (QW.thenC (CW.seq (CW.region ?_)))
      refine LW.val rfl rfl rfl (x_assign rfl rfl) ?_
      refine LW.nil (QW.thenC (CW.seq (CW.region ?_)))
      refine LW.val rfl rfl rfl (x_loadBN rfl rfl ty26 (by (repeat (first | exact Rem.head | apply Rem.tail)); done) (by exact rfl) rfl) ?_
      refine LW.val rfl rfl rfl (x_move rfl rfl) ?_
      refine LW.op rfl rfl rfl (y_callX [rowI A6 rk.length c6 rk] (Value.slice A6 rk.length c6).ownBlock.toList rfl rfl rfl en18 (fun _ h => h.front (by (repeat (first | exact Rem.head | apply Rem.tail)); done)) (fun k hk => ⟨_, .head _, by simpa [Fct.foot] using hk⟩) (fun w HW => markChart_ct rw rh rk A6 rk.length c6 w rfl 1 (by omega) (SH.ownI (by (repeat (first | exact Rem.head | apply Rem.tail)); done) hlr2 HW))) ?_
      rintro ⟨⟩
      have hlm : (marks 1 rk.length).length ≤ 17592186043904 := by simp [marks]; omega
      refine LW.val rfl rfl rfl (x_assign rfl rfl) ?_
      refine LW.nil (QW.thenC (CW.seq (CW.region ?_)))
      refine LW.val rfl rfl rfl (x_assign rfl rfl) ?_
      refine LW.nil (QW.thenC (CW.seq (CW.region ?_)))
      refine LW.val rfl rfl rfl (x_loadBN rfl rfl ty26 (by (repeat (first | exact Rem.head | apply Rem.tail)); done) (by exact rfl) rfl) ?_
      refine LW.val rfl rfl rfl (x_move rfl rfl) ?_
      refine LW.op rfl rfl rfl (y_call rfl rfl rfl en19 (fun w HW => heldChart_ct rw rh A6 rk.length c6 1 w (by omega) (SH.rdI (by (repeat (first | exact Rem.head | apply Rem.tail)); done) hlm HW))) ?_
      rintro ⟨⟩
      refine LW.val rfl rfl rfl (x_assign rfl rfl) ?_
      refine LW.nil (QW.thenC (CW.seq (CW.seq (CW.region ?_))))
      refine LW.val rfl rfl rfl (x_move rfl rfl) ?_
      refine LW.val rfl rfl rfl (x_lss rfl rfl rfl) ?_
      refine LW.nil (QW.thenC ?_)
      refine CW.condD rfl (fun hno => absurd hno (by (first | omega | assumption | simp_all))) (fun _ => ?_)
      refine CW.skip (QW.thenC (CW.seq (CW.seq (CW.region ?_))))
      refine LW.val rfl rfl rfl (x_move rfl rfl) ?_
      refine LW.val rfl rfl rfl (x_move rfl rfl) ?_
      refine LW.val rfl rfl rfl (x_neq rfl rfl rfl) ?_
      refine LW.nil (QW.thenC ?_)
      refine CW.condN rfl (fun hno => absurd (by (first | omega | assumption | simp_all)) hno) (fun _ => ?_)
      refine CW.skip (QW.thenC (CW.seq (CW.region ?_)))
      refine LW.val rfl rfl rfl (x_loadBN rfl rfl ty24 (by (repeat (first | exact Rem.head | apply Rem.tail)); done) (by exact rfl) rfl) ?_
      refine LW.op rfl rfl rfl (y_call rfl rfl rfl en15 (fun w HW => toChart_ct cw ch k _ _ _ w rfl (hR.up HW.below))) ?_
      rintro ⟨A9, c9⟩
      refine LW.val rfl rfl rfl (x_move rfl rfl) ?_
      refine LW.op rfl rfl rfl (y_call rfl rfl rfl en34 (fun w HW => toIntS_ct p _ _ w (hR'.up HW.below))) ?_
      rintro ⟨A10, c10⟩
      refine LW.op rfl rfl rfl (y_call rfl rfl rfl en35 (fun w HW => AddBorder_ct cw ch k p _ _ _ _ w (SH.rdI (by (repeat (first | exact Rem.head | apply Rem.tail)); done) hl HW) (SH.rdI (by (repeat (first | exact Rem.head | apply Rem.tail)); done) hlp HW) ok rw rh rk hr)) ?_
      rintro ⟨A11, c11⟩
      refine LW.val rfl rfl rfl (x_move rfl rfl) ?_
      refine LW.val rfl rfl rfl (x_extract rfl rfl rfl) ?_
      refine LW.val rfl rfl rfl (x_extract rfl rfl rfl) ?_
      refine LW.op rfl rfl rfl (y_alloc rfl ze26) ?_
      intro b15
      refine LW.op0 rfl rfl (y_storeBN rfl rfl rfl rfl ty26 rfl (by (repeat (first | exact Rem.head | apply Rem.tail)); done) (by exact rfl) (by (simp only [List.take, List.drop, List.nil_append, List.cons_append, Nat.add_zero, Nat.zero_add]; rfl))) ?_
      intro _u
      refine LW.val rfl rfl rfl (x_assign rfl rfl) ?_
      refine LW.nil (QW.thenC (CW.seq (CW.seq (CW.region ?_))))
      refine LW.val rfl rfl rfl (x_loadBN rfl rfl ty26 (by (repeat (first | exact Rem.head | apply Rem.tail)); done) (by exact rfl) rfl) ?_
      refine LW.val rfl rfl rfl (x_loadBN rfl rfl ty26 (by (repeat (first | exact Rem.head | apply Rem.tail)); done) (by exact rfl) rfl) ?_
      refine LW.op rfl rfl rfl (y_call rfl rfl rfl en17 (fun w HW => eqChart_ct rw rh rk _ _ _ w rfl _ _ (SH.rdI (by (repeat (first | exact Rem.head | apply Rem.tail)); done) hlr2 HW) (SH.rdI (by (repeat (first | exact Rem.head | apply Rem.tail)); done) hlr2 HW))) ?_
      rintro ⟨⟩
      refine LW.val rfl rfl rfl (x_not rfl rfl) ?_
      refine LW.val rfl rfl rfl (x_move rfl rfl) ?_
      refine LW.valG rfl rfl rfl rfl rfl (x_move rfl rfl) ?_
      refine LW.valG rfl rfl rfl rfl rfl (x_move rfl rfl) ?_
      refine LW.valG rfl rfl rfl rfl rfl (x_neqB rfl rfl rfl Try.underlying4) ?_
      refine LW.val rfl rfl rfl (x_pickF rfl rfl rfl) ?_
      refine LW.nil (QW.thenC ?_)
      refine CW.cond rfl (fun hno => absurd hno (by simp)) (fun _ => ?_)
      refine CW.skip (QW.thenC (CW.seq (CW.region ?_)))
      refine LW.val rfl rfl rfl (x_assign rfl rfl) ?_
      refine LW.nil (QW.thenC (CW.seq (CW.region ?_)))
      refine LW.val rfl rfl rfl (x_loadBN rfl rfl ty26 (by (repeat (first | exact Rem.head | apply Rem.tail)); done) (by exact rfl) rfl) ?_
      refine LW.val rfl rfl rfl (x_move rfl rfl) ?_
      refine LW.op rfl rfl rfl (y_call rfl rfl rfl en19 (fun w HW => heldChart_ct rw rh A6 rk.length c6 1 w (by omega) (SH.rdI (by (repeat (first | exact Rem.head | apply Rem.tail)); done) hlm HW))) ?_
      rintro ⟨⟩
      refine LW.val rfl rfl rfl (x_assign rfl rfl) ?_
      refine LW.nil (QW.thenC (CW.seq (CW.seq (CW.region ?_))))
      refine LW.val rfl rfl rfl (x_move rfl rfl) ?_
      refine LW.val rfl rfl rfl (x_lss rfl rfl rfl) ?_
      refine LW.nil (QW.thenC ?_)
      refine CW.condD rfl (fun hno => absurd hno (by (first | omega | assumption | simp_all))) (fun _ => ?_)
      refine CW.skip (QW.thenC (CW.seq (CW.seq (CW.region ?_))))
      refine LW.val rfl rfl rfl (x_move rfl rfl) ?_
      refine LW.val rfl rfl rfl (x_move rfl rfl) ?_
      refine LW.val rfl rfl rfl (x_neq rfl rfl rfl) ?_
      refine LW.nil (QW.thenC ?_)
      refine CW.condN rfl (fun hno => absurd (by (first | omega | assumption | simp_all)) hno) (fun _ => ?_)
      refine CW.skip (QW.thenC (CW.seq (CW.region ?_)))
      refine LW.val rfl rfl rfl (x_assign rfl rfl) ?_
      refine LW.nil (QW.thenC (CW.ret ?_))
      refine QW.res1 rfl (ResV.tmp rfl) (ret_eq (()) ?_ ?_)
      · first | rfl | (simp only []; rfl)
      · (repeat (first | exact Sub.nil | exact Sub.all | (apply Sub.cons; (focus ((repeat (first | exact Rem.head | apply Rem.tail)); done))) | (apply Sub.row; (focus ((repeat (first | exact Rem.head | apply Rem.tail)); done)); (focus (first | with_reducible rfl | assumption | omega | (simp; done) | (simp [Nat.mul_comm]; done) | (simp; omega))); (focus (first | with_reducible rfl | assumption | omega | (simp; done) | (simp [Nat.mul_comm]; done) | (simp; omega))); (focus (first | with_reducible rfl | (simp [nums]; done) | (simp [nums]; omega) | (simp; done) | (simp; omega)))) | (apply Sub.blk; (focus ((repeat (first | exact Rem.head | apply Rem.tail)); done)); (focus (first | with_reducible rfl | (simp [nums]; done) | (simp [nums]; omega) | (simp; done) | (simp; omega)))) | fail))
end Go.Proofs.Ytbandmcdkcfpiaa
