/- New charts: by a function of the place; blank. -/
import Derived.Test.YtbandmcdkcfpiaaRet
import Derived.Test.YtbandmcdkcfpiaaMake0
namespace Go.Proofs.Ytbandmcdkcfpiaa
open Go.RowKit Go.Proofs.YtbandmcdkcfpiaaW.PrintWords
set_option linter.unusedVariables false
set_option linter.unusedSimpArgs false
/-- a chart -/
abbrev chV (cw ch : Int) (m : Nat) (p : Option Addr × Nat) : Value := .agg #[.int .i64 cw, .int .i64 ch, .slice p.1 m p.2]
/-- its cells -/
abbrev chL (cw ch : Int) (A : Option Addr) (m c : Nat) : List Value := [.int .i64 cw, .int .i64 ch, .slice A m c]

set_option maxRecDepth 20000 in
theorem makeChart_ct (g : Nat) (lb : Array Value) (p : Nat → Nat → Int) (W H : Nat) (w : World) (hW : W ≤ 64) (hH : H ≤ 64) (eg : Enters Try.prog g)
    (hp : ∀ (r c : Nat) (W' : World), r < H → c < W → SH w [] W' [] → Calls Try.prog g (#[.int .i64 r, .int .i64 c] ++ lb) W' (Ret (fun _ : Unit => .int .i64 (p r c)) (fun _ => []) W')) :
    Calls Try.prog 140 #[.int .i64 W, .int .i64 H, .func (.func g) #[] lb] w (Ret (chV W H (W * H)) (fun q => [rowI q.1 (W * H) q.2 (made p W H)]) w) := by
  refine enter Try.func140 rfl rfl Try.ntmps140 rfl ?_
  refine CW.seq (CW.region ?_)
  refine LW.op rfl rfl rfl (y_alloc rfl ze26) ?_
  intro b6
  refine LW.nil (QW.thenC (CW.seq (CW.region ?_)))
  refine LW.val rfl rfl rfl (x_move rfl rfl) ?_
  refine LW.val rfl rfl rfl (x_move rfl rfl) ?_
  refine LW.val rfl rfl rfl (x_build rfl rfl rfl ze26 st26 pl26 (by simp [fillL, Value.cells]; rfl)) ?_
  refine LW.op rfl rfl rfl (y_alloc rfl ze26) ?_
  intro b7
  refine LW.op0 rfl rfl (y_storeBN rfl rfl rfl rfl ty26 rfl (by (repeat (first | exact Rem.head | apply Rem.tail)); done) (by exact rfl) (by (simp only [List.take, List.drop, List.nil_append, List.cons_append, Nat.add_zero, Nat.zero_add]; rfl))) ?_
  intro _u
  refine LW.nil (QW.thenC (CW.seq (CW.seq (CW.region ?_))))
  refine LW.val rfl rfl rfl (x_move rfl rfl) ?_
  refine LW.val rfl rfl rfl (x_move rfl rfl) ?_
  refine LW.nil (QW.thenC (CW.block ?_))
  -- loop ()
  refine CW.nilRow 3 1 ?_
  refine CW.loopC3 [8, 9, 14, 15, 16, 17, 18, 19, 20, 21, 22, 23, 24, 25, 26, 27, 28, 29, 30, 31] (fun (R : Nat) (A : Option Addr) (c : Nat) => R ≤ H) (fun (R : Nat) (A : Option Addr) (c : Nat) => [(14, .int .i64 R)]) (fun (R : Nat) (A : Option Addr) (c : Nat) => [rowI A (R * W) c (madeN p W R 0), .blk b7 (chL W H A (R * W) c) 26]) (fun (R : Nat) (A : Option Addr) (c : Nat) => H - R) (0) (none) (0) (by first | exact trivial | omega) (by (repeat (first | exact trivial | (refine ⟨rfl, ?_⟩) | (refine ⟨gS rfl (by omega), ?_⟩)))) (Take.row (by (repeat (first | exact Rem.head | apply Rem.tail)); done) (by first | with_reducible rfl | assumption | omega | (simp; done) | (simp [Nat.mul_comm]; done) | (simp; omega)) (by first | with_reducible rfl | assumption | omega | (simp; done) | (simp [Nat.mul_comm]; done) | (simp; omega)) (by first | rfl | (simp [madeN, nums, chL]; done)) (Take.blk (by (repeat (first | exact Rem.head | apply Rem.tail)); done) (by first | rfl | (simp [madeN, nums, chL]; done)) (Take.nil))) ?_
  intro R A c hinv
  refine CW.seq (CW.region ?_)
  refine LW.val rfl rfl rfl (x_lss rfl rfl rfl) ?_
  refine LW.nil (QW.thenC (CW.seq ?_))
  refine CW.condD rfl (fun h => ?_) (fun h => ?_)
  · have hRW : R * W ≤ 64 * 64 := Nat.mul_le_mul (by omega) hW
    refine CW.skip (QW.thenC (CW.seq (CW.block (CW.seq (CW.region ?_)))))
    refine LW.val rfl rfl rfl (x_move rfl rfl) ?_
    refine LW.val rfl rfl rfl (x_assign rfl rfl) ?_
    refine LW.nil (QW.thenC (CW.seq (CW.region ?_)))
    refine LW.val rfl rfl rfl (x_move rfl rfl) ?_
    refine LW.val rfl rfl rfl (x_move rfl rfl) ?_
    refine LW.nil (QW.thenC (CW.block ?_))
    -- loop ()
    refine CW.loopC3 [9, 18, 19, 20, 21, 22, 23, 24, 25, 26, 27, 28, 29, 30] (fun (C : Nat) (A : Option Addr) (c : Nat) => C ≤ W) (fun (C : Nat) (A : Option Addr) (c : Nat) => [(18, .int .i64 C)]) (fun (C : Nat) (A : Option Addr) (c : Nat) => [rowI A (R * W + C) c (madeN p W R C), .blk b7 (chL W H A (R * W + C) c) 26]) (fun (C : Nat) (A : Option Addr) (c : Nat) => W - C) (0) (A) (c) (by first | exact trivial | omega) (by (repeat (first | exact trivial | (refine ⟨rfl, ?_⟩) | (refine ⟨gS rfl (by omega), ?_⟩)))) (Take.row (by (repeat (first | exact Rem.head | apply Rem.tail)); done) (by first | with_reducible rfl | assumption | omega | (simp; done) | (simp [Nat.mul_comm]; done) | (simp; omega)) (by first | with_reducible rfl | assumption | omega | (simp; done) | (simp [Nat.mul_comm]; done) | (simp; omega)) (by first | with_reducible rfl | (simp [nums]; done) | (simp [nums]; omega) | (simp; done) | (simp; omega)) (Take.blk (by (repeat (first | exact Rem.head | apply Rem.tail)); done) (by first | with_reducible rfl | (simp [nums]; done) | (simp [nums]; omega) | (simp; done) | (simp; omega)) (Take.nil))) ?_
    intro C A c hinv
    refine CW.seq (CW.region ?_)
    refine LW.val rfl rfl rfl (x_lss rfl rfl rfl) ?_
    refine LW.nil (QW.thenC (CW.seq ?_))
    refine CW.condD rfl (fun h2 => ?_) (fun h2 => ?_)
    · refine CW.skip (QW.thenC (CW.seq (CW.block (CW.seq (CW.region ?_)))))
      refine LW.val rfl rfl rfl (x_move rfl rfl) ?_
      refine LW.val rfl rfl rfl (x_assign rfl rfl) ?_
      refine LW.nil (QW.thenC ?_)
      refine CW.draw [9] ([.blk b7 (chL W H A (R * W + C) c) 26]) follows ?_
      refine DW.take 0 rfl rfl (by kernel_rfl) (by kernel_rfl) (by kernel_rfl) (by kernel_rfl) (by kernel_rfl) rfl (fun _ _ _ h => h) rfl (by (repeat (first | exact Sub.nil | exact Sub.all | (apply Sub.cons; (focus ((repeat (first | exact Rem.head | apply Rem.tail)); done))) | fail))) (x_fieldAddr rfl rfl fl26_2 rfl) rfl ?_
      refine DW.take 1 rfl rfl (by kernel_rfl) (by kernel_rfl) (by kernel_rfl) (by kernel_rfl) (by kernel_rfl) rfl (fun _ _ _ h => h) rfl (by (repeat (first | exact Sub.nil | exact Sub.all | (apply Sub.cons; (focus ((repeat (first | exact Rem.head | apply Rem.tail)); done))) | fail))) (x_loadB rfl rfl ty22 (by (repeat (first | exact Rem.head | apply Rem.tail)); done) (by exact rfl)) rfl ?_
      refine DW.take 2 rfl rfl (by kernel_rfl) (by kernel_rfl) (by kernel_rfl) (by kernel_rfl) (by kernel_rfl) rfl (fun _ _ _ h => h) rfl (by (repeat (first | exact Sub.nil | exact Sub.all | (apply Sub.cons; (focus ((repeat (first | exact Rem.head | apply Rem.tail)); done))) | fail))) (x_move rfl rfl) rfl ?_
      refine DW.take 3 rfl rfl (by kernel_rfl) (by kernel_rfl) (by kernel_rfl) (by kernel_rfl) (by kernel_rfl) rfl (fun _ _ _ h => h) rfl (by (repeat (first | exact Sub.nil | exact Sub.all | (apply Sub.cons; (focus ((repeat (first | exact Rem.head | apply Rem.tail)); done))) | fail))) (x_move rfl rfl) rfl ?_
      refine DW.take 4 rfl rfl (by kernel_rfl) (by kernel_rfl) (by kernel_rfl) (by kernel_rfl) (by kernel_rfl) rfl (fun _ _ _ h => h) rfl (by (repeat (first | exact Sub.nil | exact Sub.all | (apply Sub.cons; (focus ((repeat (first | exact Rem.head | apply Rem.tail)); done))) | fail))) (x_move rfl rfl) rfl ?_
      refine DW.ready [5] (by kernel_rfl) (by simp) ?_
      refine AllR.cons rfl rfl rfl rfl (y_callV rfl rfl rfl rfl eg (fun w' HW => hp R C w' (by omega) (by omega) (HW.sub .nil))) (fun _ => by (repeat (first | exact Sub.nil | exact Sub.all | (apply Sub.cons; (focus ((repeat (first | exact Rem.head | apply Rem.tail)); done))) | fail))) rfl ?_ AllR.nil
      rintro ⟨⟩
      refine DW.ready [6] (by kernel_rfl) (by simp) ?_
      refine AllR.cons rfl rfl rfl rfl (y_bs rfl rfl rfl el22 ze3 rfl rfl rfl (by simp [fillL, Value.cells]; rfl) rfl) (fun _ => by (repeat (first | exact Sub.nil | exact Sub.all | (apply Sub.cons; (focus ((repeat (first | exact Rem.head | apply Rem.tail)); done))) | fail))) rfl ?_ AllR.nil
      rintro g27
      refine DW.ready [7] (by kernel_rfl) (by simp) ?_
      refine AllR.cons rfl rfl rfl rfl (y_appendR (ty := 0) rfl rfl rfl el22 in3 rfl (by repeat (first | exact Rem.head | apply Rem.tail)) (by repeat (first | exact Rem.head | apply Rem.tail)) rfl rfl (by omega)) (fun _ => by (repeat (first | exact Sub.nil | exact Sub.all | (apply Sub.cons; (focus ((repeat (first | exact Rem.head | apply Rem.tail)); done))) | fail))) rfl ?_ AllR.nil
      rintro ⟨A', c'⟩
      refine DW.take 8 rfl rfl (by kernel_rfl) (by kernel_rfl) (by kernel_rfl) (by kernel_rfl) (by kernel_rfl) rfl (fun _ _ _ h => h) rfl (by (repeat (first | exact Sub.nil | exact Sub.all | (apply Sub.cons; (focus ((repeat (first | exact Rem.head | apply Rem.tail)); done))) | fail))) (x_fieldAddr rfl rfl fl26_2 rfl) rfl ?_
      refine DW.ready [9] (by kernel_rfl) (by simp) ?_
      refine AllR.last rfl rfl rfl (by kernel_rfl) (y_storeB rfl rfl rfl rfl rfl ty22 (by (repeat (first | exact Rem.head | apply Rem.tail)); done) (by exact rfl) (by (simp only [List.set_cons_zero, List.set_cons_succ]; rfl))) rfl ?_ AllR.nil
      intro _u
      refine DW.done (by kernel_rfl) ?_
      refine QW.in_normal (QW.thenC (CW.region ?_))
      refine LW.val rfl rfl rfl (x_add rfl rfl rfl (by omega)) ?_
      refine LW.val rfl rfl rfl (x_move rfl rfl) ?_
      refine LW.nil ?_
      refine QW.then_ (QW.roundC3 (C + 1) (A') (c') ?_ ?_ (by (repeat (first | exact trivial | (refine ⟨rfl, ?_⟩) | (refine ⟨gS rfl (by omega), ?_⟩)))) (by (repeat (first | exact Ext.refl | (refine Ext.cons rfl ?_)))) (by (repeat (first | exact Sub.nil | exact Sub.all | (apply Sub.cons; (focus ((repeat (first | exact Rem.head | apply Rem.tail)); done))) | (apply Sub.row; (focus ((repeat (first | exact Rem.head | apply Rem.tail)); done)); (focus (first | with_reducible rfl | assumption | omega | (simp; done) | (simp [Nat.mul_comm]; done) | (simp; omega))); (focus (first | with_reducible rfl | assumption | omega | (simp; done) | (simp [Nat.mul_comm]; done) | (simp; omega))); (focus (first | with_reducible rfl | (rw [madeN_next, ← nums_snoc]) | (simp; done) | (simp; omega)))) | (apply Sub.blk; (focus ((repeat (first | exact Rem.head | apply Rem.tail)); done)); (focus (first | with_reducible rfl | (rw [madeN_next, ← nums_snoc]) | (simp; done) | (simp; omega)))) | fail))))
      · first | exact trivial | omega
      · first | omega | (simp; omega)
    · have hC : R * W + C = (R + 1) * W := by rw [Nat.add_mul]; omega
      have hC2 : C = W := by omega
      refine CW.exit (QW.then_exit (QW.then_exit (QW.in_hit (QW.in_normal (QW.thenC (CW.region ?_))))))
      refine LW.val rfl rfl rfl (x_add rfl rfl rfl (by omega)) ?_
      refine LW.val rfl rfl rfl (x_move rfl rfl) ?_
      refine LW.nil ?_
      refine QW.then_ (QW.roundC3 (R + 1) (A) (c) ?_ ?_ (by (repeat (first | exact trivial | (refine ⟨rfl, ?_⟩) | (refine ⟨gS rfl (by omega), ?_⟩)))) (by (repeat (first | exact Ext.refl | (refine Ext.cons rfl ?_)))) (by (repeat (first | exact Sub.nil | exact Sub.all | (apply Sub.cons; (focus ((repeat (first | exact Rem.head | apply Rem.tail)); done))) | (apply Sub.row; (focus ((repeat (first | exact Rem.head | apply Rem.tail)); done)); (focus (first | with_reducible rfl | assumption | omega | (simp; done) | (simp [Nat.mul_comm]; done) | (simp; omega))); (focus (first | with_reducible rfl | assumption | omega | (simp; done) | (simp [Nat.mul_comm]; done) | (simp; omega))); (focus (first | with_reducible rfl | (rw [hC2, madeN_row]; done) | (rw [hC]; done)))) | (apply Sub.blk; (focus ((repeat (first | exact Rem.head | apply Rem.tail)); done)); (focus (first | with_reducible rfl | (rw [hC2, madeN_row]; done) | (rw [hC]; done)))) | fail))))
      · first | exact trivial | omega
      · first | omega | (simp; omega)
  · have hR2 : R = H := by omega
    have hRW : R * W = W * H := by rw [hR2, Nat.mul_comm]
    refine CW.exit (QW.then_exit (QW.then_exit (QW.in_hit (QW.thenC (CW.seq (CW.region ?_))))))
    refine LW.val rfl rfl rfl (x_loadBN rfl rfl ty26 (by (repeat (first | exact Rem.head | apply Rem.tail)); done) (by exact rfl) rfl) ?_
    refine LW.op0 rfl rfl (y_storeBN rfl rfl rfl rfl ty26 rfl (by (repeat (first | exact Rem.head | apply Rem.tail)); done) (by exact rfl) (by (simp only [List.take, List.drop, List.nil_append, List.cons_append, Nat.add_zero, Nat.zero_add]; rfl))) ?_
    intro _u
    refine LW.nil (QW.thenC (CW.ret ?_))
    refine QW.res1 rfl (ResV.cellN rfl ty26 (by (repeat (first | exact Rem.head | apply Rem.tail)); done) (by exact rfl)) (ret_eq ((A, c)) ?_ ?_)
    · (rw [hRW])
    · (repeat (first | exact Sub.nil | exact Sub.all | (apply Sub.cons; (focus ((repeat (first | exact Rem.head | apply Rem.tail)); done))) | (apply Sub.row; (focus ((repeat (first | exact Rem.head | apply Rem.tail)); done)); (focus (first | with_reducible rfl | assumption | omega | (simp; done) | (simp [Nat.mul_comm]; done) | (simp; omega))); (focus (first | with_reducible rfl | assumption | omega | (simp; done) | (simp [Nat.mul_comm]; done) | (simp; omega))); (focus (first | rfl | (rw [hR2]; rfl)))) | (apply Sub.blk; (focus ((repeat (first | exact Rem.head | apply Rem.tail)); done)); (focus (first | rfl | (rw [hR2]; rfl)))) | fail))
end Go.Proofs.Ytbandmcdkcfpiaa
