/- The workshop: steps of the program. -/
import Derived.Test.YtbgjlojnbdnoaaaShop2
namespace Go.Proofs.Ytbgjlojnbdnoaaa
open Go.RowKit
set_option linter.unusedVariables false
set_option linter.unusedSimpArgs false
/-- is the step one that can be asked for? -/
def validI (x : Sp) : Bool := if x.kind = 1 ∨ x.kind = 2 then decide (x.car = 0) && decide (1 ≤ x.val) else if x.kind = 3 ∨ x.kind = 7 then decide (1 ≤ x.val) else if x.kind = 4 then inB x.val 1 20 else decide (x.kind = 5 ∨ x.kind = 6) && decide (x.val = 0)
/-- can it be made with this carpet? -/
def canCh (day : Int) (xs : List Cp) (x : Sp) (c : Cp) : Bool :=
  if x.kind = 3 then decide (c.state = 0) && decide (idxF (onL x.val) xs < 0) else if x.kind = 4 then decide (c.state = 1) && decide (1 ≤ day - c.since) && decide (x.val ≤ c.rows - c.made)
  else if x.kind = 5 then decide (c.state = 1) && decide (c.made = c.rows) else if x.kind = 6 then decide (c.state = 2) else decide (c.state = 3) && decide (3 ≤ day - c.since)
/-- the carpet behind it -/
def chC (day : Int) (x : Sp) (c : Cp) : Cp :=
  if x.kind = 3 then ⟨c.rows, c.made, 1, x.val, day⟩ else if x.kind = 4 then ⟨c.rows, c.made + x.val, c.state, c.loom, day⟩ else if x.kind = 5 then ⟨c.rows, c.made, 2, 0, day⟩ else if x.kind = 6 then ⟨c.rows, c.made, 3, c.loom, day⟩ else if x.kind = 7 then ⟨c.rows, c.made, 4, c.loom, day⟩ else ⟨c.rows, c.made, c.state, c.loom, day⟩
section
variable {P : Program} {S : Slots} {w0 : World} {X : List Nat} {L l : List Fct} {o : Oper}
theorem x_addW {t yt : TypeId} {x y : Operand} {a b : Int} {k : IntKind} (ho : o.op = .binOp .add t x y yt) (hx : evS S x = some (.int k a)) (hy : evS S y = some (.int k b)) : OpV P o S w0 X L (.int k (k.wrap (a + b))) := x_int ho hx hy (fun w => by rw [binOp_add]; simp [Op.intArith])
end
set_option maxRecDepth 20000 in
theorem isValid_ct (x : Sp) (w : World) : Calls Try.prog 51 #[.agg (spL x).toArray] w (Ret (fun _ : Unit => .bool (validI x)) (fun _ => []) w) := by
  refine enter Try.func51 rfl rfl Try.ntmps51 rfl ?_
  refine CW.seq (CW.region ?_)
  refine LW.op rfl rfl rfl (y_box rfl rfl rfl) ?_
  intro b1
  refine LW.val rfl rfl rfl (x_assign rfl rfl) ?_
  refine LW.nil (QW.thenC (CW.seq (CW.seq (CW.region ?_))))
  refine LW.val rfl rfl rfl (x_fieldAddr rfl rfl fl37_0 rfl) ?_
  refine LW.val rfl rfl rfl (x_loadB rfl rfl ty3 (by (repeat (first | exact Rem.head | apply Rem.tail)); done) (by exact rfl)) ?_
  refine LW.nil (QW.thenC (CW.block (CW.seq (CW.seq (CW.region ?_)))))
  refine LW.val rfl rfl rfl (x_eql rfl rfl rfl) ?_
  refine LW.val rfl rfl rfl (x_assign rfl rfl) ?_
  refine LW.nil (QW.thenC ?_)
  refine CW.split (t := 5) rfl (fun h5 => ?_) (fun h5 => ?_)
  · skip
    refine CW.condT rfl (CW.skip (QW.thenC (CW.condT rfl (CW.seq (CW.region ?_)))))
    refine LW.val rfl rfl rfl (x_fieldAddr rfl rfl fl37_1 rfl) ?_
    refine LW.val rfl rfl rfl (x_loadB rfl rfl ty3 (by (repeat (first | exact Rem.head | apply Rem.tail)); done) (by exact rfl)) ?_
    refine LW.val rfl rfl rfl (x_eql rfl rfl rfl) ?_
    refine LW.val rfl rfl rfl (x_move rfl rfl) ?_
    refine LW.split (t := 11) rfl (fun h11 => ?_) (fun h11 => ?_)
    · skip
      refine LW.valG rfl rfl rfl rfl rfl (x_fieldAddr rfl rfl fl37_2 rfl) ?_
      refine LW.valG rfl rfl rfl rfl rfl (x_loadB rfl rfl ty3 (by (repeat (first | exact Rem.head | apply Rem.tail)); done) (by exact rfl)) ?_
      refine LW.valG rfl rfl rfl rfl rfl (x_geq rfl rfl rfl) ?_
      refine LW.val rfl rfl rfl (x_pickT rfl rfl rfl) ?_
      refine LW.val rfl rfl rfl (x_assign rfl rfl) ?_
      refine LW.nil (QW.thenC (CW.ret (QW.in_ret (QW.then_ret ?_))))
      refine QW.res1 rfl (ResV.tmp rfl) (ret_eq (()) ?_ ?_)
      · (simp_all [validI])
      · (repeat (first | exact Sub.nil | exact Sub.all | (apply Sub.cons; (focus ((repeat (first | exact Rem.head | apply Rem.tail)); done))) | (apply Sub.row; (focus ((repeat (first | exact Rem.head | apply Rem.tail)); done)); (focus (first | with_reducible rfl | assumption | omega | (simp; done) | (simp [Nat.mul_comm]; done) | (simp; omega))); (focus (first | with_reducible rfl | assumption | omega | (simp; done) | (simp [Nat.mul_comm]; done) | (simp; omega))); (focus (first | with_reducible rfl | (simp [nums]; done) | (simp [nums]; omega) | (simp; done) | (simp; omega)))) | (apply Sub.blk; (focus ((repeat (first | exact Rem.head | apply Rem.tail)); done)); (focus (first | with_reducible rfl | (simp [nums]; done) | (simp [nums]; omega) | (simp; done) | (simp; omega)))) | fail))
    · skip
      refine LW.gF rfl rfl rfl rfl rfl rfl ?_
      refine LW.gF rfl rfl rfl rfl rfl rfl ?_
      refine LW.gF rfl rfl rfl rfl rfl rfl ?_
      refine LW.val rfl rfl rfl (x_pickF rfl rfl rfl) ?_
      refine LW.val rfl rfl rfl (x_assign rfl rfl) ?_
      refine LW.nil (QW.thenC (CW.ret (QW.in_ret (QW.then_ret ?_))))
      refine QW.res1 rfl (ResV.tmp rfl) (ret_eq (()) ?_ ?_)
      · (simp_all [validI])
      · (repeat (first | exact Sub.nil | exact Sub.all | (apply Sub.cons; (focus ((repeat (first | exact Rem.head | apply Rem.tail)); done))) | (apply Sub.row; (focus ((repeat (first | exact Rem.head | apply Rem.tail)); done)); (focus (first | with_reducible rfl | assumption | omega | (simp; done) | (simp [Nat.mul_comm]; done) | (simp; omega))); (focus (first | with_reducible rfl | assumption | omega | (simp; done) | (simp [Nat.mul_comm]; done) | (simp; omega))); (focus (first | with_reducible rfl | (simp [nums]; done) | (simp [nums]; omega) | (simp; done) | (simp; omega)))) | (apply Sub.blk; (focus ((repeat (first | exact Rem.head | apply Rem.tail)); done)); (focus (first | with_reducible rfl | (simp [nums]; done) | (simp [nums]; omega) | (simp; done) | (simp; omega)))) | fail))
  · skip
    refine CW.condF rfl (CW.region ?_)
    refine LW.val rfl rfl rfl (x_eql rfl rfl rfl) ?_
    refine LW.val rfl rfl rfl (x_assign rfl rfl) ?_
    refine LW.nil (QW.thenC ?_)
    refine CW.split (t := 5) rfl (fun h5 => ?_) (fun h5 => ?_)
    · skip
      refine CW.condT rfl (CW.seq (CW.region ?_))
      refine LW.val rfl rfl rfl (x_fieldAddr rfl rfl fl37_1 rfl) ?_
      refine LW.val rfl rfl rfl (x_loadB rfl rfl ty3 (by (repeat (first | exact Rem.head | apply Rem.tail)); done) (by exact rfl)) ?_
      refine LW.val rfl rfl rfl (x_eql rfl rfl rfl) ?_
      refine LW.val rfl rfl rfl (x_move rfl rfl) ?_
      refine LW.split (t := 11) rfl (fun h11 => ?_) (fun h11 => ?_)
      · skip
        refine LW.valG rfl rfl rfl rfl rfl (x_fieldAddr rfl rfl fl37_2 rfl) ?_
        refine LW.valG rfl rfl rfl rfl rfl (x_loadB rfl rfl ty3 (by (repeat (first | exact Rem.head | apply Rem.tail)); done) (by exact rfl)) ?_
        refine LW.valG rfl rfl rfl rfl rfl (x_geq rfl rfl rfl) ?_
        refine LW.val rfl rfl rfl (x_pickT rfl rfl rfl) ?_
        refine LW.val rfl rfl rfl (x_assign rfl rfl) ?_
        refine LW.nil (QW.thenC (CW.ret (QW.in_ret (QW.then_ret ?_))))
        refine QW.res1 rfl (ResV.tmp rfl) (ret_eq (()) ?_ ?_)
        · (simp_all [validI])
        · (repeat (first | exact Sub.nil | exact Sub.all | (apply Sub.cons; (focus ((repeat (first | exact Rem.head | apply Rem.tail)); done))) | (apply Sub.row; (focus ((repeat (first | exact Rem.head | apply Rem.tail)); done)); (focus (first | with_reducible rfl | assumption | omega | (simp; done) | (simp [Nat.mul_comm]; done) | (simp; omega))); (focus (first | with_reducible rfl | assumption | omega | (simp; done) | (simp [Nat.mul_comm]; done) | (simp; omega))); (focus (first | with_reducible rfl | (simp [nums]; done) | (simp [nums]; omega) | (simp; done) | (simp; omega)))) | (apply Sub.blk; (focus ((repeat (first | exact Rem.head | apply Rem.tail)); done)); (focus (first | with_reducible rfl | (simp [nums]; done) | (simp [nums]; omega) | (simp; done) | (simp; omega)))) | fail))
      · skip
        refine LW.gF rfl rfl rfl rfl rfl rfl ?_
        refine LW.gF rfl rfl rfl rfl rfl rfl ?_
        refine LW.gF rfl rfl rfl rfl rfl rfl ?_
        refine LW.val rfl rfl rfl (x_pickF rfl rfl rfl) ?_
        refine LW.val rfl rfl rfl (x_assign rfl rfl) ?_
        refine LW.nil (QW.thenC (CW.ret (QW.in_ret (QW.then_ret ?_))))
        refine QW.res1 rfl (ResV.tmp rfl) (ret_eq (()) ?_ ?_)
        · (simp_all [validI])
        · (repeat (first | exact Sub.nil | exact Sub.all | (apply Sub.cons; (focus ((repeat (first | exact Rem.head | apply Rem.tail)); done))) | (apply Sub.row; (focus ((repeat (first | exact Rem.head | apply Rem.tail)); done)); (focus (first | with_reducible rfl | assumption | omega | (simp; done) | (simp [Nat.mul_comm]; done) | (simp; omega))); (focus (first | with_reducible rfl | assumption | omega | (simp; done) | (simp [Nat.mul_comm]; done) | (simp; omega))); (focus (first | with_reducible rfl | (simp [nums]; done) | (simp [nums]; omega) | (simp; done) | (simp; omega)))) | (apply Sub.blk; (focus ((repeat (first | exact Rem.head | apply Rem.tail)); done)); (focus (first | with_reducible rfl | (simp [nums]; done) | (simp [nums]; omega) | (simp; done) | (simp; omega)))) | fail))
    · skip
      refine CW.condF rfl (CW.seq (CW.seq (CW.region ?_)))
      refine LW.val rfl rfl rfl (x_eql rfl rfl rfl) ?_
      refine LW.val rfl rfl rfl (x_assign rfl rfl) ?_
      refine LW.nil (QW.thenC ?_)
      refine CW.split (t := 16) rfl (fun h16 => ?_) (fun h16 => ?_)
      · skip
        refine CW.condT rfl (CW.skip (QW.thenC (CW.condT rfl (CW.seq (CW.region ?_)))))
        refine LW.val rfl rfl rfl (x_fieldAddr rfl rfl fl37_2 rfl) ?_
        refine LW.val rfl rfl rfl (x_loadB rfl rfl ty3 (by (repeat (first | exact Rem.head | apply Rem.tail)); done) (by exact rfl)) ?_
        refine LW.val rfl rfl rfl (x_geq rfl rfl rfl) ?_
        refine LW.val rfl rfl rfl (x_assign rfl rfl) ?_
        refine LW.nil (QW.thenC (CW.ret (QW.in_ret (QW.then_ret ?_))))
        refine QW.res1 rfl (ResV.tmp rfl) (ret_eq (()) ?_ ?_)
        · (simp_all [validI])
        · (repeat (first | exact Sub.nil | exact Sub.all | (apply Sub.cons; (focus ((repeat (first | exact Rem.head | apply Rem.tail)); done))) | (apply Sub.row; (focus ((repeat (first | exact Rem.head | apply Rem.tail)); done)); (focus (first | with_reducible rfl | assumption | omega | (simp; done) | (simp [Nat.mul_comm]; done) | (simp; omega))); (focus (first | with_reducible rfl | assumption | omega | (simp; done) | (simp [Nat.mul_comm]; done) | (simp; omega))); (focus (first | with_reducible rfl | (simp [nums]; done) | (simp [nums]; omega) | (simp; done) | (simp; omega)))) | (apply Sub.blk; (focus ((repeat (first | exact Rem.head | apply Rem.tail)); done)); (focus (first | with_reducible rfl | (simp [nums]; done) | (simp [nums]; omega) | (simp; done) | (simp; omega)))) | fail))
      · skip
        refine CW.condF rfl (CW.region ?_)
        refine LW.val rfl rfl rfl (x_eql rfl rfl rfl) ?_
        refine LW.val rfl rfl rfl (x_assign rfl rfl) ?_
        refine LW.nil (QW.thenC ?_)
        refine CW.split (t := 16) rfl (fun h16 => ?_) (fun h16 => ?_)
        · skip
          refine CW.condT rfl (CW.seq (CW.region ?_))
          refine LW.val rfl rfl rfl (x_fieldAddr rfl rfl fl37_2 rfl) ?_
          refine LW.val rfl rfl rfl (x_loadB rfl rfl ty3 (by (repeat (first | exact Rem.head | apply Rem.tail)); done) (by exact rfl)) ?_
          refine LW.val rfl rfl rfl (x_geq rfl rfl rfl) ?_
          refine LW.val rfl rfl rfl (x_assign rfl rfl) ?_
          refine LW.nil (QW.thenC (CW.ret (QW.in_ret (QW.then_ret ?_))))
          refine QW.res1 rfl (ResV.tmp rfl) (ret_eq (()) ?_ ?_)
          · (simp_all [validI])
          · (repeat (first | exact Sub.nil | exact Sub.all | (apply Sub.cons; (focus ((repeat (first | exact Rem.head | apply Rem.tail)); done))) | (apply Sub.row; (focus ((repeat (first | exact Rem.head | apply Rem.tail)); done)); (focus (first | with_reducible rfl | assumption | omega | (simp; done) | (simp [Nat.mul_comm]; done) | (simp; omega))); (focus (first | with_reducible rfl | assumption | omega | (simp; done) | (simp [Nat.mul_comm]; done) | (simp; omega))); (focus (first | with_reducible rfl | (simp [nums]; done) | (simp [nums]; omega) | (simp; done) | (simp; omega)))) | (apply Sub.blk; (focus ((repeat (first | exact Rem.head | apply Rem.tail)); done)); (focus (first | with_reducible rfl | (simp [nums]; done) | (simp [nums]; omega) | (simp; done) | (simp; omega)))) | fail))
        · skip
          refine CW.condF rfl (CW.seq (CW.region ?_))
          refine LW.val rfl rfl rfl (x_eql rfl rfl rfl) ?_
          refine LW.val rfl rfl rfl (x_assign rfl rfl) ?_
          refine LW.nil (QW.thenC ?_)
          refine CW.split (t := 22) rfl (fun h22 => ?_) (fun h22 => ?_)
          · skip
            refine CW.condT rfl (CW.seq (CW.region ?_))
            refine LW.val rfl rfl rfl (x_fieldAddr rfl rfl fl37_2 rfl) ?_
            refine LW.val rfl rfl rfl (x_loadB rfl rfl ty3 (by (repeat (first | exact Rem.head | apply Rem.tail)); done) (by exact rfl)) ?_
            refine LW.op rfl rfl rfl (y_call rfl rfl rfl en26 (fun w HW => in_ct _ _ _ _)) ?_
            rintro ⟨⟩
            refine LW.val rfl rfl rfl (x_assign rfl rfl) ?_
            refine LW.nil (QW.thenC (CW.ret (QW.in_ret (QW.then_ret ?_))))
            refine QW.res1 rfl (ResV.tmp rfl) (ret_eq (()) ?_ ?_)
            · (simp_all [validI])
            · (repeat (first | exact Sub.nil | exact Sub.all | (apply Sub.cons; (focus ((repeat (first | exact Rem.head | apply Rem.tail)); done))) | (apply Sub.row; (focus ((repeat (first | exact Rem.head | apply Rem.tail)); done)); (focus (first | with_reducible rfl | assumption | omega | (simp; done) | (simp [Nat.mul_comm]; done) | (simp; omega))); (focus (first | with_reducible rfl | assumption | omega | (simp; done) | (simp [Nat.mul_comm]; done) | (simp; omega))); (focus (first | with_reducible rfl | (simp [nums]; done) | (simp [nums]; omega) | (simp; done) | (simp; omega)))) | (apply Sub.blk; (focus ((repeat (first | exact Rem.head | apply Rem.tail)); done)); (focus (first | with_reducible rfl | (simp [nums]; done) | (simp [nums]; omega) | (simp; done) | (simp; omega)))) | fail))
          · skip
            refine CW.condF rfl (CW.skip (QW.in_normal (QW.thenC (CW.seq (CW.region ?_)))))
            refine LW.val rfl rfl rfl (x_fieldAddr rfl rfl fl37_0 rfl) ?_
            refine LW.val rfl rfl rfl (x_loadB rfl rfl ty3 (by (repeat (first | exact Rem.head | apply Rem.tail)); done) (by exact rfl)) ?_
            refine LW.val rfl rfl rfl (x_eql rfl rfl rfl) ?_
            refine LW.val rfl rfl rfl (x_move rfl rfl) ?_
            refine LW.split (t := 30) rfl (fun h30 => ?_) (fun h30 => ?_)
            · skip
              refine LW.gF rfl rfl rfl rfl rfl rfl ?_
              refine LW.gF rfl rfl rfl rfl rfl rfl ?_
              refine LW.gF rfl rfl rfl rfl rfl rfl ?_
              refine LW.val rfl rfl rfl (x_pickT rfl rfl rfl) ?_
              refine LW.val rfl rfl rfl (x_move rfl rfl) ?_
              refine LW.valG rfl rfl rfl rfl rfl (x_fieldAddr rfl rfl fl37_2 rfl) ?_
              refine LW.valG rfl rfl rfl rfl rfl (x_loadB rfl rfl ty3 (by (repeat (first | exact Rem.head | apply Rem.tail)); done) (by exact rfl)) ?_
              refine LW.valG rfl rfl rfl rfl rfl (x_eql rfl rfl rfl) ?_
              refine LW.val rfl rfl rfl (x_pickT rfl rfl rfl) ?_
              refine LW.val rfl rfl rfl (x_assign rfl rfl) ?_
              refine LW.nil (QW.thenC (CW.ret ?_))
              refine QW.res1 rfl (ResV.tmp rfl) (ret_eq (()) ?_ ?_)
              · (simp_all [validI])
              · (repeat (first | exact Sub.nil | exact Sub.all | (apply Sub.cons; (focus ((repeat (first | exact Rem.head | apply Rem.tail)); done))) | (apply Sub.row; (focus ((repeat (first | exact Rem.head | apply Rem.tail)); done)); (focus (first | with_reducible rfl | assumption | omega | (simp; done) | (simp [Nat.mul_comm]; done) | (simp; omega))); (focus (first | with_reducible rfl | assumption | omega | (simp; done) | (simp [Nat.mul_comm]; done) | (simp; omega))); (focus (first | with_reducible rfl | (simp [nums]; done) | (simp [nums]; omega) | (simp; done) | (simp; omega)))) | (apply Sub.blk; (focus ((repeat (first | exact Rem.head | apply Rem.tail)); done)); (focus (first | with_reducible rfl | (simp [nums]; done) | (simp [nums]; omega) | (simp; done) | (simp; omega)))) | fail))
            · skip
              refine LW.valG rfl rfl rfl rfl rfl (x_fieldAddr rfl rfl fl37_0 rfl) ?_
              refine LW.valG rfl rfl rfl rfl rfl (x_loadB rfl rfl ty3 (by (repeat (first | exact Rem.head | apply Rem.tail)); done) (by exact rfl)) ?_
              refine LW.valG rfl rfl rfl rfl rfl (x_eql rfl rfl rfl) ?_
              refine LW.val rfl rfl rfl (x_pickF rfl rfl rfl) ?_
              refine LW.val rfl rfl rfl (x_move rfl rfl) ?_
              refine LW.split (t := 35) rfl (fun h35 => ?_) (fun h35 => ?_)
              · skip
                refine LW.valG rfl rfl rfl rfl rfl (x_fieldAddr rfl rfl fl37_2 rfl) ?_
                refine LW.valG rfl rfl rfl rfl rfl (x_loadB rfl rfl ty3 (by (repeat (first | exact Rem.head | apply Rem.tail)); done) (by exact rfl)) ?_
                refine LW.valG rfl rfl rfl rfl rfl (x_eql rfl rfl rfl) ?_
                refine LW.val rfl rfl rfl (x_pickT rfl rfl rfl) ?_
                refine LW.val rfl rfl rfl (x_assign rfl rfl) ?_
                refine LW.nil (QW.thenC (CW.ret ?_))
                refine QW.res1 rfl (ResV.tmp rfl) (ret_eq (()) ?_ ?_)
                · (simp_all [validI])
                · (repeat (first | exact Sub.nil | exact Sub.all | (apply Sub.cons; (focus ((repeat (first | exact Rem.head | apply Rem.tail)); done))) | (apply Sub.row; (focus ((repeat (first | exact Rem.head | apply Rem.tail)); done)); (focus (first | with_reducible rfl | assumption | omega | (simp; done) | (simp [Nat.mul_comm]; done) | (simp; omega))); (focus (first | with_reducible rfl | assumption | omega | (simp; done) | (simp [Nat.mul_comm]; done) | (simp; omega))); (focus (first | with_reducible rfl | (simp [nums]; done) | (simp [nums]; omega) | (simp; done) | (simp; omega)))) | (apply Sub.blk; (focus ((repeat (first | exact Rem.head | apply Rem.tail)); done)); (focus (first | with_reducible rfl | (simp [nums]; done) | (simp [nums]; omega) | (simp; done) | (simp; omega)))) | fail))
              · skip
                refine LW.gF rfl rfl rfl rfl rfl rfl ?_
                refine LW.gF rfl rfl rfl rfl rfl rfl ?_
                refine LW.gF rfl rfl rfl rfl rfl rfl ?_
                refine LW.val rfl rfl rfl (x_pickF rfl rfl rfl) ?_
                refine LW.val rfl rfl rfl (x_assign rfl rfl) ?_
                refine LW.nil (QW.thenC (CW.ret ?_))
                refine QW.res1 rfl (ResV.tmp rfl) (ret_eq (()) ?_ ?_)
                · (simp_all [validI])
                · (repeat (first | exact Sub.nil | exact Sub.all | (apply Sub.cons; (focus ((repeat (first | exact Rem.head | apply Rem.tail)); done))) | (apply Sub.row; (focus ((repeat (first | exact Rem.head | apply Rem.tail)); done)); (focus (first | with_reducible rfl | assumption | omega | (simp; done) | (simp [Nat.mul_comm]; done) | (simp; omega))); (focus (first | with_reducible rfl | assumption | omega | (simp; done) | (simp [Nat.mul_comm]; done) | (simp; omega))); (focus (first | with_reducible rfl | (simp [nums]; done) | (simp [nums]; omega) | (simp; done) | (simp; omega)))) | (apply Sub.blk; (focus ((repeat (first | exact Rem.head | apply Rem.tail)); done)); (focus (first | with_reducible rfl | (simp [nums]; done) | (simp [nums]; omega) | (simp; done) | (simp; omega)))) | fail))
set_option maxRecDepth 20000 in
theorem canChange_ct (day looms money : Int) (xs : List Cp) (A : Option Addr) (c : Nat) (x : Sp) (y : Cp) (w : World) (hR : RdC w A c xs) (hd : 0 ≤ day ∧ day ≤ 4000) (hs : 0 ≤ y.since ∧ y.since ≤ 4000) (hm : 0 ≤ y.made ∧ y.made ≤ 500) (hr : 0 ≤ y.rows ∧ y.rows ≤ 500) :
    Calls Try.prog 52 #[shV day looms money A xs.length c, .agg (spL x).toArray, .agg (cpL y).toArray] w (Ret (fun _ : Unit => .bool (canCh day xs x y)) (fun _ => []) w) := by
  refine enter Try.func52 rfl rfl Try.ntmps52 rfl ?_
  refine CW.seq (CW.region ?_)
  refine LW.op rfl rfl rfl (y_box rfl rfl rfl) ?_
  intro b3
  refine LW.op rfl rfl rfl (y_box rfl rfl rfl) ?_
  intro b4
  refine LW.op rfl rfl rfl (y_box rfl rfl rfl) ?_
  intro b5
  refine LW.val rfl rfl rfl (x_assign rfl rfl) ?_
  refine LW.nil (QW.thenC (CW.seq (CW.region ?_)))
  refine LW.val rfl rfl rfl (x_fieldAddr rfl rfl fl31_0 rfl) ?_
  refine LW.val rfl rfl rfl (x_loadB rfl rfl ty3 (by (repeat (first | exact Rem.head | apply Rem.tail)); done) (by exact rfl)) ?_
  refine LW.val rfl rfl rfl (x_fieldAddr rfl rfl fl41_4 rfl) ?_
  refine LW.val rfl rfl rfl (x_loadB rfl rfl ty3 (by (repeat (first | exact Rem.head | apply Rem.tail)); done) (by exact rfl)) ?_
  refine LW.val rfl rfl rfl (x_sub rfl rfl rfl (by omega)) ?_
  refine LW.val rfl rfl rfl (x_assign rfl rfl) ?_
  refine LW.nil (QW.thenC (CW.seq (CW.seq (CW.region ?_))))
  refine LW.val rfl rfl rfl (x_fieldAddr rfl rfl fl37_0 rfl) ?_
  refine LW.val rfl rfl rfl (x_loadB rfl rfl ty3 (by (repeat (first | exact Rem.head | apply Rem.tail)); done) (by exact rfl)) ?_
  refine LW.nil (QW.thenC (CW.block (CW.seq (CW.region ?_))))
  refine LW.val rfl rfl rfl (x_eql rfl rfl rfl) ?_
  refine LW.val rfl rfl rfl (x_assign rfl rfl) ?_
  refine LW.nil (QW.thenC ?_)
  refine CW.split (t := 15) rfl (fun h15 => ?_) (fun h15 => ?_)
  · skip
    refine CW.condT rfl (CW.seq (CW.region ?_))
    refine LW.val rfl rfl rfl (x_fieldAddr rfl rfl fl41_2 rfl) ?_
    refine LW.val rfl rfl rfl (x_loadB rfl rfl ty3 (by (repeat (first | exact Rem.head | apply Rem.tail)); done) (by exact rfl)) ?_
    refine LW.val rfl rfl rfl (x_eql rfl rfl rfl) ?_
    refine LW.val rfl rfl rfl (x_move rfl rfl) ?_
    refine LW.split (t := 20) rfl (fun h20 => ?_) (fun h20 => ?_)
    · skip
      refine LW.valG rfl rfl rfl rfl rfl (x_loadB0 rfl rfl ty31 (by (repeat (first | exact Rem.head | apply Rem.tail)); done) rfl) ?_
      refine LW.valG rfl rfl rfl rfl rfl (x_fieldAddr rfl rfl fl37_2 rfl) ?_
      refine LW.valG rfl rfl rfl rfl rfl (x_loadB rfl rfl ty3 (by (repeat (first | exact Rem.head | apply Rem.tail)); done) (by exact rfl)) ?_
      refine LW.opG rfl rfl rfl rfl rfl (y_call rfl rfl rfl en40 (fun w HW => onLoom_ct _ _ _ _ xs _ c _ (hR.up HW.below))) ?_
      rintro ⟨⟩
      refine LW.valG rfl rfl rfl rfl rfl (x_lss rfl rfl rfl) ?_
      refine LW.val rfl rfl rfl (x_pickT rfl rfl rfl) ?_
      refine LW.val rfl rfl rfl (x_assign rfl rfl) ?_
      refine LW.nil (QW.thenC (CW.ret (QW.in_ret (QW.then_ret ?_))))
      refine QW.res1 rfl (ResV.tmp rfl) (ret_eq (()) ?_ ?_)
      · (first | (simp_all [canCh]; done) | (simp_all [canCh]; omega))
      · (repeat (first | exact Sub.nil | exact Sub.all | (apply Sub.cons; (focus ((repeat (first | exact Rem.head | apply Rem.tail)); done))) | (apply Sub.row; (focus ((repeat (first | exact Rem.head | apply Rem.tail)); done)); (focus (first | with_reducible rfl | assumption | omega | (simp; done) | (simp [Nat.mul_comm]; done) | (simp; omega))); (focus (first | with_reducible rfl | assumption | omega | (simp; done) | (simp [Nat.mul_comm]; done) | (simp; omega))); (focus (first | with_reducible rfl | (simp [nums]; done) | (simp [nums]; omega) | (simp; done) | (simp; omega)))) | (apply Sub.blk; (focus ((repeat (first | exact Rem.head | apply Rem.tail)); done)); (focus (first | with_reducible rfl | (simp [nums]; done) | (simp [nums]; omega) | (simp; done) | (simp; omega)))) | fail))
    · skip
      refine LW.gF rfl rfl rfl rfl rfl rfl ?_
      refine LW.gF rfl rfl rfl rfl rfl rfl ?_
      refine LW.gF rfl rfl rfl rfl rfl rfl ?_
      refine LW.gF rfl rfl rfl rfl rfl rfl ?_
      refine LW.gF rfl rfl rfl rfl rfl rfl ?_
      refine LW.val rfl rfl rfl (x_pickF rfl rfl rfl) ?_
      refine LW.val rfl rfl rfl (x_assign rfl rfl) ?_
      refine LW.nil (QW.thenC (CW.ret (QW.in_ret (QW.then_ret ?_))))
      refine QW.res1 rfl (ResV.tmp rfl) (ret_eq (()) ?_ ?_)
      · (first | (simp_all [canCh]; done) | (simp_all [canCh]; omega))
      · (repeat (first | exact Sub.nil | exact Sub.all | (apply Sub.cons; (focus ((repeat (first | exact Rem.head | apply Rem.tail)); done))) | (apply Sub.row; (focus ((repeat (first | exact Rem.head | apply Rem.tail)); done)); (focus (first | with_reducible rfl | assumption | omega | (simp; done) | (simp [Nat.mul_comm]; done) | (simp; omega))); (focus (first | with_reducible rfl | assumption | omega | (simp; done) | (simp [Nat.mul_comm]; done) | (simp; omega))); (focus (first | with_reducible rfl | (simp [nums]; done) | (simp [nums]; omega) | (simp; done) | (simp; omega)))) | (apply Sub.blk; (focus ((repeat (first | exact Rem.head | apply Rem.tail)); done)); (focus (first | with_reducible rfl | (simp [nums]; done) | (simp [nums]; omega) | (simp; done) | (simp; omega)))) | fail))
  · skip
    refine CW.condF rfl (CW.seq (CW.region ?_))
    refine LW.val rfl rfl rfl (x_eql rfl rfl rfl) ?_
    refine LW.val rfl rfl rfl (x_assign rfl rfl) ?_
    refine LW.nil (QW.thenC ?_)
    refine CW.split (t := 27) rfl (fun h27 => ?_) (fun h27 => ?_)
    · skip
      refine CW.condT rfl (CW.seq (CW.region ?_))
      refine LW.val rfl rfl rfl (x_fieldAddr rfl rfl fl41_2 rfl) ?_
      refine LW.val rfl rfl rfl (x_loadB rfl rfl ty3 (by (repeat (first | exact Rem.head | apply Rem.tail)); done) (by exact rfl)) ?_
      refine LW.val rfl rfl rfl (x_eql rfl rfl rfl) ?_
      refine LW.val rfl rfl rfl (x_move rfl rfl) ?_
      refine LW.split (t := 32) rfl (fun h32 => ?_) (fun h32 => ?_)
      · skip
        refine LW.valG rfl rfl rfl rfl rfl (x_move rfl rfl) ?_
        refine LW.valG rfl rfl rfl rfl rfl (x_geq rfl rfl rfl) ?_
        refine LW.val rfl rfl rfl (x_pickT rfl rfl rfl) ?_
        refine LW.val rfl rfl rfl (x_move rfl rfl) ?_
        refine LW.split (t := 36) rfl (fun h36 => ?_) (fun h36 => ?_)
        · skip
          refine LW.valG rfl rfl rfl rfl rfl (x_fieldAddr rfl rfl fl37_2 rfl) ?_
          refine LW.valG rfl rfl rfl rfl rfl (x_loadB rfl rfl ty3 (by (repeat (first | exact Rem.head | apply Rem.tail)); done) (by exact rfl)) ?_
          refine LW.valG rfl rfl rfl rfl rfl (x_fieldAddr rfl rfl fl41_0 rfl) ?_
          refine LW.valG rfl rfl rfl rfl rfl (x_loadB rfl rfl ty3 (by (repeat (first | exact Rem.head | apply Rem.tail)); done) (by exact rfl)) ?_
          refine LW.valG rfl rfl rfl rfl rfl (x_fieldAddr rfl rfl fl41_1 rfl) ?_
          refine LW.valG rfl rfl rfl rfl rfl (x_loadB rfl rfl ty3 (by (repeat (first | exact Rem.head | apply Rem.tail)); done) (by exact rfl)) ?_
          refine LW.valG rfl rfl rfl rfl rfl (x_sub rfl rfl rfl (by omega)) ?_
          refine LW.valG rfl rfl rfl rfl rfl (x_leq rfl rfl rfl) ?_
          refine LW.val rfl rfl rfl (x_pickT rfl rfl rfl) ?_
          refine LW.val rfl rfl rfl (x_assign rfl rfl) ?_
          refine LW.nil (QW.thenC (CW.ret (QW.in_ret (QW.then_ret ?_))))
          refine QW.res1 rfl (ResV.tmp rfl) (ret_eq (()) ?_ ?_)
          · (first | (simp_all [canCh]; done) | (simp_all [canCh]; omega))
          · (repeat (first | exact Sub.nil | exact Sub.all | (apply Sub.cons; (focus ((repeat (first | exact Rem.head | apply Rem.tail)); done))) | (apply Sub.row; (focus ((repeat (first | exact Rem.head | apply Rem.tail)); done)); (focus (first | with_reducible rfl | assumption | omega | (simp; done) | (simp [Nat.mul_comm]; done) | (simp; omega))); (focus (first | with_reducible rfl | assumption | omega | (simp; done) | (simp [Nat.mul_comm]; done) | (simp; omega))); (focus (first | with_reducible rfl | (simp [nums]; done) | (simp [nums]; omega) | (simp; done) | (simp; omega)))) | (apply Sub.blk; (focus ((repeat (first | exact Rem.head | apply Rem.tail)); done)); (focus (first | with_reducible rfl | (simp [nums]; done) | (simp [nums]; omega) | (simp; done) | (simp; omega)))) | fail))
        · skip
          refine LW.gF rfl rfl rfl rfl rfl rfl ?_
          refine LW.gF rfl rfl rfl rfl rfl rfl ?_
          refine LW.gF rfl rfl rfl rfl rfl rfl ?_
          refine LW.gF rfl rfl rfl rfl rfl rfl ?_
          refine LW.gF rfl rfl rfl rfl rfl rfl ?_
          refine LW.gF rfl rfl rfl rfl rfl rfl ?_
          refine LW.gF rfl rfl rfl rfl rfl rfl ?_
          refine LW.gF rfl rfl rfl rfl rfl rfl ?_
          refine LW.val rfl rfl rfl (x_pickF rfl rfl rfl) ?_
          refine LW.val rfl rfl rfl (x_assign rfl rfl) ?_
          refine LW.nil (QW.thenC (CW.ret (QW.in_ret (QW.then_ret ?_))))
          refine QW.res1 rfl (ResV.tmp rfl) (ret_eq (()) ?_ ?_)
          · (first | (simp_all [canCh]; done) | (simp_all [canCh]; omega))
          · (repeat (first | exact Sub.nil | exact Sub.all | (apply Sub.cons; (focus ((repeat (first | exact Rem.head | apply Rem.tail)); done))) | (apply Sub.row; (focus ((repeat (first | exact Rem.head | apply Rem.tail)); done)); (focus (first | with_reducible rfl | assumption | omega | (simp; done) | (simp [Nat.mul_comm]; done) | (simp; omega))); (focus (first | with_reducible rfl | assumption | omega | (simp; done) | (simp [Nat.mul_comm]; done) | (simp; omega))); (focus (first | with_reducible rfl | (simp [nums]; done) | (simp [nums]; omega) | (simp; done) | (simp; omega)))) | (apply Sub.blk; (focus ((repeat (first | exact Rem.head | apply Rem.tail)); done)); (focus (first | with_reducible rfl | (simp [nums]; done) | (simp [nums]; omega) | (simp; done) | (simp; omega)))) | fail))
      · skip
        refine LW.gF rfl rfl rfl rfl rfl rfl ?_
        refine LW.gF rfl rfl rfl rfl rfl rfl ?_
        refine LW.val rfl rfl rfl (x_pickF rfl rfl rfl) ?_
        refine LW.val rfl rfl rfl (x_move rfl rfl) ?_
        refine LW.gF rfl rfl rfl rfl rfl rfl ?_
        refine LW.gF rfl rfl rfl rfl rfl rfl ?_
        refine LW.gF rfl rfl rfl rfl rfl rfl ?_
        refine LW.gF rfl rfl rfl rfl rfl rfl ?_
        refine LW.gF rfl rfl rfl rfl rfl rfl ?_
        refine LW.gF rfl rfl rfl rfl rfl rfl ?_
        refine LW.gF rfl rfl rfl rfl rfl rfl ?_
        refine LW.gF rfl rfl rfl rfl rfl rfl ?_
        refine LW.val rfl rfl rfl (x_pickF rfl rfl rfl) ?_
        refine LW.val rfl rfl rfl (x_assign rfl rfl) ?_
        refine LW.nil (QW.thenC (CW.ret (QW.in_ret (QW.then_ret ?_))))
        refine QW.res1 rfl (ResV.tmp rfl) (ret_eq (()) ?_ ?_)
        · (first | (simp_all [canCh]; done) | (simp_all [canCh]; omega))
        · (repeat (first | exact Sub.nil | exact Sub.all | (apply Sub.cons; (focus ((repeat (first | exact Rem.head | apply Rem.tail)); done))) | (apply Sub.row; (focus ((repeat (first | exact Rem.head | apply Rem.tail)); done)); (focus (first | with_reducible rfl | assumption | omega | (simp; done) | (simp [Nat.mul_comm]; done) | (simp; omega))); (focus (first | with_reducible rfl | assumption | omega | (simp; done) | (simp [Nat.mul_comm]; done) | (simp; omega))); (focus (first | with_reducible rfl | (simp [nums]; done) | (simp [nums]; omega) | (simp; done) | (simp; omega)))) | (apply Sub.blk; (focus ((repeat (first | exact Rem.head | apply Rem.tail)); done)); (focus (first | with_reducible rfl | (simp [nums]; done) | (simp [nums]; omega) | (simp; done) | (simp; omega)))) | fail))
    · skip
      refine CW.condF rfl (CW.seq (CW.region ?_))
      refine LW.val rfl rfl rfl (x_eql rfl rfl rfl) ?_
      refine LW.val rfl rfl rfl (x_assign rfl rfl) ?_
      refine LW.nil (QW.thenC ?_)
      refine CW.split (t := 46) rfl (fun h46 => ?_) (fun h46 => ?_)
      · skip
        refine CW.condT rfl (CW.seq (CW.region ?_))
        refine LW.val rfl rfl rfl (x_fieldAddr rfl rfl fl41_2 rfl) ?_
        refine LW.val rfl rfl rfl (x_loadB rfl rfl ty3 (by (repeat (first | exact Rem.head | apply Rem.tail)); done) (by exact rfl)) ?_
        refine LW.val rfl rfl rfl (x_eql rfl rfl rfl) ?_
        refine LW.val rfl rfl rfl (x_move rfl rfl) ?_
        refine LW.split (t := 51) rfl (fun h51 => ?_) (fun h51 => ?_)
        · skip
          refine LW.valG rfl rfl rfl rfl rfl (x_fieldAddr rfl rfl fl41_1 rfl) ?_
          refine LW.valG rfl rfl rfl rfl rfl (x_loadB rfl rfl ty3 (by (repeat (first | exact Rem.head | apply Rem.tail)); done) (by exact rfl)) ?_
          refine LW.valG rfl rfl rfl rfl rfl (x_fieldAddr rfl rfl fl41_0 rfl) ?_
          refine LW.valG rfl rfl rfl rfl rfl (x_loadB rfl rfl ty3 (by (repeat (first | exact Rem.head | apply Rem.tail)); done) (by exact rfl)) ?_
          refine LW.valG rfl rfl rfl rfl rfl (x_eql rfl rfl rfl) ?_
          refine LW.val rfl rfl rfl (x_pickT rfl rfl rfl) ?_
          refine LW.val rfl rfl rfl (x_assign rfl rfl) ?_
          refine LW.nil (QW.thenC (CW.ret (QW.in_ret (QW.then_ret ?_))))
          refine QW.res1 rfl (ResV.tmp rfl) (ret_eq (()) ?_ ?_)
          · (first | (simp_all [canCh]; done) | (simp_all [canCh]; omega))
          · (repeat (first | exact Sub.nil | exact Sub.all | (apply Sub.cons; (focus ((repeat (first | exact Rem.head | apply Rem.tail)); done))) | (apply Sub.row; (focus ((repeat (first | exact Rem.head | apply Rem.tail)); done)); (focus (first | with_reducible rfl | assumption | omega | (simp; done) | (simp [Nat.mul_comm]; done) | (simp; omega))); (focus (first | with_reducible rfl | assumption | omega | (simp; done) | (simp [Nat.mul_comm]; done) | (simp; omega))); (focus (first | with_reducible rfl | (simp [nums]; done) | (simp [nums]; omega) | (simp; done) | (simp; omega)))) | (apply Sub.blk; (focus ((repeat (first | exact Rem.head | apply Rem.tail)); done)); (focus (first | with_reducible rfl | (simp [nums]; done) | (simp [nums]; omega) | (simp; done) | (simp; omega)))) | fail))
        · skip
          refine LW.gF rfl rfl rfl rfl rfl rfl ?_
          refine LW.gF rfl rfl rfl rfl rfl rfl ?_
          refine LW.gF rfl rfl rfl rfl rfl rfl ?_
          refine LW.gF rfl rfl rfl rfl rfl rfl ?_
          refine LW.gF rfl rfl rfl rfl rfl rfl ?_
          refine LW.val rfl rfl rfl (x_pickF rfl rfl rfl) ?_
          refine LW.val rfl rfl rfl (x_assign rfl rfl) ?_
          refine LW.nil (QW.thenC (CW.ret (QW.in_ret (QW.then_ret ?_))))
          refine QW.res1 rfl (ResV.tmp rfl) (ret_eq (()) ?_ ?_)
          · (first | (simp_all [canCh]; done) | (simp_all [canCh]; omega))
          · (repeat (first | exact Sub.nil | exact Sub.all | (apply Sub.cons; (focus ((repeat (first | exact Rem.head | apply Rem.tail)); done))) | (apply Sub.row; (focus ((repeat (first | exact Rem.head | apply Rem.tail)); done)); (focus (first | with_reducible rfl | assumption | omega | (simp; done) | (simp [Nat.mul_comm]; done) | (simp; omega))); (focus (first | with_reducible rfl | assumption | omega | (simp; done) | (simp [Nat.mul_comm]; done) | (simp; omega))); (focus (first | with_reducible rfl | (simp [nums]; done) | (simp [nums]; omega) | (simp; done) | (simp; omega)))) | (apply Sub.blk; (focus ((repeat (first | exact Rem.head | apply Rem.tail)); done)); (focus (first | with_reducible rfl | (simp [nums]; done) | (simp [nums]; omega) | (simp; done) | (simp; omega)))) | fail))
      · skip
        refine CW.condF rfl (CW.seq (CW.region ?_))
        refine LW.val rfl rfl rfl (x_eql rfl rfl rfl) ?_
        refine LW.val rfl rfl rfl (x_assign rfl rfl) ?_
        refine LW.nil (QW.thenC ?_)
        refine CW.split (t := 58) rfl (fun h58 => ?_) (fun h58 => ?_)
        · skip
          refine CW.condT rfl (CW.seq (CW.region ?_))
          refine LW.val rfl rfl rfl (x_fieldAddr rfl rfl fl41_2 rfl) ?_
          refine LW.val rfl rfl rfl (x_loadB rfl rfl ty3 (by (repeat (first | exact Rem.head | apply Rem.tail)); done) (by exact rfl)) ?_
          refine LW.val rfl rfl rfl (x_eql rfl rfl rfl) ?_
          refine LW.val rfl rfl rfl (x_assign rfl rfl) ?_
          refine LW.nil (QW.thenC (CW.ret (QW.in_ret (QW.then_ret ?_))))
          refine QW.res1 rfl (ResV.tmp rfl) (ret_eq (()) ?_ ?_)
          · (first | (simp_all [canCh]; done) | (simp_all [canCh]; omega))
          · (repeat (first | exact Sub.nil | exact Sub.all | (apply Sub.cons; (focus ((repeat (first | exact Rem.head | apply Rem.tail)); done))) | (apply Sub.row; (focus ((repeat (first | exact Rem.head | apply Rem.tail)); done)); (focus (first | with_reducible rfl | assumption | omega | (simp; done) | (simp [Nat.mul_comm]; done) | (simp; omega))); (focus (first | with_reducible rfl | assumption | omega | (simp; done) | (simp [Nat.mul_comm]; done) | (simp; omega))); (focus (first | with_reducible rfl | (simp [nums]; done) | (simp [nums]; omega) | (simp; done) | (simp; omega)))) | (apply Sub.blk; (focus ((repeat (first | exact Rem.head | apply Rem.tail)); done)); (focus (first | with_reducible rfl | (simp [nums]; done) | (simp [nums]; omega) | (simp; done) | (simp; omega)))) | fail))
        · skip
          refine CW.condF rfl (CW.skip (QW.in_normal (QW.thenC (CW.seq (CW.region ?_)))))
          refine LW.val rfl rfl rfl (x_fieldAddr rfl rfl fl41_2 rfl) ?_
          refine LW.val rfl rfl rfl (x_loadB rfl rfl ty3 (by (repeat (first | exact Rem.head | apply Rem.tail)); done) (by exact rfl)) ?_
          refine LW.val rfl rfl rfl (x_eql rfl rfl rfl) ?_
          refine LW.val rfl rfl rfl (x_move rfl rfl) ?_
          refine LW.split (t := 66) rfl (fun h66 => ?_) (fun h66 => ?_)
          · skip
            refine LW.valG rfl rfl rfl rfl rfl (x_move rfl rfl) ?_
            refine LW.valG rfl rfl rfl rfl rfl (x_geq rfl rfl rfl) ?_
            refine LW.val rfl rfl rfl (x_pickT rfl rfl rfl) ?_
            refine LW.val rfl rfl rfl (x_assign rfl rfl) ?_
            refine LW.nil (QW.thenC (CW.ret ?_))
            refine QW.res1 rfl (ResV.tmp rfl) (ret_eq (()) ?_ ?_)
            · (first | (simp_all [canCh]; done) | (simp_all [canCh]; omega))
            · (repeat (first | exact Sub.nil | exact Sub.all | (apply Sub.cons; (focus ((repeat (first | exact Rem.head | apply Rem.tail)); done))) | (apply Sub.row; (focus ((repeat (first | exact Rem.head | apply Rem.tail)); done)); (focus (first | with_reducible rfl | assumption | omega | (simp; done) | (simp [Nat.mul_comm]; done) | (simp; omega))); (focus (first | with_reducible rfl | assumption | omega | (simp; done) | (simp [Nat.mul_comm]; done) | (simp; omega))); (focus (first | with_reducible rfl | (simp [nums]; done) | (simp [nums]; omega) | (simp; done) | (simp; omega)))) | (apply Sub.blk; (focus ((repeat (first | exact Rem.head | apply Rem.tail)); done)); (focus (first | with_reducible rfl | (simp [nums]; done) | (simp [nums]; omega) | (simp; done) | (simp; omega)))) | fail))
          · skip
            refine LW.gF rfl rfl rfl rfl rfl rfl ?_
            refine LW.gF rfl rfl rfl rfl rfl rfl ?_
            refine LW.val rfl rfl rfl (x_pickF rfl rfl rfl) ?_
            refine LW.val rfl rfl rfl (x_assign rfl rfl) ?_
            refine LW.nil (QW.thenC (CW.ret ?_))
            refine QW.res1 rfl (ResV.tmp rfl) (ret_eq (()) ?_ ?_)
            · (first | (simp_all [canCh]; done) | (simp_all [canCh]; omega))
            · (repeat (first | exact Sub.nil | exact Sub.all | (apply Sub.cons; (focus ((repeat (first | exact Rem.head | apply Rem.tail)); done))) | (apply Sub.row; (focus ((repeat (first | exact Rem.head | apply Rem.tail)); done)); (focus (first | with_reducible rfl | assumption | omega | (simp; done) | (simp [Nat.mul_comm]; done) | (simp; omega))); (focus (first | with_reducible rfl | assumption | omega | (simp; done) | (simp [Nat.mul_comm]; done) | (simp; omega))); (focus (first | with_reducible rfl | (simp [nums]; done) | (simp [nums]; omega) | (simp; done) | (simp; omega)))) | (apply Sub.blk; (focus ((repeat (first | exact Rem.head | apply Rem.tail)); done)); (focus (first | with_reducible rfl | (simp [nums]; done) | (simp [nums]; omega) | (simp; done) | (simp; omega)))) | fail))
set_option maxRecDepth 20000 in
theorem change_ct (day looms money : Int) (xs : List Cp) (b g c i : Nat) (x : Sp) (y : Cp) (w : World) (money' : Int) (y' : Cp) (hb : w.heap[b]? = some (.cells (shL day looms money (some ⟨g, 0, none⟩) xs.length c).toArray 31 (0, 0))) (hg : w.ownsRow 0 41 5 (.slice (some ⟨g, 0, none⟩) xs.length c) xs.length (flat cpL xs)) (hbg : b ≠ g)
    (hi : i < xs.length) (hy : xs[i] = y) (hx : x.car = i) (hm : x.kind = 4 → 0 ≤ y.made ∧ y.made ≤ 500 ∧ 0 ≤ x.val ∧ x.val ≤ 500) (hmo : money' = if x.kind = 7 then IntKind.i64.wrap (money + x.val) else money) (hy' : y' = chC day x y) :
    Calls Try.prog 53 #[.pointer (some ⟨b, 0, none⟩), .agg (spL x).toArray] w fun e w' => ∃ p : Unit, e = .returned ((fun _ => .tuple #[]) p) ∧ SH w [b, g] w' ((fun _ => [.blk b (shL day looms money' (some ⟨g, 0, none⟩) xs.length c) 31, rowCp (some ⟨g, 0, none⟩) xs.length c (xs.set i y')]) p) := by
  obtain ⟨kind, car, val⟩ := x
  have hx : car = i := hx
  subst hx
  simp only at hm hmo
  have hL : SH w [b, g] w [.blk b (shL day looms money (some ⟨g, 0, none⟩) xs.length c) 31, rowCp (some ⟨g, 0, none⟩) xs.length c xs] := ⟨rfl, rfl, rfl, Nat.le_refl _, fun _ _ _ => rfl,
    fun f hf => by
      simp at hf
      rcases hf with rfl | rfl
      · exact hb
      · exact hg,
    fun f hf k hk => by
      simp at hf
      rcases hf with rfl | rfl
      · have : b = k := Option.some.inj hk
        exact .inr (by simp [this])
      · have : g = k := Option.some.inj hk
        exact .inr (by simp [this]),
    by
      refine List.pairwise_cons.2 ⟨fun f hf k hk hk' => ?_, List.pairwise_singleton _ _⟩
      simp at hf; subst hf
      have h1 : b = k := Option.some.inj hk
      have h2 : g = k := Option.some.inj hk'
      exact hbg (h1.trans h2.symm)⟩
  refine enterX [b, g] [.blk b (shL day looms money (some ⟨g, 0, none⟩) xs.length c) 31, rowCp (some ⟨g, 0, none⟩) xs.length c xs] Try.func53 rfl rfl Try.ntmps53 rfl hL ?_
  refine CW.seq (CW.region ?_)
  refine LW.op rfl rfl rfl (y_box rfl rfl rfl) ?_
  intro b3
  refine LW.nil (QW.thenC (CW.seq ?_))
  refine CW.drawL [] follows ?_
  refine DW.take 0 rfl rfl (by kernel_rfl) (by kernel_rfl) (by kernel_rfl) (by kernel_rfl) (by kernel_rfl) rfl (fun _ _ _ h => h) rfl (by (repeat (first | exact Sub.nil | exact Sub.all | (apply Sub.cons; (focus ((repeat (first | exact Rem.head | apply Rem.tail)); done))) | fail))) (x_move rfl rfl) rfl ?_
  refine DW.take 1 rfl rfl (by kernel_rfl) (by kernel_rfl) (by kernel_rfl) (by kernel_rfl) (by kernel_rfl) rfl (fun _ _ _ h => h) rfl (by (repeat (first | exact Sub.nil | exact Sub.all | (apply Sub.cons; (focus ((repeat (first | exact Rem.head | apply Rem.tail)); done))) | fail))) (x_nilCheck rfl rfl) rfl ?_
  refine DW.take 2 rfl rfl (by kernel_rfl) (by kernel_rfl) (by kernel_rfl) (by kernel_rfl) (by kernel_rfl) rfl (fun _ _ _ h => h) rfl (by (repeat (first | exact Sub.nil | exact Sub.all | (apply Sub.cons; (focus ((repeat (first | exact Rem.head | apply Rem.tail)); done))) | fail))) (x_fieldAddr rfl rfl fl31_2 rfl) rfl ?_
  refine DW.take 3 rfl rfl (by kernel_rfl) (by kernel_rfl) (by kernel_rfl) (by kernel_rfl) (by kernel_rfl) rfl (fun _ _ _ h => h) rfl (by (repeat (first | exact Sub.nil | exact Sub.all | (apply Sub.cons; (focus ((repeat (first | exact Rem.head | apply Rem.tail)); done))) | fail))) (x_loadB rfl rfl ty29 (by (repeat (first | exact Rem.head | apply Rem.tail)); done) (by exact rfl)) rfl ?_
  refine DW.take 4 rfl rfl (by kernel_rfl) (by kernel_rfl) (by kernel_rfl) (by kernel_rfl) (by kernel_rfl) rfl (fun _ _ _ h => h) rfl (by (repeat (first | exact Sub.nil | exact Sub.all | (apply Sub.cons; (focus ((repeat (first | exact Rem.head | apply Rem.tail)); done))) | fail))) (x_fieldAddr rfl rfl fl37_1 rfl) rfl ?_
  refine DW.take 5 rfl rfl (by kernel_rfl) (by kernel_rfl) (by kernel_rfl) (by kernel_rfl) (by kernel_rfl) rfl (fun _ _ _ h => h) rfl (by (repeat (first | exact Sub.nil | exact Sub.all | (apply Sub.cons; (focus ((repeat (first | exact Rem.head | apply Rem.tail)); done))) | fail))) (x_loadB rfl rfl ty3 (by (repeat (first | exact Rem.head | apply Rem.tail)); done) (by exact rfl)) rfl ?_
  refine DW.take 6 rfl rfl (by kernel_rfl) (by kernel_rfl) (by kernel_rfl) (by kernel_rfl) (by kernel_rfl) rfl (fun _ _ _ h => h) rfl (by (repeat (first | exact Sub.nil | exact Sub.all | (apply Sub.cons; (focus ((repeat (first | exact Rem.head | apply Rem.tail)); done))) | fail))) (x_idxN rfl rfl rfl el29 (by omega)) rfl ?_
  refine DW.take 7 rfl rfl (by kernel_rfl) (by kernel_rfl) (by kernel_rfl) (by kernel_rfl) (by kernel_rfl) rfl (fun _ _ _ h => h) rfl (by (repeat (first | exact Sub.nil | exact Sub.all | (apply Sub.cons; (focus ((repeat (first | exact Rem.head | apply Rem.tail)); done))) | fail))) (x_assign rfl rfl) rfl ?_
  refine DW.done (by kernel_rfl) ?_
  refine QW.thenC (CW.seq (CW.region ?_))
  refine LW.val rfl rfl rfl (x_move rfl rfl) ?_
  refine LW.val rfl rfl rfl (x_move rfl rfl) ?_
  refine LW.val rfl rfl rfl (x_nilCheck rfl rfl) ?_
  refine LW.val rfl rfl rfl (x_fieldAddr rfl rfl fl31_0 rfl) ?_
  refine LW.val rfl rfl rfl (x_loadB rfl rfl ty3 (by (repeat (first | exact Rem.head | apply Rem.tail)); done) (by exact rfl)) ?_
  refine LW.val rfl rfl rfl (x_nilCheck rfl rfl) ?_
  refine LW.val rfl rfl rfl (x_fieldAddrG rfl rfl fl41_4) ?_
  refine LW.op0 rfl rfl (y_storeO1 (k := 5) (i := i) (z := y) (z' := ⟨y.rows, y.made, y.state, y.loom, day⟩) cpLen rfl rfl rfl rfl rfl ty3 (by (repeat (first | exact Rem.head | apply Rem.tail)); done) (by simp [hi, hy]) rfl rfl) ?_
  rintro ⟨⟩
  refine LW.nil (QW.thenC (CW.seq (CW.region ?_)))
  refine LW.val rfl rfl rfl (x_fieldAddr rfl rfl fl37_0 rfl) ?_
  refine LW.val rfl rfl rfl (x_loadB rfl rfl ty3 (by (repeat (first | exact Rem.head | apply Rem.tail)); done) (by exact rfl)) ?_
  refine LW.nil (QW.thenC (CW.block (CW.seq (CW.region ?_))))
  refine LW.val rfl rfl rfl (x_eql rfl rfl rfl) ?_
  refine LW.val rfl rfl rfl (x_assign rfl rfl) ?_
  refine LW.nil (QW.thenC ?_)
  refine CW.condD rfl (fun h3 => ?_) (fun h3 => ?_)
  · have h3 : kind = 3 := h3
    refine CW.draw [] ([.blk b3 [.int .i64 kind, .int .i64 i, .int .i64 val] 37]) follows ?_
    refine DW.take 0 rfl rfl (by kernel_rfl) (by kernel_rfl) (by kernel_rfl) (by kernel_rfl) (by kernel_rfl) rfl (fun _ _ _ h => h) rfl (by (repeat (first | exact Sub.nil | exact Sub.all | (apply Sub.cons; (focus ((repeat (first | exact Rem.head | apply Rem.tail)); done))) | fail))) (x_move rfl rfl) rfl ?_
    refine DW.take 1 rfl rfl (by kernel_rfl) (by kernel_rfl) (by kernel_rfl) (by kernel_rfl) (by kernel_rfl) rfl (fun _ _ _ h => h) rfl (by (repeat (first | exact Sub.nil | exact Sub.all | (apply Sub.cons; (focus ((repeat (first | exact Rem.head | apply Rem.tail)); done))) | fail))) (x_move rfl rfl) rfl ?_
    refine DW.take 2 rfl rfl (by kernel_rfl) (by kernel_rfl) (by kernel_rfl) (by kernel_rfl) (by kernel_rfl) rfl (fun _ _ _ h => h) rfl (by (repeat (first | exact Sub.nil | exact Sub.all | (apply Sub.cons; (focus ((repeat (first | exact Rem.head | apply Rem.tail)); done))) | fail))) (x_fieldAddr rfl rfl fl37_2 rfl) rfl ?_
    refine DW.take 3 rfl rfl (by kernel_rfl) (by kernel_rfl) (by kernel_rfl) (by kernel_rfl) (by kernel_rfl) rfl (fun _ _ _ h => h) rfl (by (repeat (first | exact Sub.nil | exact Sub.all | (apply Sub.cons; (focus ((repeat (first | exact Rem.head | apply Rem.tail)); done))) | fail))) (x_loadB rfl rfl ty3 (by (repeat (first | exact Rem.head | apply Rem.tail)); done) (by exact rfl)) rfl ?_
    refine DW.take 4 rfl rfl (by kernel_rfl) (by kernel_rfl) (by kernel_rfl) (by kernel_rfl) (by kernel_rfl) rfl (fun _ _ _ h => h) rfl (by (repeat (first | exact Sub.nil | exact Sub.all | (apply Sub.cons; (focus ((repeat (first | exact Rem.head | apply Rem.tail)); done))) | fail))) (x_nilCheck rfl rfl) rfl ?_
    refine DW.take 5 rfl rfl (by kernel_rfl) (by kernel_rfl) (by kernel_rfl) (by kernel_rfl) (by kernel_rfl) rfl (fun _ _ _ h => h) rfl (by (repeat (first | exact Sub.nil | exact Sub.all | (apply Sub.cons; (focus ((repeat (first | exact Rem.head | apply Rem.tail)); done))) | fail))) (x_fieldAddrG rfl rfl fl41_2) rfl ?_
    refine DW.ready [6] (by kernel_rfl) (by simp) ?_
    refine AllR.cons0 rfl rfl rfl (y_storeO1 (k := 5) (i := i) (z := ⟨y.rows, y.made, y.state, y.loom, day⟩) (z' := ⟨y.rows, y.made, 1, y.loom, day⟩) cpLen rfl rfl rfl rfl rfl ty3 (by (repeat (first | exact Rem.head | apply Rem.tail)); done) (by simp [hi]) rfl rfl) (fun _ => by (repeat (first | exact Sub.nil | exact Sub.all | (apply Sub.cons; (focus ((repeat (first | exact Rem.head | apply Rem.tail)); done))) | fail))) rfl ?_ AllR.nil
    rintro ⟨⟩
    refine DW.take 7 rfl rfl (by kernel_rfl) (by kernel_rfl) (by kernel_rfl) (by kernel_rfl) (by kernel_rfl) rfl (fun _ _ _ h => h) rfl (by (repeat (first | exact Sub.nil | exact Sub.all | (apply Sub.cons; (focus ((repeat (first | exact Rem.head | apply Rem.tail)); done))) | fail))) (x_nilCheck rfl rfl) rfl ?_
    refine DW.take 8 rfl rfl (by kernel_rfl) (by kernel_rfl) (by kernel_rfl) (by kernel_rfl) (by kernel_rfl) rfl (fun _ _ _ h => h) rfl (by (repeat (first | exact Sub.nil | exact Sub.all | (apply Sub.cons; (focus ((repeat (first | exact Rem.head | apply Rem.tail)); done))) | fail))) (x_fieldAddrG rfl rfl fl41_3) rfl ?_
    refine DW.ready [9] (by kernel_rfl) (by simp) ?_
    refine AllR.cons0 rfl rfl rfl (y_storeO1 (k := 5) (i := i) (z := ⟨y.rows, y.made, 1, y.loom, day⟩) (z' := ⟨y.rows, y.made, 1, val, day⟩) cpLen rfl rfl rfl rfl rfl ty3 (by (repeat (first | exact Rem.head | apply Rem.tail)); done) (by simp [hi]) rfl rfl) (fun _ => by (repeat (first | exact Sub.nil | exact Sub.all | (apply Sub.cons; (focus ((repeat (first | exact Rem.head | apply Rem.tail)); done))) | fail))) rfl ?_ AllR.nil
    rintro ⟨⟩
    refine DW.done (by kernel_rfl) ?_
    obtain rfl : money' = money := by rw [if_neg (by omega)] at hmo; exact hmo
    have hz : y' = ⟨y.rows, y.made, 1, val, day⟩ := by rw [hy']; simp [chC, h3]
    refine QW.in_normal (QW.end_ ?_)
    refine QW.res0 rfl  (ret_eq (()) ?_ ?_)
    · first | rfl | (simp only []; rfl)
    · (repeat (first | exact Sub.nil | exact Sub.all | (apply Sub.cons; (focus ((repeat (first | exact Rem.head | apply Rem.tail)); done))) | (apply Sub.row; (focus ((repeat (first | exact Rem.head | apply Rem.tail)); done)); (focus (first | with_reducible rfl | assumption | omega | (simp; done) | (simp [Nat.mul_comm]; done) | (simp; omega))); (focus (first | with_reducible rfl | assumption | omega | (simp; done) | (simp [Nat.mul_comm]; done) | (simp; omega))); (focus (first | with_reducible rfl | (rw [hz]; simp only [List.set_set]; done)))) | (apply Sub.blk; (focus ((repeat (first | exact Rem.head | apply Rem.tail)); done)); (focus (first | with_reducible rfl | (rw [hz]; simp only [List.set_set]; done)))) | fail))
  · have h3 : ¬ kind = 3 := h3
    refine CW.seq (CW.region ?_)
    refine LW.val rfl rfl rfl (x_eql rfl rfl rfl) ?_
    refine LW.val rfl rfl rfl (x_assign rfl rfl) ?_
    refine LW.nil (QW.thenC ?_)
    refine CW.condD rfl (fun h4 => ?_) (fun h4 => ?_)
    · have h4 : kind = 4 := h4
      have hm4 := hm h4
      refine CW.draw [9] ([.blk b3 [.int .i64 kind, .int .i64 i, .int .i64 val] 37, rowCp (some ⟨g, 0, none⟩) xs.length c (xs.set i ⟨y.rows, y.made, y.state, y.loom, day⟩)]) follows ?_
      refine DW.take 0 rfl rfl (by kernel_rfl) (by kernel_rfl) (by kernel_rfl) (by kernel_rfl) (by kernel_rfl) rfl (fun _ _ _ h => h) rfl (by (repeat (first | exact Sub.nil | exact Sub.all | (apply Sub.cons; (focus ((repeat (first | exact Rem.head | apply Rem.tail)); done))) | fail))) (x_move rfl rfl) rfl ?_
      refine DW.take 1 rfl rfl (by kernel_rfl) (by kernel_rfl) (by kernel_rfl) (by kernel_rfl) (by kernel_rfl) rfl (fun _ _ _ h => h) rfl (by (repeat (first | exact Sub.nil | exact Sub.all | (apply Sub.cons; (focus ((repeat (first | exact Rem.head | apply Rem.tail)); done))) | fail))) (x_nilCheck rfl rfl) rfl ?_
      refine DW.take 2 rfl rfl (by kernel_rfl) (by kernel_rfl) (by kernel_rfl) (by kernel_rfl) (by kernel_rfl) rfl (fun _ _ _ h => h) rfl (by (repeat (first | exact Sub.nil | exact Sub.all | (apply Sub.cons; (focus ((repeat (first | exact Rem.head | apply Rem.tail)); done))) | fail))) (x_fieldAddrG rfl rfl fl41_1) rfl ?_
      refine DW.take 3 rfl rfl (by kernel_rfl) (by kernel_rfl) (by kernel_rfl) (by kernel_rfl) (by kernel_rfl) rfl (fun _ _ _ h => h) rfl (by (repeat (first | exact Sub.nil | exact Sub.all | (apply Sub.cons; (focus ((repeat (first | exact Rem.head | apply Rem.tail)); done))) | fail))) (x_loadO1 (k := 5) (i := i) (j := 1) (y := ⟨y.rows, y.made, y.state, y.loom, day⟩) (by (repeat (first | exact Rem.head | apply Rem.tail)); done) cpLen rfl rfl ty3 (by simp [hi]) rfl) rfl ?_
      refine DW.take 4 rfl rfl (by kernel_rfl) (by kernel_rfl) (by kernel_rfl) (by kernel_rfl) (by kernel_rfl) rfl (fun _ _ _ h => h) rfl (by (repeat (first | exact Sub.nil | exact Sub.all | (apply Sub.cons; (focus ((repeat (first | exact Rem.head | apply Rem.tail)); done))) | fail))) (x_fieldAddr rfl rfl fl37_2 rfl) rfl ?_
      refine DW.take 5 rfl rfl (by kernel_rfl) (by kernel_rfl) (by kernel_rfl) (by kernel_rfl) (by kernel_rfl) rfl (fun _ _ _ h => h) rfl (by (repeat (first | exact Sub.nil | exact Sub.all | (apply Sub.cons; (focus ((repeat (first | exact Rem.head | apply Rem.tail)); done))) | fail))) (x_loadB rfl rfl ty3 (by (repeat (first | exact Rem.head | apply Rem.tail)); done) (by exact rfl)) rfl ?_
      refine DW.take 6 rfl rfl (by kernel_rfl) (by kernel_rfl) (by kernel_rfl) (by kernel_rfl) (by kernel_rfl) rfl (fun _ _ _ h => h) rfl (by (repeat (first | exact Sub.nil | exact Sub.all | (apply Sub.cons; (focus ((repeat (first | exact Rem.head | apply Rem.tail)); done))) | fail))) (x_add (a := y.made) (b := val) rfl rfl rfl (by omega)) rfl ?_
      refine DW.ready [7] (by kernel_rfl) (by simp) ?_
      refine AllR.val rfl rfl rfl rfl (x_nilCheck rfl rfl) (by (repeat (first | exact Sub.nil | exact Sub.all | (apply Sub.cons; (focus ((repeat (first | exact Rem.head | apply Rem.tail)); done))) | fail))) rfl ?_ AllR.nil
      refine DW.take 8 rfl rfl (by kernel_rfl) (by kernel_rfl) (by kernel_rfl) (by kernel_rfl) (by kernel_rfl) rfl (fun _ _ _ h => h) rfl (by (repeat (first | exact Sub.nil | exact Sub.all | (apply Sub.cons; (focus ((repeat (first | exact Rem.head | apply Rem.tail)); done))) | fail))) (x_fieldAddrG rfl rfl fl41_1) rfl ?_
      refine DW.ready [9] (by kernel_rfl) (by simp) ?_
      refine AllR.last rfl rfl rfl (by kernel_rfl) (y_storeO1 (k := 5) (i := i) (z := ⟨y.rows, y.made, y.state, y.loom, day⟩) (z' := ⟨y.rows, y.made + val, y.state, y.loom, day⟩) cpLen rfl rfl rfl rfl rfl ty3 (by (repeat (first | exact Rem.head | apply Rem.tail)); done) (by simp [hi]) rfl rfl) rfl ?_ AllR.nil
      rintro ⟨⟩
      refine DW.done (by kernel_rfl) ?_
      obtain rfl : money' = money := by rw [if_neg (by omega)] at hmo; exact hmo
      have hz : y' = ⟨y.rows, y.made + val, y.state, y.loom, day⟩ := by rw [hy']; simp [chC, h3, h4]
      refine QW.in_normal (QW.end_ ?_)
      refine QW.res0 rfl  (ret_eq (()) ?_ ?_)
      · first | rfl | (simp only []; rfl)
      · (repeat (first | exact Sub.nil | exact Sub.all | (apply Sub.cons; (focus ((repeat (first | exact Rem.head | apply Rem.tail)); done))) | (apply Sub.row; (focus ((repeat (first | exact Rem.head | apply Rem.tail)); done)); (focus (first | with_reducible rfl | assumption | omega | (simp; done) | (simp [Nat.mul_comm]; done) | (simp; omega))); (focus (first | with_reducible rfl | assumption | omega | (simp; done) | (simp [Nat.mul_comm]; done) | (simp; omega))); (focus (first | with_reducible rfl | (rw [hz]; simp only [List.set_set]; done)))) | (apply Sub.blk; (focus ((repeat (first | exact Rem.head | apply Rem.tail)); done)); (focus (first | with_reducible rfl | (rw [hz]; simp only [List.set_set]; done)))) | fail))
    · have h4 : ¬ kind = 4 := h4
      refine CW.seq (CW.region ?_)
      refine LW.val rfl rfl rfl (x_eql rfl rfl rfl) ?_
      refine LW.val rfl rfl rfl (x_assign rfl rfl) ?_
      refine LW.nil (QW.thenC ?_)
      refine CW.condD rfl (fun h5 => ?_) (fun h5 => ?_)
      · have h5 : kind = 5 := h5
        refine CW.region ?_
        refine LW.val rfl rfl rfl (x_move rfl rfl) ?_
        refine LW.val rfl rfl rfl (x_move rfl rfl) ?_
        refine LW.val rfl rfl rfl (x_nilCheck rfl rfl) ?_
        refine LW.val rfl rfl rfl (x_fieldAddrG rfl rfl fl41_2) ?_
        refine LW.op0 rfl rfl (y_storeO1 (k := 5) (i := i) (z := ⟨y.rows, y.made, y.state, y.loom, day⟩) (z' := ⟨y.rows, y.made, 2, y.loom, day⟩) cpLen rfl rfl rfl rfl rfl ty3 (by (repeat (first | exact Rem.head | apply Rem.tail)); done) (by simp [hi]) rfl rfl) ?_
        rintro ⟨⟩
        refine LW.val rfl rfl rfl (x_nilCheck rfl rfl) ?_
        refine LW.val rfl rfl rfl (x_fieldAddrG rfl rfl fl41_3) ?_
        refine LW.op0 rfl rfl (y_storeO1 (k := 5) (i := i) (z := ⟨y.rows, y.made, 2, y.loom, day⟩) (z' := ⟨y.rows, y.made, 2, 0, day⟩) cpLen rfl rfl rfl rfl rfl ty3 (by (repeat (first | exact Rem.head | apply Rem.tail)); done) (by simp [hi]) rfl rfl) ?_
        rintro ⟨⟩
        obtain rfl : money' = money := by rw [if_neg (by omega)] at hmo; exact hmo
        have hz : y' = ⟨y.rows, y.made, 2, 0, day⟩ := by rw [hy']; simp [chC, h3, h4, h5]
        refine LW.nil (QW.in_normal (QW.end_ ?_))
        refine QW.res0 rfl  (ret_eq (()) ?_ ?_)
        · first | rfl | (simp only []; rfl)
        · (repeat (first | exact Sub.nil | exact Sub.all | (apply Sub.cons; (focus ((repeat (first | exact Rem.head | apply Rem.tail)); done))) | (apply Sub.row; (focus ((repeat (first | exact Rem.head | apply Rem.tail)); done)); (focus (first | with_reducible rfl | assumption | omega | (simp; done) | (simp [Nat.mul_comm]; done) | (simp; omega))); (focus (first | with_reducible rfl | assumption | omega | (simp; done) | (simp [Nat.mul_comm]; done) | (simp; omega))); (focus (first | with_reducible rfl | (rw [hz]; simp only [List.set_set]; done)))) | (apply Sub.blk; (focus ((repeat (first | exact Rem.head | apply Rem.tail)); done)); (focus (first | with_reducible rfl | (rw [hz]; simp only [List.set_set]; done)))) | fail))
      · have h5 : ¬ kind = 5 := h5
        refine CW.seq (CW.region ?_)
        refine LW.val rfl rfl rfl (x_eql rfl rfl rfl) ?_
        refine LW.val rfl rfl rfl (x_assign rfl rfl) ?_
        refine LW.nil (QW.thenC ?_)
        refine CW.condD rfl (fun h6 => ?_) (fun h6 => ?_)
        · have h6 : kind = 6 := h6
          refine CW.region ?_
          refine LW.val rfl rfl rfl (x_move rfl rfl) ?_
          refine LW.val rfl rfl rfl (x_nilCheck rfl rfl) ?_
          refine LW.val rfl rfl rfl (x_fieldAddrG rfl rfl fl41_2) ?_
          refine LW.op0 rfl rfl (y_storeO1 (k := 5) (i := i) (z := ⟨y.rows, y.made, y.state, y.loom, day⟩) (z' := ⟨y.rows, y.made, 3, y.loom, day⟩) cpLen rfl rfl rfl rfl rfl ty3 (by (repeat (first | exact Rem.head | apply Rem.tail)); done) (by simp [hi]) rfl rfl) ?_
          rintro ⟨⟩
          obtain rfl : money' = money := by rw [if_neg (by omega)] at hmo; exact hmo
          have hz : y' = ⟨y.rows, y.made, 3, y.loom, day⟩ := by rw [hy']; simp [chC, h3, h4, h5, h6]
          refine LW.nil (QW.in_normal (QW.end_ ?_))
          refine QW.res0 rfl  (ret_eq (()) ?_ ?_)
          · first | rfl | (simp only []; rfl)
          · (repeat (first | exact Sub.nil | exact Sub.all | (apply Sub.cons; (focus ((repeat (first | exact Rem.head | apply Rem.tail)); done))) | (apply Sub.row; (focus ((repeat (first | exact Rem.head | apply Rem.tail)); done)); (focus (first | with_reducible rfl | assumption | omega | (simp; done) | (simp [Nat.mul_comm]; done) | (simp; omega))); (focus (first | with_reducible rfl | assumption | omega | (simp; done) | (simp [Nat.mul_comm]; done) | (simp; omega))); (focus (first | with_reducible rfl | (rw [hz]; simp only [List.set_set]; done)))) | (apply Sub.blk; (focus ((repeat (first | exact Rem.head | apply Rem.tail)); done)); (focus (first | with_reducible rfl | (rw [hz]; simp only [List.set_set]; done)))) | fail))
        · have h6 : ¬ kind = 6 := h6
          refine CW.seq (CW.region ?_)
          refine LW.val rfl rfl rfl (x_eql rfl rfl rfl) ?_
          refine LW.val rfl rfl rfl (x_assign rfl rfl) ?_
          refine LW.nil (QW.thenC ?_)
          refine CW.condD rfl (fun h7 => ?_) (fun h7 => ?_)
          · have h7 : kind = 7 := h7
            refine CW.seq (CW.region ?_)
            refine LW.val rfl rfl rfl (x_move rfl rfl) ?_
            refine LW.val rfl rfl rfl (x_nilCheck rfl rfl) ?_
            refine LW.val rfl rfl rfl (x_fieldAddrG rfl rfl fl41_2) ?_
            refine LW.op0 rfl rfl (y_storeO1 (k := 5) (i := i) (z := ⟨y.rows, y.made, y.state, y.loom, day⟩) (z' := ⟨y.rows, y.made, 4, y.loom, day⟩) cpLen rfl rfl rfl rfl rfl ty3 (by (repeat (first | exact Rem.head | apply Rem.tail)); done) (by simp [hi]) rfl rfl) ?_
            rintro ⟨⟩
            refine LW.nil (QW.thenC ?_)
            refine CW.draw [9] ([.blk b3 [.int .i64 kind, .int .i64 i, .int .i64 val] 37, .blk b (shL day looms money (some ⟨g, 0, none⟩) xs.length c) 31]) follows ?_
            refine DW.take 0 rfl rfl (by kernel_rfl) (by kernel_rfl) (by kernel_rfl) (by kernel_rfl) (by kernel_rfl) rfl (fun _ _ _ h => h) rfl (by (repeat (first | exact Sub.nil | exact Sub.all | (apply Sub.cons; (focus ((repeat (first | exact Rem.head | apply Rem.tail)); done))) | fail))) (x_move rfl rfl) rfl ?_
            refine DW.take 1 rfl rfl (by kernel_rfl) (by kernel_rfl) (by kernel_rfl) (by kernel_rfl) (by kernel_rfl) rfl (fun _ _ _ h => h) rfl (by (repeat (first | exact Sub.nil | exact Sub.all | (apply Sub.cons; (focus ((repeat (first | exact Rem.head | apply Rem.tail)); done))) | fail))) (x_nilCheck rfl rfl) rfl ?_
            refine DW.take 2 rfl rfl (by kernel_rfl) (by kernel_rfl) (by kernel_rfl) (by kernel_rfl) (by kernel_rfl) rfl (fun _ _ _ h => h) rfl (by (repeat (first | exact Sub.nil | exact Sub.all | (apply Sub.cons; (focus ((repeat (first | exact Rem.head | apply Rem.tail)); done))) | fail))) (x_fieldAddr rfl rfl fl31_3 rfl) rfl ?_
            refine DW.take 3 rfl rfl (by kernel_rfl) (by kernel_rfl) (by kernel_rfl) (by kernel_rfl) (by kernel_rfl) rfl (fun _ _ _ h => h) rfl (by (repeat (first | exact Sub.nil | exact Sub.all | (apply Sub.cons; (focus ((repeat (first | exact Rem.head | apply Rem.tail)); done))) | fail))) (x_loadB rfl rfl ty3 (by (repeat (first | exact Rem.head | apply Rem.tail)); done) (by exact rfl)) rfl ?_
            refine DW.take 4 rfl rfl (by kernel_rfl) (by kernel_rfl) (by kernel_rfl) (by kernel_rfl) (by kernel_rfl) rfl (fun _ _ _ h => h) rfl (by (repeat (first | exact Sub.nil | exact Sub.all | (apply Sub.cons; (focus ((repeat (first | exact Rem.head | apply Rem.tail)); done))) | fail))) (x_fieldAddr rfl rfl fl37_2 rfl) rfl ?_
            refine DW.take 5 rfl rfl (by kernel_rfl) (by kernel_rfl) (by kernel_rfl) (by kernel_rfl) (by kernel_rfl) rfl (fun _ _ _ h => h) rfl (by (repeat (first | exact Sub.nil | exact Sub.all | (apply Sub.cons; (focus ((repeat (first | exact Rem.head | apply Rem.tail)); done))) | fail))) (x_loadB rfl rfl ty3 (by (repeat (first | exact Rem.head | apply Rem.tail)); done) (by exact rfl)) rfl ?_
            refine DW.take 6 rfl rfl (by kernel_rfl) (by kernel_rfl) (by kernel_rfl) (by kernel_rfl) (by kernel_rfl) rfl (fun _ _ _ h => h) rfl (by (repeat (first | exact Sub.nil | exact Sub.all | (apply Sub.cons; (focus ((repeat (first | exact Rem.head | apply Rem.tail)); done))) | fail))) (x_addW rfl rfl rfl) rfl ?_
            refine DW.ready [7] (by kernel_rfl) (by simp) ?_
            refine AllR.val rfl rfl rfl rfl (x_nilCheck rfl rfl) (by (repeat (first | exact Sub.nil | exact Sub.all | (apply Sub.cons; (focus ((repeat (first | exact Rem.head | apply Rem.tail)); done))) | fail))) rfl ?_ AllR.nil
            refine DW.take 8 rfl rfl (by kernel_rfl) (by kernel_rfl) (by kernel_rfl) (by kernel_rfl) (by kernel_rfl) rfl (fun _ _ _ h => h) rfl (by (repeat (first | exact Sub.nil | exact Sub.all | (apply Sub.cons; (focus ((repeat (first | exact Rem.head | apply Rem.tail)); done))) | fail))) (x_fieldAddr rfl rfl fl31_3 rfl) rfl ?_
            refine DW.ready [9] (by kernel_rfl) (by simp) ?_
            refine AllR.last rfl rfl rfl (by kernel_rfl) (y_storeB rfl rfl rfl rfl rfl ty3 (by (repeat (first | exact Rem.head | apply Rem.tail)); done) (by exact rfl) (by (simp only [List.set_cons_zero, List.set_cons_succ]; rfl))) rfl ?_ AllR.nil
            intro _u
            refine DW.done (by kernel_rfl) ?_
            obtain rfl : money' = IntKind.i64.wrap (money + val) := by rw [if_pos h7] at hmo; exact hmo
            have hz : y' = ⟨y.rows, y.made, 4, y.loom, day⟩ := by rw [hy']; simp [chC, h3, h4, h5, h6, h7]
            refine QW.in_normal (QW.end_ ?_)
            refine QW.res0 rfl  (ret_eq (()) ?_ ?_)
            · first | rfl | (simp only []; rfl)
            · (repeat (first | exact Sub.nil | exact Sub.all | (apply Sub.cons; (focus ((repeat (first | exact Rem.head | apply Rem.tail)); done))) | (apply Sub.row; (focus ((repeat (first | exact Rem.head | apply Rem.tail)); done)); (focus (first | with_reducible rfl | assumption | omega | (simp; done) | (simp [Nat.mul_comm]; done) | (simp; omega))); (focus (first | with_reducible rfl | assumption | omega | (simp; done) | (simp [Nat.mul_comm]; done) | (simp; omega))); (focus (first | with_reducible rfl | (rw [hz]; simp only [List.set_set]; done)))) | (apply Sub.blk; (focus ((repeat (first | exact Rem.head | apply Rem.tail)); done)); (focus (first | with_reducible rfl | (rw [hz]; simp only [List.set_set]; done)))) | fail))
          · have h7 : ¬ kind = 7 := h7
            obtain rfl : money' = money := by rw [if_neg h7] at hmo; exact hmo
            have hz : y' = ⟨y.rows, y.made, y.state, y.loom, day⟩ := by rw [hy']; simp [chC, h3, h4, h5, h6, h7]
            refine CW.skip (QW.in_normal (QW.end_ ?_))
            refine QW.res0 rfl  (ret_eq (()) ?_ ?_)
            · first | rfl | (simp only []; rfl)
            · (repeat (first | exact Sub.nil | exact Sub.all | (apply Sub.cons; (focus ((repeat (first | exact Rem.head | apply Rem.tail)); done))) | (apply Sub.row; (focus ((repeat (first | exact Rem.head | apply Rem.tail)); done)); (focus (first | with_reducible rfl | assumption | omega | (simp; done) | (simp [Nat.mul_comm]; done) | (simp; omega))); (focus (first | with_reducible rfl | assumption | omega | (simp; done) | (simp [Nat.mul_comm]; done) | (simp; omega))); (focus (first | with_reducible rfl | (rw [hz]; done)))) | (apply Sub.blk; (focus ((repeat (first | exact Rem.head | apply Rem.tail)); done)); (focus (first | with_reducible rfl | (rw [hz]; done)))) | fail))
end Go.Proofs.Ytbgjlojnbdnoaaa
