/- The workshop: steps and runs of the reference's. -/
import Derived.Test.YtbgjlojnbdnoaaaShop5
namespace Go.Proofs.Ytbgjlojnbdnoaaa
open Go.RowKit
set_option linter.unusedVariables false
set_option linter.unusedSimpArgs false
def specSt (looms : Int) (xs : List Cp) (x : Sp) : Bool := if x.kind = 1 then decide (x.car = 0) && decide (1 ≤ x.val) else if x.kind = 2 then decide (x.car = 0) && inB x.val 1 500 else if inB x.car 0 ((xs.length : Int) - 1) = false then false
  else if x.kind = 3 then inB x.val 1 looms else if x.kind = 4 then inB x.val 1 20 else if x.kind = 7 then decide (1 ≤ x.val) else decide (x.kind = 5 ∨ x.kind = 6) && decide (x.val = 0)
def chS (day : Int) (x : Sp) (c : Cp) : Cp :=
  if x.kind = 3 then ⟨c.rows, c.made, 1, x.val, day⟩ else if x.kind = 4 then ⟨c.rows, c.made + x.val, c.state, c.loom, day⟩ else if x.kind = 5 then ⟨c.rows, c.made, 2, 0, day⟩ else if x.kind = 6 then ⟨c.rows, c.made, 3, c.loom, day⟩ else ⟨c.rows, c.made, 4, c.loom, day⟩
def okS (day : Int) (x : Sp) (c : Cp) : Bool :=
  if x.kind = 3 then decide (c.state = 0) else if x.kind = 4 then decide (c.state = 1) && decide (1 ≤ day - c.since) else if x.kind = 5 then decide (c.state = 1) else if x.kind = 6 then decide (c.state = 2) else decide (c.state = 3) && decide (3 ≤ day - c.since)
def specMk (day looms money : Int) (xs : List Cp) (x : Sp) : Bool × Int × Int × List Cp :=
  if x.kind = 1 then (if 4000 - day < x.val then (false, day, money, xs) else (true, day + x.val, money, xs)) else if x.kind = 2 then (goodSh day looms money (xs ++ [⟨x.val, 0, 0, 0, day⟩]), day, money, xs ++ [⟨x.val, 0, 0, 0, day⟩])
  else if x.kind = 7 ∧ 1000000 - money < x.val then (false, day, money, xs) else match xs[x.car.toNat]? with
    | some c => (okS day x c && goodSh day looms (if x.kind = 7 then money + x.val else money) (xs.set x.car.toNat (chS day x c)), day, (if x.kind = 7 then money + x.val else money), xs.set x.car.toNat (chS day x c))
    | none => (false, day, money, xs)
set_option maxRecDepth 20000 in
theorem l25Step_ct (day looms money : Int) (xs : List Cp) (A : Option Addr) (c : Nat) (x : Sp) (w : World) (hR : RdC w A c xs) :
    Calls Try.prog 33 #[shV day looms money A xs.length c, .agg (spL x).toArray] w (Ret (fun _ : Unit => .bool (specSt looms xs x)) (fun _ => []) w) := by
  have hb := hR.bnd
  refine enter Try.func33 rfl rfl Try.ntmps33 rfl ?_
  refine CW.seq (CW.region ?_)
  refine LW.op rfl rfl rfl (y_box rfl rfl rfl) ?_
  intro b2
  refine LW.op rfl rfl rfl (y_box rfl rfl rfl) ?_
  intro b3
  refine LW.val rfl rfl rfl (x_assign rfl rfl) ?_
  refine LW.nil (QW.thenC (CW.seq (CW.seq (CW.region ?_))))
  refine LW.val rfl rfl rfl (x_fieldAddr rfl rfl fl37_0 rfl) ?_
  refine LW.val rfl rfl rfl (x_loadB rfl rfl ty3 (by (repeat (first | exact Rem.head | apply Rem.tail)); done) (by exact rfl)) ?_
  refine LW.nil (QW.thenC (CW.block (CW.seq (CW.region ?_))))
  refine LW.val rfl rfl rfl (x_eql rfl rfl rfl) ?_
  refine LW.val rfl rfl rfl (x_assign rfl rfl) ?_
  refine LW.nil (QW.thenC ?_)
  refine CW.split (t := 7) rfl (fun h7 => ?_) (fun h7 => ?_)
  · skip
    refine CW.condT rfl (CW.seq (CW.region ?_))
    refine LW.val rfl rfl rfl (x_fieldAddr rfl rfl fl37_1 rfl) ?_
    refine LW.val rfl rfl rfl (x_loadB rfl rfl ty3 (by (repeat (first | exact Rem.head | apply Rem.tail)); done) (by exact rfl)) ?_
    refine LW.val rfl rfl rfl (x_eql rfl rfl rfl) ?_
    refine LW.val rfl rfl rfl (x_move rfl rfl) ?_
    refine LW.split (t := 12) rfl (fun h12 => ?_) (fun h12 => ?_)
    · skip
      refine LW.valG rfl rfl rfl rfl rfl (x_fieldAddr rfl rfl fl37_2 rfl) ?_
      refine LW.valG rfl rfl rfl rfl rfl (x_loadB rfl rfl ty3 (by (repeat (first | exact Rem.head | apply Rem.tail)); done) (by exact rfl)) ?_
      refine LW.valG rfl rfl rfl rfl rfl (x_geq rfl rfl rfl) ?_
      refine LW.val rfl rfl rfl (x_pickT rfl rfl rfl) ?_
      refine LW.val rfl rfl rfl (x_assign rfl rfl) ?_
      refine LW.nil (QW.thenC (CW.ret (QW.in_ret (QW.then_ret ?_))))
      refine QW.res1 rfl (ResV.tmp rfl) (ret_eq (()) ?_ ?_)
      · (simp_all [specSt])
      · (repeat (first | exact Sub.nil | exact Sub.all | (apply Sub.cons; (focus ((repeat (first | exact Rem.head | apply Rem.tail)); done))) | (apply Sub.row; (focus ((repeat (first | exact Rem.head | apply Rem.tail)); done)); (focus (first | with_reducible rfl | assumption | omega | (simp; done) | (simp [Nat.mul_comm]; done) | (simp; omega))); (focus (first | with_reducible rfl | assumption | omega | (simp; done) | (simp [Nat.mul_comm]; done) | (simp; omega))); (focus (first | with_reducible rfl | (simp [nums]; done) | (simp [nums]; omega) | (simp; done) | (simp; omega)))) | (apply Sub.blk; (focus ((repeat (first | exact Rem.head | apply Rem.tail)); done)); (focus (first | with_reducible rfl | (simp [nums]; done) | (simp [nums]; omega) | (simp; done) | (simp; omega)))) | fail))
    · skip
      refine LW.gF rfl rfl rfl rfl rfl rfl ?_
      refine LW.gF rfl rfl rfl rfl rfl rfl ?_
      refine LW.gF rfl rfl rfl rfl rfl rfl ?_
      refine LW.val rfl rfl rfl (x_pickF rfl rfl rfl) ?_
      refine LW.val rfl rfl rfl (x_assign rfl rfl) ?_
      refine LW.nil (QW.thenC (CW.ret (QW.in_ret (QW.then_ret ?_))))
      refine QW.res1 rfl (ResV.tmp rfl) (ret_eq (()) ?_ ?_)
      · (simp_all [specSt])
      · (repeat (first | exact Sub.nil | exact Sub.all | (apply Sub.cons; (focus ((repeat (first | exact Rem.head | apply Rem.tail)); done))) | (apply Sub.row; (focus ((repeat (first | exact Rem.head | apply Rem.tail)); done)); (focus (first | with_reducible rfl | assumption | omega | (simp; done) | (simp [Nat.mul_comm]; done) | (simp; omega))); (focus (first | with_reducible rfl | assumption | omega | (simp; done) | (simp [Nat.mul_comm]; done) | (simp; omega))); (focus (first | with_reducible rfl | (simp [nums]; done) | (simp [nums]; omega) | (simp; done) | (simp; omega)))) | (apply Sub.blk; (focus ((repeat (first | exact Rem.head | apply Rem.tail)); done)); (focus (first | with_reducible rfl | (simp [nums]; done) | (simp [nums]; omega) | (simp; done) | (simp; omega)))) | fail))
  · skip
    refine CW.condF rfl (CW.seq (CW.region ?_))
    refine LW.val rfl rfl rfl (x_eql rfl rfl rfl) ?_
    refine LW.val rfl rfl rfl (x_assign rfl rfl) ?_
    refine LW.nil (QW.thenC ?_)
    refine CW.split (t := 17) rfl (fun h17 => ?_) (fun h17 => ?_)
    · skip
      refine CW.condT rfl (CW.seq (CW.region ?_))
      refine LW.val rfl rfl rfl (x_fieldAddr rfl rfl fl37_1 rfl) ?_
      refine LW.val rfl rfl rfl (x_loadB rfl rfl ty3 (by (repeat (first | exact Rem.head | apply Rem.tail)); done) (by exact rfl)) ?_
      refine LW.val rfl rfl rfl (x_eql rfl rfl rfl) ?_
      refine LW.val rfl rfl rfl (x_move rfl rfl) ?_
      refine LW.split (t := 22) rfl (fun h22 => ?_) (fun h22 => ?_)
      · skip
        refine LW.valG rfl rfl rfl rfl rfl (x_fieldAddr rfl rfl fl37_2 rfl) ?_
        refine LW.valG rfl rfl rfl rfl rfl (x_loadB rfl rfl ty3 (by (repeat (first | exact Rem.head | apply Rem.tail)); done) (by exact rfl)) ?_
        refine LW.opG rfl rfl rfl rfl rfl (y_call rfl rfl rfl en44 (fun w HW => l1In_ct _ _ _ _)) ?_
        rintro ⟨⟩
        refine LW.val rfl rfl rfl (x_pickT rfl rfl rfl) ?_
        refine LW.val rfl rfl rfl (x_assign rfl rfl) ?_
        refine LW.nil (QW.thenC (CW.ret (QW.in_ret (QW.then_ret ?_))))
        refine QW.res1 rfl (ResV.tmp rfl) (ret_eq (()) ?_ ?_)
        · (simp_all [specSt])
        · (repeat (first | exact Sub.nil | exact Sub.all | (apply Sub.cons; (focus ((repeat (first | exact Rem.head | apply Rem.tail)); done))) | (apply Sub.row; (focus ((repeat (first | exact Rem.head | apply Rem.tail)); done)); (focus (first | with_reducible rfl | assumption | omega | (simp; done) | (simp [Nat.mul_comm]; done) | (simp; omega))); (focus (first | with_reducible rfl | assumption | omega | (simp; done) | (simp [Nat.mul_comm]; done) | (simp; omega))); (focus (first | with_reducible rfl | (simp [nums]; done) | (simp [nums]; omega) | (simp; done) | (simp; omega)))) | (apply Sub.blk; (focus ((repeat (first | exact Rem.head | apply Rem.tail)); done)); (focus (first | with_reducible rfl | (simp [nums]; done) | (simp [nums]; omega) | (simp; done) | (simp; omega)))) | fail))
      · skip
        refine LW.gF rfl rfl rfl rfl rfl rfl ?_
        refine LW.gF rfl rfl rfl rfl rfl rfl ?_
        refine LW.gF rfl rfl rfl rfl rfl rfl ?_
        refine LW.val rfl rfl rfl (x_pickF rfl rfl rfl) ?_
        refine LW.val rfl rfl rfl (x_assign rfl rfl) ?_
        refine LW.nil (QW.thenC (CW.ret (QW.in_ret (QW.then_ret ?_))))
        refine QW.res1 rfl (ResV.tmp rfl) (ret_eq (()) ?_ ?_)
        · (simp_all [specSt])
        · (repeat (first | exact Sub.nil | exact Sub.all | (apply Sub.cons; (focus ((repeat (first | exact Rem.head | apply Rem.tail)); done))) | (apply Sub.row; (focus ((repeat (first | exact Rem.head | apply Rem.tail)); done)); (focus (first | with_reducible rfl | assumption | omega | (simp; done) | (simp [Nat.mul_comm]; done) | (simp; omega))); (focus (first | with_reducible rfl | assumption | omega | (simp; done) | (simp [Nat.mul_comm]; done) | (simp; omega))); (focus (first | with_reducible rfl | (simp [nums]; done) | (simp [nums]; omega) | (simp; done) | (simp; omega)))) | (apply Sub.blk; (focus ((repeat (first | exact Rem.head | apply Rem.tail)); done)); (focus (first | with_reducible rfl | (simp [nums]; done) | (simp [nums]; omega) | (simp; done) | (simp; omega)))) | fail))
    · skip
      refine CW.condF rfl (CW.skip (QW.in_normal (QW.thenC (CW.seq (CW.seq (CW.region ?_))))))
      refine LW.val rfl rfl rfl (x_fieldAddr rfl rfl fl37_1 rfl) ?_
      refine LW.val rfl rfl rfl (x_loadB rfl rfl ty3 (by (repeat (first | exact Rem.head | apply Rem.tail)); done) (by exact rfl)) ?_
      refine LW.val rfl rfl rfl (x_fieldAddr rfl rfl fl31_2 rfl) ?_
      refine LW.val rfl rfl rfl (x_loadB rfl rfl ty29 (by (repeat (first | exact Rem.head | apply Rem.tail)); done) (by exact rfl)) ?_
      refine LW.val rfl rfl rfl (x_len (ty := 0) rfl rfl Try.underlying29) ?_
      refine LW.val rfl rfl rfl (x_sub rfl rfl rfl (by omega)) ?_
      refine LW.op rfl rfl rfl (y_call rfl rfl rfl en44 (fun w HW => l1In_ct _ _ _ _)) ?_
      rintro ⟨⟩
      refine LW.val rfl rfl rfl (x_not rfl rfl) ?_
      refine LW.nil (QW.thenC ?_)
      refine CW.split (t := 34) rfl (fun h34 => ?_) (fun h34 => ?_)
      · skip
        refine CW.condT rfl (CW.seq (CW.region ?_))
        refine LW.val rfl rfl rfl (x_assign rfl rfl) ?_
        refine LW.nil (QW.thenC (CW.ret (QW.then_ret ?_)))
        refine QW.res1 rfl (ResV.tmp rfl) (ret_eq (()) ?_ ?_)
        · (simp_all [specSt])
        · (repeat (first | exact Sub.nil | exact Sub.all | (apply Sub.cons; (focus ((repeat (first | exact Rem.head | apply Rem.tail)); done))) | (apply Sub.row; (focus ((repeat (first | exact Rem.head | apply Rem.tail)); done)); (focus (first | with_reducible rfl | assumption | omega | (simp; done) | (simp [Nat.mul_comm]; done) | (simp; omega))); (focus (first | with_reducible rfl | assumption | omega | (simp; done) | (simp [Nat.mul_comm]; done) | (simp; omega))); (focus (first | with_reducible rfl | (simp [nums]; done) | (simp [nums]; omega) | (simp; done) | (simp; omega)))) | (apply Sub.blk; (focus ((repeat (first | exact Rem.head | apply Rem.tail)); done)); (focus (first | with_reducible rfl | (simp [nums]; done) | (simp [nums]; omega) | (simp; done) | (simp; omega)))) | fail))
      · skip
        refine CW.condF rfl (CW.skip (QW.thenC (CW.seq (CW.seq (CW.region ?_)))))
        refine LW.val rfl rfl rfl (x_fieldAddr rfl rfl fl37_0 rfl) ?_
        refine LW.val rfl rfl rfl (x_loadB rfl rfl ty3 (by (repeat (first | exact Rem.head | apply Rem.tail)); done) (by exact rfl)) ?_
        refine LW.nil (QW.thenC (CW.block (CW.seq (CW.region ?_))))
        refine LW.val rfl rfl rfl (x_eql rfl rfl rfl) ?_
        refine LW.val rfl rfl rfl (x_assign rfl rfl) ?_
        refine LW.nil (QW.thenC ?_)
        refine CW.split (t := 37) rfl (fun h37 => ?_) (fun h37 => ?_)
        · skip
          refine CW.condT rfl (CW.seq (CW.region ?_))
          refine LW.val rfl rfl rfl (x_fieldAddr rfl rfl fl37_2 rfl) ?_
          refine LW.val rfl rfl rfl (x_loadB rfl rfl ty3 (by (repeat (first | exact Rem.head | apply Rem.tail)); done) (by exact rfl)) ?_
          refine LW.val rfl rfl rfl (x_fieldAddr rfl rfl fl31_1 rfl) ?_
          refine LW.val rfl rfl rfl (x_loadB rfl rfl ty3 (by (repeat (first | exact Rem.head | apply Rem.tail)); done) (by exact rfl)) ?_
          refine LW.op rfl rfl rfl (y_call rfl rfl rfl en44 (fun w HW => l1In_ct _ _ _ _)) ?_
          rintro ⟨⟩
          refine LW.val rfl rfl rfl (x_assign rfl rfl) ?_
          refine LW.nil (QW.thenC (CW.ret (QW.in_ret (QW.then_ret ?_))))
          refine QW.res1 rfl (ResV.tmp rfl) (ret_eq (()) ?_ ?_)
          · (simp_all [specSt])
          · (repeat (first | exact Sub.nil | exact Sub.all | (apply Sub.cons; (focus ((repeat (first | exact Rem.head | apply Rem.tail)); done))) | (apply Sub.row; (focus ((repeat (first | exact Rem.head | apply Rem.tail)); done)); (focus (first | with_reducible rfl | assumption | omega | (simp; done) | (simp [Nat.mul_comm]; done) | (simp; omega))); (focus (first | with_reducible rfl | assumption | omega | (simp; done) | (simp [Nat.mul_comm]; done) | (simp; omega))); (focus (first | with_reducible rfl | (simp [nums]; done) | (simp [nums]; omega) | (simp; done) | (simp; omega)))) | (apply Sub.blk; (focus ((repeat (first | exact Rem.head | apply Rem.tail)); done)); (focus (first | with_reducible rfl | (simp [nums]; done) | (simp [nums]; omega) | (simp; done) | (simp; omega)))) | fail))
        · skip
          refine CW.condF rfl (CW.seq (CW.region ?_))
          refine LW.val rfl rfl rfl (x_eql rfl rfl rfl) ?_
          refine LW.val rfl rfl rfl (x_assign rfl rfl) ?_
          refine LW.nil (QW.thenC ?_)
          refine CW.split (t := 44) rfl (fun h44 => ?_) (fun h44 => ?_)
          · skip
            refine CW.condT rfl (CW.seq (CW.region ?_))
            refine LW.val rfl rfl rfl (x_fieldAddr rfl rfl fl37_2 rfl) ?_
            refine LW.val rfl rfl rfl (x_loadB rfl rfl ty3 (by (repeat (first | exact Rem.head | apply Rem.tail)); done) (by exact rfl)) ?_
            refine LW.op rfl rfl rfl (y_call rfl rfl rfl en44 (fun w HW => l1In_ct _ _ _ _)) ?_
            rintro ⟨⟩
            refine LW.val rfl rfl rfl (x_assign rfl rfl) ?_
            refine LW.nil (QW.thenC (CW.ret (QW.in_ret (QW.then_ret ?_))))
            refine QW.res1 rfl (ResV.tmp rfl) (ret_eq (()) ?_ ?_)
            · (simp_all [specSt])
            · (repeat (first | exact Sub.nil | exact Sub.all | (apply Sub.cons; (focus ((repeat (first | exact Rem.head | apply Rem.tail)); done))) | (apply Sub.row; (focus ((repeat (first | exact Rem.head | apply Rem.tail)); done)); (focus (first | with_reducible rfl | assumption | omega | (simp; done) | (simp [Nat.mul_comm]; done) | (simp; omega))); (focus (first | with_reducible rfl | assumption | omega | (simp; done) | (simp [Nat.mul_comm]; done) | (simp; omega))); (focus (first | with_reducible rfl | (simp [nums]; done) | (simp [nums]; omega) | (simp; done) | (simp; omega)))) | (apply Sub.blk; (focus ((repeat (first | exact Rem.head | apply Rem.tail)); done)); (focus (first | with_reducible rfl | (simp [nums]; done) | (simp [nums]; omega) | (simp; done) | (simp; omega)))) | fail))
          · skip
            refine CW.condF rfl (CW.seq (CW.region ?_))
            refine LW.val rfl rfl rfl (x_eql rfl rfl rfl) ?_
            refine LW.val rfl rfl rfl (x_assign rfl rfl) ?_
            refine LW.nil (QW.thenC ?_)
            refine CW.split (t := 49) rfl (fun h49 => ?_) (fun h49 => ?_)
            · skip
              refine CW.condT rfl (CW.seq (CW.region ?_))
              refine LW.val rfl rfl rfl (x_fieldAddr rfl rfl fl37_2 rfl) ?_
              refine LW.val rfl rfl rfl (x_loadB rfl rfl ty3 (by (repeat (first | exact Rem.head | apply Rem.tail)); done) (by exact rfl)) ?_
              refine LW.val rfl rfl rfl (x_geq rfl rfl rfl) ?_
              refine LW.val rfl rfl rfl (x_assign rfl rfl) ?_
              refine LW.nil (QW.thenC (CW.ret (QW.in_ret (QW.then_ret ?_))))
              refine QW.res1 rfl (ResV.tmp rfl) (ret_eq (()) ?_ ?_)
              · (simp_all [specSt])
              · (repeat (first | exact Sub.nil | exact Sub.all | (apply Sub.cons; (focus ((repeat (first | exact Rem.head | apply Rem.tail)); done))) | (apply Sub.row; (focus ((repeat (first | exact Rem.head | apply Rem.tail)); done)); (focus (first | with_reducible rfl | assumption | omega | (simp; done) | (simp [Nat.mul_comm]; done) | (simp; omega))); (focus (first | with_reducible rfl | assumption | omega | (simp; done) | (simp [Nat.mul_comm]; done) | (simp; omega))); (focus (first | with_reducible rfl | (simp [nums]; done) | (simp [nums]; omega) | (simp; done) | (simp; omega)))) | (apply Sub.blk; (focus ((repeat (first | exact Rem.head | apply Rem.tail)); done)); (focus (first | with_reducible rfl | (simp [nums]; done) | (simp [nums]; omega) | (simp; done) | (simp; omega)))) | fail))
            · skip
              refine CW.condF rfl (CW.skip (QW.in_normal (QW.thenC (CW.seq (CW.region ?_)))))
              refine LW.val rfl rfl rfl (x_fieldAddr rfl rfl fl37_0 rfl) ?_
              refine LW.val rfl rfl rfl (x_loadB rfl rfl ty3 (by (repeat (first | exact Rem.head | apply Rem.tail)); done) (by exact rfl)) ?_
              refine LW.val rfl rfl rfl (x_eql rfl rfl rfl) ?_
              refine LW.val rfl rfl rfl (x_move rfl rfl) ?_
              refine LW.split (t := 57) rfl (fun h57 => ?_) (fun h57 => ?_)
              · skip
                refine LW.gF rfl rfl rfl rfl rfl rfl ?_
                refine LW.gF rfl rfl rfl rfl rfl rfl ?_
                refine LW.gF rfl rfl rfl rfl rfl rfl ?_
                refine LW.val rfl rfl rfl (x_pickT rfl rfl rfl) ?_
                refine LW.val rfl rfl rfl (x_move rfl rfl) ?_
                refine LW.valG rfl rfl rfl rfl rfl (x_fieldAddr rfl rfl fl37_2 rfl) ?_
                refine LW.valG rfl rfl rfl rfl rfl (x_loadB rfl rfl ty3 (by (repeat (first | exact Rem.head | apply Rem.tail)); done) (by exact rfl)) ?_
                refine LW.valG rfl rfl rfl rfl rfl (x_eql rfl rfl rfl) ?_
                refine LW.val rfl rfl rfl (x_pickT rfl rfl rfl) ?_
                refine LW.val rfl rfl rfl (x_assign rfl rfl) ?_
                refine LW.nil (QW.thenC (CW.ret ?_))
                refine QW.res1 rfl (ResV.tmp rfl) (ret_eq (()) ?_ ?_)
                · (simp_all [specSt])
                · (repeat (first | exact Sub.nil | exact Sub.all | (apply Sub.cons; (focus ((repeat (first | exact Rem.head | apply Rem.tail)); done))) | (apply Sub.row; (focus ((repeat (first | exact Rem.head | apply Rem.tail)); done)); (focus (first | with_reducible rfl | assumption | omega | (simp; done) | (simp [Nat.mul_comm]; done) | (simp; omega))); (focus (first | with_reducible rfl | assumption | omega | (simp; done) | (simp [Nat.mul_comm]; done) | (simp; omega))); (focus (first | with_reducible rfl | (simp [nums]; done) | (simp [nums]; omega) | (simp; done) | (simp; omega)))) | (apply Sub.blk; (focus ((repeat (first | exact Rem.head | apply Rem.tail)); done)); (focus (first | with_reducible rfl | (simp [nums]; done) | (simp [nums]; omega) | (simp; done) | (simp; omega)))) | fail))
              · skip
                refine LW.valG rfl rfl rfl rfl rfl (x_fieldAddr rfl rfl fl37_0 rfl) ?_
                refine LW.valG rfl rfl rfl rfl rfl (x_loadB rfl rfl ty3 (by (repeat (first | exact Rem.head | apply Rem.tail)); done) (by exact rfl)) ?_
                refine LW.valG rfl rfl rfl rfl rfl (x_eql rfl rfl rfl) ?_
                refine LW.val rfl rfl rfl (x_pickF rfl rfl rfl) ?_
                refine LW.val rfl rfl rfl (x_move rfl rfl) ?_
                refine LW.split (t := 62) rfl (fun h62 => ?_) (fun h62 => ?_)
                · skip
                  refine LW.valG rfl rfl rfl rfl rfl (x_fieldAddr rfl rfl fl37_2 rfl) ?_
                  refine LW.valG rfl rfl rfl rfl rfl (x_loadB rfl rfl ty3 (by (repeat (first | exact Rem.head | apply Rem.tail)); done) (by exact rfl)) ?_
                  refine LW.valG rfl rfl rfl rfl rfl (x_eql rfl rfl rfl) ?_
                  refine LW.val rfl rfl rfl (x_pickT rfl rfl rfl) ?_
                  refine LW.val rfl rfl rfl (x_assign rfl rfl) ?_
                  refine LW.nil (QW.thenC (CW.ret ?_))
                  refine QW.res1 rfl (ResV.tmp rfl) (ret_eq (()) ?_ ?_)
                  · (simp_all [specSt])
                  · (repeat (first | exact Sub.nil | exact Sub.all | (apply Sub.cons; (focus ((repeat (first | exact Rem.head | apply Rem.tail)); done))) | (apply Sub.row; (focus ((repeat (first | exact Rem.head | apply Rem.tail)); done)); (focus (first | with_reducible rfl | assumption | omega | (simp; done) | (simp [Nat.mul_comm]; done) | (simp; omega))); (focus (first | with_reducible rfl | assumption | omega | (simp; done) | (simp [Nat.mul_comm]; done) | (simp; omega))); (focus (first | with_reducible rfl | (simp [nums]; done) | (simp [nums]; omega) | (simp; done) | (simp; omega)))) | (apply Sub.blk; (focus ((repeat (first | exact Rem.head | apply Rem.tail)); done)); (focus (first | with_reducible rfl | (simp [nums]; done) | (simp [nums]; omega) | (simp; done) | (simp; omega)))) | fail))
                · skip
                  refine LW.gF rfl rfl rfl rfl rfl rfl ?_
                  refine LW.gF rfl rfl rfl rfl rfl rfl ?_
                  refine LW.gF rfl rfl rfl rfl rfl rfl ?_
                  refine LW.val rfl rfl rfl (x_pickF rfl rfl rfl) ?_
                  refine LW.val rfl rfl rfl (x_assign rfl rfl) ?_
                  refine LW.nil (QW.thenC (CW.ret ?_))
                  refine QW.res1 rfl (ResV.tmp rfl) (ret_eq (()) ?_ ?_)
                  · (simp_all [specSt])
                  · (repeat (first | exact Sub.nil | exact Sub.all | (apply Sub.cons; (focus ((repeat (first | exact Rem.head | apply Rem.tail)); done))) | (apply Sub.row; (focus ((repeat (first | exact Rem.head | apply Rem.tail)); done)); (focus (first | with_reducible rfl | assumption | omega | (simp; done) | (simp [Nat.mul_comm]; done) | (simp; omega))); (focus (first | with_reducible rfl | assumption | omega | (simp; done) | (simp [Nat.mul_comm]; done) | (simp; omega))); (focus (first | with_reducible rfl | (simp [nums]; done) | (simp [nums]; omega) | (simp; done) | (simp; omega)))) | (apply Sub.blk; (focus ((repeat (first | exact Rem.head | apply Rem.tail)); done)); (focus (first | with_reducible rfl | (simp [nums]; done) | (simp [nums]; omega) | (simp; done) | (simp; omega)))) | fail))
set_option maxRecDepth 20000 in
theorem l25Change_ct (day : Int) (x : Sp) (y : Cp) (w : World) (hd : 0 ≤ day ∧ day ≤ 4000) (hs : 0 ≤ y.since ∧ y.since ≤ 4000) (hm : 0 ≤ y.made ∧ y.made ≤ 500) (hv : 0 ≤ x.val ∧ x.val ≤ 1000000) :
    Calls Try.prog 56 #[.agg (cpL y).toArray, .agg (spL x).toArray, .int .i64 day] w (Ret (fun _ : Unit => .tuple #[.agg (cpL (chS day x y)).toArray, .bool (okS day x y)]) (fun _ => []) w) := by
  refine enter Try.func56 rfl rfl Try.ntmps56 rfl ?_
  refine CW.seq (CW.region ?_)
  refine LW.op rfl rfl rfl (y_box rfl rfl rfl) ?_
  intro b3
  refine LW.op rfl rfl rfl (y_box rfl rfl rfl) ?_
  intro b4
  refine LW.op rfl rfl rfl (y_alloc rfl ze41) ?_
  intro b6
  refine LW.val rfl rfl rfl (x_assign rfl rfl) ?_
  refine LW.nil (QW.thenC (CW.seq (CW.region ?_)))
  refine LW.val rfl rfl rfl (x_loadB0 rfl rfl ty41 (by (repeat (first | exact Rem.head | apply Rem.tail)); done) rfl) ?_
  refine LW.op rfl rfl rfl (y_alloc rfl ze41) ?_
  intro b8
  refine LW.op0 rfl rfl (y_storeB0 rfl rfl rfl rfl ty41 rfl (by (repeat (first | exact Rem.head | apply Rem.tail)); done) rfl) ?_
  intro _u
  refine LW.val rfl rfl rfl (x_assign rfl rfl) ?_
  refine LW.nil (QW.thenC (CW.seq (CW.region ?_)))
  refine LW.val rfl rfl rfl (x_move rfl rfl) ?_
  refine LW.val rfl rfl rfl (x_fieldAddr rfl rfl fl41_4 rfl) ?_
  refine LW.op0 rfl rfl (y_storeB rfl rfl rfl rfl rfl ty3 (by (repeat (first | exact Rem.head | apply Rem.tail)); done) (by exact rfl) (by (first | (simp only [List.set_cons_zero, List.set_cons_succ]; rfl) | exact rfl))) ?_
  intro _u
  refine LW.nil (QW.thenC (CW.seq (CW.seq (CW.region ?_))))
  refine LW.val rfl rfl rfl (x_fieldAddr rfl rfl fl37_0 rfl) ?_
  refine LW.val rfl rfl rfl (x_loadB rfl rfl ty3 (by (repeat (first | exact Rem.head | apply Rem.tail)); done) (by exact rfl)) ?_
  refine LW.nil (QW.thenC (CW.block (CW.seq (CW.region ?_))))
  refine LW.val rfl rfl rfl (x_eql rfl rfl rfl) ?_
  refine LW.val rfl rfl rfl (x_assign rfl rfl) ?_
  refine LW.nil (QW.thenC ?_)
  refine CW.split (t := 26) rfl (fun h26 => ?_) (fun h26 => ?_)
  · skip
    refine CW.condT rfl (CW.seq (CW.region ?_))
    refine LW.val rfl rfl rfl (x_fieldAddr rfl rfl fl41_2 rfl) ?_
    refine LW.op0 rfl rfl (y_storeB rfl rfl rfl rfl rfl ty3 (by (repeat (first | exact Rem.head | apply Rem.tail)); done) (by exact rfl) (by (first | (simp only [List.set_cons_zero, List.set_cons_succ]; rfl) | exact rfl))) ?_
    intro _u
    refine LW.nil (QW.thenC (CW.seq (CW.region ?_)))
    refine LW.val rfl rfl rfl (x_fieldAddr rfl rfl fl37_2 rfl) ?_
    refine LW.val rfl rfl rfl (x_loadB rfl rfl ty3 (by (repeat (first | exact Rem.head | apply Rem.tail)); done) (by exact rfl)) ?_
    refine LW.val rfl rfl rfl (x_fieldAddr rfl rfl fl41_3 rfl) ?_
    refine LW.op0 rfl rfl (y_storeB rfl rfl rfl rfl rfl ty3 (by (repeat (first | exact Rem.head | apply Rem.tail)); done) (by exact rfl) (by (first | (simp only [List.set_cons_zero, List.set_cons_succ]; rfl) | exact rfl))) ?_
    intro _u
    refine LW.nil (QW.thenC (CW.region ?_))
    refine LW.val rfl rfl rfl (x_fieldAddr rfl rfl fl41_2 rfl) ?_
    refine LW.val rfl rfl rfl (x_loadB rfl rfl ty3 (by (repeat (first | exact Rem.head | apply Rem.tail)); done) (by exact rfl)) ?_
    refine LW.val rfl rfl rfl (x_eql rfl rfl rfl) ?_
    refine LW.val rfl rfl rfl (x_assign rfl rfl) ?_
    refine LW.nil (QW.in_normal (QW.thenC (CW.seq (CW.region ?_))))
    refine LW.val rfl rfl rfl (x_loadB0 rfl rfl ty41 (by (repeat (first | exact Rem.head | apply Rem.tail)); done) rfl) ?_
    refine LW.val rfl rfl rfl (x_move rfl rfl) ?_
    refine LW.op0 rfl rfl (y_storeB0 rfl rfl rfl rfl ty41 rfl (by (repeat (first | exact Rem.head | apply Rem.tail)); done) rfl) ?_
    intro _u
    refine LW.val rfl rfl rfl (x_assign rfl rfl) ?_
    refine LW.nil (QW.thenC (CW.ret ?_))
    refine QW.res2 rfl (ResV.cellN rfl ty41 (by (repeat (first | exact Rem.head | apply Rem.tail)); done) (by exact rfl)) (ResV.tmp rfl) (ret_eq (()) ?_ ?_)
    · (simp_all [chS, okS, cpL])
    · (repeat (first | exact Sub.nil | exact Sub.all | (apply Sub.cons; (focus ((repeat (first | exact Rem.head | apply Rem.tail)); done))) | (apply Sub.row; (focus ((repeat (first | exact Rem.head | apply Rem.tail)); done)); (focus (first | with_reducible rfl | assumption | omega | (simp; done) | (simp [Nat.mul_comm]; done) | (simp; omega))); (focus (first | with_reducible rfl | assumption | omega | (simp; done) | (simp [Nat.mul_comm]; done) | (simp; omega))); (focus (first | with_reducible rfl | (simp [nums]; done) | (simp [nums]; omega) | (simp; done) | (simp; omega)))) | (apply Sub.blk; (focus ((repeat (first | exact Rem.head | apply Rem.tail)); done)); (focus (first | with_reducible rfl | (simp [nums]; done) | (simp [nums]; omega) | (simp; done) | (simp; omega)))) | fail))
  · skip
    refine CW.condF rfl (CW.seq (CW.region ?_))
    refine LW.val rfl rfl rfl (x_eql rfl rfl rfl) ?_
    refine LW.val rfl rfl rfl (x_assign rfl rfl) ?_
    refine LW.nil (QW.thenC ?_)
    refine CW.split (t := 35) rfl (fun h35 => ?_) (fun h35 => ?_)
    · skip
      refine CW.condT rfl (CW.seq (CW.region ?_))
      refine LW.val rfl rfl rfl (x_fieldAddr rfl rfl fl41_1 rfl) ?_
      refine LW.val rfl rfl rfl (x_loadB rfl rfl ty3 (by (repeat (first | exact Rem.head | apply Rem.tail)); done) (by exact rfl)) ?_
      refine LW.val rfl rfl rfl (x_fieldAddr rfl rfl fl37_2 rfl) ?_
      refine LW.val rfl rfl rfl (x_loadB rfl rfl ty3 (by (repeat (first | exact Rem.head | apply Rem.tail)); done) (by exact rfl)) ?_
      refine LW.val rfl rfl rfl (x_add rfl rfl rfl (by omega)) ?_
      refine LW.val rfl rfl rfl (x_fieldAddr rfl rfl fl41_1 rfl) ?_
      refine LW.op0 rfl rfl (y_storeB rfl rfl rfl rfl rfl ty3 (by (repeat (first | exact Rem.head | apply Rem.tail)); done) (by exact rfl) (by (first | (simp only [List.set_cons_zero, List.set_cons_succ]; rfl) | exact rfl))) ?_
      intro _u
      refine LW.nil (QW.thenC (CW.region ?_))
      refine LW.val rfl rfl rfl (x_fieldAddr rfl rfl fl41_2 rfl) ?_
      refine LW.val rfl rfl rfl (x_loadB rfl rfl ty3 (by (repeat (first | exact Rem.head | apply Rem.tail)); done) (by exact rfl)) ?_
      refine LW.val rfl rfl rfl (x_eql rfl rfl rfl) ?_
      refine LW.val rfl rfl rfl (x_move rfl rfl) ?_
      refine LW.split (t := 46) rfl (fun h46 => ?_) (fun h46 => ?_)
      · skip
        refine LW.valG rfl rfl rfl rfl rfl (x_move rfl rfl) ?_
        refine LW.valG rfl rfl rfl rfl rfl (x_fieldAddr rfl rfl fl41_4 rfl) ?_
        refine LW.valG rfl rfl rfl rfl rfl (x_loadB rfl rfl ty3 (by (repeat (first | exact Rem.head | apply Rem.tail)); done) (by exact rfl)) ?_
        refine LW.valG rfl rfl rfl rfl rfl (x_sub rfl rfl rfl (by omega)) ?_
        refine LW.valG rfl rfl rfl rfl rfl (x_geq rfl rfl rfl) ?_
        refine LW.val rfl rfl rfl (x_pickT rfl rfl rfl) ?_
        refine LW.val rfl rfl rfl (x_assign rfl rfl) ?_
        refine LW.nil (QW.in_normal (QW.thenC (CW.seq (CW.region ?_))))
        refine LW.val rfl rfl rfl (x_loadB0 rfl rfl ty41 (by (repeat (first | exact Rem.head | apply Rem.tail)); done) rfl) ?_
        refine LW.val rfl rfl rfl (x_move rfl rfl) ?_
        refine LW.op0 rfl rfl (y_storeB0 rfl rfl rfl rfl ty41 rfl (by (repeat (first | exact Rem.head | apply Rem.tail)); done) rfl) ?_
        intro _u
        refine LW.val rfl rfl rfl (x_assign rfl rfl) ?_
        refine LW.nil (QW.thenC (CW.ret ?_))
        refine QW.res2 rfl (ResV.cellN rfl ty41 (by (repeat (first | exact Rem.head | apply Rem.tail)); done) (by exact rfl)) (ResV.tmp rfl) (ret_eq (()) ?_ ?_)
        · (simp_all [chS, okS, cpL])
        · (repeat (first | exact Sub.nil | exact Sub.all | (apply Sub.cons; (focus ((repeat (first | exact Rem.head | apply Rem.tail)); done))) | (apply Sub.row; (focus ((repeat (first | exact Rem.head | apply Rem.tail)); done)); (focus (first | with_reducible rfl | assumption | omega | (simp; done) | (simp [Nat.mul_comm]; done) | (simp; omega))); (focus (first | with_reducible rfl | assumption | omega | (simp; done) | (simp [Nat.mul_comm]; done) | (simp; omega))); (focus (first | with_reducible rfl | (simp [nums]; done) | (simp [nums]; omega) | (simp; done) | (simp; omega)))) | (apply Sub.blk; (focus ((repeat (first | exact Rem.head | apply Rem.tail)); done)); (focus (first | with_reducible rfl | (simp [nums]; done) | (simp [nums]; omega) | (simp; done) | (simp; omega)))) | fail))
      · skip
        refine LW.gF rfl rfl rfl rfl rfl rfl ?_
        refine LW.gF rfl rfl rfl rfl rfl rfl ?_
        refine LW.gF rfl rfl rfl rfl rfl rfl ?_
        refine LW.gF rfl rfl rfl rfl rfl rfl ?_
        refine LW.gF rfl rfl rfl rfl rfl rfl ?_
        refine LW.val rfl rfl rfl (x_pickF rfl rfl rfl) ?_
        refine LW.val rfl rfl rfl (x_assign rfl rfl) ?_
        refine LW.nil (QW.in_normal (QW.thenC (CW.seq (CW.region ?_))))
        refine LW.val rfl rfl rfl (x_loadB0 rfl rfl ty41 (by (repeat (first | exact Rem.head | apply Rem.tail)); done) rfl) ?_
        refine LW.val rfl rfl rfl (x_move rfl rfl) ?_
        refine LW.op0 rfl rfl (y_storeB0 rfl rfl rfl rfl ty41 rfl (by (repeat (first | exact Rem.head | apply Rem.tail)); done) rfl) ?_
        intro _u
        refine LW.val rfl rfl rfl (x_assign rfl rfl) ?_
        refine LW.nil (QW.thenC (CW.ret ?_))
        refine QW.res2 rfl (ResV.cellN rfl ty41 (by (repeat (first | exact Rem.head | apply Rem.tail)); done) (by exact rfl)) (ResV.tmp rfl) (ret_eq (()) ?_ ?_)
        · (simp_all [chS, okS, cpL])
        · (repeat (first | exact Sub.nil | exact Sub.all | (apply Sub.cons; (focus ((repeat (first | exact Rem.head | apply Rem.tail)); done))) | (apply Sub.row; (focus ((repeat (first | exact Rem.head | apply Rem.tail)); done)); (focus (first | with_reducible rfl | assumption | omega | (simp; done) | (simp [Nat.mul_comm]; done) | (simp; omega))); (focus (first | with_reducible rfl | assumption | omega | (simp; done) | (simp [Nat.mul_comm]; done) | (simp; omega))); (focus (first | with_reducible rfl | (simp [nums]; done) | (simp [nums]; omega) | (simp; done) | (simp; omega)))) | (apply Sub.blk; (focus ((repeat (first | exact Rem.head | apply Rem.tail)); done)); (focus (first | with_reducible rfl | (simp [nums]; done) | (simp [nums]; omega) | (simp; done) | (simp; omega)))) | fail))
    · skip
      refine CW.condF rfl (CW.seq (CW.region ?_))
      refine LW.val rfl rfl rfl (x_eql rfl rfl rfl) ?_
      refine LW.val rfl rfl rfl (x_assign rfl rfl) ?_
      refine LW.nil (QW.thenC ?_)
      refine CW.split (t := 53) rfl (fun h53 => ?_) (fun h53 => ?_)
      · skip
        refine CW.condT rfl (CW.seq (CW.region ?_))
        refine LW.val rfl rfl rfl (x_fieldAddr rfl rfl fl41_2 rfl) ?_
        refine LW.op0 rfl rfl (y_storeB rfl rfl rfl rfl rfl ty3 (by (repeat (first | exact Rem.head | apply Rem.tail)); done) (by exact rfl) (by (first | (simp only [List.set_cons_zero, List.set_cons_succ]; rfl) | exact rfl))) ?_
        intro _u
        refine LW.nil (QW.thenC (CW.seq (CW.region ?_)))
        refine LW.val rfl rfl rfl (x_fieldAddr rfl rfl fl41_3 rfl) ?_
        refine LW.op0 rfl rfl (y_storeB rfl rfl rfl rfl rfl ty3 (by (repeat (first | exact Rem.head | apply Rem.tail)); done) (by exact rfl) (by (first | (simp only [List.set_cons_zero, List.set_cons_succ]; rfl) | exact rfl))) ?_
        intro _u
        refine LW.nil (QW.thenC (CW.region ?_))
        refine LW.val rfl rfl rfl (x_fieldAddr rfl rfl fl41_2 rfl) ?_
        refine LW.val rfl rfl rfl (x_loadB rfl rfl ty3 (by (repeat (first | exact Rem.head | apply Rem.tail)); done) (by exact rfl)) ?_
        refine LW.val rfl rfl rfl (x_eql rfl rfl rfl) ?_
        refine LW.val rfl rfl rfl (x_assign rfl rfl) ?_
        refine LW.nil (QW.in_normal (QW.thenC (CW.seq (CW.region ?_))))
        refine LW.val rfl rfl rfl (x_loadB0 rfl rfl ty41 (by (repeat (first | exact Rem.head | apply Rem.tail)); done) rfl) ?_
        refine LW.val rfl rfl rfl (x_move rfl rfl) ?_
        refine LW.op0 rfl rfl (y_storeB0 rfl rfl rfl rfl ty41 rfl (by (repeat (first | exact Rem.head | apply Rem.tail)); done) rfl) ?_
        intro _u
        refine LW.val rfl rfl rfl (x_assign rfl rfl) ?_
        refine LW.nil (QW.thenC (CW.ret ?_))
        refine QW.res2 rfl (ResV.cellN rfl ty41 (by (repeat (first | exact Rem.head | apply Rem.tail)); done) (by exact rfl)) (ResV.tmp rfl) (ret_eq (()) ?_ ?_)
        · (simp_all [chS, okS, cpL])
        · (repeat (first | exact Sub.nil | exact Sub.all | (apply Sub.cons; (focus ((repeat (first | exact Rem.head | apply Rem.tail)); done))) | (apply Sub.row; (focus ((repeat (first | exact Rem.head | apply Rem.tail)); done)); (focus (first | with_reducible rfl | assumption | omega | (simp; done) | (simp [Nat.mul_comm]; done) | (simp; omega))); (focus (first | with_reducible rfl | assumption | omega | (simp; done) | (simp [Nat.mul_comm]; done) | (simp; omega))); (focus (first | with_reducible rfl | (simp [nums]; done) | (simp [nums]; omega) | (simp; done) | (simp; omega)))) | (apply Sub.blk; (focus ((repeat (first | exact Rem.head | apply Rem.tail)); done)); (focus (first | with_reducible rfl | (simp [nums]; done) | (simp [nums]; omega) | (simp; done) | (simp; omega)))) | fail))
      · skip
        refine CW.condF rfl (CW.seq (CW.region ?_))
        refine LW.val rfl rfl rfl (x_eql rfl rfl rfl) ?_
        refine LW.val rfl rfl rfl (x_assign rfl rfl) ?_
        refine LW.nil (QW.thenC ?_)
        refine CW.split (t := 60) rfl (fun h60 => ?_) (fun h60 => ?_)
        · skip
          refine CW.condT rfl (CW.seq (CW.region ?_))
          refine LW.val rfl rfl rfl (x_fieldAddr rfl rfl fl41_2 rfl) ?_
          refine LW.op0 rfl rfl (y_storeB rfl rfl rfl rfl rfl ty3 (by (repeat (first | exact Rem.head | apply Rem.tail)); done) (by exact rfl) (by (first | (simp only [List.set_cons_zero, List.set_cons_succ]; rfl) | exact rfl))) ?_
          intro _u
          refine LW.nil (QW.thenC (CW.region ?_))
          refine LW.val rfl rfl rfl (x_fieldAddr rfl rfl fl41_2 rfl) ?_
          refine LW.val rfl rfl rfl (x_loadB rfl rfl ty3 (by (repeat (first | exact Rem.head | apply Rem.tail)); done) (by exact rfl)) ?_
          refine LW.val rfl rfl rfl (x_eql rfl rfl rfl) ?_
          refine LW.val rfl rfl rfl (x_assign rfl rfl) ?_
          refine LW.nil (QW.in_normal (QW.thenC (CW.seq (CW.region ?_))))
          refine LW.val rfl rfl rfl (x_loadB0 rfl rfl ty41 (by (repeat (first | exact Rem.head | apply Rem.tail)); done) rfl) ?_
          refine LW.val rfl rfl rfl (x_move rfl rfl) ?_
          refine LW.op0 rfl rfl (y_storeB0 rfl rfl rfl rfl ty41 rfl (by (repeat (first | exact Rem.head | apply Rem.tail)); done) rfl) ?_
          intro _u
          refine LW.val rfl rfl rfl (x_assign rfl rfl) ?_
          refine LW.nil (QW.thenC (CW.ret ?_))
          refine QW.res2 rfl (ResV.cellN rfl ty41 (by (repeat (first | exact Rem.head | apply Rem.tail)); done) (by exact rfl)) (ResV.tmp rfl) (ret_eq (()) ?_ ?_)
          · (simp_all [chS, okS, cpL])
          · (repeat (first | exact Sub.nil | exact Sub.all | (apply Sub.cons; (focus ((repeat (first | exact Rem.head | apply Rem.tail)); done))) | (apply Sub.row; (focus ((repeat (first | exact Rem.head | apply Rem.tail)); done)); (focus (first | with_reducible rfl | assumption | omega | (simp; done) | (simp [Nat.mul_comm]; done) | (simp; omega))); (focus (first | with_reducible rfl | assumption | omega | (simp; done) | (simp [Nat.mul_comm]; done) | (simp; omega))); (focus (first | with_reducible rfl | (simp [nums]; done) | (simp [nums]; omega) | (simp; done) | (simp; omega)))) | (apply Sub.blk; (focus ((repeat (first | exact Rem.head | apply Rem.tail)); done)); (focus (first | with_reducible rfl | (simp [nums]; done) | (simp [nums]; omega) | (simp; done) | (simp; omega)))) | fail))
        · skip
          refine CW.condF rfl (CW.seq (CW.region ?_))
          refine LW.val rfl rfl rfl (x_fieldAddr rfl rfl fl41_2 rfl) ?_
          refine LW.op0 rfl rfl (y_storeB rfl rfl rfl rfl rfl ty3 (by (repeat (first | exact Rem.head | apply Rem.tail)); done) (by exact rfl) (by (first | (simp only [List.set_cons_zero, List.set_cons_succ]; rfl) | exact rfl))) ?_
          intro _u
          refine LW.nil (QW.thenC (CW.region ?_))
          refine LW.val rfl rfl rfl (x_fieldAddr rfl rfl fl41_2 rfl) ?_
          refine LW.val rfl rfl rfl (x_loadB rfl rfl ty3 (by (repeat (first | exact Rem.head | apply Rem.tail)); done) (by exact rfl)) ?_
          refine LW.val rfl rfl rfl (x_eql rfl rfl rfl) ?_
          refine LW.val rfl rfl rfl (x_move rfl rfl) ?_
          refine LW.split (t := 19) rfl (fun h19 => ?_) (fun h19 => ?_)
          · skip
            refine LW.valG rfl rfl rfl rfl rfl (x_move rfl rfl) ?_
            refine LW.valG rfl rfl rfl rfl rfl (x_fieldAddr rfl rfl fl41_4 rfl) ?_
            refine LW.valG rfl rfl rfl rfl rfl (x_loadB rfl rfl ty3 (by (repeat (first | exact Rem.head | apply Rem.tail)); done) (by exact rfl)) ?_
            refine LW.valG rfl rfl rfl rfl rfl (x_sub rfl rfl rfl (by omega)) ?_
            refine LW.valG rfl rfl rfl rfl rfl (x_geq rfl rfl rfl) ?_
            refine LW.val rfl rfl rfl (x_pickT rfl rfl rfl) ?_
            refine LW.val rfl rfl rfl (x_assign rfl rfl) ?_
            refine LW.nil (QW.in_normal (QW.thenC (CW.seq (CW.region ?_))))
            refine LW.val rfl rfl rfl (x_loadB0 rfl rfl ty41 (by (repeat (first | exact Rem.head | apply Rem.tail)); done) rfl) ?_
            refine LW.val rfl rfl rfl (x_move rfl rfl) ?_
            refine LW.op0 rfl rfl (y_storeB0 rfl rfl rfl rfl ty41 rfl (by (repeat (first | exact Rem.head | apply Rem.tail)); done) rfl) ?_
            intro _u
            refine LW.val rfl rfl rfl (x_assign rfl rfl) ?_
            refine LW.nil (QW.thenC (CW.ret ?_))
            refine QW.res2 rfl (ResV.cellN rfl ty41 (by (repeat (first | exact Rem.head | apply Rem.tail)); done) (by exact rfl)) (ResV.tmp rfl) (ret_eq (()) ?_ ?_)
            · (simp_all [chS, okS, cpL])
            · (repeat (first | exact Sub.nil | exact Sub.all | (apply Sub.cons; (focus ((repeat (first | exact Rem.head | apply Rem.tail)); done))) | (apply Sub.row; (focus ((repeat (first | exact Rem.head | apply Rem.tail)); done)); (focus (first | with_reducible rfl | assumption | omega | (simp; done) | (simp [Nat.mul_comm]; done) | (simp; omega))); (focus (first | with_reducible rfl | assumption | omega | (simp; done) | (simp [Nat.mul_comm]; done) | (simp; omega))); (focus (first | with_reducible rfl | (simp [nums]; done) | (simp [nums]; omega) | (simp; done) | (simp; omega)))) | (apply Sub.blk; (focus ((repeat (first | exact Rem.head | apply Rem.tail)); done)); (focus (first | with_reducible rfl | (simp [nums]; done) | (simp [nums]; omega) | (simp; done) | (simp; omega)))) | fail))
          · skip
            refine LW.gF rfl rfl rfl rfl rfl rfl ?_
            refine LW.gF rfl rfl rfl rfl rfl rfl ?_
            refine LW.gF rfl rfl rfl rfl rfl rfl ?_
            refine LW.gF rfl rfl rfl rfl rfl rfl ?_
            refine LW.gF rfl rfl rfl rfl rfl rfl ?_
            refine LW.val rfl rfl rfl (x_pickF rfl rfl rfl) ?_
            refine LW.val rfl rfl rfl (x_assign rfl rfl) ?_
            refine LW.nil (QW.in_normal (QW.thenC (CW.seq (CW.region ?_))))
            refine LW.val rfl rfl rfl (x_loadB0 rfl rfl ty41 (by (repeat (first | exact Rem.head | apply Rem.tail)); done) rfl) ?_
            refine LW.val rfl rfl rfl (x_move rfl rfl) ?_
            refine LW.op0 rfl rfl (y_storeB0 rfl rfl rfl rfl ty41 rfl (by (repeat (first | exact Rem.head | apply Rem.tail)); done) rfl) ?_
            intro _u
            refine LW.val rfl rfl rfl (x_assign rfl rfl) ?_
            refine LW.nil (QW.thenC (CW.ret ?_))
            refine QW.res2 rfl (ResV.cellN rfl ty41 (by (repeat (first | exact Rem.head | apply Rem.tail)); done) (by exact rfl)) (ResV.tmp rfl) (ret_eq (()) ?_ ?_)
            · (simp_all [chS, okS, cpL])
            · (repeat (first | exact Sub.nil | exact Sub.all | (apply Sub.cons; (focus ((repeat (first | exact Rem.head | apply Rem.tail)); done))) | (apply Sub.row; (focus ((repeat (first | exact Rem.head | apply Rem.tail)); done)); (focus (first | with_reducible rfl | assumption | omega | (simp; done) | (simp [Nat.mul_comm]; done) | (simp; omega))); (focus (first | with_reducible rfl | assumption | omega | (simp; done) | (simp [Nat.mul_comm]; done) | (simp; omega))); (focus (first | with_reducible rfl | (simp [nums]; done) | (simp [nums]; omega) | (simp; done) | (simp; omega)))) | (apply Sub.blk; (focus ((repeat (first | exact Rem.head | apply Rem.tail)); done)); (focus (first | with_reducible rfl | (simp [nums]; done) | (simp [nums]; omega) | (simp; done) | (simp; omega)))) | fail))
set_option maxHeartbeats 1000000 in
set_option maxRecDepth 20000 in
theorem l25Make_ct (day looms money : Int) (xs : List Cp) (A : Option Addr) (c : Nat) (x : Sp) (w : World) (hR : RdC w A c xs) (hg : goodSh day looms money xs = true) (hst : specSt looms xs x = true) (hv : x.val ≤ 9223372036854775807)
    (ok : Bool) (d mny : Int) (ys : List Cp) (hr : specMk day looms money xs x = (ok, d, mny, ys)) :
    Calls Try.prog 34 #[shV day looms money A xs.length c, .agg (spL x).toArray] w (Ret (shT ok d looms mny ys.length) (fun p => [rowCp p.1 ys.length p.2 ys]) w) := by
  obtain ⟨g1, g2, g3, g4, g5⟩ := goodSh_iff.1 hg
  rw [inB_iff] at g1 g2 g3
  obtain ⟨kind, car, val⟩ := x
  have hv : val ≤ 9223372036854775807 := hv
  refine enter Try.func34 rfl rfl Try.ntmps34 rfl ?_
  refine CW.seq (CW.region ?_)
  refine LW.op rfl rfl rfl (y_box rfl rfl rfl) ?_
  intro b2
  refine LW.op rfl rfl rfl (y_box rfl rfl rfl) ?_
  intro b3
  refine LW.op rfl rfl rfl (y_alloc rfl ze31) ?_
  intro b4
  refine LW.val rfl rfl rfl (x_assign rfl rfl) ?_
  refine LW.nil (QW.thenC (CW.seq (CW.region ?_)))
  refine LW.val rfl rfl rfl (x_loadB0 rfl rfl ty31 (by (repeat (first | exact Rem.head | apply Rem.tail)); done) rfl) ?_
  refine LW.op rfl rfl rfl (y_call rfl rfl rfl en32 (fun w HW => l25Own_ct day looms money xs A c _ (hR.up HW.below))) ?_
  rintro ⟨A1, c1⟩
  refine LW.op rfl rfl rfl (y_alloc rfl ze31) ?_
  intro b6
  refine LW.op0 rfl rfl (y_storeB0 rfl rfl rfl rfl ty31 rfl (by (repeat (first | exact Rem.head | apply Rem.tail)); done) rfl) ?_
  intro _u
  refine LW.nil (QW.thenC (CW.seq (CW.seq (CW.region ?_))))
  refine LW.val rfl rfl rfl (x_fieldAddr rfl rfl fl37_0 rfl) ?_
  refine LW.val rfl rfl rfl (x_loadB rfl rfl ty3 (by (repeat (first | exact Rem.head | apply Rem.tail)); done) (by exact rfl)) ?_
  refine LW.nil (QW.thenC (CW.block (CW.seq (CW.region ?_))))
  refine LW.val rfl rfl rfl (x_eql rfl rfl rfl) ?_
  refine LW.val rfl rfl rfl (x_assign rfl rfl) ?_
  refine LW.nil (QW.thenC ?_)
  refine CW.condD rfl (fun k1 => ?_) (fun k1 => ?_)
  · have k1 : kind = 1 := k1
    have hval : 1 ≤ val := by simp [specSt, k1] at hst; exact hst.2
    rw [specMk, if_pos k1] at hr
    refine CW.seq (CW.seq (CW.region ?_))
    refine LW.val rfl rfl rfl (x_fieldAddr rfl rfl fl37_2 rfl) ?_
    refine LW.val rfl rfl rfl (x_loadB rfl rfl ty3 (by (repeat (first | exact Rem.head | apply Rem.tail)); done) (by exact rfl)) ?_
    refine LW.val rfl rfl rfl (x_fieldAddr rfl rfl fl31_0 rfl) ?_
    refine LW.val rfl rfl rfl (x_loadB rfl rfl ty3 (by (repeat (first | exact Rem.head | apply Rem.tail)); done) (by exact rfl)) ?_
    refine LW.val rfl rfl rfl (x_sub rfl rfl rfl (by omega)) ?_
    refine LW.val rfl rfl rfl (x_gtr rfl rfl rfl) ?_
    refine LW.nil (QW.thenC ?_)
    refine CW.condD rfl (fun k2 => ?_) (fun k2 => ?_)
    · have k2 : 4000 - day < val := k2
      rw [if_pos k2] at hr
      simp only [Prod.mk.injEq] at hr
      obtain ⟨rfl, rfl, rfl, rfl⟩ := hr
      refine CW.seq (CW.region ?_)
      refine LW.val rfl rfl rfl (x_loadB0 rfl rfl ty31 (by (repeat (first | exact Rem.head | apply Rem.tail)); done) rfl) ?_
      refine LW.op0 rfl rfl (y_storeB0 rfl rfl rfl rfl ty31 rfl (by (repeat (first | exact Rem.head | apply Rem.tail)); done) rfl) ?_
      intro _u
      refine LW.val rfl rfl rfl (x_assign rfl rfl) ?_
      refine LW.nil (QW.thenC (CW.ret (QW.then_ret (QW.in_ret (QW.then_ret ?_)))))
      refine QW.res2 rfl (ResV.cellN rfl ty31 (by (repeat (first | exact Rem.head | apply Rem.tail)); done) (by exact rfl)) (ResV.tmp rfl) (ret_eq ((A1, c1)) ?_ ?_)
      · first | rfl | (simp only []; rfl)
      · (repeat (first | exact Sub.nil | exact Sub.all | (apply Sub.cons; (focus ((repeat (first | exact Rem.head | apply Rem.tail)); done))) | (apply Sub.row; (focus ((repeat (first | exact Rem.head | apply Rem.tail)); done)); (focus (first | with_reducible rfl | assumption | omega | (simp; done) | (simp [Nat.mul_comm]; done) | (simp; omega))); (focus (first | with_reducible rfl | assumption | omega | (simp; done) | (simp [Nat.mul_comm]; done) | (simp; omega))); (focus (first | with_reducible rfl | (simp [nums]; done) | (simp [nums]; omega) | (simp; done) | (simp; omega)))) | (apply Sub.blk; (focus ((repeat (first | exact Rem.head | apply Rem.tail)); done)); (focus (first | with_reducible rfl | (simp [nums]; done) | (simp [nums]; omega) | (simp; done) | (simp; omega)))) | fail))
    · have k2 : ¬ 4000 - day < val := k2
      rw [if_neg k2] at hr
      simp only [Prod.mk.injEq] at hr
      obtain ⟨rfl, rfl, rfl, rfl⟩ := hr
      refine CW.skip (QW.thenC (CW.seq (CW.region ?_)))
      refine LW.val rfl rfl rfl (x_fieldAddr rfl rfl fl31_0 rfl) ?_
      refine LW.val rfl rfl rfl (x_loadB rfl rfl ty3 (by (repeat (first | exact Rem.head | apply Rem.tail)); done) (by exact rfl)) ?_
      refine LW.val rfl rfl rfl (x_fieldAddr rfl rfl fl37_2 rfl) ?_
      refine LW.val rfl rfl rfl (x_loadB rfl rfl ty3 (by (repeat (first | exact Rem.head | apply Rem.tail)); done) (by exact rfl)) ?_
      refine LW.val rfl rfl rfl (x_add (b := val) rfl rfl rfl (by omega)) ?_
      refine LW.val rfl rfl rfl (x_fieldAddr rfl rfl fl31_0 rfl) ?_
      refine LW.op0 rfl rfl (y_storeB rfl rfl rfl rfl rfl ty3 (by (repeat (first | exact Rem.head | apply Rem.tail)); done) (by exact rfl) (by (first | (simp only [List.set_cons_zero, List.set_cons_succ]; rfl) | exact rfl))) ?_
      intro _u
      refine LW.nil (QW.thenC (CW.seq (CW.region ?_)))
      refine LW.val rfl rfl rfl (x_loadB0 rfl rfl ty31 (by (repeat (first | exact Rem.head | apply Rem.tail)); done) rfl) ?_
      refine LW.op0 rfl rfl (y_storeB0 rfl rfl rfl rfl ty31 rfl (by (repeat (first | exact Rem.head | apply Rem.tail)); done) rfl) ?_
      intro _u
      refine LW.val rfl rfl rfl (x_assign rfl rfl) ?_
      refine LW.nil (QW.thenC (CW.ret (QW.in_ret (QW.then_ret ?_))))
      refine QW.res2 rfl (ResV.cellN rfl ty31 (by (repeat (first | exact Rem.head | apply Rem.tail)); done) (by exact rfl)) (ResV.tmp rfl) (ret_eq ((A1, c1)) ?_ ?_)
      · first | rfl | (simp only []; rfl)
      · (repeat (first | exact Sub.nil | exact Sub.all | (apply Sub.cons; (focus ((repeat (first | exact Rem.head | apply Rem.tail)); done))) | (apply Sub.row; (focus ((repeat (first | exact Rem.head | apply Rem.tail)); done)); (focus (first | with_reducible rfl | assumption | omega | (simp; done) | (simp [Nat.mul_comm]; done) | (simp; omega))); (focus (first | with_reducible rfl | assumption | omega | (simp; done) | (simp [Nat.mul_comm]; done) | (simp; omega))); (focus (first | with_reducible rfl | (simp [nums]; done) | (simp [nums]; omega) | (simp; done) | (simp; omega)))) | (apply Sub.blk; (focus ((repeat (first | exact Rem.head | apply Rem.tail)); done)); (focus (first | with_reducible rfl | (simp [nums]; done) | (simp [nums]; omega) | (simp; done) | (simp; omega)))) | fail))
  · have k1 : ¬ kind = 1 := k1
    rw [specMk, if_neg k1] at hr
    refine CW.seq (CW.region ?_)
    refine LW.val rfl rfl rfl (x_eql rfl rfl rfl) ?_
    refine LW.val rfl rfl rfl (x_assign rfl rfl) ?_
    refine LW.nil (QW.thenC ?_)
    refine CW.condD rfl (fun k2 => ?_) (fun k2 => ?_)
    · have k2 : kind = 2 := k2
      rw [if_pos k2] at hr
      obtain ⟨zs, hz⟩ : ∃ zs, xs ++ [(⟨val, 0, 0, 0, day⟩ : Cp)] = zs := ⟨_, rfl⟩
      have hzl : zs.length = xs.length + 1 := by rw [← hz, len_snoc]
      rw [hz] at hr
      simp only [Prod.mk.injEq] at hr
      obtain ⟨rfl, rfl, rfl, rfl⟩ := hr
      refine CW.seq (CW.region ?_)
      refine LW.val rfl rfl rfl (x_fieldAddr rfl rfl fl31_2 rfl) ?_
      refine LW.val rfl rfl rfl (x_loadB rfl rfl ty29 (by (repeat (first | exact Rem.head | apply Rem.tail)); done) (by exact rfl)) ?_
      refine LW.val rfl rfl rfl (x_fieldAddr rfl rfl fl37_2 rfl) ?_
      refine LW.val rfl rfl rfl (x_loadB rfl rfl ty3 (by (repeat (first | exact Rem.head | apply Rem.tail)); done) (by exact rfl)) ?_
      refine LW.val rfl rfl rfl (x_fieldAddr rfl rfl fl31_0 rfl) ?_
      refine LW.val rfl rfl rfl (x_loadB rfl rfl ty3 (by (repeat (first | exact Rem.head | apply Rem.tail)); done) (by exact rfl)) ?_
      refine LW.val rfl rfl rfl (x_build rfl rfl rfl ze41 st41 pl41 (by simp [fillL, Value.cells]; rfl)) ?_
      refine LW.op rfl rfl rfl (y_bs rfl rfl rfl el29 ze41 rfl rfl rfl (by simp [fillL, Value.cells]; rfl) rfl) ?_
      intro g38
      refine LW.op rfl rfl rfl (y_appendR (ty := 0) rfl rfl rfl el29 in41 rfl (by (repeat (first | exact Rem.head | apply Rem.tail)); done) (by (repeat (first | exact Rem.head | apply Rem.tail)); done) rfl rfl (by omega)) ?_
      rintro ⟨A2, c2⟩
      refine LW.re (rowCp A2 zs.length c2 zs) (by (repeat (first | exact Rem.head | apply Rem.tail)); done) (by subst hz; exact row_snoc (by first | rfl | simp [cpL])) ?_
      refine LW.sl 39 (.slice A2 zs.length c2) rfl (by rw [hzl]) ?_
      refine LW.val rfl rfl rfl (x_fieldAddr rfl rfl fl31_2 rfl) ?_
      refine LW.op0 rfl rfl (y_storeB rfl rfl rfl rfl rfl ty29 (by (repeat (first | exact Rem.head | apply Rem.tail)); done) (by exact rfl) (by (first | (simp only [List.set_cons_zero, List.set_cons_succ]; rfl) | exact rfl))) ?_
      intro _u
      refine LW.nil (QW.thenC (CW.seq ?_))
      refine CW.draw [] ([.blk b6 (shL day looms money A2 zs.length c2) 31, rowCp A2 zs.length c2 zs]) follows ?_
      refine DW.take 0 rfl rfl (by kernel_rfl) (by kernel_rfl) (by kernel_rfl) (by kernel_rfl) (by kernel_rfl) rfl (fun _ _ _ h => h) rfl (by (repeat (first | exact Sub.nil | exact Sub.all | (apply Sub.cons; (focus ((repeat (first | exact Rem.head | apply Rem.tail)); done))) | fail))) (x_loadB0 rfl rfl ty31 (by (repeat (first | exact Rem.head | apply Rem.tail)); done) rfl) rfl ?_
      refine DW.take 1 rfl rfl (by kernel_rfl) (by kernel_rfl) (by kernel_rfl) (by kernel_rfl) (by kernel_rfl) rfl (fun _ _ _ h => h) rfl (by (repeat (first | exact Sub.nil | exact Sub.all | (apply Sub.cons; (focus ((repeat (first | exact Rem.head | apply Rem.tail)); done))) | fail))) (x_loadB0 rfl rfl ty31 (by (repeat (first | exact Rem.head | apply Rem.tail)); done) rfl) rfl ?_
      refine DW.ready [2] (by kernel_rfl) (by simp) ?_
      refine AllR.cons rfl rfl rfl rfl (y_call rfl rfl rfl en31 (fun w HW => l25Good_ct day looms money zs A2 c2 _ (SH.rdR (by (repeat (first | exact Rem.head | apply Rem.tail)); done) (by omega) HW))) (fun _ => by (repeat (first | exact Sub.nil | exact Sub.all | (apply Sub.cons; (focus ((repeat (first | exact Rem.head | apply Rem.tail)); done))) | fail))) rfl ?_ AllR.nil
      rintro ⟨⟩
      refine DW.ready [3] (by kernel_rfl) (by simp) ?_
      refine AllR.cons0 rfl rfl rfl (y_storeB0 rfl rfl rfl rfl ty31 rfl (by (repeat (first | exact Rem.head | apply Rem.tail)); done) rfl) (fun _ => by (repeat (first | exact Sub.nil | exact Sub.all | (apply Sub.cons; (focus ((repeat (first | exact Rem.head | apply Rem.tail)); done))) | fail))) rfl ?_ AllR.nil
      intro _u
      refine DW.take 4 rfl rfl (by kernel_rfl) (by kernel_rfl) (by kernel_rfl) (by kernel_rfl) (by kernel_rfl) rfl (fun _ _ _ h => h) rfl (by (repeat (first | exact Sub.nil | exact Sub.all | (apply Sub.cons; (focus ((repeat (first | exact Rem.head | apply Rem.tail)); done))) | fail))) (x_assign rfl rfl) rfl ?_
      refine DW.done (by kernel_rfl) ?_
      refine QW.thenC (CW.ret (QW.in_ret (QW.then_ret ?_)))
      refine QW.res2 rfl (ResV.cellN rfl ty31 (by (repeat (first | exact Rem.head | apply Rem.tail)); done) (by exact rfl)) (ResV.tmp rfl) (ret_eq ((A2, c2)) ?_ ?_)
      · first | rfl | (simp only []; rfl)
      · (repeat (first | exact Sub.nil | exact Sub.all | (apply Sub.cons; (focus ((repeat (first | exact Rem.head | apply Rem.tail)); done))) | (apply Sub.row; (focus ((repeat (first | exact Rem.head | apply Rem.tail)); done)); (focus (first | with_reducible rfl | assumption | omega | (simp; done) | (simp [Nat.mul_comm]; done) | (simp; omega))); (focus (first | with_reducible rfl | assumption | omega | (simp; done) | (simp [Nat.mul_comm]; done) | (simp; omega))); (focus (first | with_reducible rfl | (simp [nums]; done) | (simp [nums]; omega) | (simp; done) | (simp; omega)))) | (apply Sub.blk; (focus ((repeat (first | exact Rem.head | apply Rem.tail)); done)); (focus (first | with_reducible rfl | (simp [nums]; done) | (simp [nums]; omega) | (simp; done) | (simp; omega)))) | fail))
    · have k2 : ¬ kind = 2 := k2
      rw [if_neg k2] at hr
      have hcar : inB car 0 ((xs.length : Int) - 1) = true := by
        cases e : inB car 0 ((xs.length : Int) - 1) with
        | true => rfl
        | false => simp [specSt, k1, k2, e] at hst
      have q0 := inB_iff.1 hcar
      obtain ⟨i, rfl⟩ : ∃ i : Nat, car = i := ⟨car.toNat, by omega⟩
      have hi : i < xs.length := by omega
      obtain ⟨ad, rfl⟩ := hR.some hi
      obtain ⟨y, hy⟩ : ∃ y, xs[i] = y := ⟨_, rfl⟩
      have hyc := okAt_carpet hi (g5 i hi)
      rw [hy] at hyc
      have hb : 0 ≤ y.since ∧ y.since ≤ 4000 ∧ 0 ≤ y.made ∧ y.made ≤ 500 ∧ 0 ≤ y.rows ∧ y.rows ≤ 500 := by
        simp only [carpetOk, Bool.and_eq_true, inB_iff] at hyc; omega
      simp only [Int.toNat_natCast, List.getElem?_eq_getElem hi, hy] at hr
      refine CW.seq (CW.region ?_)
      refine LW.val rfl rfl rfl (x_eql rfl rfl rfl) ?_
      refine LW.val rfl rfl rfl (x_assign rfl rfl) ?_
      refine LW.nil (QW.thenC ?_)
      refine CW.condD rfl (fun k7 => ?_) (fun k7 => ?_)
      · have k7 : kind = 7 := k7
        have hval : 1 ≤ val := by simp [specSt, k7, hcar] at hst; exact hst
        refine CW.seq (CW.seq (CW.region ?_))
        refine LW.val rfl rfl rfl (x_fieldAddr rfl rfl fl37_2 rfl) ?_
        refine LW.val rfl rfl rfl (x_loadB rfl rfl ty3 (by (repeat (first | exact Rem.head | apply Rem.tail)); done) (by exact rfl)) ?_
        refine LW.val rfl rfl rfl (x_fieldAddr rfl rfl fl31_3 rfl) ?_
        refine LW.val rfl rfl rfl (x_loadB rfl rfl ty3 (by (repeat (first | exact Rem.head | apply Rem.tail)); done) (by exact rfl)) ?_
        refine LW.val rfl rfl rfl (x_sub rfl rfl rfl (by omega)) ?_
        refine LW.val rfl rfl rfl (x_gtr rfl rfl rfl) ?_
        refine LW.nil (QW.thenC ?_)
        refine CW.condD rfl (fun k8 => ?_) (fun k8 => ?_)
        · have k8 : 1000000 - money < val := k8
          rw [if_pos ⟨k7, k8⟩] at hr
          simp only [Prod.mk.injEq] at hr
          obtain ⟨rfl, rfl, rfl, rfl⟩ := hr
          refine CW.seq (CW.region ?_)
          refine LW.val rfl rfl rfl (x_loadB0 rfl rfl ty31 (by (repeat (first | exact Rem.head | apply Rem.tail)); done) rfl) ?_
          refine LW.op0 rfl rfl (y_storeB0 rfl rfl rfl rfl ty31 rfl (by (repeat (first | exact Rem.head | apply Rem.tail)); done) rfl) ?_
          intro _u
          refine LW.val rfl rfl rfl (x_assign rfl rfl) ?_
          refine LW.nil (QW.thenC (CW.ret (QW.then_ret (QW.in_ret (QW.then_ret ?_)))))
          refine QW.res2 rfl (ResV.cellN rfl ty31 (by (repeat (first | exact Rem.head | apply Rem.tail)); done) (by exact rfl)) (ResV.tmp rfl) (ret_eq ((A1, c1)) ?_ ?_)
          · first | rfl | (simp only []; rfl)
          · (repeat (first | exact Sub.nil | exact Sub.all | (apply Sub.cons; (focus ((repeat (first | exact Rem.head | apply Rem.tail)); done))) | (apply Sub.row; (focus ((repeat (first | exact Rem.head | apply Rem.tail)); done)); (focus (first | with_reducible rfl | assumption | omega | (simp; done) | (simp [Nat.mul_comm]; done) | (simp; omega))); (focus (first | with_reducible rfl | assumption | omega | (simp; done) | (simp [Nat.mul_comm]; done) | (simp; omega))); (focus (first | with_reducible rfl | (simp [nums]; done) | (simp [nums]; omega) | (simp; done) | (simp; omega)))) | (apply Sub.blk; (focus ((repeat (first | exact Rem.head | apply Rem.tail)); done)); (focus (first | with_reducible rfl | (simp [nums]; done) | (simp [nums]; omega) | (simp; done) | (simp; omega)))) | fail))
        · have k8 : ¬ 1000000 - money < val := k8
          rw [if_neg (fun h => k8 h.2), if_pos k7] at hr
          have hvv : 0 ≤ val ∧ val ≤ 1000000 := by omega
          refine CW.skip (QW.thenC (CW.region ?_))
          refine LW.val rfl rfl rfl (x_fieldAddr rfl rfl fl31_3 rfl) ?_
          refine LW.val rfl rfl rfl (x_loadB rfl rfl ty3 (by (repeat (first | exact Rem.head | apply Rem.tail)); done) (by exact rfl)) ?_
          refine LW.val rfl rfl rfl (x_fieldAddr rfl rfl fl37_2 rfl) ?_
          refine LW.val rfl rfl rfl (x_loadB rfl rfl ty3 (by (repeat (first | exact Rem.head | apply Rem.tail)); done) (by exact rfl)) ?_
          refine LW.val rfl rfl rfl (x_add (b := val) rfl rfl rfl (by omega)) ?_
          refine LW.val rfl rfl rfl (x_fieldAddr rfl rfl fl31_3 rfl) ?_
          refine LW.op0 rfl rfl (y_storeB rfl rfl rfl rfl rfl ty3 (by (repeat (first | exact Rem.head | apply Rem.tail)); done) (by exact rfl) (by (first | (simp only [List.set_cons_zero, List.set_cons_succ]; rfl) | exact rfl))) ?_
          intro _u
          refine LW.nil (QW.in_normal (QW.thenC (CW.seq ?_)))
          refine CW.cutC1 (M := []) [7, 8, 59, 60, 61, 62, 63, 64, 65, 66, 67, 68, 69, 70, 71] (fun (b : Nat) => True) (fun (b : Nat) => [(7, .pointer (some ⟨b, 0, none⟩)), (8, .bool (okS day ⟨kind, i, val⟩ y))]) (fun (b : Nat) => [.blk b (cpL (chS day ⟨kind, i, val⟩ y)) 41]) (Take.nil) ?_ ?_
          · skip
            refine CW.drawL [] follows ?_
            refine DW.take 0 rfl rfl (by kernel_rfl) (by kernel_rfl) (by kernel_rfl) (by kernel_rfl) (by kernel_rfl) rfl (fun _ _ _ h => nomatch h.1) rfl (by (repeat (first | exact Sub.nil | exact Sub.all | (apply Sub.cons; (focus ((repeat (first | exact Rem.head | apply Rem.tail)); done))) | fail))) (x_fieldAddr rfl rfl fl31_2 rfl) rfl ?_
            refine DW.take 1 rfl rfl (by kernel_rfl) (by kernel_rfl) (by kernel_rfl) (by kernel_rfl) (by kernel_rfl) rfl (fun _ _ _ h => nomatch h.1) rfl (by (repeat (first | exact Sub.nil | exact Sub.all | (apply Sub.cons; (focus ((repeat (first | exact Rem.head | apply Rem.tail)); done))) | fail))) (x_loadB rfl rfl ty29 (by (repeat (first | exact Rem.head | apply Rem.tail)); done) (by exact rfl)) rfl ?_
            refine DW.take 2 rfl rfl (by kernel_rfl) (by kernel_rfl) (by kernel_rfl) (by kernel_rfl) (by kernel_rfl) rfl (fun _ _ _ h => nomatch h.1) rfl (by (repeat (first | exact Sub.nil | exact Sub.all | (apply Sub.cons; (focus ((repeat (first | exact Rem.head | apply Rem.tail)); done))) | fail))) (x_fieldAddr rfl rfl fl37_1 rfl) rfl ?_
            refine DW.take 3 rfl rfl (by kernel_rfl) (by kernel_rfl) (by kernel_rfl) (by kernel_rfl) (by kernel_rfl) rfl (fun _ _ _ h => nomatch h.1) rfl (by (repeat (first | exact Sub.nil | exact Sub.all | (apply Sub.cons; (focus ((repeat (first | exact Rem.head | apply Rem.tail)); done))) | fail))) (x_loadB rfl rfl ty3 (by (repeat (first | exact Rem.head | apply Rem.tail)); done) (by exact rfl)) rfl ?_
            refine DW.take 4 rfl rfl (by kernel_rfl) (by kernel_rfl) (by kernel_rfl) (by kernel_rfl) (by kernel_rfl) rfl (fun _ _ _ h => nomatch h.1) rfl (by (repeat (first | exact Sub.nil | exact Sub.all | (apply Sub.cons; (focus ((repeat (first | exact Rem.head | apply Rem.tail)); done))) | fail))) (x_idxN rfl rfl rfl el29 (by omega)) rfl ?_
            refine DW.take 5 rfl rfl (by kernel_rfl) (by kernel_rfl) (by kernel_rfl) (by kernel_rfl) (by kernel_rfl) rfl (fun _ _ _ h => nomatch h.1) rfl (by (repeat (first | exact Sub.nil | exact Sub.all | (apply Sub.cons; (focus ((repeat (first | exact Rem.head | apply Rem.tail)); done))) | fail))) (x_loadF (y := y) hR (by simp) cpLen rfl rfl ty41 (by simp [hi, hy])) rfl ?_
            refine DW.take 6 rfl rfl (by kernel_rfl) (by kernel_rfl) (by kernel_rfl) (by kernel_rfl) (by kernel_rfl) rfl (fun _ _ _ h => nomatch h.1) rfl (by (repeat (first | exact Sub.nil | exact Sub.all | (apply Sub.cons; (focus ((repeat (first | exact Rem.head | apply Rem.tail)); done))) | fail))) (x_loadB0 rfl rfl ty37 (by (repeat (first | exact Rem.head | apply Rem.tail)); done) rfl) rfl ?_
            refine DW.take 7 rfl rfl (by kernel_rfl) (by kernel_rfl) (by kernel_rfl) (by kernel_rfl) (by kernel_rfl) rfl (fun _ _ _ h => nomatch h.1) rfl (by (repeat (first | exact Sub.nil | exact Sub.all | (apply Sub.cons; (focus ((repeat (first | exact Rem.head | apply Rem.tail)); done))) | fail))) (x_fieldAddr rfl rfl fl31_0 rfl) rfl ?_
            refine DW.take 8 rfl rfl (by kernel_rfl) (by kernel_rfl) (by kernel_rfl) (by kernel_rfl) (by kernel_rfl) rfl (fun _ _ _ h => nomatch h.1) rfl (by (repeat (first | exact Sub.nil | exact Sub.all | (apply Sub.cons; (focus ((repeat (first | exact Rem.head | apply Rem.tail)); done))) | fail))) (x_loadB rfl rfl ty3 (by (repeat (first | exact Rem.head | apply Rem.tail)); done) (by exact rfl)) rfl ?_
            refine DW.ready [9, 13] (by kernel_rfl) (by simp) ?_
            refine AllR.cons rfl rfl rfl rfl (y_call rfl rfl rfl en56 (fun w HW => l25Change_ct day ⟨kind, i, val⟩ y _ ⟨by omega, by omega⟩ ⟨by omega, by omega⟩ ⟨by omega, by omega⟩ hvv)) (fun _ => by (repeat (first | exact Sub.nil | exact Sub.all | (apply Sub.cons; (focus ((repeat (first | exact Rem.head | apply Rem.tail)); done))) | fail))) rfl ?_ ?_
            · rintro ⟨⟩
              refine DW.take 10 rfl rfl (by kernel_rfl) (by kernel_rfl) (by kernel_rfl) (by kernel_rfl) (by kernel_rfl) rfl (fun _ _ _ h => nomatch h.1) rfl (by (repeat (first | exact Sub.nil | exact Sub.all | (apply Sub.cons; (focus ((repeat (first | exact Rem.head | apply Rem.tail)); done))) | fail))) (x_move rfl rfl) rfl ?_
              refine DW.take 11 rfl rfl (by kernel_rfl) (by kernel_rfl) (by kernel_rfl) (by kernel_rfl) (by kernel_rfl) rfl (fun _ _ _ h => nomatch h.1) rfl (by (repeat (first | exact Sub.nil | exact Sub.all | (apply Sub.cons; (focus ((repeat (first | exact Rem.head | apply Rem.tail)); done))) | fail))) (x_extract rfl rfl rfl) rfl ?_
              refine DW.take 12 rfl rfl (by kernel_rfl) (by kernel_rfl) (by kernel_rfl) (by kernel_rfl) (by kernel_rfl) rfl (fun _ _ _ h => nomatch h.1) rfl (by (repeat (first | exact Sub.nil | exact Sub.all | (apply Sub.cons; (focus ((repeat (first | exact Rem.head | apply Rem.tail)); done))) | fail))) (x_extract rfl rfl rfl) rfl ?_
              refine DW.ready [13] (by kernel_rfl) (by simp) ?_
              refine AllR.cons rfl rfl rfl rfl (y_alloc rfl ze41) (fun _ => by (repeat (first | exact Sub.nil | exact Sub.all | (apply Sub.cons; (focus ((repeat (first | exact Rem.head | apply Rem.tail)); done))) | fail))) rfl ?_ AllR.nil
              rintro b7
              refine DW.ready [14] (by kernel_rfl) (by simp) ?_
              refine AllR.cons0 rfl rfl rfl (y_storeB0 rfl rfl rfl rfl ty41 rfl (by (repeat (first | exact Rem.head | apply Rem.tail)); done) rfl) (fun _ => by (repeat (first | exact Sub.nil | exact Sub.all | (apply Sub.cons; (focus ((repeat (first | exact Rem.head | apply Rem.tail)); done))) | fail))) rfl ?_ AllR.nil
              intro _u
              refine DW.take 15 rfl rfl (by kernel_rfl) (by kernel_rfl) (by kernel_rfl) (by kernel_rfl) (by kernel_rfl) rfl (fun _ _ _ h => nomatch h.1) rfl (by (repeat (first | exact Sub.nil | exact Sub.all | (apply Sub.cons; (focus ((repeat (first | exact Rem.head | apply Rem.tail)); done))) | fail))) (x_assign rfl rfl) rfl ?_
              refine DW.done (by kernel_rfl) ?_
              refine QW.cutEndC1 (b7) ?_ (by (repeat (first | exact trivial | (refine ⟨rfl, ?_⟩) | (refine ⟨gS rfl (by omega), ?_⟩)))) (by (repeat (first | exact Ext.refl | (refine Ext.cons rfl ?_)))) (by (repeat (first | exact Sub.nil | exact Sub.all | (apply Sub.cons; (focus ((repeat (first | exact Rem.head | apply Rem.tail)); done))) | (apply Sub.row; (focus ((repeat (first | exact Rem.head | apply Rem.tail)); done)); (focus (first | with_reducible rfl | assumption | omega | (simp; done) | (simp [Nat.mul_comm]; done) | (simp; omega))); (focus (first | with_reducible rfl | assumption | omega | (simp; done) | (simp [Nat.mul_comm]; done) | (simp; omega))); (focus (first | with_reducible rfl | (simp [nums]; done) | (simp [nums]; omega) | (simp; done) | (simp; omega)))) | (apply Sub.blk; (focus ((repeat (first | exact Rem.head | apply Rem.tail)); done)); (focus (first | with_reducible rfl | (simp [nums]; done) | (simp [nums]; omega) | (simp; done) | (simp; omega)))) | fail)))
              · first | exact trivial | omega
            refine AllR.cons rfl rfl rfl rfl (y_alloc rfl ze41) (fun _ => by (repeat (first | exact Sub.nil | exact Sub.all | (apply Sub.cons; (focus ((repeat (first | exact Rem.head | apply Rem.tail)); done))) | fail))) rfl ?_ ?_
            · rintro b7
              refine DW.ready [9] (by kernel_rfl) (by simp) ?_
              refine AllR.cons rfl rfl rfl rfl (y_call rfl rfl rfl en56 (fun w HW => l25Change_ct day ⟨kind, i, val⟩ y _ ⟨by omega, by omega⟩ ⟨by omega, by omega⟩ ⟨by omega, by omega⟩ hvv)) (fun _ => by (repeat (first | exact Sub.nil | exact Sub.all | (apply Sub.cons; (focus ((repeat (first | exact Rem.head | apply Rem.tail)); done))) | fail))) rfl ?_ AllR.nil
              rintro ⟨⟩
              refine DW.take 10 rfl rfl (by kernel_rfl) (by kernel_rfl) (by kernel_rfl) (by kernel_rfl) (by kernel_rfl) rfl (fun _ _ _ h => nomatch h.1) rfl (by (repeat (first | exact Sub.nil | exact Sub.all | (apply Sub.cons; (focus ((repeat (first | exact Rem.head | apply Rem.tail)); done))) | fail))) (x_move rfl rfl) rfl ?_
              refine DW.take 11 rfl rfl (by kernel_rfl) (by kernel_rfl) (by kernel_rfl) (by kernel_rfl) (by kernel_rfl) rfl (fun _ _ _ h => nomatch h.1) rfl (by (repeat (first | exact Sub.nil | exact Sub.all | (apply Sub.cons; (focus ((repeat (first | exact Rem.head | apply Rem.tail)); done))) | fail))) (x_extract rfl rfl rfl) rfl ?_
              refine DW.take 12 rfl rfl (by kernel_rfl) (by kernel_rfl) (by kernel_rfl) (by kernel_rfl) (by kernel_rfl) rfl (fun _ _ _ h => nomatch h.1) rfl (by (repeat (first | exact Sub.nil | exact Sub.all | (apply Sub.cons; (focus ((repeat (first | exact Rem.head | apply Rem.tail)); done))) | fail))) (x_extract rfl rfl rfl) rfl ?_
              refine DW.ready [14] (by kernel_rfl) (by simp) ?_
              refine AllR.cons0 rfl rfl rfl (y_storeB0 rfl rfl rfl rfl ty41 rfl (by (repeat (first | exact Rem.head | apply Rem.tail)); done) rfl) (fun _ => by (repeat (first | exact Sub.nil | exact Sub.all | (apply Sub.cons; (focus ((repeat (first | exact Rem.head | apply Rem.tail)); done))) | fail))) rfl ?_ AllR.nil
              intro _u
              refine DW.take 15 rfl rfl (by kernel_rfl) (by kernel_rfl) (by kernel_rfl) (by kernel_rfl) (by kernel_rfl) rfl (fun _ _ _ h => nomatch h.1) rfl (by (repeat (first | exact Sub.nil | exact Sub.all | (apply Sub.cons; (focus ((repeat (first | exact Rem.head | apply Rem.tail)); done))) | fail))) (x_assign rfl rfl) rfl ?_
              refine DW.done (by kernel_rfl) ?_
              refine QW.cutEndC1 (b7) ?_ (by (repeat (first | exact trivial | (refine ⟨rfl, ?_⟩) | (refine ⟨gS rfl (by omega), ?_⟩)))) (by (repeat (first | exact Ext.refl | (refine Ext.cons rfl ?_)))) (by (repeat (first | exact Sub.nil | exact Sub.all | (apply Sub.cons; (focus ((repeat (first | exact Rem.head | apply Rem.tail)); done))) | (apply Sub.row; (focus ((repeat (first | exact Rem.head | apply Rem.tail)); done)); (focus (first | with_reducible rfl | assumption | omega | (simp; done) | (simp [Nat.mul_comm]; done) | (simp; omega))); (focus (first | with_reducible rfl | assumption | omega | (simp; done) | (simp [Nat.mul_comm]; done) | (simp; omega))); (focus (first | with_reducible rfl | (simp [nums]; done) | (simp [nums]; omega) | (simp; done) | (simp; omega)))) | (apply Sub.blk; (focus ((repeat (first | exact Rem.head | apply Rem.tail)); done)); (focus (first | with_reducible rfl | (simp [nums]; done) | (simp [nums]; omega) | (simp; done) | (simp; omega)))) | fail)))
              · first | exact trivial | omega
            exact AllR.nil
          · intro b _
            refine QW.thenC (CW.seq (CW.region ?_))
            refine LW.open_ (e := 41) (sz := 5) (A := A1) (m := xs.length) (c := c1) (n' := xs.length) (cs := flat cpL xs) (by (repeat (first | exact Rem.head | apply Rem.tail)); done) (by rw [flat_len cpLen]; omega) ?_
            rintro gg rfl
            refine LW.val rfl rfl rfl (x_fieldAddr rfl rfl fl31_2 rfl) ?_
            refine LW.val rfl rfl rfl (x_loadB rfl rfl ty29 (by (repeat (first | exact Rem.head | apply Rem.tail)); done) (by exact rfl)) ?_
            refine LW.val rfl rfl rfl (x_fieldAddr rfl rfl fl37_1 rfl) ?_
            refine LW.val rfl rfl rfl (x_loadB rfl rfl ty3 (by (repeat (first | exact Rem.head | apply Rem.tail)); done) (by exact rfl)) ?_
            refine LW.val rfl rfl rfl (x_loadB0 (cs := cpL (chS day ⟨kind, i, val⟩ y)) rfl rfl ty41 (by (repeat (first | exact Rem.head | apply Rem.tail)); done) rfl) ?_
            refine LW.val rfl rfl rfl (x_idxN rfl rfl rfl el29 (by omega)) ?_
            refine LW.op0 rfl rfl (y_storeON (z' := chS day ⟨kind, i, val⟩ y) cpLen rfl rfl rfl rfl ty41 (by (repeat (first | exact Rem.head | apply Rem.tail)); done) hi) ?_
            rintro ⟨⟩
            obtain ⟨zs, hz⟩ : ∃ zs, xs.set i (chS day ⟨kind, i, val⟩ y) = zs := ⟨_, rfl⟩
            have hzl : zs.length = xs.length := by rw [← hz, List.length_set]
            rw [hz] at hr
            refine LW.re (rowCp (some ⟨gg, 0, none⟩) zs.length c1 zs) (f := rowCp (some ⟨gg, 0, none⟩) xs.length c1 (xs.set i (chS day ⟨kind, i, val⟩ y))) (by (repeat (first | exact Rem.head | apply Rem.tail)); done) (by rw [hz, hzl]) ?_
            refine LW.re (.blk b6 (shL day looms (money + val) (some ⟨gg, 0, none⟩) zs.length c1) 31) (f := .blk b6 (shL day looms (money + val) (some ⟨gg, 0, none⟩) xs.length c1) 31) (by (repeat (first | exact Rem.head | apply Rem.tail)); done) (by rw [hzl]) ?_
            refine LW.nil (QW.thenC (CW.seq ?_))
            refine CW.draw [] ([.blk b6 (shL day looms ((money + val)) (some ⟨gg, 0, none⟩) zs.length c1) 31, rowCp (some ⟨gg, 0, none⟩) zs.length c1 zs]) follows ?_
            refine DW.take 0 rfl rfl (by kernel_rfl) (by kernel_rfl) (by kernel_rfl) (by kernel_rfl) (by kernel_rfl) rfl (fun _ _ _ h => h) rfl (by (repeat (first | exact Sub.nil | exact Sub.all | (apply Sub.cons; (focus ((repeat (first | exact Rem.head | apply Rem.tail)); done))) | fail))) (x_loadB0 rfl rfl ty31 (by (repeat (first | exact Rem.head | apply Rem.tail)); done) rfl) rfl ?_
            refine DW.take 1 rfl rfl (by kernel_rfl) (by kernel_rfl) (by kernel_rfl) (by kernel_rfl) (by kernel_rfl) rfl (fun _ _ _ h => h) rfl (by (repeat (first | exact Sub.nil | exact Sub.all | (apply Sub.cons; (focus ((repeat (first | exact Rem.head | apply Rem.tail)); done))) | fail))) (x_move rfl rfl) rfl ?_
            refine DW.take 2 rfl rfl (by kernel_rfl) (by kernel_rfl) (by kernel_rfl) (by kernel_rfl) (by kernel_rfl) rfl (fun _ _ _ h => h) rfl (by (repeat (first | exact Sub.nil | exact Sub.all | (apply Sub.cons; (focus ((repeat (first | exact Rem.head | apply Rem.tail)); done))) | fail))) (x_move rfl rfl) rfl ?_
            refine DW.split (t := 80) rfl (fun e1 => ?_) (fun e1 => ?_)
            · refine DW.takeG 3 rfl rfl rfl rfl (by kernel_rfl) (by kernel_rfl) (by kernel_rfl) (by kernel_rfl) (by kernel_rfl) rfl (fun _ _ _ h => h) rfl (by (repeat (first | exact Sub.nil | exact Sub.all | (apply Sub.cons; (focus ((repeat (first | exact Rem.head | apply Rem.tail)); done))) | fail))) (x_loadB0 rfl rfl ty31 (by (repeat (first | exact Rem.head | apply Rem.tail)); done) rfl) rfl ?_
              refine DW.ready [4] (by kernel_rfl) (by simp) ?_
              refine AllR.consG rfl rfl rfl rfl rfl rfl (y_call rfl rfl rfl en31 (fun w HW => l25Good_ct day looms ((money + val)) zs (some ⟨gg, 0, none⟩) c1 _ (SH.rdR (by (repeat (first | exact Rem.head | apply Rem.tail)); done) (by omega) HW))) (fun _ => by (repeat (first | exact Sub.nil | exact Sub.all | (apply Sub.cons; (focus ((repeat (first | exact Rem.head | apply Rem.tail)); done))) | fail))) rfl ?_ AllR.nil
              rintro ⟨⟩
              refine DW.take 5 rfl rfl (by kernel_rfl) (by kernel_rfl) (by kernel_rfl) (by kernel_rfl) (by kernel_rfl) rfl (fun _ _ _ h => h) rfl (by (repeat (first | exact Sub.nil | exact Sub.all | (apply Sub.cons; (focus ((repeat (first | exact Rem.head | apply Rem.tail)); done))) | fail))) (x_pickT rfl rfl rfl) rfl ?_
              refine DW.ready [6] (by kernel_rfl) (by simp) ?_
              refine AllR.cons0 rfl rfl rfl (y_storeB0 rfl rfl rfl rfl ty31 rfl (by (repeat (first | exact Rem.head | apply Rem.tail)); done) rfl) (fun _ => by (repeat (first | exact Sub.nil | exact Sub.all | (apply Sub.cons; (focus ((repeat (first | exact Rem.head | apply Rem.tail)); done))) | fail))) rfl ?_ AllR.nil
              intro _u
              refine DW.take 7 rfl rfl (by kernel_rfl) (by kernel_rfl) (by kernel_rfl) (by kernel_rfl) (by kernel_rfl) rfl (fun _ _ _ h => h) rfl (by (repeat (first | exact Sub.nil | exact Sub.all | (apply Sub.cons; (focus ((repeat (first | exact Rem.head | apply Rem.tail)); done))) | fail))) (x_assign rfl rfl) rfl ?_
              refine DW.done (by kernel_rfl) ?_
              simp only [e1, Bool.true_and, Prod.mk.injEq] at hr
              obtain ⟨rfl, rfl, rfl, rfl⟩ := hr
              refine QW.thenC (CW.ret ?_)
              refine QW.res2 rfl (ResV.cellN rfl ty31 (by (repeat (first | exact Rem.head | apply Rem.tail)); done) (by exact rfl)) (ResV.tmp rfl) (ret_eq ((some ⟨gg, 0, none⟩, c1)) ?_ ?_)
              · first | rfl | (simp only []; rfl)
              · (repeat (first | exact Sub.nil | exact Sub.all | (apply Sub.cons; (focus ((repeat (first | exact Rem.head | apply Rem.tail)); done))) | (apply Sub.row; (focus ((repeat (first | exact Rem.head | apply Rem.tail)); done)); (focus (first | with_reducible rfl | assumption | omega | (simp; done) | (simp [Nat.mul_comm]; done) | (simp; omega))); (focus (first | with_reducible rfl | assumption | omega | (simp; done) | (simp [Nat.mul_comm]; done) | (simp; omega))); (focus (first | with_reducible rfl | (simp [nums]; done) | (simp [nums]; omega) | (simp; done) | (simp; omega)))) | (apply Sub.blk; (focus ((repeat (first | exact Rem.head | apply Rem.tail)); done)); (focus (first | with_reducible rfl | (simp [nums]; done) | (simp [nums]; omega) | (simp; done) | (simp; omega)))) | fail))
            · refine DW.takeF 3 rfl rfl rfl rfl rfl (by kernel_rfl) (by kernel_rfl) (by kernel_rfl) (by kernel_rfl) (by kernel_rfl) rfl (fun _ _ _ h => h) rfl (by (repeat (first | exact Sub.nil | exact Sub.all | (apply Sub.cons; (focus ((repeat (first | exact Rem.head | apply Rem.tail)); done))) | fail))) rfl ?_
              refine DW.ready [4] (by kernel_rfl) (by simp) ?_
              refine AllR.skipG rfl rfl rfl rfl rfl rfl rfl (by (repeat (first | exact Sub.nil | exact Sub.all | (apply Sub.cons; (focus ((repeat (first | exact Rem.head | apply Rem.tail)); done))) | fail))) rfl ?_ AllR.nil
              refine DW.take 5 rfl rfl (by kernel_rfl) (by kernel_rfl) (by kernel_rfl) (by kernel_rfl) (by kernel_rfl) rfl (fun _ _ _ h => h) rfl (by (repeat (first | exact Sub.nil | exact Sub.all | (apply Sub.cons; (focus ((repeat (first | exact Rem.head | apply Rem.tail)); done))) | fail))) (x_pickF rfl rfl rfl) rfl ?_
              refine DW.ready [6] (by kernel_rfl) (by simp) ?_
              refine AllR.cons0 rfl rfl rfl (y_storeB0 rfl rfl rfl rfl ty31 rfl (by (repeat (first | exact Rem.head | apply Rem.tail)); done) rfl) (fun _ => by (repeat (first | exact Sub.nil | exact Sub.all | (apply Sub.cons; (focus ((repeat (first | exact Rem.head | apply Rem.tail)); done))) | fail))) rfl ?_ AllR.nil
              intro _u
              refine DW.take 7 rfl rfl (by kernel_rfl) (by kernel_rfl) (by kernel_rfl) (by kernel_rfl) (by kernel_rfl) rfl (fun _ _ _ h => h) rfl (by (repeat (first | exact Sub.nil | exact Sub.all | (apply Sub.cons; (focus ((repeat (first | exact Rem.head | apply Rem.tail)); done))) | fail))) (x_assign rfl rfl) rfl ?_
              refine DW.done (by kernel_rfl) ?_
              simp only [e1, Bool.false_and, Prod.mk.injEq] at hr
              obtain ⟨rfl, rfl, rfl, rfl⟩ := hr
              refine QW.thenC (CW.ret ?_)
              refine QW.res2 rfl (ResV.cellN rfl ty31 (by (repeat (first | exact Rem.head | apply Rem.tail)); done) (by exact rfl)) (ResV.tmp rfl) (ret_eq ((some ⟨gg, 0, none⟩, c1)) ?_ ?_)
              · first | rfl | (simp only []; rfl)
              · (repeat (first | exact Sub.nil | exact Sub.all | (apply Sub.cons; (focus ((repeat (first | exact Rem.head | apply Rem.tail)); done))) | (apply Sub.row; (focus ((repeat (first | exact Rem.head | apply Rem.tail)); done)); (focus (first | with_reducible rfl | assumption | omega | (simp; done) | (simp [Nat.mul_comm]; done) | (simp; omega))); (focus (first | with_reducible rfl | assumption | omega | (simp; done) | (simp [Nat.mul_comm]; done) | (simp; omega))); (focus (first | with_reducible rfl | (simp [nums]; done) | (simp [nums]; omega) | (simp; done) | (simp; omega)))) | (apply Sub.blk; (focus ((repeat (first | exact Rem.head | apply Rem.tail)); done)); (focus (first | with_reducible rfl | (simp [nums]; done) | (simp [nums]; omega) | (simp; done) | (simp; omega)))) | fail))
      · have k7 : ¬ kind = 7 := k7
        rw [if_neg (fun h => k7 h.1), if_neg k7] at hr
        have hvv : 0 ≤ val ∧ val ≤ 1000000 := by
          simp [specSt, k1, k2, hcar, k7, inB] at hst
          split at hst
          · omega
          · split at hst
            · omega
            · omega
        refine CW.skip (QW.in_normal (QW.thenC (CW.seq ?_)))
        refine CW.cutC1 (M := []) [7, 8, 59, 60, 61, 62, 63, 64, 65, 66, 67, 68, 69, 70, 71] (fun (b : Nat) => True) (fun (b : Nat) => [(7, .pointer (some ⟨b, 0, none⟩)), (8, .bool (okS day ⟨kind, i, val⟩ y))]) (fun (b : Nat) => [.blk b (cpL (chS day ⟨kind, i, val⟩ y)) 41]) (Take.nil) ?_ ?_
        · skip
          refine CW.drawL [] follows ?_
          refine DW.take 0 rfl rfl (by kernel_rfl) (by kernel_rfl) (by kernel_rfl) (by kernel_rfl) (by kernel_rfl) rfl (fun _ _ _ h => nomatch h.1) rfl (by (repeat (first | exact Sub.nil | exact Sub.all | (apply Sub.cons; (focus ((repeat (first | exact Rem.head | apply Rem.tail)); done))) | fail))) (x_fieldAddr rfl rfl fl31_2 rfl) rfl ?_
          refine DW.take 1 rfl rfl (by kernel_rfl) (by kernel_rfl) (by kernel_rfl) (by kernel_rfl) (by kernel_rfl) rfl (fun _ _ _ h => nomatch h.1) rfl (by (repeat (first | exact Sub.nil | exact Sub.all | (apply Sub.cons; (focus ((repeat (first | exact Rem.head | apply Rem.tail)); done))) | fail))) (x_loadB rfl rfl ty29 (by (repeat (first | exact Rem.head | apply Rem.tail)); done) (by exact rfl)) rfl ?_
          refine DW.take 2 rfl rfl (by kernel_rfl) (by kernel_rfl) (by kernel_rfl) (by kernel_rfl) (by kernel_rfl) rfl (fun _ _ _ h => nomatch h.1) rfl (by (repeat (first | exact Sub.nil | exact Sub.all | (apply Sub.cons; (focus ((repeat (first | exact Rem.head | apply Rem.tail)); done))) | fail))) (x_fieldAddr rfl rfl fl37_1 rfl) rfl ?_
          refine DW.take 3 rfl rfl (by kernel_rfl) (by kernel_rfl) (by kernel_rfl) (by kernel_rfl) (by kernel_rfl) rfl (fun _ _ _ h => nomatch h.1) rfl (by (repeat (first | exact Sub.nil | exact Sub.all | (apply Sub.cons; (focus ((repeat (first | exact Rem.head | apply Rem.tail)); done))) | fail))) (x_loadB rfl rfl ty3 (by (repeat (first | exact Rem.head | apply Rem.tail)); done) (by exact rfl)) rfl ?_
          refine DW.take 4 rfl rfl (by kernel_rfl) (by kernel_rfl) (by kernel_rfl) (by kernel_rfl) (by kernel_rfl) rfl (fun _ _ _ h => nomatch h.1) rfl (by (repeat (first | exact Sub.nil | exact Sub.all | (apply Sub.cons; (focus ((repeat (first | exact Rem.head | apply Rem.tail)); done))) | fail))) (x_idxN rfl rfl rfl el29 (by omega)) rfl ?_
          refine DW.take 5 rfl rfl (by kernel_rfl) (by kernel_rfl) (by kernel_rfl) (by kernel_rfl) (by kernel_rfl) rfl (fun _ _ _ h => nomatch h.1) rfl (by (repeat (first | exact Sub.nil | exact Sub.all | (apply Sub.cons; (focus ((repeat (first | exact Rem.head | apply Rem.tail)); done))) | fail))) (x_loadF (y := y) hR (by simp) cpLen rfl rfl ty41 (by simp [hi, hy])) rfl ?_
          refine DW.take 6 rfl rfl (by kernel_rfl) (by kernel_rfl) (by kernel_rfl) (by kernel_rfl) (by kernel_rfl) rfl (fun _ _ _ h => nomatch h.1) rfl (by (repeat (first | exact Sub.nil | exact Sub.all | (apply Sub.cons; (focus ((repeat (first | exact Rem.head | apply Rem.tail)); done))) | fail))) (x_loadB0 rfl rfl ty37 (by (repeat (first | exact Rem.head | apply Rem.tail)); done) rfl) rfl ?_
          refine DW.take 7 rfl rfl (by kernel_rfl) (by kernel_rfl) (by kernel_rfl) (by kernel_rfl) (by kernel_rfl) rfl (fun _ _ _ h => nomatch h.1) rfl (by (repeat (first | exact Sub.nil | exact Sub.all | (apply Sub.cons; (focus ((repeat (first | exact Rem.head | apply Rem.tail)); done))) | fail))) (x_fieldAddr rfl rfl fl31_0 rfl) rfl ?_
          refine DW.take 8 rfl rfl (by kernel_rfl) (by kernel_rfl) (by kernel_rfl) (by kernel_rfl) (by kernel_rfl) rfl (fun _ _ _ h => nomatch h.1) rfl (by (repeat (first | exact Sub.nil | exact Sub.all | (apply Sub.cons; (focus ((repeat (first | exact Rem.head | apply Rem.tail)); done))) | fail))) (x_loadB rfl rfl ty3 (by (repeat (first | exact Rem.head | apply Rem.tail)); done) (by exact rfl)) rfl ?_
          refine DW.ready [9, 13] (by kernel_rfl) (by simp) ?_
          refine AllR.cons rfl rfl rfl rfl (y_call rfl rfl rfl en56 (fun w HW => l25Change_ct day ⟨kind, i, val⟩ y _ ⟨by omega, by omega⟩ ⟨by omega, by omega⟩ ⟨by omega, by omega⟩ hvv)) (fun _ => by (repeat (first | exact Sub.nil | exact Sub.all | (apply Sub.cons; (focus ((repeat (first | exact Rem.head | apply Rem.tail)); done))) | fail))) rfl ?_ ?_
          · rintro ⟨⟩
            refine DW.take 10 rfl rfl (by kernel_rfl) (by kernel_rfl) (by kernel_rfl) (by kernel_rfl) (by kernel_rfl) rfl (fun _ _ _ h => nomatch h.1) rfl (by (repeat (first | exact Sub.nil | exact Sub.all | (apply Sub.cons; (focus ((repeat (first | exact Rem.head | apply Rem.tail)); done))) | fail))) (x_move rfl rfl) rfl ?_
            refine DW.take 11 rfl rfl (by kernel_rfl) (by kernel_rfl) (by kernel_rfl) (by kernel_rfl) (by kernel_rfl) rfl (fun _ _ _ h => nomatch h.1) rfl (by (repeat (first | exact Sub.nil | exact Sub.all | (apply Sub.cons; (focus ((repeat (first | exact Rem.head | apply Rem.tail)); done))) | fail))) (x_extract rfl rfl rfl) rfl ?_
            refine DW.take 12 rfl rfl (by kernel_rfl) (by kernel_rfl) (by kernel_rfl) (by kernel_rfl) (by kernel_rfl) rfl (fun _ _ _ h => nomatch h.1) rfl (by (repeat (first | exact Sub.nil | exact Sub.all | (apply Sub.cons; (focus ((repeat (first | exact Rem.head | apply Rem.tail)); done))) | fail))) (x_extract rfl rfl rfl) rfl ?_
            refine DW.ready [13] (by kernel_rfl) (by simp) ?_
            refine AllR.cons rfl rfl rfl rfl (y_alloc rfl ze41) (fun _ => by (repeat (first | exact Sub.nil | exact Sub.all | (apply Sub.cons; (focus ((repeat (first | exact Rem.head | apply Rem.tail)); done))) | fail))) rfl ?_ AllR.nil
            rintro b7
            refine DW.ready [14] (by kernel_rfl) (by simp) ?_
            refine AllR.cons0 rfl rfl rfl (y_storeB0 rfl rfl rfl rfl ty41 rfl (by (repeat (first | exact Rem.head | apply Rem.tail)); done) rfl) (fun _ => by (repeat (first | exact Sub.nil | exact Sub.all | (apply Sub.cons; (focus ((repeat (first | exact Rem.head | apply Rem.tail)); done))) | fail))) rfl ?_ AllR.nil
            intro _u
            refine DW.take 15 rfl rfl (by kernel_rfl) (by kernel_rfl) (by kernel_rfl) (by kernel_rfl) (by kernel_rfl) rfl (fun _ _ _ h => nomatch h.1) rfl (by (repeat (first | exact Sub.nil | exact Sub.all | (apply Sub.cons; (focus ((repeat (first | exact Rem.head | apply Rem.tail)); done))) | fail))) (x_assign rfl rfl) rfl ?_
            refine DW.done (by kernel_rfl) ?_
            refine QW.cutEndC1 (b7) ?_ (by (repeat (first | exact trivial | (refine ⟨rfl, ?_⟩) | (refine ⟨gS rfl (by omega), ?_⟩)))) (by (repeat (first | exact Ext.refl | (refine Ext.cons rfl ?_)))) (by (repeat (first | exact Sub.nil | exact Sub.all | (apply Sub.cons; (focus ((repeat (first | exact Rem.head | apply Rem.tail)); done))) | (apply Sub.row; (focus ((repeat (first | exact Rem.head | apply Rem.tail)); done)); (focus (first | with_reducible rfl | assumption | omega | (simp; done) | (simp [Nat.mul_comm]; done) | (simp; omega))); (focus (first | with_reducible rfl | assumption | omega | (simp; done) | (simp [Nat.mul_comm]; done) | (simp; omega))); (focus (first | with_reducible rfl | (simp [nums]; done) | (simp [nums]; omega) | (simp; done) | (simp; omega)))) | (apply Sub.blk; (focus ((repeat (first | exact Rem.head | apply Rem.tail)); done)); (focus (first | with_reducible rfl | (simp [nums]; done) | (simp [nums]; omega) | (simp; done) | (simp; omega)))) | fail)))
            · first | exact trivial | omega
          refine AllR.cons rfl rfl rfl rfl (y_alloc rfl ze41) (fun _ => by (repeat (first | exact Sub.nil | exact Sub.all | (apply Sub.cons; (focus ((repeat (first | exact Rem.head | apply Rem.tail)); done))) | fail))) rfl ?_ ?_
          · rintro b7
            refine DW.ready [9] (by kernel_rfl) (by simp) ?_
            refine AllR.cons rfl rfl rfl rfl (y_call rfl rfl rfl en56 (fun w HW => l25Change_ct day ⟨kind, i, val⟩ y _ ⟨by omega, by omega⟩ ⟨by omega, by omega⟩ ⟨by omega, by omega⟩ hvv)) (fun _ => by (repeat (first | exact Sub.nil | exact Sub.all | (apply Sub.cons; (focus ((repeat (first | exact Rem.head | apply Rem.tail)); done))) | fail))) rfl ?_ AllR.nil
            rintro ⟨⟩
            refine DW.take 10 rfl rfl (by kernel_rfl) (by kernel_rfl) (by kernel_rfl) (by kernel_rfl) (by kernel_rfl) rfl (fun _ _ _ h => nomatch h.1) rfl (by (repeat (first | exact Sub.nil | exact Sub.all | (apply Sub.cons; (focus ((repeat (first | exact Rem.head | apply Rem.tail)); done))) | fail))) (x_move rfl rfl) rfl ?_
            refine DW.take 11 rfl rfl (by kernel_rfl) (by kernel_rfl) (by kernel_rfl) (by kernel_rfl) (by kernel_rfl) rfl (fun _ _ _ h => nomatch h.1) rfl (by (repeat (first | exact Sub.nil | exact Sub.all | (apply Sub.cons; (focus ((repeat (first | exact Rem.head | apply Rem.tail)); done))) | fail))) (x_extract rfl rfl rfl) rfl ?_
            refine DW.take 12 rfl rfl (by kernel_rfl) (by kernel_rfl) (by kernel_rfl) (by kernel_rfl) (by kernel_rfl) rfl (fun _ _ _ h => nomatch h.1) rfl (by (repeat (first | exact Sub.nil | exact Sub.all | (apply Sub.cons; (focus ((repeat (first | exact Rem.head | apply Rem.tail)); done))) | fail))) (x_extract rfl rfl rfl) rfl ?_
            refine DW.ready [14] (by kernel_rfl) (by simp) ?_
            refine AllR.cons0 rfl rfl rfl (y_storeB0 rfl rfl rfl rfl ty41 rfl (by (repeat (first | exact Rem.head | apply Rem.tail)); done) rfl) (fun _ => by (repeat (first | exact Sub.nil | exact Sub.all | (apply Sub.cons; (focus ((repeat (first | exact Rem.head | apply Rem.tail)); done))) | fail))) rfl ?_ AllR.nil
            intro _u
            refine DW.take 15 rfl rfl (by kernel_rfl) (by kernel_rfl) (by kernel_rfl) (by kernel_rfl) (by kernel_rfl) rfl (fun _ _ _ h => nomatch h.1) rfl (by (repeat (first | exact Sub.nil | exact Sub.all | (apply Sub.cons; (focus ((repeat (first | exact Rem.head | apply Rem.tail)); done))) | fail))) (x_assign rfl rfl) rfl ?_
            refine DW.done (by kernel_rfl) ?_
            refine QW.cutEndC1 (b7) ?_ (by (repeat (first | exact trivial | (refine ⟨rfl, ?_⟩) | (refine ⟨gS rfl (by omega), ?_⟩)))) (by (repeat (first | exact Ext.refl | (refine Ext.cons rfl ?_)))) (by (repeat (first | exact Sub.nil | exact Sub.all | (apply Sub.cons; (focus ((repeat (first | exact Rem.head | apply Rem.tail)); done))) | (apply Sub.row; (focus ((repeat (first | exact Rem.head | apply Rem.tail)); done)); (focus (first | with_reducible rfl | assumption | omega | (simp; done) | (simp [Nat.mul_comm]; done) | (simp; omega))); (focus (first | with_reducible rfl | assumption | omega | (simp; done) | (simp [Nat.mul_comm]; done) | (simp; omega))); (focus (first | with_reducible rfl | (simp [nums]; done) | (simp [nums]; omega) | (simp; done) | (simp; omega)))) | (apply Sub.blk; (focus ((repeat (first | exact Rem.head | apply Rem.tail)); done)); (focus (first | with_reducible rfl | (simp [nums]; done) | (simp [nums]; omega) | (simp; done) | (simp; omega)))) | fail)))
            · first | exact trivial | omega
          exact AllR.nil
        · intro b _
          refine QW.thenC (CW.seq (CW.region ?_))
          refine LW.open_ (e := 41) (sz := 5) (A := A1) (m := xs.length) (c := c1) (n' := xs.length) (cs := flat cpL xs) (by (repeat (first | exact Rem.head | apply Rem.tail)); done) (by rw [flat_len cpLen]; omega) ?_
          rintro gg rfl
          refine LW.val rfl rfl rfl (x_fieldAddr rfl rfl fl31_2 rfl) ?_
          refine LW.val rfl rfl rfl (x_loadB rfl rfl ty29 (by (repeat (first | exact Rem.head | apply Rem.tail)); done) (by exact rfl)) ?_
          refine LW.val rfl rfl rfl (x_fieldAddr rfl rfl fl37_1 rfl) ?_
          refine LW.val rfl rfl rfl (x_loadB rfl rfl ty3 (by (repeat (first | exact Rem.head | apply Rem.tail)); done) (by exact rfl)) ?_
          refine LW.val rfl rfl rfl (x_loadB0 (cs := cpL (chS day ⟨kind, i, val⟩ y)) rfl rfl ty41 (by (repeat (first | exact Rem.head | apply Rem.tail)); done) rfl) ?_
          refine LW.val rfl rfl rfl (x_idxN rfl rfl rfl el29 (by omega)) ?_
          refine LW.op0 rfl rfl (y_storeON (z' := chS day ⟨kind, i, val⟩ y) cpLen rfl rfl rfl rfl ty41 (by (repeat (first | exact Rem.head | apply Rem.tail)); done) hi) ?_
          rintro ⟨⟩
          obtain ⟨zs, hz⟩ : ∃ zs, xs.set i (chS day ⟨kind, i, val⟩ y) = zs := ⟨_, rfl⟩
          have hzl : zs.length = xs.length := by rw [← hz, List.length_set]
          rw [hz] at hr
          refine LW.re (rowCp (some ⟨gg, 0, none⟩) zs.length c1 zs) (f := rowCp (some ⟨gg, 0, none⟩) xs.length c1 (xs.set i (chS day ⟨kind, i, val⟩ y))) (by (repeat (first | exact Rem.head | apply Rem.tail)); done) (by rw [hz, hzl]) ?_
          refine LW.re (.blk b6 (shL day looms money (some ⟨gg, 0, none⟩) zs.length c1) 31) (f := .blk b6 (shL day looms money (some ⟨gg, 0, none⟩) xs.length c1) 31) (by (repeat (first | exact Rem.head | apply Rem.tail)); done) (by rw [hzl]) ?_
          refine LW.nil (QW.thenC (CW.seq ?_))
          refine CW.draw [] ([.blk b6 (shL day looms (money) (some ⟨gg, 0, none⟩) zs.length c1) 31, rowCp (some ⟨gg, 0, none⟩) zs.length c1 zs]) follows ?_
          refine DW.take 0 rfl rfl (by kernel_rfl) (by kernel_rfl) (by kernel_rfl) (by kernel_rfl) (by kernel_rfl) rfl (fun _ _ _ h => h) rfl (by (repeat (first | exact Sub.nil | exact Sub.all | (apply Sub.cons; (focus ((repeat (first | exact Rem.head | apply Rem.tail)); done))) | fail))) (x_loadB0 rfl rfl ty31 (by (repeat (first | exact Rem.head | apply Rem.tail)); done) rfl) rfl ?_
          refine DW.take 1 rfl rfl (by kernel_rfl) (by kernel_rfl) (by kernel_rfl) (by kernel_rfl) (by kernel_rfl) rfl (fun _ _ _ h => h) rfl (by (repeat (first | exact Sub.nil | exact Sub.all | (apply Sub.cons; (focus ((repeat (first | exact Rem.head | apply Rem.tail)); done))) | fail))) (x_move rfl rfl) rfl ?_
          refine DW.take 2 rfl rfl (by kernel_rfl) (by kernel_rfl) (by kernel_rfl) (by kernel_rfl) (by kernel_rfl) rfl (fun _ _ _ h => h) rfl (by (repeat (first | exact Sub.nil | exact Sub.all | (apply Sub.cons; (focus ((repeat (first | exact Rem.head | apply Rem.tail)); done))) | fail))) (x_move rfl rfl) rfl ?_
          refine DW.split (t := 80) rfl (fun e1 => ?_) (fun e1 => ?_)
          · refine DW.takeG 3 rfl rfl rfl rfl (by kernel_rfl) (by kernel_rfl) (by kernel_rfl) (by kernel_rfl) (by kernel_rfl) rfl (fun _ _ _ h => h) rfl (by (repeat (first | exact Sub.nil | exact Sub.all | (apply Sub.cons; (focus ((repeat (first | exact Rem.head | apply Rem.tail)); done))) | fail))) (x_loadB0 rfl rfl ty31 (by (repeat (first | exact Rem.head | apply Rem.tail)); done) rfl) rfl ?_
            refine DW.ready [4] (by kernel_rfl) (by simp) ?_
            refine AllR.consG rfl rfl rfl rfl rfl rfl (y_call rfl rfl rfl en31 (fun w HW => l25Good_ct day looms (money) zs (some ⟨gg, 0, none⟩) c1 _ (SH.rdR (by (repeat (first | exact Rem.head | apply Rem.tail)); done) (by omega) HW))) (fun _ => by (repeat (first | exact Sub.nil | exact Sub.all | (apply Sub.cons; (focus ((repeat (first | exact Rem.head | apply Rem.tail)); done))) | fail))) rfl ?_ AllR.nil
            rintro ⟨⟩
            refine DW.take 5 rfl rfl (by kernel_rfl) (by kernel_rfl) (by kernel_rfl) (by kernel_rfl) (by kernel_rfl) rfl (fun _ _ _ h => h) rfl (by (repeat (first | exact Sub.nil | exact Sub.all | (apply Sub.cons; (focus ((repeat (first | exact Rem.head | apply Rem.tail)); done))) | fail))) (x_pickT rfl rfl rfl) rfl ?_
            refine DW.ready [6] (by kernel_rfl) (by simp) ?_
            refine AllR.cons0 rfl rfl rfl (y_storeB0 rfl rfl rfl rfl ty31 rfl (by (repeat (first | exact Rem.head | apply Rem.tail)); done) rfl) (fun _ => by (repeat (first | exact Sub.nil | exact Sub.all | (apply Sub.cons; (focus ((repeat (first | exact Rem.head | apply Rem.tail)); done))) | fail))) rfl ?_ AllR.nil
            intro _u
            refine DW.take 7 rfl rfl (by kernel_rfl) (by kernel_rfl) (by kernel_rfl) (by kernel_rfl) (by kernel_rfl) rfl (fun _ _ _ h => h) rfl (by (repeat (first | exact Sub.nil | exact Sub.all | (apply Sub.cons; (focus ((repeat (first | exact Rem.head | apply Rem.tail)); done))) | fail))) (x_assign rfl rfl) rfl ?_
            refine DW.done (by kernel_rfl) ?_
            simp only [e1, Bool.true_and, Prod.mk.injEq] at hr
            obtain ⟨rfl, rfl, rfl, rfl⟩ := hr
            refine QW.thenC (CW.ret ?_)
            refine QW.res2 rfl (ResV.cellN rfl ty31 (by (repeat (first | exact Rem.head | apply Rem.tail)); done) (by exact rfl)) (ResV.tmp rfl) (ret_eq ((some ⟨gg, 0, none⟩, c1)) ?_ ?_)
            · first | rfl | (simp only []; rfl)
            · (repeat (first | exact Sub.nil | exact Sub.all | (apply Sub.cons; (focus ((repeat (first | exact Rem.head | apply Rem.tail)); done))) | (apply Sub.row; (focus ((repeat (first | exact Rem.head | apply Rem.tail)); done)); (focus (first | with_reducible rfl | assumption | omega | (simp; done) | (simp [Nat.mul_comm]; done) | (simp; omega))); (focus (first | with_reducible rfl | assumption | omega | (simp; done) | (simp [Nat.mul_comm]; done) | (simp; omega))); (focus (first | with_reducible rfl | (simp [nums]; done) | (simp [nums]; omega) | (simp; done) | (simp; omega)))) | (apply Sub.blk; (focus ((repeat (first | exact Rem.head | apply Rem.tail)); done)); (focus (first | with_reducible rfl | (simp [nums]; done) | (simp [nums]; omega) | (simp; done) | (simp; omega)))) | fail))
          · refine DW.takeF 3 rfl rfl rfl rfl rfl (by kernel_rfl) (by kernel_rfl) (by kernel_rfl) (by kernel_rfl) (by kernel_rfl) rfl (fun _ _ _ h => h) rfl (by (repeat (first | exact Sub.nil | exact Sub.all | (apply Sub.cons; (focus ((repeat (first | exact Rem.head | apply Rem.tail)); done))) | fail))) rfl ?_
            refine DW.ready [4] (by kernel_rfl) (by simp) ?_
            refine AllR.skipG rfl rfl rfl rfl rfl rfl rfl (by (repeat (first | exact Sub.nil | exact Sub.all | (apply Sub.cons; (focus ((repeat (first | exact Rem.head | apply Rem.tail)); done))) | fail))) rfl ?_ AllR.nil
            refine DW.take 5 rfl rfl (by kernel_rfl) (by kernel_rfl) (by kernel_rfl) (by kernel_rfl) (by kernel_rfl) rfl (fun _ _ _ h => h) rfl (by (repeat (first | exact Sub.nil | exact Sub.all | (apply Sub.cons; (focus ((repeat (first | exact Rem.head | apply Rem.tail)); done))) | fail))) (x_pickF rfl rfl rfl) rfl ?_
            refine DW.ready [6] (by kernel_rfl) (by simp) ?_
            refine AllR.cons0 rfl rfl rfl (y_storeB0 rfl rfl rfl rfl ty31 rfl (by (repeat (first | exact Rem.head | apply Rem.tail)); done) rfl) (fun _ => by (repeat (first | exact Sub.nil | exact Sub.all | (apply Sub.cons; (focus ((repeat (first | exact Rem.head | apply Rem.tail)); done))) | fail))) rfl ?_ AllR.nil
            intro _u
            refine DW.take 7 rfl rfl (by kernel_rfl) (by kernel_rfl) (by kernel_rfl) (by kernel_rfl) (by kernel_rfl) rfl (fun _ _ _ h => h) rfl (by (repeat (first | exact Sub.nil | exact Sub.all | (apply Sub.cons; (focus ((repeat (first | exact Rem.head | apply Rem.tail)); done))) | fail))) (x_assign rfl rfl) rfl ?_
            refine DW.done (by kernel_rfl) ?_
            simp only [e1, Bool.false_and, Prod.mk.injEq] at hr
            obtain ⟨rfl, rfl, rfl, rfl⟩ := hr
            refine QW.thenC (CW.ret ?_)
            refine QW.res2 rfl (ResV.cellN rfl ty31 (by (repeat (first | exact Rem.head | apply Rem.tail)); done) (by exact rfl)) (ResV.tmp rfl) (ret_eq ((some ⟨gg, 0, none⟩, c1)) ?_ ?_)
            · first | rfl | (simp only []; rfl)
            · (repeat (first | exact Sub.nil | exact Sub.all | (apply Sub.cons; (focus ((repeat (first | exact Rem.head | apply Rem.tail)); done))) | (apply Sub.row; (focus ((repeat (first | exact Rem.head | apply Rem.tail)); done)); (focus (first | with_reducible rfl | assumption | omega | (simp; done) | (simp [Nat.mul_comm]; done) | (simp; omega))); (focus (first | with_reducible rfl | assumption | omega | (simp; done) | (simp [Nat.mul_comm]; done) | (simp; omega))); (focus (first | with_reducible rfl | (simp [nums]; done) | (simp [nums]; omega) | (simp; done) | (simp; omega)))) | (apply Sub.blk; (focus ((repeat (first | exact Rem.head | apply Rem.tail)); done)); (focus (first | with_reducible rfl | (simp [nums]; done) | (simp [nums]; omega) | (simp; done) | (simp; omega)))) | fail))
end Go.Proofs.Ytbgjlojnbdnoaaa
