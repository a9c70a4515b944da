/- The workshop: what a carpet and a shop are; the small functions. -/
import Derived.Test.YtbgjlojnbdnoaaaPure
namespace Go.Proofs.Ytbgjlojnbdnoaaa
open Go.RowKit
set_option linter.unusedVariables false
set_option linter.unusedSimpArgs false
structure Cp where
  rows : Int
  made : Int
  state : Int
  loom : Int
  since : Int
def cpL (c : Cp) : List Value := [.int .i64 c.rows, .int .i64 c.made, .int .i64 c.state, .int .i64 c.loom, .int .i64 c.since]
theorem cpLen (c : Cp) : (cpL c).length = 5 := rfl
theorem cpOne (c : Cp) : (cpL c).all Value.oneCell' = true := rfl
structure Sp where
  kind : Int
  car : Int
  val : Int
def spL (x : Sp) : List Value := [.int .i64 x.kind, .int .i64 x.car, .int .i64 x.val]
theorem spLen (c : Sp) : (spL c).length = 3 := rfl
/-- a shop -/
abbrev shV (day looms money : Int) (A : Option Addr) (m c : Nat) : Value := .agg #[.int .i64 day, .int .i64 looms, .slice A m c, .int .i64 money]
abbrev shL (day looms money : Int) (A : Option Addr) (m c : Nat) : List Value := [.int .i64 day, .int .i64 looms, .slice A m c, .int .i64 money]
abbrev RdC (w : World) (A : Option Addr) (c : Nat) (xs : List Cp) : Prop := RdR w A xs.length c 40 5 (flat cpL xs)
abbrev rowCp (A : Option Addr) (m c : Nat) (xs : List Cp) : Fct := .row 41 5 (.slice A m c) m (flat cpL xs)
def carpetOk (day looms : Int) (c : Cp) : Bool := inB c.rows 1 500 && inB c.made 0 c.rows && inB c.state 0 4 && inB c.since 0 day && (if c.state = 0 then decide (c.made = 0) && decide (c.loom = 0) else if c.state = 1 then inB c.loom 1 looms else decide (c.made = c.rows) && decide (c.loom = 0))
def onL (loom : Int) (c : Cp) : Bool := decide (c.state = 1) && decide (c.loom = loom)
theorem RdC.some {w : World} {A : Option Addr} {c i : Nat} {xs : List Cp} (h : RdC w A c xs) (hi : i < xs.length) : ∃ ad, A = some ad := by
  have : i * 5 < (flat cpL xs).length := by rw [h.len]; omega
  obtain ⟨ad, e, _⟩ := h.at_ (i * 5) _ (by rw [List.getElem?_eq_getElem this])
  exact ⟨ad, e⟩

theorem isDay_ct (n : Int) (w : World) : Calls Try.prog 38 #[.int .i64 n] w (Ret (fun _ : Unit => .bool (inB n 0 4000)) (fun _ => []) w) := by
  refine enter Try.func38 rfl rfl Try.ntmps38 rfl ?_
  refine CW.seq (CW.region ?_)
  refine LW.val rfl rfl rfl (x_assign rfl rfl) ?_
  refine LW.nil (QW.thenC (CW.seq (CW.region ?_)))
  refine LW.val rfl rfl rfl (x_move rfl rfl) ?_
  refine LW.op rfl rfl rfl (y_call rfl rfl rfl en26 (fun w HW => in_ct _ _ _ _)) ?_
  rintro ⟨⟩
  refine LW.val rfl rfl rfl (x_assign rfl rfl) ?_
  refine LW.nil (QW.thenC (CW.ret ?_))
  refine QW.res1 rfl (ResV.tmp rfl) (ret_eq (()) ?_ ?_)
  · first | rfl | (simp only []; rfl)
  · (repeat (first | exact Sub.nil | exact Sub.all | (apply Sub.cons; (focus ((repeat (first | exact Rem.head | apply Rem.tail)); done))) | (apply Sub.row; (focus ((repeat (first | exact Rem.head | apply Rem.tail)); done)); (focus (first | with_reducible rfl | assumption | omega | (simp; done) | (simp [Nat.mul_comm]; done) | (simp; omega))); (focus (first | with_reducible rfl | assumption | omega | (simp; done) | (simp [Nat.mul_comm]; done) | (simp; omega))); (focus (first | with_reducible rfl | (simp [nums]; done) | (simp [nums]; omega) | (simp; done) | (simp; omega)))) | (apply Sub.blk; (focus ((repeat (first | exact Rem.head | apply Rem.tail)); done)); (focus (first | with_reducible rfl | (simp [nums]; done) | (simp [nums]; omega) | (simp; done) | (simp; omega)))) | fail))
theorem l2Day_ct (n : Int) (w : World) : Calls Try.prog 54 #[.int .i64 n] w (Ret (fun _ : Unit => .bool (inB n 0 4000)) (fun _ => []) w) := by
  refine enter Try.func54 rfl rfl Try.ntmps54 rfl ?_
  refine CW.seq (CW.region ?_)
  refine LW.val rfl rfl rfl (x_assign rfl rfl) ?_
  refine LW.nil (QW.thenC (CW.seq (CW.region ?_)))
  refine LW.val rfl rfl rfl (x_move rfl rfl) ?_
  refine LW.op rfl rfl rfl (y_call rfl rfl rfl en44 (fun w HW => l1In_ct _ _ _ _)) ?_
  rintro ⟨⟩
  refine LW.val rfl rfl rfl (x_assign rfl rfl) ?_
  refine LW.nil (QW.thenC (CW.ret ?_))
  refine QW.res1 rfl (ResV.tmp rfl) (ret_eq (()) ?_ ?_)
  · first | rfl | (simp only []; rfl)
  · (repeat (first | exact Sub.nil | exact Sub.all | (apply Sub.cons; (focus ((repeat (first | exact Rem.head | apply Rem.tail)); done))) | (apply Sub.row; (focus ((repeat (first | exact Rem.head | apply Rem.tail)); done)); (focus (first | with_reducible rfl | assumption | omega | (simp; done) | (simp [Nat.mul_comm]; done) | (simp; omega))); (focus (first | with_reducible rfl | assumption | omega | (simp; done) | (simp [Nat.mul_comm]; done) | (simp; omega))); (focus (first | with_reducible rfl | (simp [nums]; done) | (simp [nums]; omega) | (simp; done) | (simp; omega)))) | (apply Sub.blk; (focus ((repeat (first | exact Rem.head | apply Rem.tail)); done)); (focus (first | with_reducible rfl | (simp [nums]; done) | (simp [nums]; omega) | (simp; done) | (simp; omega)))) | fail))
set_option maxRecDepth 20000 in
theorem isCarpet_ct (day looms money : Int) (A : Option Addr) (m c : Nat) (x : Cp) (w : World) : Calls Try.prog 39 #[shV day looms money A m c, .agg (cpL x).toArray] w (Ret (fun _ : Unit => .bool (carpetOk day looms x)) (fun _ => []) w) := by
  refine enter Try.func39 rfl rfl Try.ntmps39 rfl ?_
  refine CW.seq (CW.region ?_)
  refine LW.op rfl rfl rfl (y_box rfl rfl rfl) ?_
  intro b2
  refine LW.op rfl rfl rfl (y_box rfl rfl rfl) ?_
  intro b3
  refine LW.val rfl rfl rfl (x_assign rfl rfl) ?_
  refine LW.nil (QW.thenC (CW.seq (CW.seq (CW.region ?_))))
  refine LW.val rfl rfl rfl (x_fieldAddr rfl rfl fl41_0 rfl) ?_
  refine LW.val rfl rfl rfl (x_loadB rfl rfl ty3 (by (repeat (first | exact Rem.head | apply Rem.tail)); done) (by exact rfl)) ?_
  refine LW.op rfl rfl rfl (y_call rfl rfl rfl en26 (fun w HW => in_ct _ _ _ _)) ?_
  rintro ⟨⟩
  refine LW.val rfl rfl rfl (x_not rfl rfl) ?_
  refine LW.val rfl rfl rfl (x_move rfl rfl) ?_
  refine LW.split (t := 9) rfl (fun h9 => ?_) (fun h9 => ?_)
  · skip
    refine LW.gF rfl rfl rfl rfl rfl rfl ?_
    refine LW.gF rfl rfl rfl rfl rfl rfl ?_
    refine LW.gF rfl rfl rfl rfl rfl rfl ?_
    refine LW.gF rfl rfl rfl rfl rfl rfl ?_
    refine LW.gF rfl rfl rfl rfl rfl rfl ?_
    refine LW.gF rfl rfl rfl rfl rfl rfl ?_
    refine LW.val rfl rfl rfl (x_pickT rfl rfl rfl) ?_
    refine LW.val rfl rfl rfl (x_move rfl rfl) ?_
    refine LW.gF rfl rfl rfl rfl rfl rfl ?_
    refine LW.gF rfl rfl rfl rfl rfl rfl ?_
    refine LW.gF rfl rfl rfl rfl rfl rfl ?_
    refine LW.gF rfl rfl rfl rfl rfl rfl ?_
    refine LW.val rfl rfl rfl (x_pickT rfl rfl rfl) ?_
    refine LW.val rfl rfl rfl (x_move rfl rfl) ?_
    refine LW.gF rfl rfl rfl rfl rfl rfl ?_
    refine LW.gF rfl rfl rfl rfl rfl rfl ?_
    refine LW.gF rfl rfl rfl rfl rfl rfl ?_
    refine LW.gF rfl rfl rfl rfl rfl rfl ?_
    refine LW.gF rfl rfl rfl rfl rfl rfl ?_
    refine LW.gF rfl rfl rfl rfl rfl rfl ?_
    refine LW.val rfl rfl rfl (x_pickT rfl rfl rfl) ?_
    refine LW.nil (QW.thenC (CW.condT rfl (CW.seq (CW.region ?_))))
    refine LW.val rfl rfl rfl (x_assign rfl rfl) ?_
    refine LW.nil (QW.thenC (CW.ret (QW.then_ret ?_)))
    refine QW.res1 rfl (ResV.tmp rfl) (ret_eq (()) ?_ ?_)
    · (simp_all [carpetOk])
    · (repeat (first | exact Sub.nil | exact Sub.all | (apply Sub.cons; (focus ((repeat (first | exact Rem.head | apply Rem.tail)); done))) | (apply Sub.row; (focus ((repeat (first | exact Rem.head | apply Rem.tail)); done)); (focus (first | with_reducible rfl | assumption | omega | (simp; done) | (simp [Nat.mul_comm]; done) | (simp; omega))); (focus (first | with_reducible rfl | assumption | omega | (simp; done) | (simp [Nat.mul_comm]; done) | (simp; omega))); (focus (first | with_reducible rfl | (simp [nums]; done) | (simp [nums]; omega) | (simp; done) | (simp; omega)))) | (apply Sub.blk; (focus ((repeat (first | exact Rem.head | apply Rem.tail)); done)); (focus (first | with_reducible rfl | (simp [nums]; done) | (simp [nums]; omega) | (simp; done) | (simp; omega)))) | fail))
  · skip
    refine LW.valG rfl rfl rfl rfl rfl (x_fieldAddr rfl rfl fl41_1 rfl) ?_
    refine LW.valG rfl rfl rfl rfl rfl (x_loadB rfl rfl ty3 (by (repeat (first | exact Rem.head | apply Rem.tail)); done) (by exact rfl)) ?_
    refine LW.valG rfl rfl rfl rfl rfl (x_fieldAddr rfl rfl fl41_0 rfl) ?_
    refine LW.valG rfl rfl rfl rfl rfl (x_loadB rfl rfl ty3 (by (repeat (first | exact Rem.head | apply Rem.tail)); done) (by exact rfl)) ?_
    refine LW.opG rfl rfl rfl rfl rfl (y_call rfl rfl rfl en26 (fun w HW => in_ct _ _ _ _)) ?_
    rintro ⟨⟩
    refine LW.valG rfl rfl rfl rfl rfl (x_not rfl rfl) ?_
    refine LW.val rfl rfl rfl (x_pickF rfl rfl rfl) ?_
    refine LW.val rfl rfl rfl (x_move rfl rfl) ?_
    refine LW.split (t := 17) rfl (fun h17 => ?_) (fun h17 => ?_)
    · skip
      refine LW.gF rfl rfl rfl rfl rfl rfl ?_
      refine LW.gF rfl rfl rfl rfl rfl rfl ?_
      refine LW.gF rfl rfl rfl rfl rfl rfl ?_
      refine LW.gF rfl rfl rfl rfl rfl rfl ?_
      refine LW.val rfl rfl rfl (x_pickT rfl rfl rfl) ?_
      refine LW.val rfl rfl rfl (x_move rfl rfl) ?_
      refine LW.gF rfl rfl rfl rfl rfl rfl ?_
      refine LW.gF rfl rfl rfl rfl rfl rfl ?_
      refine LW.gF rfl rfl rfl rfl rfl rfl ?_
      refine LW.gF rfl rfl rfl rfl rfl rfl ?_
      refine LW.gF rfl rfl rfl rfl rfl rfl ?_
      refine LW.gF rfl rfl rfl rfl rfl rfl ?_
      refine LW.val rfl rfl rfl (x_pickT rfl rfl rfl) ?_
      refine LW.nil (QW.thenC (CW.condT rfl (CW.seq (CW.region ?_))))
      refine LW.val rfl rfl rfl (x_assign rfl rfl) ?_
      refine LW.nil (QW.thenC (CW.ret (QW.then_ret ?_)))
      refine QW.res1 rfl (ResV.tmp rfl) (ret_eq (()) ?_ ?_)
      · (simp_all [carpetOk])
      · (repeat (first | exact Sub.nil | exact Sub.all | (apply Sub.cons; (focus ((repeat (first | exact Rem.head | apply Rem.tail)); done))) | (apply Sub.row; (focus ((repeat (first | exact Rem.head | apply Rem.tail)); done)); (focus (first | with_reducible rfl | assumption | omega | (simp; done) | (simp [Nat.mul_comm]; done) | (simp; omega))); (focus (first | with_reducible rfl | assumption | omega | (simp; done) | (simp [Nat.mul_comm]; done) | (simp; omega))); (focus (first | with_reducible rfl | (simp [nums]; done) | (simp [nums]; omega) | (simp; done) | (simp; omega)))) | (apply Sub.blk; (focus ((repeat (first | exact Rem.head | apply Rem.tail)); done)); (focus (first | with_reducible rfl | (simp [nums]; done) | (simp [nums]; omega) | (simp; done) | (simp; omega)))) | fail))
    · skip
      refine LW.valG rfl rfl rfl rfl rfl (x_fieldAddr rfl rfl fl41_2 rfl) ?_
      refine LW.valG rfl rfl rfl rfl rfl (x_loadB rfl rfl ty3 (by (repeat (first | exact Rem.head | apply Rem.tail)); done) (by exact rfl)) ?_
      refine LW.opG rfl rfl rfl rfl rfl (y_call rfl rfl rfl en26 (fun w HW => in_ct _ _ _ _)) ?_
      rintro ⟨⟩
      refine LW.valG rfl rfl rfl rfl rfl (x_not rfl rfl) ?_
      refine LW.val rfl rfl rfl (x_pickF rfl rfl rfl) ?_
      refine LW.val rfl rfl rfl (x_move rfl rfl) ?_
      refine LW.split (t := 23) rfl (fun h23 => ?_) (fun h23 => ?_)
      · skip
        refine LW.gF rfl rfl rfl rfl rfl rfl ?_
        refine LW.gF rfl rfl rfl rfl rfl rfl ?_
        refine LW.gF rfl rfl rfl rfl rfl rfl ?_
        refine LW.gF rfl rfl rfl rfl rfl rfl ?_
        refine LW.gF rfl rfl rfl rfl rfl rfl ?_
        refine LW.gF rfl rfl rfl rfl rfl rfl ?_
        refine LW.val rfl rfl rfl (x_pickT rfl rfl rfl) ?_
        refine LW.nil (QW.thenC (CW.condT rfl (CW.seq (CW.region ?_))))
        refine LW.val rfl rfl rfl (x_assign rfl rfl) ?_
        refine LW.nil (QW.thenC (CW.ret (QW.then_ret ?_)))
        refine QW.res1 rfl (ResV.tmp rfl) (ret_eq (()) ?_ ?_)
        · (simp_all [carpetOk])
        · (repeat (first | exact Sub.nil | exact Sub.all | (apply Sub.cons; (focus ((repeat (first | exact Rem.head | apply Rem.tail)); done))) | (apply Sub.row; (focus ((repeat (first | exact Rem.head | apply Rem.tail)); done)); (focus (first | with_reducible rfl | assumption | omega | (simp; done) | (simp [Nat.mul_comm]; done) | (simp; omega))); (focus (first | with_reducible rfl | assumption | omega | (simp; done) | (simp [Nat.mul_comm]; done) | (simp; omega))); (focus (first | with_reducible rfl | (simp [nums]; done) | (simp [nums]; omega) | (simp; done) | (simp; omega)))) | (apply Sub.blk; (focus ((repeat (first | exact Rem.head | apply Rem.tail)); done)); (focus (first | with_reducible rfl | (simp [nums]; done) | (simp [nums]; omega) | (simp; done) | (simp; omega)))) | fail))
      · skip
        refine LW.valG rfl rfl rfl rfl rfl (x_fieldAddr rfl rfl fl41_4 rfl) ?_
        refine LW.valG rfl rfl rfl rfl rfl (x_loadB rfl rfl ty3 (by (repeat (first | exact Rem.head | apply Rem.tail)); done) (by exact rfl)) ?_
        refine LW.valG rfl rfl rfl rfl rfl (x_fieldAddr rfl rfl fl31_0 rfl) ?_
        refine LW.valG rfl rfl rfl rfl rfl (x_loadB rfl rfl ty3 (by (repeat (first | exact Rem.head | apply Rem.tail)); done) (by exact rfl)) ?_
        refine LW.opG rfl rfl rfl rfl rfl (y_call rfl rfl rfl en26 (fun w HW => in_ct _ _ _ _)) ?_
        rintro ⟨⟩
        refine LW.valG rfl rfl rfl rfl rfl (x_not rfl rfl) ?_
        refine LW.val rfl rfl rfl (x_pickF rfl rfl rfl) ?_
        refine LW.nil (QW.thenC ?_)
        refine CW.split (t := 30) rfl (fun h30 => ?_) (fun h30 => ?_)
        · skip
          refine CW.condT rfl (CW.seq (CW.region ?_))
          refine LW.val rfl rfl rfl (x_assign rfl rfl) ?_
          refine LW.nil (QW.thenC (CW.ret (QW.then_ret ?_)))
          refine QW.res1 rfl (ResV.tmp rfl) (ret_eq (()) ?_ ?_)
          · (simp_all [carpetOk])
          · (repeat (first | exact Sub.nil | exact Sub.all | (apply Sub.cons; (focus ((repeat (first | exact Rem.head | apply Rem.tail)); done))) | (apply Sub.row; (focus ((repeat (first | exact Rem.head | apply Rem.tail)); done)); (focus (first | with_reducible rfl | assumption | omega | (simp; done) | (simp [Nat.mul_comm]; done) | (simp; omega))); (focus (first | with_reducible rfl | assumption | omega | (simp; done) | (simp [Nat.mul_comm]; done) | (simp; omega))); (focus (first | with_reducible rfl | (simp [nums]; done) | (simp [nums]; omega) | (simp; done) | (simp; omega)))) | (apply Sub.blk; (focus ((repeat (first | exact Rem.head | apply Rem.tail)); done)); (focus (first | with_reducible rfl | (simp [nums]; done) | (simp [nums]; omega) | (simp; done) | (simp; omega)))) | fail))
        · skip
          refine CW.condF rfl (CW.skip (QW.thenC (CW.seq (CW.seq (CW.region ?_)))))
          refine LW.val rfl rfl rfl (x_fieldAddr rfl rfl fl41_2 rfl) ?_
          refine LW.val rfl rfl rfl (x_loadB rfl rfl ty3 (by (repeat (first | exact Rem.head | apply Rem.tail)); done) (by exact rfl)) ?_
          refine LW.nil (QW.thenC (CW.block (CW.seq (CW.region ?_))))
          refine LW.val rfl rfl rfl (x_eql rfl rfl rfl) ?_
          refine LW.val rfl rfl rfl (x_assign rfl rfl) ?_
          refine LW.nil (QW.thenC ?_)
          refine CW.split (t := 33) rfl (fun h33 => ?_) (fun h33 => ?_)
          · skip
            refine CW.condT rfl (CW.seq (CW.region ?_))
            refine LW.val rfl rfl rfl (x_fieldAddr rfl rfl fl41_1 rfl) ?_
            refine LW.val rfl rfl rfl (x_loadB rfl rfl ty3 (by (repeat (first | exact Rem.head | apply Rem.tail)); done) (by exact rfl)) ?_
            refine LW.val rfl rfl rfl (x_eql rfl rfl rfl) ?_
            refine LW.val rfl rfl rfl (x_move rfl rfl) ?_
            refine LW.split (t := 38) rfl (fun h38 => ?_) (fun h38 => ?_)
            · skip
              refine LW.valG rfl rfl rfl rfl rfl (x_fieldAddr rfl rfl fl41_3 rfl) ?_
              refine LW.valG rfl rfl rfl rfl rfl (x_loadB rfl rfl ty3 (by (repeat (first | exact Rem.head | apply Rem.tail)); done) (by exact rfl)) ?_
              refine LW.valG rfl rfl rfl rfl rfl (x_eql rfl rfl rfl) ?_
              refine LW.val rfl rfl rfl (x_pickT rfl rfl rfl) ?_
              refine LW.val rfl rfl rfl (x_assign rfl rfl) ?_
              refine LW.nil (QW.thenC (CW.ret (QW.in_ret (QW.then_ret ?_))))
              refine QW.res1 rfl (ResV.tmp rfl) (ret_eq (()) ?_ ?_)
              · (simp_all [carpetOk])
              · (repeat (first | exact Sub.nil | exact Sub.all | (apply Sub.cons; (focus ((repeat (first | exact Rem.head | apply Rem.tail)); done))) | (apply Sub.row; (focus ((repeat (first | exact Rem.head | apply Rem.tail)); done)); (focus (first | with_reducible rfl | assumption | omega | (simp; done) | (simp [Nat.mul_comm]; done) | (simp; omega))); (focus (first | with_reducible rfl | assumption | omega | (simp; done) | (simp [Nat.mul_comm]; done) | (simp; omega))); (focus (first | with_reducible rfl | (simp [nums]; done) | (simp [nums]; omega) | (simp; done) | (simp; omega)))) | (apply Sub.blk; (focus ((repeat (first | exact Rem.head | apply Rem.tail)); done)); (focus (first | with_reducible rfl | (simp [nums]; done) | (simp [nums]; omega) | (simp; done) | (simp; omega)))) | fail))
            · skip
              refine LW.gF rfl rfl rfl rfl rfl rfl ?_
              refine LW.gF rfl rfl rfl rfl rfl rfl ?_
              refine LW.gF rfl rfl rfl rfl rfl rfl ?_
              refine LW.val rfl rfl rfl (x_pickF rfl rfl rfl) ?_
              refine LW.val rfl rfl rfl (x_assign rfl rfl) ?_
              refine LW.nil (QW.thenC (CW.ret (QW.in_ret (QW.then_ret ?_))))
              refine QW.res1 rfl (ResV.tmp rfl) (ret_eq (()) ?_ ?_)
              · (simp_all [carpetOk])
              · (repeat (first | exact Sub.nil | exact Sub.all | (apply Sub.cons; (focus ((repeat (first | exact Rem.head | apply Rem.tail)); done))) | (apply Sub.row; (focus ((repeat (first | exact Rem.head | apply Rem.tail)); done)); (focus (first | with_reducible rfl | assumption | omega | (simp; done) | (simp [Nat.mul_comm]; done) | (simp; omega))); (focus (first | with_reducible rfl | assumption | omega | (simp; done) | (simp [Nat.mul_comm]; done) | (simp; omega))); (focus (first | with_reducible rfl | (simp [nums]; done) | (simp [nums]; omega) | (simp; done) | (simp; omega)))) | (apply Sub.blk; (focus ((repeat (first | exact Rem.head | apply Rem.tail)); done)); (focus (first | with_reducible rfl | (simp [nums]; done) | (simp [nums]; omega) | (simp; done) | (simp; omega)))) | fail))
          · skip
            refine CW.condF rfl (CW.seq (CW.region ?_))
            refine LW.val rfl rfl rfl (x_eql rfl rfl rfl) ?_
            refine LW.val rfl rfl rfl (x_assign rfl rfl) ?_
            refine LW.nil (QW.thenC ?_)
            refine CW.split (t := 43) rfl (fun h43 => ?_) (fun h43 => ?_)
            · skip
              refine CW.condT rfl (CW.seq (CW.region ?_))
              refine LW.val rfl rfl rfl (x_fieldAddr rfl rfl fl41_3 rfl) ?_
              refine LW.val rfl rfl rfl (x_loadB rfl rfl ty3 (by (repeat (first | exact Rem.head | apply Rem.tail)); done) (by exact rfl)) ?_
              refine LW.val rfl rfl rfl (x_fieldAddr rfl rfl fl31_1 rfl) ?_
              refine LW.val rfl rfl rfl (x_loadB rfl rfl ty3 (by (repeat (first | exact Rem.head | apply Rem.tail)); done) (by exact rfl)) ?_
              refine LW.op rfl rfl rfl (y_call rfl rfl rfl en26 (fun w HW => in_ct _ _ _ _)) ?_
              rintro ⟨⟩
              refine LW.val rfl rfl rfl (x_assign rfl rfl) ?_
              refine LW.nil (QW.thenC (CW.ret (QW.in_ret (QW.then_ret ?_))))
              refine QW.res1 rfl (ResV.tmp rfl) (ret_eq (()) ?_ ?_)
              · (simp_all [carpetOk])
              · (repeat (first | exact Sub.nil | exact Sub.all | (apply Sub.cons; (focus ((repeat (first | exact Rem.head | apply Rem.tail)); done))) | (apply Sub.row; (focus ((repeat (first | exact Rem.head | apply Rem.tail)); done)); (focus (first | with_reducible rfl | assumption | omega | (simp; done) | (simp [Nat.mul_comm]; done) | (simp; omega))); (focus (first | with_reducible rfl | assumption | omega | (simp; done) | (simp [Nat.mul_comm]; done) | (simp; omega))); (focus (first | with_reducible rfl | (simp [nums]; done) | (simp [nums]; omega) | (simp; done) | (simp; omega)))) | (apply Sub.blk; (focus ((repeat (first | exact Rem.head | apply Rem.tail)); done)); (focus (first | with_reducible rfl | (simp [nums]; done) | (simp [nums]; omega) | (simp; done) | (simp; omega)))) | fail))
            · skip
              refine CW.condF rfl (CW.skip (QW.in_normal (QW.thenC (CW.seq (CW.region ?_)))))
              refine LW.val rfl rfl rfl (x_fieldAddr rfl rfl fl41_1 rfl) ?_
              refine LW.val rfl rfl rfl (x_loadB rfl rfl ty3 (by (repeat (first | exact Rem.head | apply Rem.tail)); done) (by exact rfl)) ?_
              refine LW.val rfl rfl rfl (x_fieldAddr rfl rfl fl41_0 rfl) ?_
              refine LW.val rfl rfl rfl (x_loadB rfl rfl ty3 (by (repeat (first | exact Rem.head | apply Rem.tail)); done) (by exact rfl)) ?_
              refine LW.val rfl rfl rfl (x_eql rfl rfl rfl) ?_
              refine LW.val rfl rfl rfl (x_move rfl rfl) ?_
              refine LW.split (t := 55) rfl (fun h55 => ?_) (fun h55 => ?_)
              · skip
                refine LW.valG rfl rfl rfl rfl rfl (x_fieldAddr rfl rfl fl41_3 rfl) ?_
                refine LW.valG rfl rfl rfl rfl rfl (x_loadB rfl rfl ty3 (by (repeat (first | exact Rem.head | apply Rem.tail)); done) (by exact rfl)) ?_
                refine LW.valG rfl rfl rfl rfl rfl (x_eql rfl rfl rfl) ?_
                refine LW.val rfl rfl rfl (x_pickT rfl rfl rfl) ?_
                refine LW.val rfl rfl rfl (x_assign rfl rfl) ?_
                refine LW.nil (QW.thenC (CW.ret ?_))
                refine QW.res1 rfl (ResV.tmp rfl) (ret_eq (()) ?_ ?_)
                · (simp_all [carpetOk])
                · (repeat (first | exact Sub.nil | exact Sub.all | (apply Sub.cons; (focus ((repeat (first | exact Rem.head | apply Rem.tail)); done))) | (apply Sub.row; (focus ((repeat (first | exact Rem.head | apply Rem.tail)); done)); (focus (first | with_reducible rfl | assumption | omega | (simp; done) | (simp [Nat.mul_comm]; done) | (simp; omega))); (focus (first | with_reducible rfl | assumption | omega | (simp; done) | (simp [Nat.mul_comm]; done) | (simp; omega))); (focus (first | with_reducible rfl | (simp [nums]; done) | (simp [nums]; omega) | (simp; done) | (simp; omega)))) | (apply Sub.blk; (focus ((repeat (first | exact Rem.head | apply Rem.tail)); done)); (focus (first | with_reducible rfl | (simp [nums]; done) | (simp [nums]; omega) | (simp; done) | (simp; omega)))) | fail))
              · skip
                refine LW.gF rfl rfl rfl rfl rfl rfl ?_
                refine LW.gF rfl rfl rfl rfl rfl rfl ?_
                refine LW.gF rfl rfl rfl rfl rfl rfl ?_
                refine LW.val rfl rfl rfl (x_pickF rfl rfl rfl) ?_
                refine LW.val rfl rfl rfl (x_assign rfl rfl) ?_
                refine LW.nil (QW.thenC (CW.ret ?_))
                refine QW.res1 rfl (ResV.tmp rfl) (ret_eq (()) ?_ ?_)
                · (simp_all [carpetOk])
                · (repeat (first | exact Sub.nil | exact Sub.all | (apply Sub.cons; (focus ((repeat (first | exact Rem.head | apply Rem.tail)); done))) | (apply Sub.row; (focus ((repeat (first | exact Rem.head | apply Rem.tail)); done)); (focus (first | with_reducible rfl | assumption | omega | (simp; done) | (simp [Nat.mul_comm]; done) | (simp; omega))); (focus (first | with_reducible rfl | assumption | omega | (simp; done) | (simp [Nat.mul_comm]; done) | (simp; omega))); (focus (first | with_reducible rfl | (simp [nums]; done) | (simp [nums]; omega) | (simp; done) | (simp; omega)))) | (apply Sub.blk; (focus ((repeat (first | exact Rem.head | apply Rem.tail)); done)); (focus (first | with_reducible rfl | (simp [nums]; done) | (simp [nums]; omega) | (simp; done) | (simp; omega)))) | fail))
set_option maxRecDepth 20000 in
theorem l25Carpet_ct (day looms money : Int) (A : Option Addr) (m c : Nat) (x : Cp) (w : World) : Calls Try.prog 55 #[shV day looms money A m c, .agg (cpL x).toArray] w (Ret (fun _ : Unit => .bool (carpetOk day looms x)) (fun _ => []) w) := by
  refine enter Try.func55 rfl rfl Try.ntmps55 rfl ?_
  refine CW.seq (CW.region ?_)
  refine LW.op rfl rfl rfl (y_box rfl rfl rfl) ?_
  intro b2
  refine LW.op rfl rfl rfl (y_box rfl rfl rfl) ?_
  intro b3
  refine LW.val rfl rfl rfl (x_assign rfl rfl) ?_
  refine LW.nil (QW.thenC (CW.seq (CW.seq (CW.region ?_))))
  refine LW.val rfl rfl rfl (x_fieldAddr rfl rfl fl41_0 rfl) ?_
  refine LW.val rfl rfl rfl (x_loadB rfl rfl ty3 (by (repeat (first | exact Rem.head | apply Rem.tail)); done) (by exact rfl)) ?_
  refine LW.op rfl rfl rfl (y_call rfl rfl rfl en44 (fun w HW => l1In_ct _ _ _ _)) ?_
  rintro ⟨⟩
  refine LW.val rfl rfl rfl (x_not rfl rfl) ?_
  refine LW.val rfl rfl rfl (x_move rfl rfl) ?_
  refine LW.split (t := 9) rfl (fun h9 => ?_) (fun h9 => ?_)
  · skip
    refine LW.gF rfl rfl rfl rfl rfl rfl ?_
    refine LW.gF rfl rfl rfl rfl rfl rfl ?_
    refine LW.gF rfl rfl rfl rfl rfl rfl ?_
    refine LW.gF rfl rfl rfl rfl rfl rfl ?_
    refine LW.gF rfl rfl rfl rfl rfl rfl ?_
    refine LW.gF rfl rfl rfl rfl rfl rfl ?_
    refine LW.val rfl rfl rfl (x_pickT rfl rfl rfl) ?_
    refine LW.val rfl rfl rfl (x_move rfl rfl) ?_
    refine LW.gF rfl rfl rfl rfl rfl rfl ?_
    refine LW.gF rfl rfl rfl rfl rfl rfl ?_
    refine LW.gF rfl rfl rfl rfl rfl rfl ?_
    refine LW.gF rfl rfl rfl rfl rfl rfl ?_
    refine LW.val rfl rfl rfl (x_pickT rfl rfl rfl) ?_
    refine LW.val rfl rfl rfl (x_move rfl rfl) ?_
    refine LW.gF rfl rfl rfl rfl rfl rfl ?_
    refine LW.gF rfl rfl rfl rfl rfl rfl ?_
    refine LW.gF rfl rfl rfl rfl rfl rfl ?_
    refine LW.gF rfl rfl rfl rfl rfl rfl ?_
    refine LW.gF rfl rfl rfl rfl rfl rfl ?_
    refine LW.gF rfl rfl rfl rfl rfl rfl ?_
    refine LW.val rfl rfl rfl (x_pickT rfl rfl rfl) ?_
    refine LW.nil (QW.thenC (CW.condT rfl (CW.seq (CW.region ?_))))
    refine LW.val rfl rfl rfl (x_assign rfl rfl) ?_
    refine LW.nil (QW.thenC (CW.ret (QW.then_ret ?_)))
    refine QW.res1 rfl (ResV.tmp rfl) (ret_eq (()) ?_ ?_)
    · (simp_all [carpetOk, Bool.and_comm])
    · (repeat (first | exact Sub.nil | exact Sub.all | (apply Sub.cons; (focus ((repeat (first | exact Rem.head | apply Rem.tail)); done))) | (apply Sub.row; (focus ((repeat (first | exact Rem.head | apply Rem.tail)); done)); (focus (first | with_reducible rfl | assumption | omega | (simp; done) | (simp [Nat.mul_comm]; done) | (simp; omega))); (focus (first | with_reducible rfl | assumption | omega | (simp; done) | (simp [Nat.mul_comm]; done) | (simp; omega))); (focus (first | with_reducible rfl | (simp [nums]; done) | (simp [nums]; omega) | (simp; done) | (simp; omega)))) | (apply Sub.blk; (focus ((repeat (first | exact Rem.head | apply Rem.tail)); done)); (focus (first | with_reducible rfl | (simp [nums]; done) | (simp [nums]; omega) | (simp; done) | (simp; omega)))) | fail))
  · skip
    refine LW.valG rfl rfl rfl rfl rfl (x_fieldAddr rfl rfl fl41_1 rfl) ?_
    refine LW.valG rfl rfl rfl rfl rfl (x_loadB rfl rfl ty3 (by (repeat (first | exact Rem.head | apply Rem.tail)); done) (by exact rfl)) ?_
    refine LW.valG rfl rfl rfl rfl rfl (x_fieldAddr rfl rfl fl41_0 rfl) ?_
    refine LW.valG rfl rfl rfl rfl rfl (x_loadB rfl rfl ty3 (by (repeat (first | exact Rem.head | apply Rem.tail)); done) (by exact rfl)) ?_
    refine LW.opG rfl rfl rfl rfl rfl (y_call rfl rfl rfl en44 (fun w HW => l1In_ct _ _ _ _)) ?_
    rintro ⟨⟩
    refine LW.valG rfl rfl rfl rfl rfl (x_not rfl rfl) ?_
    refine LW.val rfl rfl rfl (x_pickF rfl rfl rfl) ?_
    refine LW.val rfl rfl rfl (x_move rfl rfl) ?_
    refine LW.split (t := 17) rfl (fun h17 => ?_) (fun h17 => ?_)
    · skip
      refine LW.gF rfl rfl rfl rfl rfl rfl ?_
      refine LW.gF rfl rfl rfl rfl rfl rfl ?_
      refine LW.gF rfl rfl rfl rfl rfl rfl ?_
      refine LW.gF rfl rfl rfl rfl rfl rfl ?_
      refine LW.val rfl rfl rfl (x_pickT rfl rfl rfl) ?_
      refine LW.val rfl rfl rfl (x_move rfl rfl) ?_
      refine LW.gF rfl rfl rfl rfl rfl rfl ?_
      refine LW.gF rfl rfl rfl rfl rfl rfl ?_
      refine LW.gF rfl rfl rfl rfl rfl rfl ?_
      refine LW.gF rfl rfl rfl rfl rfl rfl ?_
      refine LW.gF rfl rfl rfl rfl rfl rfl ?_
      refine LW.gF rfl rfl rfl rfl rfl rfl ?_
      refine LW.val rfl rfl rfl (x_pickT rfl rfl rfl) ?_
      refine LW.nil (QW.thenC (CW.condT rfl (CW.seq (CW.region ?_))))
      refine LW.val rfl rfl rfl (x_assign rfl rfl) ?_
      refine LW.nil (QW.thenC (CW.ret (QW.then_ret ?_)))
      refine QW.res1 rfl (ResV.tmp rfl) (ret_eq (()) ?_ ?_)
      · (simp_all [carpetOk, Bool.and_comm])
      · (repeat (first | exact Sub.nil | exact Sub.all | (apply Sub.cons; (focus ((repeat (first | exact Rem.head | apply Rem.tail)); done))) | (apply Sub.row; (focus ((repeat (first | exact Rem.head | apply Rem.tail)); done)); (focus (first | with_reducible rfl | assumption | omega | (simp; done) | (simp [Nat.mul_comm]; done) | (simp; omega))); (focus (first | with_reducible rfl | assumption | omega | (simp; done) | (simp [Nat.mul_comm]; done) | (simp; omega))); (focus (first | with_reducible rfl | (simp [nums]; done) | (simp [nums]; omega) | (simp; done) | (simp; omega)))) | (apply Sub.blk; (focus ((repeat (first | exact Rem.head | apply Rem.tail)); done)); (focus (first | with_reducible rfl | (simp [nums]; done) | (simp [nums]; omega) | (simp; done) | (simp; omega)))) | fail))
    · skip
      refine LW.valG rfl rfl rfl rfl rfl (x_fieldAddr rfl rfl fl41_2 rfl) ?_
      refine LW.valG rfl rfl rfl rfl rfl (x_loadB rfl rfl ty3 (by (repeat (first | exact Rem.head | apply Rem.tail)); done) (by exact rfl)) ?_
      refine LW.opG rfl rfl rfl rfl rfl (y_call rfl rfl rfl en44 (fun w HW => l1In_ct _ _ _ _)) ?_
      rintro ⟨⟩
      refine LW.valG rfl rfl rfl rfl rfl (x_not rfl rfl) ?_
      refine LW.val rfl rfl rfl (x_pickF rfl rfl rfl) ?_
      refine LW.val rfl rfl rfl (x_move rfl rfl) ?_
      refine LW.split (t := 23) rfl (fun h23 => ?_) (fun h23 => ?_)
      · skip
        refine LW.gF rfl rfl rfl rfl rfl rfl ?_
        refine LW.gF rfl rfl rfl rfl rfl rfl ?_
        refine LW.gF rfl rfl rfl rfl rfl rfl ?_
        refine LW.gF rfl rfl rfl rfl rfl rfl ?_
        refine LW.gF rfl rfl rfl rfl rfl rfl ?_
        refine LW.gF rfl rfl rfl rfl rfl rfl ?_
        refine LW.val rfl rfl rfl (x_pickT rfl rfl rfl) ?_
        refine LW.nil (QW.thenC (CW.condT rfl (CW.seq (CW.region ?_))))
        refine LW.val rfl rfl rfl (x_assign rfl rfl) ?_
        refine LW.nil (QW.thenC (CW.ret (QW.then_ret ?_)))
        refine QW.res1 rfl (ResV.tmp rfl) (ret_eq (()) ?_ ?_)
        · (simp_all [carpetOk, Bool.and_comm])
        · (repeat (first | exact Sub.nil | exact Sub.all | (apply Sub.cons; (focus ((repeat (first | exact Rem.head | apply Rem.tail)); done))) | (apply Sub.row; (focus ((repeat (first | exact Rem.head | apply Rem.tail)); done)); (focus (first | with_reducible rfl | assumption | omega | (simp; done) | (simp [Nat.mul_comm]; done) | (simp; omega))); (focus (first | with_reducible rfl | assumption | omega | (simp; done) | (simp [Nat.mul_comm]; done) | (simp; omega))); (focus (first | with_reducible rfl | (simp [nums]; done) | (simp [nums]; omega) | (simp; done) | (simp; omega)))) | (apply Sub.blk; (focus ((repeat (first | exact Rem.head | apply Rem.tail)); done)); (focus (first | with_reducible rfl | (simp [nums]; done) | (simp [nums]; omega) | (simp; done) | (simp; omega)))) | fail))
      · skip
        refine LW.valG rfl rfl rfl rfl rfl (x_fieldAddr rfl rfl fl41_4 rfl) ?_
        refine LW.valG rfl rfl rfl rfl rfl (x_loadB rfl rfl ty3 (by (repeat (first | exact Rem.head | apply Rem.tail)); done) (by exact rfl)) ?_
        refine LW.valG rfl rfl rfl rfl rfl (x_fieldAddr rfl rfl fl31_0 rfl) ?_
        refine LW.valG rfl rfl rfl rfl rfl (x_loadB rfl rfl ty3 (by (repeat (first | exact Rem.head | apply Rem.tail)); done) (by exact rfl)) ?_
        refine LW.opG rfl rfl rfl rfl rfl (y_call rfl rfl rfl en44 (fun w HW => l1In_ct _ _ _ _)) ?_
        rintro ⟨⟩
        refine LW.valG rfl rfl rfl rfl rfl (x_not rfl rfl) ?_
        refine LW.val rfl rfl rfl (x_pickF rfl rfl rfl) ?_
        refine LW.nil (QW.thenC ?_)
        refine CW.split (t := 30) rfl (fun h30 => ?_) (fun h30 => ?_)
        · skip
          refine CW.condT rfl (CW.seq (CW.region ?_))
          refine LW.val rfl rfl rfl (x_assign rfl rfl) ?_
          refine LW.nil (QW.thenC (CW.ret (QW.then_ret ?_)))
          refine QW.res1 rfl (ResV.tmp rfl) (ret_eq (()) ?_ ?_)
          · (simp_all [carpetOk, Bool.and_comm])
          · (repeat (first | exact Sub.nil | exact Sub.all | (apply Sub.cons; (focus ((repeat (first | exact Rem.head | apply Rem.tail)); done))) | (apply Sub.row; (focus ((repeat (first | exact Rem.head | apply Rem.tail)); done)); (focus (first | with_reducible rfl | assumption | omega | (simp; done) | (simp [Nat.mul_comm]; done) | (simp; omega))); (focus (first | with_reducible rfl | assumption | omega | (simp; done) | (simp [Nat.mul_comm]; done) | (simp; omega))); (focus (first | with_reducible rfl | (simp [nums]; done) | (simp [nums]; omega) | (simp; done) | (simp; omega)))) | (apply Sub.blk; (focus ((repeat (first | exact Rem.head | apply Rem.tail)); done)); (focus (first | with_reducible rfl | (simp [nums]; done) | (simp [nums]; omega) | (simp; done) | (simp; omega)))) | fail))
        · skip
          refine CW.condF rfl (CW.skip (QW.thenC (CW.seq (CW.seq (CW.region ?_)))))
          refine LW.val rfl rfl rfl (x_fieldAddr rfl rfl fl41_2 rfl) ?_
          refine LW.val rfl rfl rfl (x_loadB rfl rfl ty3 (by (repeat (first | exact Rem.head | apply Rem.tail)); done) (by exact rfl)) ?_
          refine LW.nil (QW.thenC (CW.block (CW.seq (CW.region ?_))))
          refine LW.val rfl rfl rfl (x_eql rfl rfl rfl) ?_
          refine LW.val rfl rfl rfl (x_assign rfl rfl) ?_
          refine LW.nil (QW.thenC ?_)
          refine CW.split (t := 33) rfl (fun h33 => ?_) (fun h33 => ?_)
          · skip
            refine CW.condT rfl (CW.seq (CW.region ?_))
            refine LW.val rfl rfl rfl (x_fieldAddr rfl rfl fl41_3 rfl) ?_
            refine LW.val rfl rfl rfl (x_loadB rfl rfl ty3 (by (repeat (first | exact Rem.head | apply Rem.tail)); done) (by exact rfl)) ?_
            refine LW.val rfl rfl rfl (x_fieldAddr rfl rfl fl31_1 rfl) ?_
            refine LW.val rfl rfl rfl (x_loadB rfl rfl ty3 (by (repeat (first | exact Rem.head | apply Rem.tail)); done) (by exact rfl)) ?_
            refine LW.op rfl rfl rfl (y_call rfl rfl rfl en44 (fun w HW => l1In_ct _ _ _ _)) ?_
            rintro ⟨⟩
            refine LW.val rfl rfl rfl (x_assign rfl rfl) ?_
            refine LW.nil (QW.thenC (CW.ret (QW.in_ret (QW.then_ret ?_))))
            refine QW.res1 rfl (ResV.tmp rfl) (ret_eq (()) ?_ ?_)
            · (simp_all [carpetOk, Bool.and_comm])
            · (repeat (first | exact Sub.nil | exact Sub.all | (apply Sub.cons; (focus ((repeat (first | exact Rem.head | apply Rem.tail)); done))) | (apply Sub.row; (focus ((repeat (first | exact Rem.head | apply Rem.tail)); done)); (focus (first | with_reducible rfl | assumption | omega | (simp; done) | (simp [Nat.mul_comm]; done) | (simp; omega))); (focus (first | with_reducible rfl | assumption | omega | (simp; done) | (simp [Nat.mul_comm]; done) | (simp; omega))); (focus (first | with_reducible rfl | (simp [nums]; done) | (simp [nums]; omega) | (simp; done) | (simp; omega)))) | (apply Sub.blk; (focus ((repeat (first | exact Rem.head | apply Rem.tail)); done)); (focus (first | with_reducible rfl | (simp [nums]; done) | (simp [nums]; omega) | (simp; done) | (simp; omega)))) | fail))
          · skip
            refine CW.condF rfl (CW.seq (CW.region ?_))
            refine LW.val rfl rfl rfl (x_eql rfl rfl rfl) ?_
            refine LW.val rfl rfl rfl (x_assign rfl rfl) ?_
            refine LW.nil (QW.thenC ?_)
            refine CW.split (t := 40) rfl (fun h40 => ?_) (fun h40 => ?_)
            · skip
              refine CW.condT rfl (CW.seq (CW.region ?_))
              refine LW.val rfl rfl rfl (x_fieldAddr rfl rfl fl41_3 rfl) ?_
              refine LW.val rfl rfl rfl (x_loadB rfl rfl ty3 (by (repeat (first | exact Rem.head | apply Rem.tail)); done) (by exact rfl)) ?_
              refine LW.val rfl rfl rfl (x_eql rfl rfl rfl) ?_
              refine LW.val rfl rfl rfl (x_move rfl rfl) ?_
              refine LW.split (t := 45) rfl (fun h45 => ?_) (fun h45 => ?_)
              · skip
                refine LW.valG rfl rfl rfl rfl rfl (x_fieldAddr rfl rfl fl41_1 rfl) ?_
                refine LW.valG rfl rfl rfl rfl rfl (x_loadB rfl rfl ty3 (by (repeat (first | exact Rem.head | apply Rem.tail)); done) (by exact rfl)) ?_
                refine LW.valG rfl rfl rfl rfl rfl (x_eql rfl rfl rfl) ?_
                refine LW.val rfl rfl rfl (x_pickT rfl rfl rfl) ?_
                refine LW.val rfl rfl rfl (x_assign rfl rfl) ?_
                refine LW.nil (QW.thenC (CW.ret (QW.in_ret (QW.then_ret ?_))))
                refine QW.res1 rfl (ResV.tmp rfl) (ret_eq (()) ?_ ?_)
                · (simp_all [carpetOk, Bool.and_comm])
                · (repeat (first | exact Sub.nil | exact Sub.all | (apply Sub.cons; (focus ((repeat (first | exact Rem.head | apply Rem.tail)); done))) | (apply Sub.row; (focus ((repeat (first | exact Rem.head | apply Rem.tail)); done)); (focus (first | with_reducible rfl | assumption | omega | (simp; done) | (simp [Nat.mul_comm]; done) | (simp; omega))); (focus (first | with_reducible rfl | assumption | omega | (simp; done) | (simp [Nat.mul_comm]; done) | (simp; omega))); (focus (first | with_reducible rfl | (simp [nums]; done) | (simp [nums]; omega) | (simp; done) | (simp; omega)))) | (apply Sub.blk; (focus ((repeat (first | exact Rem.head | apply Rem.tail)); done)); (focus (first | with_reducible rfl | (simp [nums]; done) | (simp [nums]; omega) | (simp; done) | (simp; omega)))) | fail))
              · skip
                refine LW.gF rfl rfl rfl rfl rfl rfl ?_
                refine LW.gF rfl rfl rfl rfl rfl rfl ?_
                refine LW.gF rfl rfl rfl rfl rfl rfl ?_
                refine LW.val rfl rfl rfl (x_pickF rfl rfl rfl) ?_
                refine LW.val rfl rfl rfl (x_assign rfl rfl) ?_
                refine LW.nil (QW.thenC (CW.ret (QW.in_ret (QW.then_ret ?_))))
                refine QW.res1 rfl (ResV.tmp rfl) (ret_eq (()) ?_ ?_)
                · (simp_all [carpetOk, Bool.and_comm])
                · (repeat (first | exact Sub.nil | exact Sub.all | (apply Sub.cons; (focus ((repeat (first | exact Rem.head | apply Rem.tail)); done))) | (apply Sub.row; (focus ((repeat (first | exact Rem.head | apply Rem.tail)); done)); (focus (first | with_reducible rfl | assumption | omega | (simp; done) | (simp [Nat.mul_comm]; done) | (simp; omega))); (focus (first | with_reducible rfl | assumption | omega | (simp; done) | (simp [Nat.mul_comm]; done) | (simp; omega))); (focus (first | with_reducible rfl | (simp [nums]; done) | (simp [nums]; omega) | (simp; done) | (simp; omega)))) | (apply Sub.blk; (focus ((repeat (first | exact Rem.head | apply Rem.tail)); done)); (focus (first | with_reducible rfl | (simp [nums]; done) | (simp [nums]; omega) | (simp; done) | (simp; omega)))) | fail))
            · skip
              refine CW.condF rfl (CW.skip (QW.in_normal (QW.thenC (CW.seq (CW.region ?_)))))
              refine LW.val rfl rfl rfl (x_fieldAddr rfl rfl fl41_3 rfl) ?_
              refine LW.val rfl rfl rfl (x_loadB rfl rfl ty3 (by (repeat (first | exact Rem.head | apply Rem.tail)); done) (by exact rfl)) ?_
              refine LW.val rfl rfl rfl (x_eql rfl rfl rfl) ?_
              refine LW.val rfl rfl rfl (x_move rfl rfl) ?_
              refine LW.split (t := 53) rfl (fun h53 => ?_) (fun h53 => ?_)
              · skip
                refine LW.valG rfl rfl rfl rfl rfl (x_fieldAddr rfl rfl fl41_1 rfl) ?_
                refine LW.valG rfl rfl rfl rfl rfl (x_loadB rfl rfl ty3 (by (repeat (first | exact Rem.head | apply Rem.tail)); done) (by exact rfl)) ?_
                refine LW.valG rfl rfl rfl rfl rfl (x_fieldAddr rfl rfl fl41_0 rfl) ?_
                refine LW.valG rfl rfl rfl rfl rfl (x_loadB rfl rfl ty3 (by (repeat (first | exact Rem.head | apply Rem.tail)); done) (by exact rfl)) ?_
                refine LW.valG rfl rfl rfl rfl rfl (x_eql rfl rfl rfl) ?_
                refine LW.val rfl rfl rfl (x_pickT rfl rfl rfl) ?_
                refine LW.val rfl rfl rfl (x_assign rfl rfl) ?_
                refine LW.nil (QW.thenC (CW.ret ?_))
                refine QW.res1 rfl (ResV.tmp rfl) (ret_eq (()) ?_ ?_)
                · (simp_all [carpetOk, Bool.and_comm])
                · (repeat (first | exact Sub.nil | exact Sub.all | (apply Sub.cons; (focus ((repeat (first | exact Rem.head | apply Rem.tail)); done))) | (apply Sub.row; (focus ((repeat (first | exact Rem.head | apply Rem.tail)); done)); (focus (first | with_reducible rfl | assumption | omega | (simp; done) | (simp [Nat.mul_comm]; done) | (simp; omega))); (focus (first | with_reducible rfl | assumption | omega | (simp; done) | (simp [Nat.mul_comm]; done) | (simp; omega))); (focus (first | with_reducible rfl | (simp [nums]; done) | (simp [nums]; omega) | (simp; done) | (simp; omega)))) | (apply Sub.blk; (focus ((repeat (first | exact Rem.head | apply Rem.tail)); done)); (focus (first | with_reducible rfl | (simp [nums]; done) | (simp [nums]; omega) | (simp; done) | (simp; omega)))) | fail))
              · skip
                refine LW.gF rfl rfl rfl rfl rfl rfl ?_
                refine LW.gF rfl rfl rfl rfl rfl rfl ?_
                refine LW.gF rfl rfl rfl rfl rfl rfl ?_
                refine LW.gF rfl rfl rfl rfl rfl rfl ?_
                refine LW.gF rfl rfl rfl rfl rfl rfl ?_
                refine LW.val rfl rfl rfl (x_pickF rfl rfl rfl) ?_
                refine LW.val rfl rfl rfl (x_assign rfl rfl) ?_
                refine LW.nil (QW.thenC (CW.ret ?_))
                refine QW.res1 rfl (ResV.tmp rfl) (ret_eq (()) ?_ ?_)
                · (simp_all [carpetOk, Bool.and_comm])
                · (repeat (first | exact Sub.nil | exact Sub.all | (apply Sub.cons; (focus ((repeat (first | exact Rem.head | apply Rem.tail)); done))) | (apply Sub.row; (focus ((repeat (first | exact Rem.head | apply Rem.tail)); done)); (focus (first | with_reducible rfl | assumption | omega | (simp; done) | (simp [Nat.mul_comm]; done) | (simp; omega))); (focus (first | with_reducible rfl | assumption | omega | (simp; done) | (simp [Nat.mul_comm]; done) | (simp; omega))); (focus (first | with_reducible rfl | (simp [nums]; done) | (simp [nums]; omega) | (simp; done) | (simp; omega)))) | (apply Sub.blk; (focus ((repeat (first | exact Rem.head | apply Rem.tail)); done)); (focus (first | with_reducible rfl | (simp [nums]; done) | (simp [nums]; omega) | (simp; done) | (simp; omega)))) | fail))
theorem onLoom1_ct (b : Nat) (loom : Int) (x : Cp) (w : World) (hc : w.cell? ⟨b, 0, none⟩ = some (.int .i64 loom)) : Calls Try.prog 60 (#[.agg (cpL x).toArray] ++ #[.pointer (some ⟨b, 0, none⟩)]) w (Ret (fun _ : Unit => .bool (onL loom x)) (fun _ => []) w) := by
  refine enter Try.func60 rfl rfl Try.ntmps60 rfl ?_
  refine CW.seq (CW.region ?_)
  refine LW.op rfl rfl rfl (y_box rfl rfl rfl) ?_
  intro b2
  refine LW.val rfl rfl rfl (x_assign rfl rfl) ?_
  refine LW.nil (QW.thenC (CW.seq (CW.region ?_)))
  refine LW.val rfl rfl rfl (x_fieldAddr rfl rfl fl41_2 rfl) ?_
  refine LW.val rfl rfl rfl (x_loadB rfl rfl ty3 (by (repeat (first | exact Rem.head | apply Rem.tail)); done) (by exact rfl)) ?_
  refine LW.val rfl rfl rfl (x_eql rfl rfl rfl) ?_
  refine LW.val rfl rfl rfl (x_move rfl rfl) ?_
  refine LW.split (t := 7) rfl (fun h => ?_) (fun h => ?_)
  · refine LW.valG rfl rfl rfl rfl rfl (x_fieldAddr rfl rfl fl41_3 rfl) ?_
    refine LW.valG rfl rfl rfl rfl rfl (x_loadB rfl rfl ty3 (by (repeat (first | exact Rem.head | apply Rem.tail)); done) (by exact rfl)) ?_
    refine LW.valG rfl rfl rfl rfl rfl (x_load1 rfl rfl ty3 (inC hc)) ?_
    refine LW.valG rfl rfl rfl rfl rfl (x_eql rfl rfl rfl) ?_
    refine LW.val rfl rfl rfl (x_pickT rfl rfl rfl) ?_
    refine LW.val rfl rfl rfl (x_assign rfl rfl) ?_
    refine LW.nil (QW.thenC (CW.ret ?_))
    refine QW.res1 rfl (ResV.tmp rfl) (ret_eq (()) ?_ ?_)
    · simp_all [onL]
    · (repeat (first | exact Sub.nil | exact Sub.all | (apply Sub.cons; (focus ((repeat (first | exact Rem.head | apply Rem.tail)); done))) | (apply Sub.row; (focus ((repeat (first | exact Rem.head | apply Rem.tail)); done)); (focus (first | with_reducible rfl | assumption | omega | (simp; done) | (simp [Nat.mul_comm]; done) | (simp; omega))); (focus (first | with_reducible rfl | assumption | omega | (simp; done) | (simp [Nat.mul_comm]; done) | (simp; omega))); (focus (first | with_reducible rfl | (simp [nums]; done) | (simp [nums]; omega) | (simp; done) | (simp; omega)))) | (apply Sub.blk; (focus ((repeat (first | exact Rem.head | apply Rem.tail)); done)); (focus (first | with_reducible rfl | (simp [nums]; done) | (simp [nums]; omega) | (simp; done) | (simp; omega)))) | fail))
  · refine LW.gF rfl rfl rfl rfl rfl rfl ?_
    refine LW.gF rfl rfl rfl rfl rfl rfl ?_
    refine LW.gF rfl rfl rfl rfl rfl rfl ?_
    refine LW.gF rfl rfl rfl rfl rfl rfl ?_
    refine LW.val rfl rfl rfl (x_pickF rfl rfl rfl) ?_
    refine LW.val rfl rfl rfl (x_assign rfl rfl) ?_
    refine LW.nil (QW.thenC (CW.ret ?_))
    refine QW.res1 rfl (ResV.tmp rfl) (ret_eq (()) ?_ ?_)
    · simp_all [onL]
    · (repeat (first | exact Sub.nil | exact Sub.all | (apply Sub.cons; (focus ((repeat (first | exact Rem.head | apply Rem.tail)); done))) | (apply Sub.row; (focus ((repeat (first | exact Rem.head | apply Rem.tail)); done)); (focus (first | with_reducible rfl | assumption | omega | (simp; done) | (simp [Nat.mul_comm]; done) | (simp; omega))); (focus (first | with_reducible rfl | assumption | omega | (simp; done) | (simp [Nat.mul_comm]; done) | (simp; omega))); (focus (first | with_reducible rfl | (simp [nums]; done) | (simp [nums]; omega) | (simp; done) | (simp; omega)))) | (apply Sub.blk; (focus ((repeat (first | exact Rem.head | apply Rem.tail)); done)); (focus (first | with_reducible rfl | (simp [nums]; done) | (simp [nums]; omega) | (simp; done) | (simp; omega)))) | fail))
set_option maxRecDepth 20000 in
theorem IndexFunc_ct (p : Cp → Bool) (g : Nat) (cap : Array Value) (xs : List Cp) (A : Option Addr) (c : Nat) (w : World) (hR : RdC w A c xs) (eg : Enters Try.prog g)
    (hp : ∀ (x : Cp) (W' : World), SH w [] W' [] → Calls Try.prog g (#[.agg (cpL x).toArray] ++ cap) W' (Ret (fun _ : Unit => .bool (p x)) (fun _ => []) W')) :
    Calls Try.prog 59 #[.slice A xs.length c, .func (.func g) #[] cap] w (Ret (fun _ : Unit => .int .i64 (idxF p xs)) (fun _ => []) w) := by
  have hb := hR.bnd
  refine enter Try.func59 rfl rfl Try.ntmps59 rfl ?_
  refine CW.seq (CW.region ?_)
  refine LW.val rfl rfl rfl (x_assign rfl rfl) ?_
  refine LW.nil (QW.thenC (CW.seq (CW.seq (CW.region ?_))))
  refine LW.val rfl rfl rfl (x_move rfl rfl) ?_
  refine LW.val rfl rfl rfl (x_len (ty := 0) rfl rfl Try.underlying29) ?_
  refine LW.val rfl rfl rfl (x_move rfl rfl) ?_
  refine LW.nil (QW.thenC (CW.block ?_))
  refine CW.loopC1 [4, 5, 8, 9, 10, 11, 12, 13, 14, 15, 16, 17, 18] (fun (i : Nat) => i ≤ xs.length ∧ ∀ j (h : j < xs.length), j < i → p xs[j] = false) (fun (i : Nat) => [(8, .int .i64 i)]) (fun (i : Nat) => []) (fun (i : Nat) => xs.length - i) (0) (by exact ⟨by omega, fun j h hj => absurd hj (by omega)⟩) (by (repeat (first | exact trivial | (refine ⟨rfl, ?_⟩) | (refine ⟨gS rfl (by omega), ?_⟩)))) (Take.nil) ?_
  intro i hinv
  refine CW.seq (CW.region ?_)
  refine LW.val rfl rfl rfl (x_lss rfl rfl rfl) ?_
  refine LW.nil (QW.thenC (CW.seq ?_))
  refine CW.condD rfl (fun h => ?_) (fun h => ?_)
  · have hi : i < xs.length := by omega
    obtain ⟨ad, rfl⟩ := hR.some hi
    refine CW.skip (QW.thenC (CW.seq (CW.block (CW.seq (CW.region ?_)))))
    refine LW.val rfl rfl rfl (x_move rfl rfl) ?_
    refine LW.val rfl rfl rfl (x_assign rfl rfl) ?_
    refine LW.nil (QW.thenC (CW.seq (CW.region ?_)))
    refine LW.val rfl rfl rfl (x_move rfl rfl) ?_
    refine LW.val rfl rfl rfl (x_move rfl rfl) ?_
    refine LW.val rfl rfl rfl (x_move rfl rfl) ?_
    refine LW.val rfl rfl rfl (x_idxN rfl rfl rfl el29 (by omega)) ?_
    refine LW.val rfl rfl rfl (x_loadF (y := xs[i]) hR (by simp) cpLen rfl rfl ty41 (by simp [hi])) ?_
    refine LW.op rfl rfl rfl (y_callV rfl rfl rfl rfl eg (fun w1 HW => hp xs[i] w1 (HW.sub .nil)) (V := fun _ : Unit => .bool (p xs[i])) (N := fun _ => [])) ?_
    rintro ⟨⟩
    refine LW.nil (QW.thenC ?_)
    refine CW.cond rfl (fun h2 => ?_) (fun h2 => ?_)
    · refine CW.seq (CW.region ?_)
      refine LW.val rfl rfl rfl (x_move rfl rfl) ?_
      refine LW.val rfl rfl rfl (x_assign rfl rfl) ?_
      refine LW.nil (QW.thenC (CW.ret (QW.in_ret (QW.then_ret (QW.then_ret (QW.in_ret (QW.then_ret ?_)))))))
      refine QW.res1 rfl (ResV.tmp rfl) (ret_eq (()) ?_ ?_)
      · (rw [idxF_hit p xs i hi h2 hinv.2])
      · (repeat (first | exact Sub.nil | exact Sub.all | (apply Sub.cons; (focus ((repeat (first | exact Rem.head | apply Rem.tail)); done))) | (apply Sub.row; (focus ((repeat (first | exact Rem.head | apply Rem.tail)); done)); (focus (first | with_reducible rfl | assumption | omega | (simp; done) | (simp [Nat.mul_comm]; done) | (simp; omega))); (focus (first | with_reducible rfl | assumption | omega | (simp; done) | (simp [Nat.mul_comm]; done) | (simp; omega))); (focus (first | with_reducible rfl | (simp [nums]; done) | (simp [nums]; omega) | (simp; done) | (simp; omega)))) | (apply Sub.blk; (focus ((repeat (first | exact Rem.head | apply Rem.tail)); done)); (focus (first | with_reducible rfl | (simp [nums]; done) | (simp [nums]; omega) | (simp; done) | (simp; omega)))) | fail))
    · refine CW.skip (QW.in_normal (QW.thenC (CW.region ?_)))
      refine LW.val rfl rfl rfl (x_add rfl rfl rfl (by omega)) ?_
      refine LW.val rfl rfl rfl (x_move rfl rfl) ?_
      refine LW.nil ?_
      refine QW.then_ (QW.roundC1 (i + 1) ?_ ?_ (by (repeat (first | exact trivial | (refine ⟨rfl, ?_⟩) | (refine ⟨gS rfl (by omega), ?_⟩)))) (by (repeat (first | exact Ext.refl | (refine Ext.cons rfl ?_)))) (by (repeat (first | exact Sub.nil | exact Sub.all | (apply Sub.cons; (focus ((repeat (first | exact Rem.head | apply Rem.tail)); done))) | (apply Sub.row; (focus ((repeat (first | exact Rem.head | apply Rem.tail)); done)); (focus (first | with_reducible rfl | assumption | omega | (simp; done) | (simp [Nat.mul_comm]; done) | (simp; omega))); (focus (first | with_reducible rfl | assumption | omega | (simp; done) | (simp [Nat.mul_comm]; done) | (simp; omega))); (focus (first | with_reducible rfl | (simp [nums]; done) | (simp [nums]; omega) | (simp; done) | (simp; omega)))) | (apply Sub.blk; (focus ((repeat (first | exact Rem.head | apply Rem.tail)); done)); (focus (first | with_reducible rfl | (simp [nums]; done) | (simp [nums]; omega) | (simp; done) | (simp; omega)))) | fail))))
      · exact ⟨hi, fun j hj hji => if e : j = i then by subst e; exact h2 else hinv.2 j hj (by omega)⟩
      · first | omega | (simp; omega)
  · refine CW.exit (QW.then_exit (QW.then_exit (QW.in_hit (QW.thenC (CW.seq (CW.region ?_))))))
    refine LW.val rfl rfl rfl (x_assign rfl rfl) ?_
    refine LW.nil (QW.thenC (CW.ret ?_))
    refine QW.res1 rfl (ResV.tmp rfl) (ret_eq (()) ?_ ?_)
    · (rw [idxF_miss p xs (fun j hj => hinv.2 j hj (by omega))])
    · (repeat (first | exact Sub.nil | exact Sub.all | (apply Sub.cons; (focus ((repeat (first | exact Rem.head | apply Rem.tail)); done))) | (apply Sub.row; (focus ((repeat (first | exact Rem.head | apply Rem.tail)); done)); (focus (first | with_reducible rfl | assumption | omega | (simp; done) | (simp [Nat.mul_comm]; done) | (simp; omega))); (focus (first | with_reducible rfl | assumption | omega | (simp; done) | (simp [Nat.mul_comm]; done) | (simp; omega))); (focus (first | with_reducible rfl | (simp [nums]; done) | (simp [nums]; omega) | (simp; done) | (simp; omega)))) | (apply Sub.blk; (focus ((repeat (first | exact Rem.head | apply Rem.tail)); done)); (focus (first | with_reducible rfl | (simp [nums]; done) | (simp [nums]; omega) | (simp; done) | (simp; omega)))) | fail))
theorem onLoom_ct (day looms money loom : Int) (xs : List Cp) (A : Option Addr) (c : Nat) (w : World) (hR : RdC w A c xs) : Calls Try.prog 40 #[shV day looms money A xs.length c, .int .i64 loom] w (Ret (fun _ : Unit => .int .i64 (idxF (onL loom) xs)) (fun _ => []) w) := by
  refine enter Try.func40 rfl rfl Try.ntmps40 rfl ?_
  refine CW.seq (CW.region ?_)
  refine LW.op rfl rfl rfl (y_box rfl rfl rfl) ?_
  intro b2
  refine LW.op rfl rfl rfl (y_box rfl rfl rfl) ?_
  intro b3
  refine LW.val rfl rfl rfl (x_assign rfl rfl) ?_
  refine LW.nil (QW.thenC (CW.seq (CW.region ?_)))
  refine LW.val rfl rfl rfl (x_fieldAddr rfl rfl fl31_2 rfl) ?_
  refine LW.val rfl rfl rfl (x_loadB rfl rfl ty29 (by (repeat (first | exact Rem.head | apply Rem.tail)); done) (by exact rfl)) ?_
  refine LW.val rfl rfl rfl (x_func rfl rfl rfl) ?_
  refine LW.op rfl rfl rfl (y_call rfl rfl rfl en59 (fun w HW => IndexFunc_ct (onL loom) 60 #[.pointer (some ⟨b3, 0, none⟩)] xs _ _ w (hR.up HW.below) en60 (fun x W' h => onLoom1_ct b3 loom x W' (by rw [World.cell?_of_block (h.below.block b3 (World.block_lt_of_cell? w ⟨b3, 0, none⟩ (blk_get (i := 0) (cs := [.int .i64 loom]) (e := 3) (by (repeat (first | exact Rem.head | apply Rem.tail)); done) rfl HW)))]; exact blk_get (i := 0) (cs := [.int .i64 loom]) (e := 3) (by (repeat (first | exact Rem.head | apply Rem.tail)); done) rfl HW)))) ?_
  rintro ⟨⟩
  refine LW.val rfl rfl rfl (x_assign rfl rfl) ?_
  refine LW.nil (QW.thenC (CW.ret ?_))
  refine QW.res1 rfl (ResV.tmp rfl) (ret_eq (()) ?_ ?_)
  · first | rfl | (simp only []; rfl)
  · (repeat (first | exact Sub.nil | exact Sub.all | (apply Sub.cons; (focus ((repeat (first | exact Rem.head | apply Rem.tail)); done))) | (apply Sub.row; (focus ((repeat (first | exact Rem.head | apply Rem.tail)); done)); (focus (first | with_reducible rfl | assumption | omega | (simp; done) | (simp [Nat.mul_comm]; done) | (simp; omega))); (focus (first | with_reducible rfl | assumption | omega | (simp; done) | (simp [Nat.mul_comm]; done) | (simp; omega))); (focus (first | with_reducible rfl | (simp [nums]; done) | (simp [nums]; omega) | (simp; done) | (simp; omega)))) | (apply Sub.blk; (focus ((repeat (first | exact Rem.head | apply Rem.tail)); done)); (focus (first | with_reducible rfl | (simp [nums]; done) | (simp [nums]; omega) | (simp; done) | (simp; omega)))) | fail))
end Go.Proofs.Ytbgjlojnbdnoaaa
