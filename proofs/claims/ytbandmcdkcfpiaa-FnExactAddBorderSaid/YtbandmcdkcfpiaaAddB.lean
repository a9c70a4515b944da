/- AddBorder, the program's and the reference's. -/
import Derived.Test.YtbandmcdkcfpiaaRetC
import Derived.Test.YtbandmcdkcfpiaaPut2
import Derived.Test.YtbandmcdkcfpiaaRingN
import Derived.Test.YtbandmcdkcfpiaaMake1
import Derived.Test.YtbandmcdkcfpiaaPat
namespace Go.Proofs.Ytbandmcdkcfpiaa
open Go.RowKit Go.Proofs.YtbandmcdkcfpiaaW.PrintWords
set_option linter.unusedVariables false
set_option linter.unusedSimpArgs false

def abOk (cw ch : Int) (k p : List Int) : Bool := goodB cw ch k && patB p && sideB (cw + 2) && sideB (ch + 2) && decide ((2 * ((cw + 2) + (ch + 2)) - 4) % (p.length : Int) = 0)
/-- what AddBorder gives: ok, width, height, knots -/
def abR (cw ch : Int) (k p : List Int) : Bool × Int × Int × List Int :=
  if abOk cw ch k p = true then (true, cw + 2, ch + 2, ringed (cw.toNat + 2) (ch.toNat + 2) (putN (cw.toNat + 2) (List.replicate ((cw.toNat + 2) * (ch.toNat + 2)) 0) cw.toNat ch.toNat k 1 1) p) else (false, 0, 0, [])
abbrev cbV (ok : Bool) (cw ch : Int) (m : Nat) (p : Option Addr × Nat) : Value := .tuple #[chV cw ch m p, .bool ok]

theorem makeChart_i (wi hi : Int) (W H : Nat) (e1 : wi = W) (e2 : hi = H) (g : Nat) (lb : Array Value) (p : Nat → Nat → Int) (w : World) (hW : W ≤ 64) (hH : H ≤ 64) (eg : Enters Try.prog g)
    (hp : ∀ (r c : Nat) (W' : World), r < H → c < W → SH w [] W' [] → Calls Try.prog g (#[.int .i64 r, .int .i64 c] ++ lb) W' (Ret (fun _ : Unit => .int .i64 (p r c)) (fun _ => []) W')) :
    Calls Try.prog 140 #[.int .i64 wi, .int .i64 hi, .func (.func g) #[] lb] w (Ret (chV wi hi (W * H)) (fun q => [rowI q.1 (W * H) q.2 (made p W H)]) w) := by subst e1 e2; exact makeChart_ct g lb p W H w hW hH eg hp
theorem put_i (wi hi : Int) (W H pw ph row col : Nat) (e1 : wi = W) (e2 : hi = H) (k pk : List Int) (A A' : Option Addr) (c c' m : Nat) (w : World) (hm : k.length = m) (hk : k.length = W * H) (hpk : pk.length = pw * ph) (hW : W ≤ 8) (hH : H ≤ 8) (hr : row + ph ≤ H) (hc : col + pw ≤ W) (hpw : 1 ≤ pw)
    (hR : RdI w A c k) (hR' : RdI w A' c' pk) :
    Calls Try.prog 123 #[chA wi hi A m c, chA pw ph A' pk.length c', .int .i64 row, .int .i64 col] w (Ret (chV wi hi m) (fun p => [rowI p.1 m p.2 (putN W k pw ph pk row col)]) w) := by
  subst e1 e2 hm; exact ret_c (putN_length _ _ _ _ _ _ _) (put_any W H pw ph row col k pk A A' c c' w hk hpk hW hH hr hc hpw hR hR')
theorem l2Put_i (wi hi : Int) (W H pw ph row col : Nat) (e1 : wi = W) (e2 : hi = H) (k pk : List Int) (A A' : Option Addr) (c c' m : Nat) (w : World) (hm : k.length = m) (hk : k.length = W * H) (hpk : pk.length = pw * ph) (hW : W ≤ 8) (hH : H ≤ 8) (hr : row + ph ≤ H) (hc : col + pw ≤ W)
    (hR : RdI w A c k) (hR' : RdI w A' c' pk) :
    Calls Try.prog 121 #[chA wi hi A m c, chA pw ph A' pk.length c', .int .i64 row, .int .i64 col] w (Ret (chV wi hi m) (fun p => [rowI p.1 m p.2 (putN W k pw ph pk row col)]) w) := by
  subst e1 e2 hm; exact ret_c (putN_length _ _ _ _ _ _ _) (l2Put_any W H pw ph row col k pk A A' c c' w hk hpk hW hH hr hc hR hR')
theorem ringLength_ct (W H : Int) (w : World) (hW : 0 ≤ W ∧ W ≤ 10) (hH : 0 ≤ H ∧ H ≤ 10) : Calls Try.prog 150 #[.int .i64 W, .int .i64 H] w (Ret (fun _ : Unit => .int .i64 (2 * (W + H) - 4)) (fun _ => []) w) := by
  refine enter Try.func150 rfl rfl Try.ntmps150 rfl ?_
  refine CW.seq (CW.region ?_)
  refine LW.val rfl rfl rfl (x_assign rfl rfl) ?_
  refine LW.nil (QW.thenC (CW.seq (CW.region ?_)))
  refine LW.val rfl rfl rfl (x_move rfl rfl) ?_
  refine LW.val rfl rfl rfl (x_move rfl rfl) ?_
  refine LW.val rfl rfl rfl (x_add rfl rfl rfl (by omega)) ?_
  refine LW.val rfl rfl rfl (x_mul rfl rfl rfl (by omega)) ?_
  refine LW.val rfl rfl rfl (x_sub rfl rfl rfl (by omega)) ?_
  refine LW.val rfl rfl rfl (x_assign rfl rfl) ?_
  refine LW.nil (QW.thenC (CW.ret ?_))
  refine QW.res1 rfl (ResV.tmp rfl) (ret_eq (()) ?_ ?_)
  · first | rfl | (simp only []; rfl)
  · (repeat (first | exact Sub.nil | exact Sub.all | (apply Sub.cons; (focus ((repeat (first | exact Rem.head | apply Rem.tail)); done))) | (apply Sub.row; (focus ((repeat (first | exact Rem.head | apply Rem.tail)); done)); (focus (first | with_reducible rfl | assumption | omega | (simp; done) | (simp [Nat.mul_comm]; done) | (simp; omega))); (focus (first | with_reducible rfl | assumption | omega | (simp; done) | (simp [Nat.mul_comm]; done) | (simp; omega))); (focus (first | with_reducible rfl | (simp [nums]; done) | (simp [nums]; omega) | (simp; done) | (simp; omega)))) | (apply Sub.blk; (focus ((repeat (first | exact Rem.head | apply Rem.tail)); done)); (focus (first | with_reducible rfl | (simp [nums]; done) | (simp [nums]; omega) | (simp; done) | (simp; omega)))) | fail))
theorem l8Length_ct (W H : Int) (w : World) (hW : 0 ≤ W ∧ W ≤ 10) (hH : 0 ≤ H ∧ H ≤ 10) : Calls Try.prog 146 #[.int .i64 W, .int .i64 H] w (Ret (fun _ : Unit => .int .i64 (2 * (W + H) - 4)) (fun _ => []) w) := by
  refine enter Try.func146 rfl rfl Try.ntmps146 rfl ?_
  refine CW.seq (CW.region ?_)
  refine LW.val rfl rfl rfl (x_assign rfl rfl) ?_
  refine LW.nil (QW.thenC (CW.seq (CW.region ?_)))
  refine LW.val rfl rfl rfl (x_move rfl rfl) ?_
  refine LW.val rfl rfl rfl (x_mul rfl rfl rfl (by omega)) ?_
  refine LW.val rfl rfl rfl (x_move rfl rfl) ?_
  refine LW.val rfl rfl rfl (x_mul rfl rfl rfl (by omega)) ?_
  refine LW.val rfl rfl rfl (x_add rfl rfl rfl (by omega)) ?_
  refine LW.val rfl rfl rfl (x_sub rfl rfl rfl (by omega)) ?_
  refine LW.val rfl rfl rfl (x_assign rfl rfl) ?_
  refine LW.nil (QW.thenC (CW.ret ?_))
  refine QW.res1 rfl (ResV.tmp rfl) (ret_eq (()) ?_ ?_)
  · (rw [Int.mul_add])
  · (repeat (first | exact Sub.nil | exact Sub.all | (apply Sub.cons; (focus ((repeat (first | exact Rem.head | apply Rem.tail)); done))) | (apply Sub.row; (focus ((repeat (first | exact Rem.head | apply Rem.tail)); done)); (focus (first | with_reducible rfl | assumption | omega | (simp; done) | (simp [Nat.mul_comm]; done) | (simp; omega))); (focus (first | with_reducible rfl | assumption | omega | (simp; done) | (simp [Nat.mul_comm]; done) | (simp; omega))); (focus (first | with_reducible rfl | (simp [nums]; done) | (simp [nums]; omega) | (simp; done) | (simp; omega)))) | (apply Sub.blk; (focus ((repeat (first | exact Rem.head | apply Rem.tail)); done)); (focus (first | with_reducible rfl | (simp [nums]; done) | (simp [nums]; omega) | (simp; done) | (simp; omega)))) | fail))
theorem zero_ct (r c : Nat) (w : World) : Calls Try.prog 149 #[.int .i64 r, .int .i64 c] w (Ret (fun _ : Unit => .int .i64 0) (fun _ => []) w) := by
  refine enter Try.func149 rfl rfl Try.ntmps149 rfl ?_
  refine CW.seq (CW.region ?_)
  refine LW.val rfl rfl rfl (x_assign rfl rfl) ?_
  refine LW.nil (QW.thenC (CW.seq (CW.region ?_)))
  refine LW.val rfl rfl rfl (x_assign rfl rfl) ?_
  refine LW.nil (QW.thenC (CW.ret ?_))
  refine QW.res1 rfl (ResV.tmp rfl) (ret_eq (()) ?_ ?_)
  · first | rfl | (simp only []; rfl)
  · (repeat (first | exact Sub.nil | exact Sub.all | (apply Sub.cons; (focus ((repeat (first | exact Rem.head | apply Rem.tail)); done))) | (apply Sub.row; (focus ((repeat (first | exact Rem.head | apply Rem.tail)); done)); (focus (first | with_reducible rfl | assumption | omega | (simp; done) | (simp [Nat.mul_comm]; done) | (simp; omega))); (focus (first | with_reducible rfl | assumption | omega | (simp; done) | (simp [Nat.mul_comm]; done) | (simp; omega))); (focus (first | with_reducible rfl | (simp [nums]; done) | (simp [nums]; omega) | (simp; done) | (simp; omega)))) | (apply Sub.blk; (focus ((repeat (first | exact Rem.head | apply Rem.tail)); done)); (focus (first | with_reducible rfl | (simp [nums]; done) | (simp [nums]; omega) | (simp; done) | (simp; omega)))) | fail))

set_option maxRecDepth 20000 in
theorem AddBorder_ct (cw ch : Int) (k p : List Int) (A C : Option Addr) (c d : Nat) (w : World) (hR : RdI w A c k) (hR' : RdI w C d p) (ok : Bool) (rw rh : Int) (rk : List Int) (hr : abR cw ch k p = (ok, rw, rh, rk)) :
    Calls Try.prog 35 #[chA cw ch A k.length c, .slice C p.length d] w (Ret (cbV ok rw rh rk.length) (fun q => [rowI q.1 rk.length q.2 rk]) w) := by
  have hl := hR.len
  have hlp := hR'.len
  have no : abOk cw ch k p = false → ok = false ∧ rw = 0 ∧ rh = 0 ∧ rk = [] := fun h => by simp [abR, h] at hr; exact ⟨hr.1, hr.2.1.symm, hr.2.2.1.symm, hr.2.2.2⟩
  refine enter Try.func35 rfl rfl Try.ntmps35 rfl ?_
  refine CW.nilRow 3 1 ?_
  refine CW.seq (CW.region ?_)
  refine LW.op rfl rfl rfl (y_box rfl rfl rfl) ?_
  intro b2
  refine LW.op rfl rfl rfl (y_alloc rfl ze26) ?_
  intro b4
  refine LW.val rfl rfl rfl (x_assign rfl rfl) ?_
  refine LW.nil (QW.thenC (CW.seq (CW.seq (CW.region ?_))))
  refine LW.val rfl rfl rfl (x_loadBN rfl rfl ty26 (by (repeat (first | exact Rem.head | apply Rem.tail)); done) (by exact rfl) rfl) ?_
  refine LW.op rfl rfl rfl (y_call rfl rfl rfl en102 (fun w HW => IsChart_ct cw ch k _ _ _ w rfl (hR.up HW.below))) ?_
  rintro ⟨⟩
  refine LW.val rfl rfl rfl (x_not rfl rfl) ?_
  refine LW.val rfl rfl rfl (x_move rfl rfl) ?_
  refine LW.split (t := 10) rfl (fun h1 => ?_) (fun h1 => ?_)
  · obtain ⟨rfl, rfl, rfl, rfl⟩ := no (by simp [abOk, show goodB cw ch k = false by simpa using h1])
    refine LW.gF rfl rfl rfl rfl rfl rfl ?_
    refine LW.gF rfl rfl rfl rfl rfl rfl ?_
    refine LW.gF rfl rfl rfl rfl rfl rfl ?_
    refine LW.val rfl rfl rfl (x_pickT rfl rfl rfl) ?_
    refine LW.val rfl rfl rfl (x_move rfl rfl) ?_
    refine LW.gF rfl rfl rfl rfl rfl rfl ?_
    refine LW.gF rfl rfl rfl rfl rfl rfl ?_
    refine LW.gF rfl rfl rfl rfl rfl rfl ?_
    refine LW.gF rfl rfl rfl rfl rfl rfl ?_
    refine LW.gF rfl rfl rfl rfl rfl rfl ?_
    refine LW.val rfl rfl rfl (x_pickT rfl rfl rfl) ?_
    refine LW.val rfl rfl rfl (x_move rfl rfl) ?_
    refine LW.gF rfl rfl rfl rfl rfl rfl ?_
    refine LW.gF rfl rfl rfl rfl rfl rfl ?_
    refine LW.gF rfl rfl rfl rfl rfl rfl ?_
    refine LW.gF rfl rfl rfl rfl rfl rfl ?_
    refine LW.gF rfl rfl rfl rfl rfl rfl ?_
    refine LW.val rfl rfl rfl (x_pickT rfl rfl rfl) ?_
    refine LW.nil (QW.thenC (CW.condT rfl (CW.seq (CW.region ?_))))
    refine LW.val rfl rfl rfl (x_build rfl rfl rfl ze26 st26 pl26 (by simp [fillL, Value.cells]; rfl)) ?_
    refine LW.op0 rfl rfl (y_storeBN rfl rfl rfl rfl ty26 rfl (by (repeat (first | exact Rem.head | apply Rem.tail)); done) (by exact rfl) (by (simp only [List.take, List.drop, List.nil_append, List.cons_append, Nat.add_zero, Nat.zero_add]; rfl))) ?_
    intro _u
    refine LW.val rfl rfl rfl (x_assign rfl rfl) ?_
    refine LW.nil (QW.thenC (CW.ret (QW.then_ret ?_)))
    refine QW.res2 rfl (ResV.cellN rfl ty26 (by (repeat (first | exact Rem.head | apply Rem.tail)); done) (by exact rfl)) (ResV.tmp rfl) (ret_eq ((none, 0)) ?_ ?_)
    · first | rfl | (simp only []; rfl)
    · (repeat (first | exact Sub.nil | exact Sub.all | (apply Sub.cons; (focus ((repeat (first | exact Rem.head | apply Rem.tail)); done))) | (apply Sub.row; (focus ((repeat (first | exact Rem.head | apply Rem.tail)); done)); (focus (first | with_reducible rfl | assumption | omega | (simp; done) | (simp [Nat.mul_comm]; done) | (simp; omega))); (focus (first | with_reducible rfl | assumption | omega | (simp; done) | (simp [Nat.mul_comm]; done) | (simp; omega))); (focus (first | with_reducible rfl | (simp [nums]; done) | (simp [nums]; omega) | (simp; done) | (simp; omega)))) | (apply Sub.blk; (focus ((repeat (first | exact Rem.head | apply Rem.tail)); done)); (focus (first | with_reducible rfl | (simp [nums]; done) | (simp [nums]; omega) | (simp; done) | (simp; omega)))) | fail))
  · have h1 : goodB cw ch k = true := by simpa using h1
    obtain ⟨⟨a1, a2⟩, ⟨a3, a4⟩, a5, _⟩ := goodB_iff.1 h1
    refine LW.valG rfl rfl rfl rfl rfl (x_move rfl rfl) ?_
    refine LW.opG rfl rfl rfl rfl rfl (y_call rfl rfl rfl en148 (fun w HW => ret_b (isPattern_any p C d _ (hR'.up HW.below)))) ?_
    rintro ⟨⟩
    refine LW.valG rfl rfl rfl rfl rfl (x_not rfl rfl) ?_
    refine LW.val rfl rfl rfl (x_pickF rfl rfl rfl) ?_
    refine LW.val rfl rfl rfl (x_move rfl rfl) ?_
    refine LW.split (t := 15) rfl (fun h2 => ?_) (fun h2 => ?_)
    · obtain ⟨rfl, rfl, rfl, rfl⟩ := no (by simp [abOk, show patB p = false by simpa using h2])
      refine LW.gF rfl rfl rfl rfl rfl rfl ?_
      refine LW.gF rfl rfl rfl rfl rfl rfl ?_
      refine LW.gF rfl rfl rfl rfl rfl rfl ?_
      refine LW.gF rfl rfl rfl rfl rfl rfl ?_
      refine LW.gF rfl rfl rfl rfl rfl rfl ?_
      refine LW.val rfl rfl rfl (x_pickT rfl rfl rfl) ?_
      refine LW.val rfl rfl rfl (x_move rfl rfl) ?_
      refine LW.gF rfl rfl rfl rfl rfl rfl ?_
      refine LW.gF rfl rfl rfl rfl rfl rfl ?_
      refine LW.gF rfl rfl rfl rfl rfl rfl ?_
      refine LW.gF rfl rfl rfl rfl rfl rfl ?_
      refine LW.gF rfl rfl rfl rfl rfl rfl ?_
      refine LW.val rfl rfl rfl (x_pickT rfl rfl rfl) ?_
      refine LW.nil (QW.thenC (CW.condT rfl (CW.seq (CW.region ?_))))
      refine LW.val rfl rfl rfl (x_build rfl rfl rfl ze26 st26 pl26 (by simp [fillL, Value.cells]; rfl)) ?_
      refine LW.op0 rfl rfl (y_storeBN rfl rfl rfl rfl ty26 rfl (by (repeat (first | exact Rem.head | apply Rem.tail)); done) (by exact rfl) (by (simp only [List.take, List.drop, List.nil_append, List.cons_append, Nat.add_zero, Nat.zero_add]; rfl))) ?_
      intro _u
      refine LW.val rfl rfl rfl (x_assign rfl rfl) ?_
      refine LW.nil (QW.thenC (CW.ret (QW.then_ret ?_)))
      refine QW.res2 rfl (ResV.cellN rfl ty26 (by (repeat (first | exact Rem.head | apply Rem.tail)); done) (by exact rfl)) (ResV.tmp rfl) (ret_eq ((none, 0)) ?_ ?_)
      · first | rfl | (simp only []; rfl)
      · (repeat (first | exact Sub.nil | exact Sub.all | (apply Sub.cons; (focus ((repeat (first | exact Rem.head | apply Rem.tail)); done))) | (apply Sub.row; (focus ((repeat (first | exact Rem.head | apply Rem.tail)); done)); (focus (first | with_reducible rfl | assumption | omega | (simp; done) | (simp [Nat.mul_comm]; done) | (simp; omega))); (focus (first | with_reducible rfl | assumption | omega | (simp; done) | (simp [Nat.mul_comm]; done) | (simp; omega))); (focus (first | with_reducible rfl | (simp [nums]; done) | (simp [nums]; omega) | (simp; done) | (simp; omega)))) | (apply Sub.blk; (focus ((repeat (first | exact Rem.head | apply Rem.tail)); done)); (focus (first | with_reducible rfl | (simp [nums]; done) | (simp [nums]; omega) | (simp; done) | (simp; omega)))) | fail))
    · have h2 : patB p = true := by simpa using h2
      obtain ⟨⟨b1, b2⟩, _⟩ := patB_iff.1 h2
      refine LW.valG rfl rfl rfl rfl rfl (x_fieldAddr rfl rfl fl26_0 rfl) ?_
      refine LW.valG rfl rfl rfl rfl rfl (x_loadB rfl rfl ty3 (by (repeat (first | exact Rem.head | apply Rem.tail)); done) (by exact rfl)) ?_
      refine LW.valG rfl rfl rfl rfl rfl (x_add rfl rfl rfl (by omega)) ?_
      refine LW.opG rfl rfl rfl rfl rfl (y_call rfl rfl rfl en138 (fun w HW => isSide_ct _ _)) ?_
      rintro ⟨⟩
      refine LW.valG rfl rfl rfl rfl rfl (x_not rfl rfl) ?_
      refine LW.val rfl rfl rfl (x_pickF rfl rfl rfl) ?_
      refine LW.val rfl rfl rfl (x_move rfl rfl) ?_
      refine LW.split (t := 22) rfl (fun h3 => ?_) (fun h3 => ?_)
      · obtain ⟨rfl, rfl, rfl, rfl⟩ := no (by simp [abOk, show sideB (cw + 2) = false by simpa using h3])
        refine LW.gF rfl rfl rfl rfl rfl rfl ?_
        refine LW.gF rfl rfl rfl rfl rfl rfl ?_
        refine LW.gF rfl rfl rfl rfl rfl rfl ?_
        refine LW.gF rfl rfl rfl rfl rfl rfl ?_
        refine LW.gF rfl rfl rfl rfl rfl rfl ?_
        refine LW.val rfl rfl rfl (x_pickT rfl rfl rfl) ?_
        refine LW.nil (QW.thenC (CW.condT rfl (CW.seq (CW.region ?_))))
        refine LW.val rfl rfl rfl (x_build rfl rfl rfl ze26 st26 pl26 (by simp [fillL, Value.cells]; rfl)) ?_
        refine LW.op0 rfl rfl (y_storeBN rfl rfl rfl rfl ty26 rfl (by (repeat (first | exact Rem.head | apply Rem.tail)); done) (by exact rfl) (by (simp only [List.take, List.drop, List.nil_append, List.cons_append, Nat.add_zero, Nat.zero_add]; rfl))) ?_
        intro _u
        refine LW.val rfl rfl rfl (x_assign rfl rfl) ?_
        refine LW.nil (QW.thenC (CW.ret (QW.then_ret ?_)))
        refine QW.res2 rfl (ResV.cellN rfl ty26 (by (repeat (first | exact Rem.head | apply Rem.tail)); done) (by exact rfl)) (ResV.tmp rfl) (ret_eq ((none, 0)) ?_ ?_)
        · first | rfl | (simp only []; rfl)
        · (repeat (first | exact Sub.nil | exact Sub.all | (apply Sub.cons; (focus ((repeat (first | exact Rem.head | apply Rem.tail)); done))) | (apply Sub.row; (focus ((repeat (first | exact Rem.head | apply Rem.tail)); done)); (focus (first | with_reducible rfl | assumption | omega | (simp; done) | (simp [Nat.mul_comm]; done) | (simp; omega))); (focus (first | with_reducible rfl | assumption | omega | (simp; done) | (simp [Nat.mul_comm]; done) | (simp; omega))); (focus (first | with_reducible rfl | (simp [nums]; done) | (simp [nums]; omega) | (simp; done) | (simp; omega)))) | (apply Sub.blk; (focus ((repeat (first | exact Rem.head | apply Rem.tail)); done)); (focus (first | with_reducible rfl | (simp [nums]; done) | (simp [nums]; omega) | (simp; done) | (simp; omega)))) | fail))
      · have h3 : sideB (cw + 2) = true := by simpa using h3
        refine LW.valG rfl rfl rfl rfl rfl (x_fieldAddr rfl rfl fl26_1 rfl) ?_
        refine LW.valG rfl rfl rfl rfl rfl (x_loadB rfl rfl ty3 (by (repeat (first | exact Rem.head | apply Rem.tail)); done) (by exact rfl)) ?_
        refine LW.valG rfl rfl rfl rfl rfl (x_add rfl rfl rfl (by omega)) ?_
        refine LW.opG rfl rfl rfl rfl rfl (y_call rfl rfl rfl en138 (fun w HW => isSide_ct _ _)) ?_
        rintro ⟨⟩
        refine LW.valG rfl rfl rfl rfl rfl (x_not rfl rfl) ?_
        refine LW.val rfl rfl rfl (x_pickF rfl rfl rfl) ?_
        refine LW.nil (QW.thenC ?_)
        refine CW.cond rfl (fun h4 => ?_) (fun h4 => ?_)
        · obtain ⟨rfl, rfl, rfl, rfl⟩ := no (by simp [abOk, show sideB (ch + 2) = false by simpa using h4])
          refine CW.seq (CW.region ?_)
          refine LW.val rfl rfl rfl (x_build rfl rfl rfl ze26 st26 pl26 (by simp [fillL, Value.cells]; rfl)) ?_
          refine LW.op0 rfl rfl (y_storeBN rfl rfl rfl rfl ty26 rfl (by (repeat (first | exact Rem.head | apply Rem.tail)); done) (by exact rfl) (by (simp only [List.take, List.drop, List.nil_append, List.cons_append, Nat.add_zero, Nat.zero_add]; rfl))) ?_
          intro _u
          refine LW.val rfl rfl rfl (x_assign rfl rfl) ?_
          refine LW.nil (QW.thenC (CW.ret (QW.then_ret ?_)))
          refine QW.res2 rfl (ResV.cellN rfl ty26 (by (repeat (first | exact Rem.head | apply Rem.tail)); done) (by exact rfl)) (ResV.tmp rfl) (ret_eq ((none, 0)) ?_ ?_)
          · first | rfl | (simp only []; rfl)
          · (repeat (first | exact Sub.nil | exact Sub.all | (apply Sub.cons; (focus ((repeat (first | exact Rem.head | apply Rem.tail)); done))) | (apply Sub.row; (focus ((repeat (first | exact Rem.head | apply Rem.tail)); done)); (focus (first | with_reducible rfl | assumption | omega | (simp; done) | (simp [Nat.mul_comm]; done) | (simp; omega))); (focus (first | with_reducible rfl | assumption | omega | (simp; done) | (simp [Nat.mul_comm]; done) | (simp; omega))); (focus (first | with_reducible rfl | (simp [nums]; done) | (simp [nums]; omega) | (simp; done) | (simp; omega)))) | (apply Sub.blk; (focus ((repeat (first | exact Rem.head | apply Rem.tail)); done)); (focus (first | with_reducible rfl | (simp [nums]; done) | (simp [nums]; omega) | (simp; done) | (simp; omega)))) | fail))
        · have h4 : sideB (ch + 2) = true := by simpa using h4
          have c1 := inB_iff.1 h3
          have c2 := inB_iff.1 h4
          obtain ⟨W, rfl⟩ : ∃ n : Nat, cw = n := ⟨cw.toNat, by omega⟩
          obtain ⟨H, rfl⟩ : ∃ n : Nat, ch = n := ⟨ch.toNat, by omega⟩
          have hk : k.length = W * H := by exact_mod_cast a5
          have hM : (W + 2) * (H + 2) ≤ 10 * 10 := Nat.mul_le_mul (by omega) (by omega)
          have hl0 : (made (fun _ _ => 0) (W + 2) (H + 2)).length = (W + 2) * (H + 2) := made_length _ _ _
          refine CW.skip (QW.thenC (CW.seq ?_))
          refine CW.cutC3 (M := []) [6, 30, 31, 32, 33, 34, 35, 36, 37, 38] (fun (b : Nat) (A1 : Option Addr) (c1 : Nat) => True) (fun (b : Nat) (A1 : Option Addr) (c1 : Nat) => [(6, .pointer (some ⟨b, 0, none⟩))]) (fun (b : Nat) (A1 : Option Addr) (c1 : Nat) => [rowI A1 ((W + 2) * (H + 2)) c1 (putN (W + 2) (made (fun _ _ => 0) (W + 2) (H + 2)) W H k 1 1), .blk b (chL (W + 2) (H + 2) A1 ((W + 2) * (H + 2)) c1) 26]) (Take.nil) ?_ ?_
          · skip
            refine CW.drawL [] follows ?_
            refine DW.take 0 rfl rfl (by kernel_rfl) (by kernel_rfl) (by kernel_rfl) (by kernel_rfl) (by kernel_rfl) rfl (fun _ _ _ h => nomatch h.1) rfl (by (repeat (first | exact Sub.nil | exact Sub.all | (apply Sub.cons; (focus ((repeat (first | exact Rem.head | apply Rem.tail)); done))) | fail))) (x_fieldAddr rfl rfl fl26_0 rfl) rfl ?_
            refine DW.take 1 rfl rfl (by kernel_rfl) (by kernel_rfl) (by kernel_rfl) (by kernel_rfl) (by kernel_rfl) rfl (fun _ _ _ h => nomatch h.1) rfl (by (repeat (first | exact Sub.nil | exact Sub.all | (apply Sub.cons; (focus ((repeat (first | exact Rem.head | apply Rem.tail)); done))) | fail))) (x_loadB rfl rfl ty3 (by (repeat (first | exact Rem.head | apply Rem.tail)); done) (by exact rfl)) rfl ?_
            refine DW.take 2 rfl rfl (by kernel_rfl) (by kernel_rfl) (by kernel_rfl) (by kernel_rfl) (by kernel_rfl) rfl (fun _ _ _ h => nomatch h.1) rfl (by (repeat (first | exact Sub.nil | exact Sub.all | (apply Sub.cons; (focus ((repeat (first | exact Rem.head | apply Rem.tail)); done))) | fail))) (x_add rfl rfl rfl (by omega)) rfl ?_
            refine DW.take 3 rfl rfl (by kernel_rfl) (by kernel_rfl) (by kernel_rfl) (by kernel_rfl) (by kernel_rfl) rfl (fun _ _ _ h => nomatch h.1) rfl (by (repeat (first | exact Sub.nil | exact Sub.all | (apply Sub.cons; (focus ((repeat (first | exact Rem.head | apply Rem.tail)); done))) | fail))) (x_fieldAddr rfl rfl fl26_1 rfl) rfl ?_
            refine DW.take 4 rfl rfl (by kernel_rfl) (by kernel_rfl) (by kernel_rfl) (by kernel_rfl) (by kernel_rfl) rfl (fun _ _ _ h => nomatch h.1) rfl (by (repeat (first | exact Sub.nil | exact Sub.all | (apply Sub.cons; (focus ((repeat (first | exact Rem.head | apply Rem.tail)); done))) | fail))) (x_loadB rfl rfl ty3 (by (repeat (first | exact Rem.head | apply Rem.tail)); done) (by exact rfl)) rfl ?_
            refine DW.take 5 rfl rfl (by kernel_rfl) (by kernel_rfl) (by kernel_rfl) (by kernel_rfl) (by kernel_rfl) rfl (fun _ _ _ h => nomatch h.1) rfl (by (repeat (first | exact Sub.nil | exact Sub.all | (apply Sub.cons; (focus ((repeat (first | exact Rem.head | apply Rem.tail)); done))) | fail))) (x_add rfl rfl rfl (by omega)) rfl ?_
            refine DW.take 7 rfl rfl (by kernel_rfl) (by kernel_rfl) (by kernel_rfl) (by kernel_rfl) (by kernel_rfl) rfl (fun _ _ _ h => nomatch h.1) rfl (by (repeat (first | exact Sub.nil | exact Sub.all | (apply Sub.cons; (focus ((repeat (first | exact Rem.head | apply Rem.tail)); done))) | fail))) (x_loadBN rfl rfl ty26 (by (repeat (first | exact Rem.head | apply Rem.tail)); done) (by exact rfl) rfl) rfl ?_
            refine DW.ready [6, 9] (by kernel_rfl) (by simp) ?_
            refine AllR.cons rfl rfl rfl rfl (y_call rfl rfl rfl en140 (fun w HW => makeChart_i _ _ (W + 2) (H + 2) (by omega) (by omega) 149 #[] (fun _ _ => 0) w (by omega) (by omega) en149 (fun r c W' _ _ _ => zero_ct r c W'))) (fun _ => by (repeat (first | exact Sub.nil | exact Sub.all | (apply Sub.cons; (focus ((repeat (first | exact Rem.head | apply Rem.tail)); done))) | fail))) rfl ?_ ?_
            · rintro ⟨A2, c2⟩
              refine DW.ready [8, 9] (by kernel_rfl) (by simp) ?_
              refine AllR.cons rfl rfl rfl rfl (y_call rfl rfl rfl en123 (fun w HW => put_i _ _ (W + 2) (H + 2) W H 1 1 (by omega) (by omega) (made (fun _ _ => 0) (W + 2) (H + 2)) k _ _ _ _ _ w hl0 hl0 hk (by omega) (by omega) (by omega) (by omega) (by omega) (SH.rdI (by (repeat (first | exact Rem.head | apply Rem.tail)); done) (by rw [hl0]; omega) HW) (hR.up HW.below))) (fun _ => by (repeat (first | exact Sub.nil | exact Sub.all | (apply Sub.cons; (focus ((repeat (first | exact Rem.head | apply Rem.tail)); done))) | fail))) rfl ?_ ?_
              · rintro ⟨A3, c3⟩
                refine DW.ready [9] (by kernel_rfl) (by simp) ?_
                refine AllR.cons rfl rfl rfl rfl (y_alloc rfl ze26) (fun _ => by (repeat (first | exact Sub.nil | exact Sub.all | (apply Sub.cons; (focus ((repeat (first | exact Rem.head | apply Rem.tail)); done))) | fail))) rfl ?_ AllR.nil
                rintro b6
                refine DW.ready [10] (by kernel_rfl) (by simp) ?_
                refine AllR.cons0 rfl rfl rfl (y_storeBN rfl rfl rfl rfl ty26 rfl (by (repeat (first | exact Rem.head | apply Rem.tail)); done) (by exact rfl) (by (simp only [List.take, List.drop, List.nil_append, List.cons_append, Nat.add_zero, Nat.zero_add]; rfl))) (fun _ => by (repeat (first | exact Sub.nil | exact Sub.all | (apply Sub.cons; (focus ((repeat (first | exact Rem.head | apply Rem.tail)); done))) | fail))) rfl ?_ AllR.nil
                intro _u
                refine DW.done (by kernel_rfl) ?_
                refine QW.cutEndC3 (b6) (A3) (c3) ?_ (by (repeat (first | exact trivial | (refine ⟨rfl, ?_⟩) | (refine ⟨gS rfl (by omega), ?_⟩)))) (by (repeat (first | exact Ext.refl | (refine Ext.cons rfl ?_)))) (by (repeat (first | exact Sub.nil | exact Sub.all | (apply Sub.cons; (focus ((repeat (first | exact Rem.head | apply Rem.tail)); done))) | (apply Sub.row; (focus ((repeat (first | exact Rem.head | apply Rem.tail)); done)); (focus (first | with_reducible rfl | assumption | omega | (simp; done) | (simp [Nat.mul_comm]; done) | (simp; omega))); (focus (first | with_reducible rfl | assumption | omega | (simp; done) | (simp [Nat.mul_comm]; done) | (simp; omega))); (focus (first | with_reducible rfl | (simp [nums]; done) | (simp [nums]; omega) | (simp; done) | (simp; omega)))) | (apply Sub.blk; (focus ((repeat (first | exact Rem.head | apply Rem.tail)); done)); (focus (first | with_reducible rfl | (simp [nums]; done) | (simp [nums]; omega) | (simp; done) | (simp; omega)))) | fail)))
                · first | exact trivial | omega
              refine AllR.cons rfl rfl rfl rfl (y_alloc rfl ze26) (fun _ => by (repeat (first | exact Sub.nil | exact Sub.all | (apply Sub.cons; (focus ((repeat (first | exact Rem.head | apply Rem.tail)); done))) | fail))) rfl ?_ ?_
              · rintro b6
                refine DW.ready [8] (by kernel_rfl) (by simp) ?_
                refine AllR.cons rfl rfl rfl rfl (y_call rfl rfl rfl en123 (fun w HW => put_i _ _ (W + 2) (H + 2) W H 1 1 (by omega) (by omega) (made (fun _ _ => 0) (W + 2) (H + 2)) k _ _ _ _ _ w hl0 hl0 hk (by omega) (by omega) (by omega) (by omega) (by omega) (SH.rdI (by (repeat (first | exact Rem.head | apply Rem.tail)); done) (by rw [hl0]; omega) HW) (hR.up HW.below))) (fun _ => by (repeat (first | exact Sub.nil | exact Sub.all | (apply Sub.cons; (focus ((repeat (first | exact Rem.head | apply Rem.tail)); done))) | fail))) rfl ?_ AllR.nil
                rintro ⟨A3, c3⟩
                refine DW.ready [10] (by kernel_rfl) (by simp) ?_
                refine AllR.cons0 rfl rfl rfl (y_storeBN rfl rfl rfl rfl ty26 rfl (by (repeat (first | exact Rem.head | apply Rem.tail)); done) (by exact rfl) (by (simp only [List.take, List.drop, List.nil_append, List.cons_append, Nat.add_zero, Nat.zero_add]; rfl))) (fun _ => by (repeat (first | exact Sub.nil | exact Sub.all | (apply Sub.cons; (focus ((repeat (first | exact Rem.head | apply Rem.tail)); done))) | fail))) rfl ?_ AllR.nil
                intro _u
                refine DW.done (by kernel_rfl) ?_
                refine QW.cutEndC3 (b6) (A3) (c3) ?_ (by (repeat (first | exact trivial | (refine ⟨rfl, ?_⟩) | (refine ⟨gS rfl (by omega), ?_⟩)))) (by (repeat (first | exact Ext.refl | (refine Ext.cons rfl ?_)))) (by (repeat (first | exact Sub.nil | exact Sub.all | (apply Sub.cons; (focus ((repeat (first | exact Rem.head | apply Rem.tail)); done))) | (apply Sub.row; (focus ((repeat (first | exact Rem.head | apply Rem.tail)); done)); (focus (first | with_reducible rfl | assumption | omega | (simp; done) | (simp [Nat.mul_comm]; done) | (simp; omega))); (focus (first | with_reducible rfl | assumption | omega | (simp; done) | (simp [Nat.mul_comm]; done) | (simp; omega))); (focus (first | with_reducible rfl | (simp [nums]; done) | (simp [nums]; omega) | (simp; done) | (simp; omega)))) | (apply Sub.blk; (focus ((repeat (first | exact Rem.head | apply Rem.tail)); done)); (focus (first | with_reducible rfl | (simp [nums]; done) | (simp [nums]; omega) | (simp; done) | (simp; omega)))) | fail)))
                · first | exact trivial | omega
              exact AllR.nil
            refine AllR.cons rfl rfl rfl rfl (y_alloc rfl ze26) (fun _ => by (repeat (first | exact Sub.nil | exact Sub.all | (apply Sub.cons; (focus ((repeat (first | exact Rem.head | apply Rem.tail)); done))) | fail))) rfl ?_ ?_
            · rintro b6
              refine DW.ready [6] (by kernel_rfl) (by simp) ?_
              refine AllR.cons rfl rfl rfl rfl (y_call rfl rfl rfl en140 (fun w HW => makeChart_i _ _ (W + 2) (H + 2) (by omega) (by omega) 149 #[] (fun _ _ => 0) w (by omega) (by omega) en149 (fun r c W' _ _ _ => zero_ct r c W'))) (fun _ => by (repeat (first | exact Sub.nil | exact Sub.all | (apply Sub.cons; (focus ((repeat (first | exact Rem.head | apply Rem.tail)); done))) | fail))) rfl ?_ AllR.nil
              rintro ⟨A2, c2⟩
              refine DW.ready [8] (by kernel_rfl) (by simp) ?_
              refine AllR.cons rfl rfl rfl rfl (y_call rfl rfl rfl en123 (fun w HW => put_i _ _ (W + 2) (H + 2) W H 1 1 (by omega) (by omega) (made (fun _ _ => 0) (W + 2) (H + 2)) k _ _ _ _ _ w hl0 hl0 hk (by omega) (by omega) (by omega) (by omega) (by omega) (SH.rdI (by (repeat (first | exact Rem.head | apply Rem.tail)); done) (by rw [hl0]; omega) HW) (hR.up HW.below))) (fun _ => by (repeat (first | exact Sub.nil | exact Sub.all | (apply Sub.cons; (focus ((repeat (first | exact Rem.head | apply Rem.tail)); done))) | fail))) rfl ?_ AllR.nil
              rintro ⟨A3, c3⟩
              refine DW.ready [10] (by kernel_rfl) (by simp) ?_
              refine AllR.cons0 rfl rfl rfl (y_storeBN rfl rfl rfl rfl ty26 rfl (by (repeat (first | exact Rem.head | apply Rem.tail)); done) (by exact rfl) (by (simp only [List.take, List.drop, List.nil_append, List.cons_append, Nat.add_zero, Nat.zero_add]; rfl))) (fun _ => by (repeat (first | exact Sub.nil | exact Sub.all | (apply Sub.cons; (focus ((repeat (first | exact Rem.head | apply Rem.tail)); done))) | fail))) rfl ?_ AllR.nil
              intro _u
              refine DW.done (by kernel_rfl) ?_
              refine QW.cutEndC3 (b6) (A3) (c3) ?_ (by (repeat (first | exact trivial | (refine ⟨rfl, ?_⟩) | (refine ⟨gS rfl (by omega), ?_⟩)))) (by (repeat (first | exact Ext.refl | (refine Ext.cons rfl ?_)))) (by (repeat (first | exact Sub.nil | exact Sub.all | (apply Sub.cons; (focus ((repeat (first | exact Rem.head | apply Rem.tail)); done))) | (apply Sub.row; (focus ((repeat (first | exact Rem.head | apply Rem.tail)); done)); (focus (first | with_reducible rfl | assumption | omega | (simp; done) | (simp [Nat.mul_comm]; done) | (simp; omega))); (focus (first | with_reducible rfl | assumption | omega | (simp; done) | (simp [Nat.mul_comm]; done) | (simp; omega))); (focus (first | with_reducible rfl | (simp [nums]; done) | (simp [nums]; omega) | (simp; done) | (simp; omega)))) | (apply Sub.blk; (focus ((repeat (first | exact Rem.head | apply Rem.tail)); done)); (focus (first | with_reducible rfl | (simp [nums]; done) | (simp [nums]; omega) | (simp; done) | (simp; omega)))) | fail)))
              · first | exact trivial | omega
            exact AllR.nil
          · intro b A1 c1 _
            refine QW.thenC (CW.seq (CW.seq (CW.region ?_)))
            refine LW.val rfl rfl rfl (x_fieldAddr rfl rfl fl26_0 rfl) ?_
            refine LW.val rfl rfl rfl (x_loadB rfl rfl ty3 (by (repeat (first | exact Rem.head | apply Rem.tail)); done) (by exact rfl)) ?_
            refine LW.val rfl rfl rfl (x_fieldAddr rfl rfl fl26_1 rfl) ?_
            refine LW.val rfl rfl rfl (x_loadB rfl rfl ty3 (by (repeat (first | exact Rem.head | apply Rem.tail)); done) (by exact rfl)) ?_
            refine LW.op rfl rfl rfl (y_call rfl rfl rfl en150 (fun w HW => ringLength_ct _ _ _ (by omega) (by omega))) ?_
            rintro ⟨⟩
            refine LW.val rfl rfl rfl (x_move rfl rfl) ?_
            refine LW.val rfl rfl rfl (x_len (ty := 0) rfl rfl Try.underlying22) ?_
            refine LW.val rfl rfl rfl (x_rem rfl rfl rfl (by omega)) ?_
            refine LW.val rfl rfl rfl (x_neq rfl rfl rfl) ?_
            refine LW.nil (QW.thenC ?_)
            refine CW.condN rfl (fun h5 => ?_) (fun h5 => ?_)
            · obtain ⟨rfl, rfl, rfl, rfl⟩ := no (by simp [abOk, h5])
              refine CW.seq (CW.region ?_)
              refine LW.val rfl rfl rfl (x_build rfl rfl rfl ze26 st26 pl26 (by simp [fillL, Value.cells]; rfl)) ?_
              refine LW.op0 rfl rfl (y_storeBN rfl rfl rfl rfl ty26 rfl (by (repeat (first | exact Rem.head | apply Rem.tail)); done) (by exact rfl) (by (simp only [List.take, List.drop, List.nil_append, List.cons_append, Nat.add_zero, Nat.zero_add]; rfl))) ?_
              intro _u
              refine LW.val rfl rfl rfl (x_assign rfl rfl) ?_
              refine LW.nil (QW.thenC (CW.ret (QW.then_ret ?_)))
              refine QW.res2 rfl (ResV.cellN rfl ty26 (by (repeat (first | exact Rem.head | apply Rem.tail)); done) (by exact rfl)) (ResV.tmp rfl) (ret_eq ((none, 0)) ?_ ?_)
              · first | rfl | (simp only []; rfl)
              · (repeat (first | exact Sub.nil | exact Sub.all | (apply Sub.cons; (focus ((repeat (first | exact Rem.head | apply Rem.tail)); done))) | (apply Sub.row; (focus ((repeat (first | exact Rem.head | apply Rem.tail)); done)); (focus (first | with_reducible rfl | assumption | omega | (simp; done) | (simp [Nat.mul_comm]; done) | (simp; omega))); (focus (first | with_reducible rfl | assumption | omega | (simp; done) | (simp [Nat.mul_comm]; done) | (simp; omega))); (focus (first | with_reducible rfl | (simp [nums]; done) | (simp [nums]; omega) | (simp; done) | (simp; omega)))) | (apply Sub.blk; (focus ((repeat (first | exact Rem.head | apply Rem.tail)); done)); (focus (first | with_reducible rfl | (simp [nums]; done) | (simp [nums]; omega) | (simp; done) | (simp; omega)))) | fail))
            · have hyes : abOk W H k p = true := by simp [abOk, h1, h2, h3, h4, h5]
              simp only [abR, hyes, if_true, Prod.mk.injEq, Int.toNat_natCast] at hr
              obtain ⟨rfl, rfl, rfl, hr⟩ := hr
              rw [← made_zero] at hr
              have hlr : rk.length = (W + 2) * (H + 2) := by rw [← hr, ringed_length, putN_length, hl0]
              refine CW.skip (QW.thenC (CW.seq (CW.region ?_)))
              refine LW.val rfl rfl rfl (x_loadBN rfl rfl ty26 (by (repeat (first | exact Rem.head | apply Rem.tail)); done) (by exact rfl) rfl) ?_
              refine LW.val rfl rfl rfl (x_move rfl rfl) ?_
              refine LW.op rfl rfl rfl (y_call rfl rfl rfl en151 (fun w HW => withRing_i _ _ (W + 2) (H + 2) (by omega) (by omega) (putN (W + 2) (made (fun _ _ => 0) (W + 2) (H + 2)) W H k 1 1) p _ _ _ _ _ w (by rw [putN_length, hl0]) (by rw [putN_length, hl0]) (by omega) (by omega) (by omega) (by omega) (by omega) (SH.rdI (by (repeat (first | exact Rem.head | apply Rem.tail)); done) (by rw [putN_length, hl0]; omega) HW) (hR'.up HW.below))) ?_
              rintro ⟨A4, c4⟩
              refine LW.op0 rfl rfl (y_storeBN rfl rfl rfl rfl ty26 rfl (by (repeat (first | exact Rem.head | apply Rem.tail)); done) (by exact rfl) (by (simp only [List.take, List.drop, List.nil_append, List.cons_append, Nat.add_zero, Nat.zero_add]; rfl))) ?_
              intro _u
              refine LW.val rfl rfl rfl (x_assign rfl rfl) ?_
              refine LW.nil (QW.thenC (CW.ret ?_))
              refine QW.res2 rfl (ResV.cellN rfl ty26 (by (repeat (first | exact Rem.head | apply Rem.tail)); done) (by exact rfl)) (ResV.tmp rfl) (ret_eq ((A4, c4)) ?_ ?_)
              · (rw [hlr])
              · (repeat (first | exact Sub.nil | exact Sub.all | (apply Sub.cons; (focus ((repeat (first | exact Rem.head | apply Rem.tail)); done))) | (apply Sub.row; (focus ((repeat (first | exact Rem.head | apply Rem.tail)); done)); (focus (first | with_reducible rfl | assumption | omega | (simp; done) | (simp [Nat.mul_comm]; done) | (simp; omega))); (focus (first | with_reducible rfl | assumption | omega | (simp; done) | (simp [Nat.mul_comm]; done) | (simp; omega))); (focus (first | (rw [hr]; done) | (rw [hlr]; done)))) | (apply Sub.blk; (focus ((repeat (first | exact Rem.head | apply Rem.tail)); done)); (focus (first | (rw [hr]; done) | (rw [hlr]; done)))) | fail))

theorem l6Blank_yes (wi hi : Int) (W H : Nat) (e1 : wi = W) (e2 : hi = H) (w : World) (hW : W ≤ 100) (hH : H ≤ 100) (h1 : sideB wi = true) (h2 : sideB hi = true) :
    Calls Try.prog 145 #[.int .i64 wi, .int .i64 hi] w (Ret (cbV true wi hi (W * H)) (fun q => [rowI q.1 (W * H) q.2 (List.replicate (W * H) 0)]) w) := by
  subst e1 e2
  refine (l6Blank_any W H w hW hH).mono fun e w' h => ?_
  rw [h1, h2] at h
  obtain ⟨A, c, h1, h2, h3⟩ := h
  have hl : (List.replicate (W * H) (0 : Int)).length = W * H := by simp
  have := SH.ofOwnI (A := A) (c := c) (xs := List.replicate (W * H) 0) (by rw [hl]; exact h2) h3
  rw [hl] at this
  exact ⟨(A, c), h1, this⟩
theorem l6Blank_no (wi hi : Int) (W H : Nat) (e1 : wi = W) (e2 : hi = H) (w : World) (hW : W ≤ 100) (hH : H ≤ 100) (h : (sideB wi && sideB hi) = false) :
    Calls Try.prog 145 #[.int .i64 wi, .int .i64 hi] w (Ret (fun _ : Unit => cbV false 0 0 0 (none, 0)) (fun _ => []) w) := by
  subst e1 e2
  refine (l6Blank_any W H w hW hH).mono fun e w' hh => ?_
  rw [h] at hh
  exact ⟨(), hh.1, SH.ofBelow hh.2⟩

set_option maxRecDepth 20000 in
theorem specAddBorder_ct (cw ch : Int) (k p : List Int) (A C : Option Addr) (c d : Nat) (w : World) (hR : RdI w A c k) (hR' : RdI w C d p) (ok : Bool) (rw rh : Int) (rk : List Int) (hr : abR cw ch k p = (ok, rw, rh, rk)) :
    Calls Try.prog 33 #[chA cw ch A k.length c, .slice C p.length d] w (Ret (cbV ok rw rh rk.length) (fun q => [rowI q.1 rk.length q.2 rk]) w) := by
  have hl := hR.len
  have hlp := hR'.len
  have no : abOk cw ch k p = false → ok = false ∧ rw = 0 ∧ rh = 0 ∧ rk = [] := fun h => by simp [abR, h] at hr; exact ⟨hr.1, hr.2.1.symm, hr.2.2.1.symm, hr.2.2.2⟩
  refine enter Try.func33 rfl rfl Try.ntmps33 rfl ?_
  refine CW.nilRow 3 1 ?_
  refine CW.seq (CW.region ?_)
  refine LW.op rfl rfl rfl (y_box rfl rfl rfl) ?_
  intro b2
  refine LW.op rfl rfl rfl (y_alloc rfl ze26) ?_
  intro b4
  refine LW.val rfl rfl rfl (x_assign rfl rfl) ?_
  refine LW.nil (QW.thenC (CW.seq (CW.seq (CW.region ?_))))
  refine LW.val rfl rfl rfl (x_loadBN rfl rfl ty26 (by (repeat (first | exact Rem.head | apply Rem.tail)); done) (by exact rfl) rfl) ?_
  refine LW.op rfl rfl rfl (y_call rfl rfl rfl en119 (fun w HW => l2Good_ct cw ch k _ _ _ w rfl (hR.up HW.below))) ?_
  rintro ⟨⟩
  refine LW.val rfl rfl rfl (x_not rfl rfl) ?_
  refine LW.val rfl rfl rfl (x_move rfl rfl) ?_
  refine LW.split (t := 11) rfl (fun h1 => ?_) (fun h1 => ?_)
  · obtain ⟨rfl, rfl, rfl, rfl⟩ := no (by simp [abOk, show goodB cw ch k = false by simpa using h1])
    refine LW.gF rfl rfl rfl rfl rfl rfl ?_
    refine LW.gF rfl rfl rfl rfl rfl rfl ?_
    refine LW.gF rfl rfl rfl rfl rfl rfl ?_
    refine LW.val rfl rfl rfl (x_pickT rfl rfl rfl) ?_
    refine LW.nil (QW.thenC (CW.condT rfl (CW.seq (CW.region ?_))))
    refine LW.val rfl rfl rfl (x_build rfl rfl rfl ze26 st26 pl26 (by simp [fillL, Value.cells]; rfl)) ?_
    refine LW.op0 rfl rfl (y_storeBN rfl rfl rfl rfl ty26 rfl (by (repeat (first | exact Rem.head | apply Rem.tail)); done) (by exact rfl) (by (simp only [List.take, List.drop, List.nil_append, List.cons_append, Nat.add_zero, Nat.zero_add]; rfl))) ?_
    intro _u
    refine LW.val rfl rfl rfl (x_assign rfl rfl) ?_
    refine LW.nil (QW.thenC (CW.ret (QW.then_ret ?_)))
    refine QW.res2 rfl (ResV.cellN rfl ty26 (by (repeat (first | exact Rem.head | apply Rem.tail)); done) (by exact rfl)) (ResV.tmp rfl) (ret_eq ((none, 0)) ?_ ?_)
    · first | rfl | (simp only []; rfl)
    · (repeat (first | exact Sub.nil | exact Sub.all | (apply Sub.cons; (focus ((repeat (first | exact Rem.head | apply Rem.tail)); done))) | (apply Sub.row; (focus ((repeat (first | exact Rem.head | apply Rem.tail)); done)); (focus (first | with_reducible rfl | assumption | omega | (simp; done) | (simp [Nat.mul_comm]; done) | (simp; omega))); (focus (first | with_reducible rfl | assumption | omega | (simp; done) | (simp [Nat.mul_comm]; done) | (simp; omega))); (focus (first | with_reducible rfl | (simp [nums]; done) | (simp [nums]; omega) | (simp; done) | (simp; omega)))) | (apply Sub.blk; (focus ((repeat (first | exact Rem.head | apply Rem.tail)); done)); (focus (first | with_reducible rfl | (simp [nums]; done) | (simp [nums]; omega) | (simp; done) | (simp; omega)))) | fail))
  · have h1 : goodB cw ch k = true := by simpa using h1
    obtain ⟨⟨a1, a2⟩, ⟨a3, a4⟩, a5, _⟩ := goodB_iff.1 h1
    obtain ⟨W, rfl⟩ : ∃ n : Nat, cw = n := ⟨cw.toNat, by omega⟩
    obtain ⟨H, rfl⟩ : ∃ n : Nat, ch = n := ⟨ch.toNat, by omega⟩
    have hk : k.length = W * H := by exact_mod_cast a5
    refine LW.valG rfl rfl rfl rfl rfl (x_move rfl rfl) ?_
    refine LW.opG rfl rfl rfl rfl rfl (y_call rfl rfl rfl en144 (fun w HW => ret_q (l8Pattern_any p C d _ (hR'.up HW.below)))) ?_
    rintro ⟨⟩
    refine LW.valG rfl rfl rfl rfl rfl (x_not rfl rfl) ?_
    refine LW.val rfl rfl rfl (x_pickF rfl rfl rfl) ?_
    refine LW.nil (QW.thenC ?_)
    refine CW.cond rfl (fun h2 => ?_) (fun h2 => ?_)
    · obtain ⟨rfl, rfl, rfl, rfl⟩ := no (by simp [abOk, show patB p = false by simpa using h2])
      refine CW.seq (CW.region ?_)
      refine LW.val rfl rfl rfl (x_build rfl rfl rfl ze26 st26 pl26 (by simp [fillL, Value.cells]; rfl)) ?_
      refine LW.op0 rfl rfl (y_storeBN rfl rfl rfl rfl ty26 rfl (by (repeat (first | exact Rem.head | apply Rem.tail)); done) (by exact rfl) (by (simp only [List.take, List.drop, List.nil_append, List.cons_append, Nat.add_zero, Nat.zero_add]; rfl))) ?_
      intro _u
      refine LW.val rfl rfl rfl (x_assign rfl rfl) ?_
      refine LW.nil (QW.thenC (CW.ret (QW.then_ret ?_)))
      refine QW.res2 rfl (ResV.cellN rfl ty26 (by (repeat (first | exact Rem.head | apply Rem.tail)); done) (by exact rfl)) (ResV.tmp rfl) (ret_eq ((none, 0)) ?_ ?_)
      · first | rfl | (simp only []; rfl)
      · (repeat (first | exact Sub.nil | exact Sub.all | (apply Sub.cons; (focus ((repeat (first | exact Rem.head | apply Rem.tail)); done))) | (apply Sub.row; (focus ((repeat (first | exact Rem.head | apply Rem.tail)); done)); (focus (first | with_reducible rfl | assumption | omega | (simp; done) | (simp [Nat.mul_comm]; done) | (simp; omega))); (focus (first | with_reducible rfl | assumption | omega | (simp; done) | (simp [Nat.mul_comm]; done) | (simp; omega))); (focus (first | with_reducible rfl | (simp [nums]; done) | (simp [nums]; omega) | (simp; done) | (simp; omega)))) | (apply Sub.blk; (focus ((repeat (first | exact Rem.head | apply Rem.tail)); done)); (focus (first | with_reducible rfl | (simp [nums]; done) | (simp [nums]; omega) | (simp; done) | (simp; omega)))) | fail))
    · have h2 : patB p = true := by simpa using h2
      obtain ⟨⟨b1, b2⟩, _⟩ := patB_iff.1 h2
      refine CW.skip (QW.thenC (CW.seq (CW.region ?_)))
      refine LW.val rfl rfl rfl (x_fieldAddr rfl rfl fl26_0 rfl) ?_
      refine LW.val rfl rfl rfl (x_loadB rfl rfl ty3 (by (repeat (first | exact Rem.head | apply Rem.tail)); done) (by exact rfl)) ?_
      refine LW.val rfl rfl rfl (x_add rfl rfl rfl (by omega)) ?_
      refine LW.val rfl rfl rfl (x_fieldAddr rfl rfl fl26_1 rfl) ?_
      refine LW.val rfl rfl rfl (x_loadB rfl rfl ty3 (by (repeat (first | exact Rem.head | apply Rem.tail)); done) (by exact rfl)) ?_
      refine LW.val rfl rfl rfl (x_add rfl rfl rfl (by omega)) ?_
      cases h34 : sideB ((W : Int) + 2) && sideB ((H : Int) + 2) with
      | false =>
        obtain ⟨rfl, rfl, rfl, rfl⟩ := no (by simp only [abOk, h1, h2, Bool.true_and, h34]; rfl)
        refine LW.op rfl rfl rfl (y_call rfl rfl rfl en145 (fun w HW => l6Blank_no _ _ (W + 2) (H + 2) (by omega) (by omega) w (by omega) (by omega) h34)) ?_
        rintro ⟨⟩
        refine LW.val rfl rfl rfl (x_move rfl rfl) ?_
        refine LW.val rfl rfl rfl (x_extract rfl rfl rfl) ?_
        refine LW.val rfl rfl rfl (x_extract rfl rfl rfl) ?_
        refine LW.op rfl rfl rfl (y_alloc rfl ze26) ?_
        intro b6
        refine LW.op0 rfl rfl (y_storeBN rfl rfl rfl rfl ty26 rfl (by (repeat (first | exact Rem.head | apply Rem.tail)); done) (by exact rfl) (by (simp only [List.take, List.drop, List.nil_append, List.cons_append, Nat.add_zero, Nat.zero_add]; rfl))) ?_
        intro _u
        refine LW.val rfl rfl rfl (x_assign rfl rfl) ?_
        refine LW.nil (QW.thenC (CW.seq (CW.seq (CW.region ?_))))
        refine LW.val rfl rfl rfl (x_move rfl rfl) ?_
        refine LW.val rfl rfl rfl (x_not rfl rfl) ?_
        refine LW.val rfl rfl rfl (x_move rfl rfl) ?_
        refine LW.gF rfl rfl rfl rfl rfl rfl ?_
        refine LW.gF rfl rfl rfl rfl rfl rfl ?_
        refine LW.gF rfl rfl rfl rfl rfl rfl ?_
        refine LW.gF rfl rfl rfl rfl rfl rfl ?_
        refine LW.gF rfl rfl rfl rfl rfl rfl ?_
        refine LW.gF rfl rfl rfl rfl rfl rfl ?_
        refine LW.gF rfl rfl rfl rfl rfl rfl ?_
        refine LW.gF rfl rfl rfl rfl rfl rfl ?_
        refine LW.gF rfl rfl rfl rfl rfl rfl ?_
        refine LW.val rfl rfl rfl (x_pickT rfl rfl rfl) ?_
        refine LW.nil (QW.thenC (CW.condT rfl (CW.seq (CW.region ?_))))
        refine LW.val rfl rfl rfl (x_build rfl rfl rfl ze26 st26 pl26 (by simp [fillL, Value.cells]; rfl)) ?_
        refine LW.op0 rfl rfl (y_storeBN rfl rfl rfl rfl ty26 rfl (by (repeat (first | exact Rem.head | apply Rem.tail)); done) (by exact rfl) (by (simp only [List.take, List.drop, List.nil_append, List.cons_append, Nat.add_zero, Nat.zero_add]; rfl))) ?_
        intro _u
        refine LW.val rfl rfl rfl (x_assign rfl rfl) ?_
        refine LW.nil (QW.thenC (CW.ret (QW.then_ret ?_)))
        refine QW.res2 rfl (ResV.cellN rfl ty26 (by (repeat (first | exact Rem.head | apply Rem.tail)); done) (by exact rfl)) (ResV.tmp rfl) (ret_eq ((none, 0)) ?_ ?_)
        · first | rfl | (simp only []; rfl)
        · (repeat (first | exact Sub.nil | exact Sub.all | (apply Sub.cons; (focus ((repeat (first | exact Rem.head | apply Rem.tail)); done))) | (apply Sub.row; (focus ((repeat (first | exact Rem.head | apply Rem.tail)); done)); (focus (first | with_reducible rfl | assumption | omega | (simp; done) | (simp [Nat.mul_comm]; done) | (simp; omega))); (focus (first | with_reducible rfl | assumption | omega | (simp; done) | (simp [Nat.mul_comm]; done) | (simp; omega))); (focus (first | with_reducible rfl | (simp [nums]; done) | (simp [nums]; omega) | (simp; done) | (simp; omega)))) | (apply Sub.blk; (focus ((repeat (first | exact Rem.head | apply Rem.tail)); done)); (focus (first | with_reducible rfl | (simp [nums]; done) | (simp [nums]; omega) | (simp; done) | (simp; omega)))) | fail))
      | true =>
        obtain ⟨h3, h4⟩ := Bool.and_eq_true_iff.1 h34
        have c1 := inB_iff.1 h3
        have c2 := inB_iff.1 h4
        have hM : (W + 2) * (H + 2) ≤ 10 * 10 := Nat.mul_le_mul (by omega) (by omega)
        have hl0 : (List.replicate ((W + 2) * (H + 2)) (0 : Int)).length = (W + 2) * (H + 2) := by simp
        refine LW.op rfl rfl rfl (y_call rfl rfl rfl en145 (fun w HW => l6Blank_yes _ _ (W + 2) (H + 2) (by omega) (by omega) w (by omega) (by omega) h3 h4)) ?_
        rintro ⟨A1, c1⟩
        refine LW.val rfl rfl rfl (x_move rfl rfl) ?_
        refine LW.val rfl rfl rfl (x_extract rfl rfl rfl) ?_
        refine LW.val rfl rfl rfl (x_extract rfl rfl rfl) ?_
        refine LW.op rfl rfl rfl (y_alloc rfl ze26) ?_
        intro b6
        refine LW.op0 rfl rfl (y_storeBN rfl rfl rfl rfl ty26 rfl (by (repeat (first | exact Rem.head | apply Rem.tail)); done) (by exact rfl) (by (simp only [List.take, List.drop, List.nil_append, List.cons_append, Nat.add_zero, Nat.zero_add]; rfl))) ?_
        intro _u
        refine LW.val rfl rfl rfl (x_assign rfl rfl) ?_
        refine LW.nil (QW.thenC (CW.seq (CW.seq (CW.region ?_))))
        refine LW.val rfl rfl rfl (x_move rfl rfl) ?_
        refine LW.val rfl rfl rfl (x_not rfl rfl) ?_
        refine LW.val rfl rfl rfl (x_move rfl rfl) ?_
        refine LW.valG rfl rfl rfl rfl rfl (x_fieldAddr rfl rfl fl26_0 rfl) ?_
        refine LW.valG rfl rfl rfl rfl rfl (x_loadB rfl rfl ty3 (by (repeat (first | exact Rem.head | apply Rem.tail)); done) (by exact rfl)) ?_
        refine LW.valG rfl rfl rfl rfl rfl (x_fieldAddr rfl rfl fl26_1 rfl) ?_
        refine LW.valG rfl rfl rfl rfl rfl (x_loadB rfl rfl ty3 (by (repeat (first | exact Rem.head | apply Rem.tail)); done) (by exact rfl)) ?_
        refine LW.opG rfl rfl rfl rfl rfl (y_call rfl rfl rfl en146 (fun w HW => l8Length_ct _ _ _ (by omega) (by omega))) ?_
        rintro ⟨⟩
        refine LW.valG rfl rfl rfl rfl rfl (x_move rfl rfl) ?_
        refine LW.valG rfl rfl rfl rfl rfl (x_len (ty := 0) rfl rfl Try.underlying22) ?_
        refine LW.valG rfl rfl rfl rfl rfl (x_rem rfl rfl rfl (by omega)) ?_
        refine LW.valG rfl rfl rfl rfl rfl (x_neq rfl rfl rfl) ?_
        refine LW.val rfl rfl rfl (x_pickF rfl rfl rfl) ?_
        refine LW.nil (QW.thenC ?_)
        refine CW.condN rfl (fun h5 => ?_) (fun h5 => ?_)
        · obtain ⟨rfl, rfl, rfl, rfl⟩ := no (by simp [abOk, h5])
          refine CW.seq (CW.region ?_)
          refine LW.val rfl rfl rfl (x_build rfl rfl rfl ze26 st26 pl26 (by simp [fillL, Value.cells]; rfl)) ?_
          refine LW.op0 rfl rfl (y_storeBN rfl rfl rfl rfl ty26 rfl (by (repeat (first | exact Rem.head | apply Rem.tail)); done) (by exact rfl) (by (simp only [List.take, List.drop, List.nil_append, List.cons_append, Nat.add_zero, Nat.zero_add]; rfl))) ?_
          intro _u
          refine LW.val rfl rfl rfl (x_assign rfl rfl) ?_
          refine LW.nil (QW.thenC (CW.ret (QW.then_ret ?_)))
          refine QW.res2 rfl (ResV.cellN rfl ty26 (by (repeat (first | exact Rem.head | apply Rem.tail)); done) (by exact rfl)) (ResV.tmp rfl) (ret_eq ((none, 0)) ?_ ?_)
          · first | rfl | (simp only []; rfl)
          · (repeat (first | exact Sub.nil | exact Sub.all | (apply Sub.cons; (focus ((repeat (first | exact Rem.head | apply Rem.tail)); done))) | (apply Sub.row; (focus ((repeat (first | exact Rem.head | apply Rem.tail)); done)); (focus (first | with_reducible rfl | assumption | omega | (simp; done) | (simp [Nat.mul_comm]; done) | (simp; omega))); (focus (first | with_reducible rfl | assumption | omega | (simp; done) | (simp [Nat.mul_comm]; done) | (simp; omega))); (focus (first | with_reducible rfl | (simp [nums]; done) | (simp [nums]; omega) | (simp; done) | (simp; omega)))) | (apply Sub.blk; (focus ((repeat (first | exact Rem.head | apply Rem.tail)); done)); (focus (first | with_reducible rfl | (simp [nums]; done) | (simp [nums]; omega) | (simp; done) | (simp; omega)))) | fail))
        · have hyes : abOk W H k p = true := by simp [abOk, h1, h2, h3, h4, h5]
          simp only [abR, hyes, if_true, Prod.mk.injEq, Int.toNat_natCast] at hr
          obtain ⟨rfl, rfl, rfl, hr⟩ := hr
          have hlr : rk.length = (W + 2) * (H + 2) := by rw [← hr, ringed_length, putN_length, hl0]
          refine CW.skip (QW.thenC (CW.seq (CW.region ?_)))
          refine LW.val rfl rfl rfl (x_loadBN rfl rfl ty26 (by (repeat (first | exact Rem.head | apply Rem.tail)); done) (by exact rfl) rfl) ?_
          refine LW.val rfl rfl rfl (x_loadBN rfl rfl ty26 (by (repeat (first | exact Rem.head | apply Rem.tail)); done) (by exact rfl) rfl) ?_
          refine LW.op rfl rfl rfl (y_call rfl rfl rfl en121 (fun w HW => l2Put_i _ _ (W + 2) (H + 2) W H 1 1 (by omega) (by omega) (List.replicate ((W + 2) * (H + 2)) 0) k _ _ _ _ _ w hl0 hl0 hk (by omega) (by omega) (by omega) (by omega) (SH.rdI (by (repeat (first | exact Rem.head | apply Rem.tail)); done) (by rw [hl0]; omega) HW) (hR.up HW.below))) ?_
          rintro ⟨A3, c3⟩
          refine LW.val rfl rfl rfl (x_move rfl rfl) ?_
          refine LW.op rfl rfl rfl (y_call rfl rfl rfl en147 (fun w HW => l8Put_i _ _ (W + 2) (H + 2) (by omega) (by omega) (putN (W + 2) (List.replicate ((W + 2) * (H + 2)) 0) W H k 1 1) p _ _ _ _ _ w (by rw [putN_length, hl0]) (by rw [putN_length, hl0]) (by omega) (by omega) (by omega) (by omega) (by omega) (SH.rdI (by (repeat (first | exact Rem.head | apply Rem.tail)); done) (by rw [putN_length, hl0]; omega) HW) (hR'.up HW.below))) ?_
          rintro ⟨A4, c4⟩
          refine LW.op0 rfl rfl (y_storeBN rfl rfl rfl rfl ty26 rfl (by (repeat (first | exact Rem.head | apply Rem.tail)); done) (by exact rfl) (by (simp only [List.take, List.drop, List.nil_append, List.cons_append, Nat.add_zero, Nat.zero_add]; rfl))) ?_
          intro _u
          refine LW.val rfl rfl rfl (x_assign rfl rfl) ?_
          refine LW.nil (QW.thenC (CW.ret ?_))
          refine QW.res2 rfl (ResV.cellN rfl ty26 (by (repeat (first | exact Rem.head | apply Rem.tail)); done) (by exact rfl)) (ResV.tmp rfl) (ret_eq ((A4, c4)) ?_ ?_)
          · (rw [hlr])
          · (repeat (first | exact Sub.nil | exact Sub.all | (apply Sub.cons; (focus ((repeat (first | exact Rem.head | apply Rem.tail)); done))) | (apply Sub.row; (focus ((repeat (first | exact Rem.head | apply Rem.tail)); done)); (focus (first | with_reducible rfl | assumption | omega | (simp; done) | (simp [Nat.mul_comm]; done) | (simp; omega))); (focus (first | with_reducible rfl | assumption | omega | (simp; done) | (simp [Nat.mul_comm]; done) | (simp; omega))); (focus (first | (rw [hr]; done) | (rw [hlr]; done)))) | (apply Sub.blk; (focus ((repeat (first | exact Rem.head | apply Rem.tail)); done)); (focus (first | (rw [hr]; done) | (rw [hlr]; done)))) | fail))
end Go.Proofs.Ytbandmcdkcfpiaa
