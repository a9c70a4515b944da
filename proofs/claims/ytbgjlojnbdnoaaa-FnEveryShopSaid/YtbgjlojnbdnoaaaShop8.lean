/- The workshop: runs of the reference's; the law FnEveryShop. -/
import Derived.Test.YtbgjlojnbdnoaaaShop7
namespace Go.Proofs.Ytbgjlojnbdnoaaa
open Go.RowKit
set_option linter.unusedVariables false
set_option linter.unusedSimpArgs false
section
variable {P : Program} {S : Slots} {w0 : World} {X : List Nat} {L l : List Fct} {o : Oper}
/-- an element, loaded, of a slice that reads so in every such world -/
theorem x_loadW {α : Type} {f : α → List Value} {t : TypeId} {x : Operand} {ad : Addr} {m c by_ k i : Nat} {xs : List α} {y : α} (hR : ∀ w, SH w0 X w L → RdR w (some ad) m c by_ k (flat f xs)) (hf : ∀ x, (f x).length = k) (ho : o.op = .load t x) (hx : evS S x = some (.pointer (some (ad.add (i * k))))) (ht : tyS P t = some (some k)) (hy : xs[i]? = some y) : OpV P o S w0 X L (.agg (f y).toArray) :=
  x_loadN ho hx ht (hf y) fun w hw j v hj => by
    have hjk : j < k := by rw [← hf y]; exact (List.getElem?_eq_some_iff.1 hj).1
    obtain ⟨ad', e, h1⟩ := (hR w hw).at_ (i * k + j) v (by rw [flat_get hf xs i j y hy hjk]; exact hj)
    cases e
    rw [Addr.add_add]
    exact h1
theorem x_neqS {t yt : TypeId} {x y : Operand} {xs ys : List Value} {v : Value} (ho : o.op = .binOp .neq t x y yt) (hx : evS S x = some (.agg xs.toArray)) (hy : evS S y = some (.agg ys.toArray)) (hg : P.eqGuardType P.depth t = false) (hr : ∀ w, (binOp .neq t (.agg xs.toArray) (.agg ys.toArray)).run P w = .ok v w) : OpV P o S w0 X L v := fun n a w hs hw => by
  simp [execOp, ho, hs.eval hx, hs.eval hy, run_eqGuard_agg _ _ _ _ _ _ _ hg, hr]
end
theorem neqCp (y : Cp) (w : World) : (binOp .neq 41 (.agg (cpL y).toArray) (.agg (cpL y).toArray)).run Try.prog w = .ok (.bool false) w := by
  rw [run_neq_struct, run_equalIn_struct w 9999 _ _ _ (by kernel_rfl) (by kernel_rfl)]
  have hi : Try.prog.underlying 3 = some (.int .i64) := Try.underlying3
  have hp : ∀ (v : Array Value) (i : Nat) (u : Value), v[i]? = some u → (part 3 v i).run Try.prog w = .ok u w := fun v i u h => by
    simp [part, (run_isAgg1 ty3 w).1, h]
  have hq : ∀ (d : Nat) (a : Int), (Op.equalIn (d + 1) 3 (.int .i64 a) (.int .i64 a)).run Try.prog w = .ok true w := fun d a => by rw [run_equalIn_int w d _ _ _ _ _ hi]; simp
  simp [Program.fieldsOf, Try.underlying41, Op.eqFields, cpL, hp, hq]
set_option maxRecDepth 20000 in
theorem specRunShop_ct (day looms money : Int) (xs : List Cp) (A : Option Addr) (c : Nat) (steps : List Sp) (B : Option Addr) (e : Nat) (w : World) (hR : RdC w A c xs) (hS : RdS w B e steps) (hv : ∀ x ∈ steps, x.val ≤ 9223372036854775807)
    (ok : Bool) (cnt : Nat) (d l mny : Int) (ys : List Cp) (hr : runR day looms money xs steps = (ok, cnt, d, l, mny, ys)) :
    Calls Try.prog 11 #[shV day looms money A xs.length c, .slice B steps.length e] w (Ret (shT3 ok cnt d l mny ys.length) (fun p => [rowCp p.1 ys.length p.2 ys]) w) := by
  have no : ¬ (goodSh day looms money xs = true ∧ steps.length ≤ 40) → ok = false ∧ cnt = 0 ∧ d = 0 ∧ l = 0 ∧ mny = 0 ∧ ys = [] := fun h => by
    rw [runR, if_neg h] at hr; simp at hr; exact ⟨hr.1, hr.2.1.symm, hr.2.2.1.symm, hr.2.2.2.1.symm, hr.2.2.2.2.1.symm, hr.2.2.2.2.2⟩
  have hb := hS.bnd
  refine enter Try.func11 rfl rfl Try.ntmps11 rfl ?_
  refine CW.nilRow 41 5 ?_
  refine CW.seq (CW.region ?_)
  refine LW.op rfl rfl rfl (y_box rfl rfl rfl) ?_
  intro b2
  refine LW.op rfl rfl rfl (y_alloc rfl ze31) ?_
  intro b4
  refine LW.val rfl rfl rfl (x_assign rfl rfl) ?_
  refine LW.val rfl rfl rfl (x_assign rfl rfl) ?_
  refine LW.nil (QW.thenC (CW.seq (CW.seq (CW.region ?_))))
  refine LW.val rfl rfl rfl (x_loadB0 rfl rfl ty31 (by (repeat (first | exact Rem.head | apply Rem.tail)); done) rfl) ?_
  refine LW.op rfl rfl rfl (y_call rfl rfl rfl en31 (fun w HW => l25Good_ct day looms money xs A c _ (hR.up HW.below))) ?_
  rintro ⟨⟩
  refine LW.val rfl rfl rfl (x_not rfl rfl) ?_
  refine LW.val rfl rfl rfl (x_move rfl rfl) ?_
  refine LW.split (t := 15) rfl (fun h1 => ?_) (fun h1 => ?_)
  · obtain ⟨rfl, rfl, rfl, rfl, rfl, rfl⟩ := no (fun h => by rw [h.1] at h1; cases h1)
    refine LW.gF rfl rfl rfl rfl rfl rfl ?_
    refine LW.gF rfl rfl rfl rfl rfl rfl ?_
    refine LW.gF rfl rfl rfl rfl rfl rfl ?_
    refine LW.val rfl rfl rfl (x_pickT rfl rfl rfl) ?_
    refine LW.nil (QW.thenC (CW.condT rfl (CW.seq (CW.region ?_))))
    refine LW.val rfl rfl rfl (x_build rfl rfl rfl ze31 st31 pl31 (by simp [fillL, Value.cells]; rfl)) ?_
    refine LW.op0 rfl rfl (y_storeB0 rfl rfl rfl rfl ty31 rfl (by (repeat (first | exact Rem.head | apply Rem.tail)); done) rfl) ?_
    intro _u
    refine LW.val rfl rfl rfl (x_assign rfl rfl) ?_
    refine LW.val rfl rfl rfl (x_assign rfl rfl) ?_
    refine LW.nil (QW.thenC (CW.ret (QW.then_ret ?_)))
    refine QW.res3 rfl (ResV.cellN rfl ty31 (by (repeat (first | exact Rem.head | apply Rem.tail)); done) (by exact rfl)) (ResV.tmp rfl) (ResV.tmp rfl) (ret_eq ((none, 0)) ?_ ?_)
    · first | rfl | (simp only []; rfl)
    · (repeat (first | exact Sub.nil | exact Sub.all | (apply Sub.cons; (focus ((repeat (first | exact Rem.head | apply Rem.tail)); done))) | (apply Sub.row; (focus ((repeat (first | exact Rem.head | apply Rem.tail)); done)); (focus (first | with_reducible rfl | assumption | omega | (simp; done) | (simp [Nat.mul_comm]; done) | (simp; omega))); (focus (first | with_reducible rfl | assumption | omega | (simp; done) | (simp [Nat.mul_comm]; done) | (simp; omega))); (focus (first | with_reducible rfl | (simp [nums]; done) | (simp [nums]; omega) | (simp; done) | (simp; omega)))) | (apply Sub.blk; (focus ((repeat (first | exact Rem.head | apply Rem.tail)); done)); (focus (first | with_reducible rfl | (simp [nums]; done) | (simp [nums]; omega) | (simp; done) | (simp; omega)))) | fail))
  · have h1 : goodSh day looms money xs = true := by simpa using h1
    refine LW.valG rfl rfl rfl rfl rfl (x_move rfl rfl) ?_
    refine LW.valG rfl rfl rfl rfl rfl (x_len (ty := 0) rfl rfl Try.underlying32) ?_
    refine LW.valG rfl rfl rfl rfl rfl (x_gtr rfl rfl rfl) ?_
    refine LW.val rfl rfl rfl (x_pickF rfl rfl rfl) ?_
    refine LW.nil (QW.thenC ?_)
    refine CW.condD rfl (fun h2 => ?_) (fun h2 => ?_)
    · obtain ⟨rfl, rfl, rfl, rfl, rfl, rfl⟩ := no (fun h => by omega)
      refine CW.seq (CW.region ?_)
      refine LW.val rfl rfl rfl (x_build rfl rfl rfl ze31 st31 pl31 (by simp [fillL, Value.cells]; rfl)) ?_
      refine LW.op0 rfl rfl (y_storeB0 rfl rfl rfl rfl ty31 rfl (by (repeat (first | exact Rem.head | apply Rem.tail)); done) rfl) ?_
      intro _u
      refine LW.val rfl rfl rfl (x_assign rfl rfl) ?_
      refine LW.val rfl rfl rfl (x_assign rfl rfl) ?_
      refine LW.nil (QW.thenC (CW.ret (QW.then_ret ?_)))
      refine QW.res3 rfl (ResV.cellN rfl ty31 (by (repeat (first | exact Rem.head | apply Rem.tail)); done) (by exact rfl)) (ResV.tmp rfl) (ResV.tmp rfl) (ret_eq ((none, 0)) ?_ ?_)
      · first | rfl | (simp only []; rfl)
      · (repeat (first | exact Sub.nil | exact Sub.all | (apply Sub.cons; (focus ((repeat (first | exact Rem.head | apply Rem.tail)); done))) | (apply Sub.row; (focus ((repeat (first | exact Rem.head | apply Rem.tail)); done)); (focus (first | with_reducible rfl | assumption | omega | (simp; done) | (simp [Nat.mul_comm]; done) | (simp; omega))); (focus (first | with_reducible rfl | assumption | omega | (simp; done) | (simp [Nat.mul_comm]; done) | (simp; omega))); (focus (first | with_reducible rfl | (simp [nums]; done) | (simp [nums]; omega) | (simp; done) | (simp; omega)))) | (apply Sub.blk; (focus ((repeat (first | exact Rem.head | apply Rem.tail)); done)); (focus (first | with_reducible rfl | (simp [nums]; done) | (simp [nums]; omega) | (simp; done) | (simp; omega)))) | fail))
    · have hn : steps.length ≤ 40 := by omega
      rw [runR, if_pos ⟨h1, hn⟩] at hr
      refine CW.skip (QW.thenC (CW.seq (CW.region ?_)))
      refine LW.val rfl rfl rfl (x_loadB0 rfl rfl ty31 (by (repeat (first | exact Rem.head | apply Rem.tail)); done) rfl) ?_
      refine LW.op rfl rfl rfl (y_call rfl rfl rfl en32 (fun w HW => l25Own_ct day looms money xs A c _ (hR.up HW.below))) ?_
      rintro ⟨A1, c1⟩
      refine LW.op rfl rfl rfl (y_alloc rfl ze31) ?_
      intro b7
      refine LW.op0 rfl rfl (y_storeB0 rfl rfl rfl rfl ty31 rfl (by (repeat (first | exact Rem.head | apply Rem.tail)); done) rfl) ?_
      intro _u
      refine LW.val rfl rfl rfl (x_assign rfl rfl) ?_
      refine LW.nil (QW.thenC (CW.seq (CW.seq (CW.region ?_))))
      refine LW.val rfl rfl rfl (x_assign rfl rfl) ?_
      refine LW.nil (QW.thenC (CW.block ?_))
      refine CW.loopC4 [8, 9, 10, 11, 23, 24, 25, 26, 27, 28, 29, 30, 31, 32, 33, 34, 35, 36, 37, 38, 39, 40, 41, 42, 43, 44, 45, 46, 47, 48] (fun (n : Nat) (q : St) (A1 : Option Addr) (c1 : Nat) => n ≤ steps.length ∧ runN looms (day, money, xs, 0) steps n = q ∧ goodSh q.1 looms q.2.1 q.2.2.1 = true ∧ q.2.2.2 ≤ n) (fun (n : Nat) (q : St) (A1 : Option Addr) (c1 : Nat) => [(9, .int .i64 n), (8, .int .i64 q.2.2.2)]) (fun (n : Nat) (q : St) (A1 : Option Addr) (c1 : Nat) => [.blk b7 (shL q.1 looms q.2.1 A1 q.2.2.1.length c1) 31, rowCp A1 q.2.2.1.length c1 q.2.2.1]) (fun (n : Nat) (q : St) (A1 : Option Addr) (c1 : Nat) => steps.length - n) (0) ((day, money, xs, 0)) (A1) (c1) (by exact ⟨by omega, runN_zero _ _ _, h1, Nat.le_refl _⟩) (by (repeat (first | exact trivial | (refine ⟨rfl, ?_⟩) | (refine ⟨gS rfl (by omega), ?_⟩)))) (Take.blk (by (repeat (first | exact Rem.head | apply Rem.tail)); done) (by first | with_reducible rfl | rfl) (Take.row (by (repeat (first | exact Rem.head | apply Rem.tail)); done) (by first | with_reducible rfl | assumption | omega | (simp; done) | (simp [Nat.mul_comm]; done) | (simp; omega)) (by first | with_reducible rfl | assumption | omega | (simp; done) | (simp [Nat.mul_comm]; done) | (simp; omega)) (by first | with_reducible rfl | rfl) (Take.nil))) ?_
      intro n q A1 c1 hinv
      obtain ⟨d0, m0, ys0, k0⟩ := q
      obtain ⟨i1, i2, i3, i4⟩ := hinv
      have i4 : k0 ≤ n := i4
      have hl8 : ys0.length ≤ 8 := good_len i3
      refine CW.seq (CW.seq (CW.region ?_))
      refine LW.val rfl rfl rfl (x_move rfl rfl) ?_
      refine LW.val rfl rfl rfl (x_move rfl rfl) ?_
      refine LW.val rfl rfl rfl (x_len (ty := 0) rfl rfl Try.underlying32) ?_
      refine LW.val rfl rfl rfl (x_lss rfl rfl rfl) ?_
      refine LW.nil (QW.thenC ?_)
      refine CW.condD rfl (fun h3 => ?_) (fun h3 => ?_)
      · have hi : n < steps.length := by omega
        obtain ⟨ad, rfl⟩ := hS.some hi
        obtain ⟨y, hy⟩ : ∃ y, steps[n] = y := ⟨_, rfl⟩
        have hvy : y.val ≤ 9223372036854775807 := hv y (by rw [← hy]; exact List.getElem_mem hi)
        have hsu := runN_succ looms (day, money, xs, 0) steps n hi
        rw [i2, hy] at hsu
        have hsame := spec_same (x := y) (looms := looms) i3
        refine CW.skip (QW.thenC (CW.seq (CW.block (CW.seq (CW.seq ?_)))))
        refine CW.drawL [] follows ?_
        refine DW.take 0 rfl rfl (by kernel_rfl) (by kernel_rfl) (by kernel_rfl) (by kernel_rfl) (by kernel_rfl) rfl (fun _ _ _ h => h) rfl (by (repeat (first | exact Sub.nil | exact Sub.all | (apply Sub.cons; (focus ((repeat (first | exact Rem.head | apply Rem.tail)); done))) | fail))) (x_loadB0 rfl rfl ty31 (by (repeat (first | exact Rem.head | apply Rem.tail)); done) rfl) rfl ?_
        refine DW.take 1 rfl rfl (by kernel_rfl) (by kernel_rfl) (by kernel_rfl) (by kernel_rfl) (by kernel_rfl) rfl (fun _ _ _ h => h) rfl (by (repeat (first | exact Sub.nil | exact Sub.all | (apply Sub.cons; (focus ((repeat (first | exact Rem.head | apply Rem.tail)); done))) | fail))) (x_move rfl rfl) rfl ?_
        refine DW.take 2 rfl rfl (by kernel_rfl) (by kernel_rfl) (by kernel_rfl) (by kernel_rfl) (by kernel_rfl) rfl (fun _ _ _ h => h) rfl (by (repeat (first | exact Sub.nil | exact Sub.all | (apply Sub.cons; (focus ((repeat (first | exact Rem.head | apply Rem.tail)); done))) | fail))) (x_move rfl rfl) rfl ?_
        refine DW.take 3 rfl rfl (by kernel_rfl) (by kernel_rfl) (by kernel_rfl) (by kernel_rfl) (by kernel_rfl) rfl (fun _ _ _ h => h) rfl (by (repeat (first | exact Sub.nil | exact Sub.all | (apply Sub.cons; (focus ((repeat (first | exact Rem.head | apply Rem.tail)); done))) | fail))) (x_idxN rfl rfl rfl el32 (by omega)) rfl ?_
        refine DW.take 4 rfl rfl (by kernel_rfl) (by kernel_rfl) (by kernel_rfl) (by kernel_rfl) (by kernel_rfl) rfl (fun _ _ _ h => h) rfl (by (repeat (first | exact Sub.nil | exact Sub.all | (apply Sub.cons; (focus ((repeat (first | exact Rem.head | apply Rem.tail)); done))) | fail))) (x_loadF (y := y) hS (by simp) spLen rfl rfl ty37 (by simp [hi, hy])) rfl ?_
        refine DW.ready [5] (by kernel_rfl) (by simp) ?_
        refine AllR.cons rfl rfl rfl rfl (y_call rfl rfl rfl en33 (fun w HW => l25Step_ct d0 looms m0 ys0 A1 c1 y _ (SH.rdR (by (repeat (first | exact Rem.head | apply Rem.tail)); done) (by omega) HW))) (fun _ => by (repeat (first | exact Sub.nil | exact Sub.all | (apply Sub.cons; (focus ((repeat (first | exact Rem.head | apply Rem.tail)); done))) | fail))) rfl ?_ AllR.nil
        rintro ⟨⟩
        refine DW.take 6 rfl rfl (by kernel_rfl) (by kernel_rfl) (by kernel_rfl) (by kernel_rfl) (by kernel_rfl) rfl (fun _ _ _ h => h) rfl (by (repeat (first | exact Sub.nil | exact Sub.all | (apply Sub.cons; (focus ((repeat (first | exact Rem.head | apply Rem.tail)); done))) | fail))) (x_not rfl rfl) rfl ?_
        refine DW.done (by kernel_rfl) ?_
        refine QW.thenC ?_
        refine CW.cond rfl (fun h4 => ?_) (fun h4 => ?_)
        · have h4 : specSt looms ys0 y = false := by simpa using h4
          have hq : stepR d0 looms m0 ys0 y = (false, 0, 0, 0, []) := by rw [← hsame, specR, if_neg (by rw [h4]; decide)]
          refine CW.exit (QW.then_exit (QW.in_hit (QW.thenC (CW.region ?_))))
          refine LW.val rfl rfl rfl (x_move rfl rfl) ?_
          refine LW.val rfl rfl rfl (x_add rfl rfl rfl (by omega)) ?_
          refine LW.val rfl rfl rfl (x_assign rfl rfl) ?_
          refine LW.nil ?_
          refine QW.then_ (QW.roundC4 (n + 1) ((d0, m0, ys0, k0)) (A1) (c1) ?_ ?_ (by (repeat (first | exact trivial | (refine ⟨rfl, ?_⟩) | (refine ⟨gS rfl (by omega), ?_⟩)))) (by (repeat (first | exact Ext.refl | (refine Ext.cons rfl ?_)))) (by (repeat (first | exact Sub.nil | exact Sub.all | (apply Sub.cons; (focus ((repeat (first | exact Rem.head | apply Rem.tail)); done))) | (apply Sub.row; (focus ((repeat (first | exact Rem.head | apply Rem.tail)); done)); (focus (first | with_reducible rfl | assumption | omega | (simp; done) | (simp [Nat.mul_comm]; done) | (simp; omega))); (focus (first | with_reducible rfl | assumption | omega | (simp; done) | (simp [Nat.mul_comm]; done) | (simp; omega))); (focus (first | with_reducible rfl | (simp [nums]; done) | (simp [nums]; omega) | (simp; done) | (simp; omega)))) | (apply Sub.blk; (focus ((repeat (first | exact Rem.head | apply Rem.tail)); done)); (focus (first | with_reducible rfl | (simp [nums]; done) | (simp [nums]; omega) | (simp; done) | (simp; omega)))) | fail))))
          · exact ⟨by omega, by rw [hsu]; exact runStep_no (q := (d0, m0, ys0, k0)) hq, i3, by show k0 ≤ n + 1; omega⟩
          · first | omega | (simp; omega)
        · have h4 : specSt looms ys0 y = true := by simpa using h4
          obtain ⟨ok', d', m', ys', hq⟩ : ∃ ok' d' m' ys', specMk d0 looms m0 ys0 y = (ok', d', m', ys') := ⟨_, _, _, _, rfl⟩
          rw [specR, if_pos h4, hq] at hsame
          refine CW.skip (QW.thenC (CW.seq ?_))
          refine CW.cutC3 (M := []) [10, 11, 36, 37, 38, 39, 40, 41, 42, 43, 44] (fun (b : Nat) (A2 : Option Addr) (c2 : Nat) => True) (fun (b : Nat) (A2 : Option Addr) (c2 : Nat) => [(10, .pointer (some ⟨b, 0, none⟩)), (11, .bool ok')]) (fun (b : Nat) (A2 : Option Addr) (c2 : Nat) => [.blk b (shL d' looms m' A2 ys'.length c2) 31, rowCp A2 ys'.length c2 ys']) (Take.nil) ?_ ?_
          · skip
            refine CW.drawL [] follows ?_
            refine DW.take 0 rfl rfl (by kernel_rfl) (by kernel_rfl) (by kernel_rfl) (by kernel_rfl) (by kernel_rfl) rfl (fun _ _ _ h => nomatch h.1) rfl (by (repeat (first | exact Sub.nil | exact Sub.all | (apply Sub.cons; (focus ((repeat (first | exact Rem.head | apply Rem.tail)); done))) | fail))) (x_loadB0 rfl rfl ty31 (by (repeat (first | exact Rem.head | apply Rem.tail)); done) rfl) rfl ?_
            refine DW.take 1 rfl rfl (by kernel_rfl) (by kernel_rfl) (by kernel_rfl) (by kernel_rfl) (by kernel_rfl) rfl (fun _ _ _ h => nomatch h.1) rfl (by (repeat (first | exact Sub.nil | exact Sub.all | (apply Sub.cons; (focus ((repeat (first | exact Rem.head | apply Rem.tail)); done))) | fail))) (x_move rfl rfl) rfl ?_
            refine DW.take 2 rfl rfl (by kernel_rfl) (by kernel_rfl) (by kernel_rfl) (by kernel_rfl) (by kernel_rfl) rfl (fun _ _ _ h => nomatch h.1) rfl (by (repeat (first | exact Sub.nil | exact Sub.all | (apply Sub.cons; (focus ((repeat (first | exact Rem.head | apply Rem.tail)); done))) | fail))) (x_move rfl rfl) rfl ?_
            refine DW.take 3 rfl rfl (by kernel_rfl) (by kernel_rfl) (by kernel_rfl) (by kernel_rfl) (by kernel_rfl) rfl (fun _ _ _ h => nomatch h.1) rfl (by (repeat (first | exact Sub.nil | exact Sub.all | (apply Sub.cons; (focus ((repeat (first | exact Rem.head | apply Rem.tail)); done))) | fail))) (x_idxN rfl rfl rfl el32 (by omega)) rfl ?_
            refine DW.take 4 rfl rfl (by kernel_rfl) (by kernel_rfl) (by kernel_rfl) (by kernel_rfl) (by kernel_rfl) rfl (fun _ _ _ h => nomatch h.1) rfl (by (repeat (first | exact Sub.nil | exact Sub.all | (apply Sub.cons; (focus ((repeat (first | exact Rem.head | apply Rem.tail)); done))) | fail))) (x_loadF (y := y) hS (by simp) spLen rfl rfl ty37 (by simp [hi, hy])) rfl ?_
            refine DW.ready [5, 9] (by kernel_rfl) (by simp) ?_
            refine AllR.cons rfl rfl rfl rfl (y_call rfl rfl rfl en34 (fun w HW => l25Make_ct d0 looms m0 ys0 A1 c1 y _ (SH.rdR (by (repeat (first | exact Rem.head | apply Rem.tail)); done) (by omega) HW) i3 h4 hvy ok' d' m' ys' hq)) (fun _ => by (repeat (first | exact Sub.nil | exact Sub.all | (apply Sub.cons; (focus ((repeat (first | exact Rem.head | apply Rem.tail)); done))) | fail))) rfl ?_ ?_
            · rintro ⟨A2, c2⟩
              refine DW.take 6 rfl rfl (by kernel_rfl) (by kernel_rfl) (by kernel_rfl) (by kernel_rfl) (by kernel_rfl) rfl (fun _ _ _ h => nomatch h.1) rfl (by (repeat (first | exact Sub.nil | exact Sub.all | (apply Sub.cons; (focus ((repeat (first | exact Rem.head | apply Rem.tail)); done))) | fail))) (x_move rfl rfl) rfl ?_
              refine DW.take 7 rfl rfl (by kernel_rfl) (by kernel_rfl) (by kernel_rfl) (by kernel_rfl) (by kernel_rfl) rfl (fun _ _ _ h => nomatch h.1) rfl (by (repeat (first | exact Sub.nil | exact Sub.all | (apply Sub.cons; (focus ((repeat (first | exact Rem.head | apply Rem.tail)); done))) | fail))) (x_extract rfl rfl rfl) rfl ?_
              refine DW.take 8 rfl rfl (by kernel_rfl) (by kernel_rfl) (by kernel_rfl) (by kernel_rfl) (by kernel_rfl) rfl (fun _ _ _ h => nomatch h.1) rfl (by (repeat (first | exact Sub.nil | exact Sub.all | (apply Sub.cons; (focus ((repeat (first | exact Rem.head | apply Rem.tail)); done))) | fail))) (x_extract rfl rfl rfl) rfl ?_
              refine DW.ready [9] (by kernel_rfl) (by simp) ?_
              refine AllR.cons rfl rfl rfl rfl (y_alloc rfl ze31) (fun _ => by (repeat (first | exact Sub.nil | exact Sub.all | (apply Sub.cons; (focus ((repeat (first | exact Rem.head | apply Rem.tail)); done))) | fail))) rfl ?_ AllR.nil
              rintro b10
              refine DW.ready [10] (by kernel_rfl) (by simp) ?_
              refine AllR.cons0 rfl rfl rfl (y_storeB0 rfl rfl rfl rfl ty31 rfl (by (repeat (first | exact Rem.head | apply Rem.tail)); done) rfl) (fun _ => by (repeat (first | exact Sub.nil | exact Sub.all | (apply Sub.cons; (focus ((repeat (first | exact Rem.head | apply Rem.tail)); done))) | fail))) rfl ?_ AllR.nil
              intro _u
              refine DW.take 11 rfl rfl (by kernel_rfl) (by kernel_rfl) (by kernel_rfl) (by kernel_rfl) (by kernel_rfl) rfl (fun _ _ _ h => nomatch h.1) rfl (by (repeat (first | exact Sub.nil | exact Sub.all | (apply Sub.cons; (focus ((repeat (first | exact Rem.head | apply Rem.tail)); done))) | fail))) (x_assign rfl rfl) rfl ?_
              refine DW.done (by kernel_rfl) ?_
              refine QW.cutEndC3 (b10) (A2) (c2) ?_ (by (repeat (first | exact trivial | (refine ⟨rfl, ?_⟩) | (refine ⟨gS rfl (by omega), ?_⟩)))) (by (repeat (first | exact Ext.refl | (refine Ext.cons rfl ?_)))) (by (repeat (first | exact Sub.nil | exact Sub.all | (apply Sub.cons; (focus ((repeat (first | exact Rem.head | apply Rem.tail)); done))) | (apply Sub.row; (focus ((repeat (first | exact Rem.head | apply Rem.tail)); done)); (focus (first | with_reducible rfl | assumption | omega | (simp; done) | (simp [Nat.mul_comm]; done) | (simp; omega))); (focus (first | with_reducible rfl | assumption | omega | (simp; done) | (simp [Nat.mul_comm]; done) | (simp; omega))); (focus (first | with_reducible rfl | (simp [nums]; done) | (simp [nums]; omega) | (simp; done) | (simp; omega)))) | (apply Sub.blk; (focus ((repeat (first | exact Rem.head | apply Rem.tail)); done)); (focus (first | with_reducible rfl | (simp [nums]; done) | (simp [nums]; omega) | (simp; done) | (simp; omega)))) | fail)))
              · first | exact trivial | omega
            refine AllR.cons rfl rfl rfl rfl (y_alloc rfl ze31) (fun _ => by (repeat (first | exact Sub.nil | exact Sub.all | (apply Sub.cons; (focus ((repeat (first | exact Rem.head | apply Rem.tail)); done))) | fail))) rfl ?_ ?_
            · rintro b10
              refine DW.ready [5] (by kernel_rfl) (by simp) ?_
              refine AllR.cons rfl rfl rfl rfl (y_call rfl rfl rfl en34 (fun w HW => l25Make_ct d0 looms m0 ys0 A1 c1 y _ (SH.rdR (by (repeat (first | exact Rem.head | apply Rem.tail)); done) (by omega) HW) i3 h4 hvy ok' d' m' ys' hq)) (fun _ => by (repeat (first | exact Sub.nil | exact Sub.all | (apply Sub.cons; (focus ((repeat (first | exact Rem.head | apply Rem.tail)); done))) | fail))) rfl ?_ AllR.nil
              rintro ⟨A2, c2⟩
              refine DW.take 6 rfl rfl (by kernel_rfl) (by kernel_rfl) (by kernel_rfl) (by kernel_rfl) (by kernel_rfl) rfl (fun _ _ _ h => nomatch h.1) rfl (by (repeat (first | exact Sub.nil | exact Sub.all | (apply Sub.cons; (focus ((repeat (first | exact Rem.head | apply Rem.tail)); done))) | fail))) (x_move rfl rfl) rfl ?_
              refine DW.take 7 rfl rfl (by kernel_rfl) (by kernel_rfl) (by kernel_rfl) (by kernel_rfl) (by kernel_rfl) rfl (fun _ _ _ h => nomatch h.1) rfl (by (repeat (first | exact Sub.nil | exact Sub.all | (apply Sub.cons; (focus ((repeat (first | exact Rem.head | apply Rem.tail)); done))) | fail))) (x_extract rfl rfl rfl) rfl ?_
              refine DW.take 8 rfl rfl (by kernel_rfl) (by kernel_rfl) (by kernel_rfl) (by kernel_rfl) (by kernel_rfl) rfl (fun _ _ _ h => nomatch h.1) rfl (by (repeat (first | exact Sub.nil | exact Sub.all | (apply Sub.cons; (focus ((repeat (first | exact Rem.head | apply Rem.tail)); done))) | fail))) (x_extract rfl rfl rfl) rfl ?_
              refine DW.ready [10] (by kernel_rfl) (by simp) ?_
              refine AllR.cons0 rfl rfl rfl (y_storeB0 rfl rfl rfl rfl ty31 rfl (by (repeat (first | exact Rem.head | apply Rem.tail)); done) rfl) (fun _ => by (repeat (first | exact Sub.nil | exact Sub.all | (apply Sub.cons; (focus ((repeat (first | exact Rem.head | apply Rem.tail)); done))) | fail))) rfl ?_ AllR.nil
              intro _u
              refine DW.take 11 rfl rfl (by kernel_rfl) (by kernel_rfl) (by kernel_rfl) (by kernel_rfl) (by kernel_rfl) rfl (fun _ _ _ h => nomatch h.1) rfl (by (repeat (first | exact Sub.nil | exact Sub.all | (apply Sub.cons; (focus ((repeat (first | exact Rem.head | apply Rem.tail)); done))) | fail))) (x_assign rfl rfl) rfl ?_
              refine DW.done (by kernel_rfl) ?_
              refine QW.cutEndC3 (b10) (A2) (c2) ?_ (by (repeat (first | exact trivial | (refine ⟨rfl, ?_⟩) | (refine ⟨gS rfl (by omega), ?_⟩)))) (by (repeat (first | exact Ext.refl | (refine Ext.cons rfl ?_)))) (by (repeat (first | exact Sub.nil | exact Sub.all | (apply Sub.cons; (focus ((repeat (first | exact Rem.head | apply Rem.tail)); done))) | (apply Sub.row; (focus ((repeat (first | exact Rem.head | apply Rem.tail)); done)); (focus (first | with_reducible rfl | assumption | omega | (simp; done) | (simp [Nat.mul_comm]; done) | (simp; omega))); (focus (first | with_reducible rfl | assumption | omega | (simp; done) | (simp [Nat.mul_comm]; done) | (simp; omega))); (focus (first | with_reducible rfl | (simp [nums]; done) | (simp [nums]; omega) | (simp; done) | (simp; omega)))) | (apply Sub.blk; (focus ((repeat (first | exact Rem.head | apply Rem.tail)); done)); (focus (first | with_reducible rfl | (simp [nums]; done) | (simp [nums]; omega) | (simp; done) | (simp; omega)))) | fail)))
              · first | exact trivial | omega
            exact AllR.nil
          · intro b A2 c2 _
            refine QW.thenC (CW.seq (CW.region ?_))
            refine LW.val rfl rfl rfl (x_move rfl rfl) ?_
            refine LW.nil (QW.thenC ?_)
            refine CW.cond rfl (fun h5 => ?_) (fun h5 => ?_)
            · subst h5
              simp only [if_true] at hsame
              have hg' := stepR_ok hsame.symm
              refine CW.seq (CW.region ?_)
              refine LW.val rfl rfl rfl (x_loadB0 (cs := shL d' looms m' A2 ys'.length c2) rfl rfl ty31 (by (repeat (first | exact Rem.head | apply Rem.tail)); done) rfl) ?_
              refine LW.op0 rfl rfl (y_storeB0 rfl rfl rfl rfl ty31 rfl (by (repeat (first | exact Rem.head | apply Rem.tail)); done) rfl) ?_
              intro _u
              refine LW.nil (QW.thenC (CW.region ?_))
              refine LW.val rfl rfl rfl (x_move rfl rfl) ?_
              refine LW.val rfl rfl rfl (x_add rfl rfl rfl (by omega)) ?_
              refine LW.val rfl rfl rfl (x_assign rfl rfl) ?_
              refine LW.nil (QW.in_normal (QW.thenC (CW.region ?_)))
              refine LW.val rfl rfl rfl (x_move rfl rfl) ?_
              refine LW.val rfl rfl rfl (x_add rfl rfl rfl (by omega)) ?_
              refine LW.val rfl rfl rfl (x_assign rfl rfl) ?_
              refine LW.nil ?_
              refine QW.then_ (QW.roundC4 (n + 1) ((d', m', ys', k0 + 1)) (A2) (c2) ?_ ?_ (by (repeat (first | exact trivial | (refine ⟨rfl, ?_⟩) | (refine ⟨gS rfl (by omega), ?_⟩)))) (by (repeat (first | exact Ext.refl | (refine Ext.cons rfl ?_)))) (by (repeat (first | exact Sub.nil | exact Sub.all | (apply Sub.cons; (focus ((repeat (first | exact Rem.head | apply Rem.tail)); done))) | (apply Sub.row; (focus ((repeat (first | exact Rem.head | apply Rem.tail)); done)); (focus (first | with_reducible rfl | assumption | omega | (simp; done) | (simp [Nat.mul_comm]; done) | (simp; omega))); (focus (first | with_reducible rfl | assumption | omega | (simp; done) | (simp [Nat.mul_comm]; done) | (simp; omega))); (focus (first | with_reducible rfl | (simp [nums]; done) | (simp [nums]; omega) | (simp; done) | (simp; omega)))) | (apply Sub.blk; (focus ((repeat (first | exact Rem.head | apply Rem.tail)); done)); (focus (first | with_reducible rfl | (simp [nums]; done) | (simp [nums]; omega) | (simp; done) | (simp; omega)))) | fail))))
              · exact ⟨by omega, by rw [hsu]; exact runStep_yes (q := (d0, m0, ys0, k0)) hsame.symm, hg'.2, by show k0 + 1 ≤ n + 1; omega⟩
              · first | omega | (simp; omega)
            · subst h5
              simp only [Bool.false_eq_true, if_false] at hsame
              refine CW.skip (QW.in_normal (QW.thenC (CW.region ?_)))
              refine LW.val rfl rfl rfl (x_move rfl rfl) ?_
              refine LW.val rfl rfl rfl (x_add rfl rfl rfl (by omega)) ?_
              refine LW.val rfl rfl rfl (x_assign rfl rfl) ?_
              refine LW.nil ?_
              refine QW.then_ (QW.roundC4 (n + 1) ((d0, m0, ys0, k0)) (A1) (c1) ?_ ?_ (by (repeat (first | exact trivial | (refine ⟨rfl, ?_⟩) | (refine ⟨gS rfl (by omega), ?_⟩)))) (by (repeat (first | exact Ext.refl | (refine Ext.cons rfl ?_)))) (by (repeat (first | exact Sub.nil | exact Sub.all | (apply Sub.cons; (focus ((repeat (first | exact Rem.head | apply Rem.tail)); done))) | (apply Sub.row; (focus ((repeat (first | exact Rem.head | apply Rem.tail)); done)); (focus (first | with_reducible rfl | assumption | omega | (simp; done) | (simp [Nat.mul_comm]; done) | (simp; omega))); (focus (first | with_reducible rfl | assumption | omega | (simp; done) | (simp [Nat.mul_comm]; done) | (simp; omega))); (focus (first | with_reducible rfl | (simp [nums]; done) | (simp [nums]; omega) | (simp; done) | (simp; omega)))) | (apply Sub.blk; (focus ((repeat (first | exact Rem.head | apply Rem.tail)); done)); (focus (first | with_reducible rfl | (simp [nums]; done) | (simp [nums]; omega) | (simp; done) | (simp; omega)))) | fail))))
              · exact ⟨by omega, by rw [hsu]; exact runStep_no (q := (d0, m0, ys0, k0)) hsame.symm, i3, by show k0 ≤ n + 1; omega⟩
              · first | omega | (simp; omega)
      · have e1 : n = steps.length := by omega
        subst e1
        rw [i2] at hr
        simp only [Prod.mk.injEq] at hr
        obtain ⟨rfl, rfl, rfl, rfl, rfl, rfl⟩ := hr
        refine CW.exit (QW.then_exit (QW.then_exit (QW.in_hit (QW.thenC (CW.seq (CW.region ?_))))))
        refine LW.val rfl rfl rfl (x_loadB0 rfl rfl ty31 (by (repeat (first | exact Rem.head | apply Rem.tail)); done) rfl) ?_
        refine LW.val rfl rfl rfl (x_move rfl rfl) ?_
        refine LW.op0 rfl rfl (y_storeB0 rfl rfl rfl rfl ty31 rfl (by (repeat (first | exact Rem.head | apply Rem.tail)); done) rfl) ?_
        intro _u
        refine LW.val rfl rfl rfl (x_assign rfl rfl) ?_
        refine LW.val rfl rfl rfl (x_assign rfl rfl) ?_
        refine LW.nil (QW.thenC (CW.ret ?_))
        refine QW.res3 rfl (ResV.cellN rfl ty31 (by (repeat (first | exact Rem.head | apply Rem.tail)); done) (by exact rfl)) (ResV.tmp rfl) (ResV.tmp rfl) (ret_eq ((A1, c1)) ?_ ?_)
        · first | rfl | (simp only []; rfl)
        · (repeat (first | exact Sub.nil | exact Sub.all | (apply Sub.cons; (focus ((repeat (first | exact Rem.head | apply Rem.tail)); done))) | (apply Sub.row; (focus ((repeat (first | exact Rem.head | apply Rem.tail)); done)); (focus (first | with_reducible rfl | assumption | omega | (simp; done) | (simp [Nat.mul_comm]; done) | (simp; omega))); (focus (first | with_reducible rfl | assumption | omega | (simp; done) | (simp [Nat.mul_comm]; done) | (simp; omega))); (focus (first | with_reducible rfl | (simp [nums]; done) | (simp [nums]; omega) | (simp; done) | (simp; omega)))) | (apply Sub.blk; (focus ((repeat (first | exact Rem.head | apply Rem.tail)); done)); (focus (first | with_reducible rfl | (simp [nums]; done) | (simp [nums]; omega) | (simp; done) | (simp; omega)))) | fail))
end Go.Proofs.Ytbgjlojnbdnoaaa
