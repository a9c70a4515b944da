/- Contracts in the form of states; rows of ints. -/
import Derived.Test.YtbandmcdkcfpiaaTab
import Derived.Test.YtbandmcdkcfpiaaOwn
namespace Go.Proofs.Ytbandmcdkcfpiaa
open Go.RowKit Go.Proofs.YtbandmcdkcfpiaaW.PrintWords
set_option linter.unusedVariables false
set_option linter.unusedSimpArgs false

/-- a row of ints of the call's own -/
abbrev rowI (A : Option Addr) (m c : Nat) (xs : List Int) : Fct := .row 3 1 (.slice A m c) m (nums .i64 xs)
section
variable {P : Program} {g : Nat} {args : Array Value} {w w' w0 : World} {X : List Nat} {L l r : List Fct}
theorem ret_q {v : Value} (h : Calls P g args w fun e w' => e = .returned v ∧ w = w') : Calls P g args w (Ret (fun _ : Unit => v) (fun _ => []) w) := h.mono fun e w' ⟨h1, h2⟩ => ⟨(), h1, h2 ▸ SH.refl w []⟩
theorem ret_b {v : Value} (h : Calls P g args w fun e w' => e = .returned v ∧ Below w.heap.size w w') : Calls P g args w (Ret (fun _ : Unit => v) (fun _ => []) w) := h.mono fun e w' ⟨h1, h2⟩ => ⟨(), h1, SH.ofBelow h2⟩
theorem SH.ofOwnI {A : Option Addr} {c : Nat} {xs : List Int} (h : OwnI w' w.heap.size (.slice A xs.length c) xs) (hb : Below w.heap.size w w') : SH w [] w' [rowI A xs.length c xs] :=
  ⟨hb.os, hb.tape, hb.output, hb.size, fun k hk _ => hb.block k hk, fun f hf => by rw [List.mem_singleton] at hf; subst hf; exact ownsRow_zero h.1, fun f hf k hk => by rw [List.mem_singleton] at hf; subst hf; exact .inl (h.1.lt k hk).1, by simp⟩
theorem ret_i {xs : List Int} (h : Calls P g args w (RetI w xs)) : Calls P g args w (Ret (fun p : Option Addr × Nat => .slice p.1 xs.length p.2) (fun p => [rowI p.1 xs.length p.2 xs]) w) := h.mono fun e w' ⟨A, c, h1, h2, h3⟩ => ⟨(A, c), h1, SH.ofOwnI h2 h3⟩
theorem SH.rdI {A : Option Addr} {m c : Nat} {xs : List Int} (hr : Rem L (rowI A m c xs) l) (hl : xs.length ≤ 17592186043904) (hw : SH w0 X w L) : RdI w A c xs := by
  have h : w.ownsRow 0 3 1 (.slice A m c) m (nums .i64 xs) := hw.has hr
  have hm : m = xs.length := by have := h.1; simp [nums] at this; exact this.symm
  subst hm
  exact OwnI.reads (base := 0) ⟨h, hl⟩
theorem SH.lenI {A : Option Addr} {m c : Nat} {xs : List Int} (hr : Rem L (rowI A m c xs) l) (hw : SH w0 X w L) : m = xs.length := by
  have h : w.ownsRow 0 3 1 (.slice A m c) m (nums .i64 xs) := hw.has hr
  have := h.1; simp [nums] at this; exact this.symm
theorem nums_snoc (k : IntKind) (xs : List Int) (y : Int) : nums k xs ++ [.int k y] = nums k (xs ++ [y]) := by simp [nums]
theorem nums_set (k : IntKind) (xs : List Int) (i : Nat) (y : Int) : (nums k xs).set i (.int k y) = nums k (xs.set i y) := by simp [nums, List.map_set]
theorem nums_app (k : IntKind) (xs ys : List Int) : nums k xs ++ nums k ys = nums k (xs ++ ys) := by simp [nums]
theorem nums_get {k : IntKind} {xs : List Int} {i : Nat} (h : i < xs.length) : (nums k xs)[i]? = some (.int k (xs.getD i 0)) := by simp [nums, h, List.getD_eq_getElem?_getD]
theorem nums_rep (k : IntKind) (m : Nat) : List.replicate m (.int k 0) = nums k (List.replicate m 0) := by simp [nums]
theorem nums_ones (k : IntKind) (xs : List Int) : (nums k xs).all Value.oneCell' = true := by simp [nums, Value.oneCell']
theorem nums_len (k : IntKind) (xs : List Int) : (nums k xs).length = xs.length := by simp [nums]
theorem RdI.cellD {A : Option Addr} {ad : Addr} {c : Nat} {xs : List Int} (h : RdI w A c xs) (hA : A = some ad) {i : Nat} (hi : i < xs.length) : w.cell? (ad.add i) = some (.int .i64 (xs.getD i 0)) := by
  obtain ⟨ad', e, h1⟩ := h.at_ i hi
  rw [hA] at e; cases e
  rw [h1]; simp [List.getD_eq_getElem?_getD, hi]
theorem RdI.addr {A : Option Addr} {c : Nat} {xs : List Int} (h : RdI w A c xs) (hi : 0 < xs.length) : ∃ ad, A = some ad := by
  obtain ⟨ad, e, _⟩ := h.at_ 0 hi; exact ⟨ad, e⟩
end
theorem in_ct (n lo hi : Int) (w : World) : Calls Try.prog 156 #[.int .i64 n, .int .i64 lo, .int .i64 hi] w (Ret (fun _ : Unit => .bool (inB n lo hi)) (fun _ => []) w) := by
  refine enter Try.func156 rfl rfl Try.ntmps156 rfl ?_
  refine CW.seq (CW.region ?_)
  refine LW.val rfl rfl rfl (x_assign rfl rfl) ?_
  refine LW.nil (QW.thenC (CW.seq (CW.region ?_)))
  refine LW.val rfl rfl rfl (x_move rfl rfl) ?_
  refine LW.val rfl rfl rfl (x_move rfl rfl) ?_
  refine LW.val rfl rfl rfl (x_geq rfl rfl rfl) ?_
  refine LW.val rfl rfl rfl (x_move rfl rfl) ?_
  refine LW.split (t := 10) rfl (fun h => ?_) (fun h => ?_)
  · refine LW.valG rfl rfl rfl rfl rfl (x_move rfl rfl) ?_
    refine LW.valG rfl rfl rfl rfl rfl (x_move rfl rfl) ?_
    refine LW.valG rfl rfl rfl rfl rfl (x_leq rfl rfl rfl) ?_
    refine LW.val rfl rfl rfl (x_pickT rfl rfl rfl) ?_
    refine LW.val rfl rfl rfl (x_assign rfl rfl) ?_
    refine LW.nil (QW.thenC (CW.ret ?_))
    refine QW.res1 rfl (ResV.tmp rfl) (ret_eq (()) ?_ ?_)
    · simp [inB, h]
    · (repeat (first | exact Sub.nil | exact Sub.all | (apply Sub.cons; (focus ((repeat (first | exact Rem.head | apply Rem.tail)); done))) | (apply Sub.row; (focus ((repeat (first | exact Rem.head | apply Rem.tail)); done)); (focus (first | with_reducible rfl | assumption | omega | (simp; done) | (simp [Nat.mul_comm]; done) | (simp; omega))); (focus (first | with_reducible rfl | assumption | omega | (simp; done) | (simp [Nat.mul_comm]; done) | (simp; omega))); (focus (first | with_reducible rfl | (simp [nums]; done) | (simp [nums]; omega) | (simp; done) | (simp; omega)))) | (apply Sub.blk; (focus ((repeat (first | exact Rem.head | apply Rem.tail)); done)); (focus (first | with_reducible rfl | (simp [nums]; done) | (simp [nums]; omega) | (simp; done) | (simp; omega)))) | fail))
  · refine LW.gF rfl rfl rfl rfl rfl rfl ?_
    refine LW.gF rfl rfl rfl rfl rfl rfl ?_
    refine LW.gF rfl rfl rfl rfl rfl rfl ?_
    refine LW.val rfl rfl rfl (x_pickF rfl rfl rfl) ?_
    refine LW.val rfl rfl rfl (x_assign rfl rfl) ?_
    refine LW.nil (QW.thenC (CW.ret ?_))
    refine QW.res1 rfl (ResV.tmp rfl) (ret_eq (()) ?_ ?_)
    · simp [inB, h]
    · (repeat (first | exact Sub.nil | exact Sub.all | (apply Sub.cons; (focus ((repeat (first | exact Rem.head | apply Rem.tail)); done))) | (apply Sub.row; (focus ((repeat (first | exact Rem.head | apply Rem.tail)); done)); (focus (first | with_reducible rfl | assumption | omega | (simp; done) | (simp [Nat.mul_comm]; done) | (simp; omega))); (focus (first | with_reducible rfl | assumption | omega | (simp; done) | (simp [Nat.mul_comm]; done) | (simp; omega))); (focus (first | with_reducible rfl | (simp [nums]; done) | (simp [nums]; omega) | (simp; done) | (simp; omega)))) | (apply Sub.blk; (focus ((repeat (first | exact Rem.head | apply Rem.tail)); done)); (focus (first | with_reducible rfl | (simp [nums]; done) | (simp [nums]; omega) | (simp; done) | (simp; omega)))) | fail))
theorem l1In_ct (n lo hi : Int) (w : World) : Calls Try.prog 153 #[.int .i64 n, .int .i64 lo, .int .i64 hi] w (Ret (fun _ : Unit => .bool (inB n lo hi)) (fun _ => []) w) := by
  refine enter Try.func153 rfl rfl Try.ntmps153 rfl ?_
  refine CW.seq (CW.region ?_)
  refine LW.val rfl rfl rfl (x_assign rfl rfl) ?_
  refine LW.nil (QW.thenC (CW.seq (CW.region ?_)))
  refine LW.val rfl rfl rfl (x_move rfl rfl) ?_
  refine LW.val rfl rfl rfl (x_move rfl rfl) ?_
  refine LW.val rfl rfl rfl (x_geq rfl rfl rfl) ?_
  refine LW.val rfl rfl rfl (x_move rfl rfl) ?_
  refine LW.split (t := 10) rfl (fun h => ?_) (fun h => ?_)
  · refine LW.valG rfl rfl rfl rfl rfl (x_move rfl rfl) ?_
    refine LW.valG rfl rfl rfl rfl rfl (x_move rfl rfl) ?_
    refine LW.valG rfl rfl rfl rfl rfl (x_leq rfl rfl rfl) ?_
    refine LW.val rfl rfl rfl (x_pickT rfl rfl rfl) ?_
    refine LW.val rfl rfl rfl (x_assign rfl rfl) ?_
    refine LW.nil (QW.thenC (CW.ret ?_))
    refine QW.res1 rfl (ResV.tmp rfl) (ret_eq (()) ?_ ?_)
    · simp [inB, h]
    · (repeat (first | exact Sub.nil | exact Sub.all | (apply Sub.cons; (focus ((repeat (first | exact Rem.head | apply Rem.tail)); done))) | (apply Sub.row; (focus ((repeat (first | exact Rem.head | apply Rem.tail)); done)); (focus (first | with_reducible rfl | assumption | omega | (simp; done) | (simp [Nat.mul_comm]; done) | (simp; omega))); (focus (first | with_reducible rfl | assumption | omega | (simp; done) | (simp [Nat.mul_comm]; done) | (simp; omega))); (focus (first | with_reducible rfl | (simp [nums]; done) | (simp [nums]; omega) | (simp; done) | (simp; omega)))) | (apply Sub.blk; (focus ((repeat (first | exact Rem.head | apply Rem.tail)); done)); (focus (first | with_reducible rfl | (simp [nums]; done) | (simp [nums]; omega) | (simp; done) | (simp; omega)))) | fail))
  · refine LW.gF rfl rfl rfl rfl rfl rfl ?_
    refine LW.gF rfl rfl rfl rfl rfl rfl ?_
    refine LW.gF rfl rfl rfl rfl rfl rfl ?_
    refine LW.val rfl rfl rfl (x_pickF rfl rfl rfl) ?_
    refine LW.val rfl rfl rfl (x_assign rfl rfl) ?_
    refine LW.nil (QW.thenC (CW.ret ?_))
    refine QW.res1 rfl (ResV.tmp rfl) (ret_eq (()) ?_ ?_)
    · simp [inB, h]
    · (repeat (first | exact Sub.nil | exact Sub.all | (apply Sub.cons; (focus ((repeat (first | exact Rem.head | apply Rem.tail)); done))) | (apply Sub.row; (focus ((repeat (first | exact Rem.head | apply Rem.tail)); done)); (focus (first | with_reducible rfl | assumption | omega | (simp; done) | (simp [Nat.mul_comm]; done) | (simp; omega))); (focus (first | with_reducible rfl | assumption | omega | (simp; done) | (simp [Nat.mul_comm]; done) | (simp; omega))); (focus (first | with_reducible rfl | (simp [nums]; done) | (simp [nums]; omega) | (simp; done) | (simp; omega)))) | (apply Sub.blk; (focus ((repeat (first | exact Rem.head | apply Rem.tail)); done)); (focus (first | with_reducible rfl | (simp [nums]; done) | (simp [nums]; omega) | (simp; done) | (simp; omega)))) | fail))
theorem Clone_ct (xs : List Int) (A : Option Addr) (c : Nat) (w : World) (hR : RdI w A c xs) : Calls Try.prog 212 #[.slice A xs.length c] w (Ret (fun p : Option Addr × Nat => .slice p.1 xs.length p.2) (fun p => [rowI p.1 xs.length p.2 xs]) w) := ret_i (Clone_any xs A c w hR)
theorem l1Own_ct (xs : List Int) (A : Option Addr) (c : Nat) (w : World) (hR : RdI w A c xs) : Calls Try.prog 209 #[.slice A xs.length c] w (Ret (fun p : Option Addr × Nat => .slice p.1 xs.length p.2) (fun p => [rowI p.1 xs.length p.2 xs]) w) := ret_i (l1Own_any xs A c w hR)
end Go.Proofs.Ytbandmcdkcfpiaa
