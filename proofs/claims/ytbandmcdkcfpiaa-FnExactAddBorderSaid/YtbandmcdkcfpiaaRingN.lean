/- A chart whose ring is a list, again and again: by states. -/
import Derived.Test.YtbandmcdkcfpiaaRetC
import Derived.Test.YtbandmcdkcfpiaaRing1
namespace Go.Proofs.Ytbandmcdkcfpiaa
open Go.RowKit Go.Proofs.YtbandmcdkcfpiaaW.PrintWords
set_option linter.unusedVariables false
set_option linter.unusedSimpArgs false

def fillN (k ps pat : List Int) (n : Nat) : List Int := (List.range n).foldl (fun out (i : Nat) => out.set (rd ps i).toNat (rd pat ((i % pat.length : Nat) : Int))) k
theorem fillN_succ (k ps pat n) : fillN k ps pat (n + 1) = (fillN k ps pat n).set (rd ps n).toNat (rd pat ((n % pat.length : Nat) : Int)) := by simp [fillN, List.range_succ]
theorem fillN_length (k ps pat n) : (fillN k ps pat n).length = k.length := by
  induction n with
  | zero => rfl
  | succ n ih => rw [fillN_succ, List.length_set, ih]
def ringed (W H : Nat) (k pat : List Int) : List Int := fillN k (placesL W H) pat (placesL W H).length
theorem ringed_length (W H k pat) : (ringed W H k pat).length = k.length := fillN_length _ _ _ _
theorem places_all : ∀ W : Fin 9, ∀ H : Fin 9, 2 ≤ W.val → 2 ≤ H.val → (placesL W.val H.val).all (fun p => decide (0 ≤ p) && decide (p < ((W.val * H.val : Nat) : Int))) = true := by decide +kernel
theorem places_in {W H : Nat} (hW : 2 ≤ W) (hW8 : W ≤ 8) (hH : 2 ≤ H) (hH8 : H ≤ 8) (i : Nat) (hi : i < (placesL W H).length) : 0 ≤ rd (placesL W H) i ∧ rd (placesL W H) i < ((W * H : Nat) : Int) := by
  have h := places_all ⟨W, by omega⟩ ⟨H, by omega⟩ hW hH
  have h1 := List.all_eq_true.1 h (rd (placesL W H) i) (by simp [rd, List.getD_eq_getElem?_getD, List.getElem?_eq_getElem hi])
  simpa using h1
theorem places_length (W H : Nat) : (placesL W H).length = W + (H - 1) + (W - 1) + (H - 2) := by simp [placesL, pA, pB, pC, pD]; omega
theorem rd_nat {xs : List Int} {i : Nat} (h : i < xs.length) : xs[i] = rd xs (i : Int) := by simp [rd, List.getD_eq_getElem?_getD, List.getElem?_eq_getElem h]
theorem nums_rd {k : IntKind} {xs : List Int} {i : Nat} (h : i < xs.length) : (nums k xs)[i]? = some (.int k (rd xs (i : Int))) := by rw [nums_get h]; simp [rd]
theorem fillN_next {k ps pat : List Int} {n q : Nat} {y : Int} (h : rd ps n = q) (hy : rd pat ((n % pat.length : Nat) : Int) = y) : (nums .i64 (fillN k ps pat n)).set q (.int .i64 y) = nums .i64 (fillN k ps pat (n + 1)) := by
  rw [nums_set, fillN_succ, h, hy, Int.toNat_natCast]

set_option maxRecDepth 20000 in
theorem withRing_i (wi hi : Int) (W H : Nat) (e1 : wi = W) (e2 : hi = H) (k pat : List Int) (A C : Option Addr) (c d m : Nat) (w : World) (hm : k.length = m) (hk : k.length = W * H) (hW : 2 ≤ W) (hW8 : W ≤ 8) (hH : 2 ≤ H) (hH8 : H ≤ 8) (hp : 1 ≤ pat.length) (hR : RdI w A c k) (hR' : RdI w C d pat) :
    Calls Try.prog 151 #[chA wi hi A m c, .slice C pat.length d] w (Ret (chV wi hi m) (fun p => [rowI p.1 m p.2 (ringed W H k pat)]) w) := by
  subst e1 e2 hm
  have hPL := places_length W H
  have hm1 : W * H ≤ 8 * 8 := Nat.mul_le_mul hW8 hH8
  have hm2 : 2 * 2 ≤ W * H := Nat.mul_le_mul hW hH
  have hpl := hR'.len
  refine enter Try.func151 rfl rfl Try.ntmps151 rfl ?_
  refine CW.seq (CW.region ?_)
  refine LW.op rfl rfl rfl (y_box rfl rfl rfl) ?_
  intro b2
  refine LW.op rfl rfl rfl (y_alloc rfl ze26) ?_
  intro b4
  refine LW.nil (QW.thenC (CW.seq (CW.region ?_)))
  refine LW.val rfl rfl rfl (x_loadBN rfl rfl ty26 (by (repeat (first | exact Rem.head | apply Rem.tail)); done) (by exact rfl) rfl) ?_
  refine LW.op rfl rfl rfl (y_call rfl rfl rfl en157 (fun w HW => copied_ct W H k _ _ c w rfl (hR.up HW.below))) ?_
  rintro ⟨A1, c1⟩
  refine LW.op rfl rfl rfl (y_alloc rfl ze26) ?_
  intro b5
  refine LW.op0 rfl rfl (y_storeBN rfl rfl rfl rfl ty26 rfl (by (repeat (first | exact Rem.head | apply Rem.tail)); done) (by exact rfl) (by (simp only [List.take, List.drop, List.nil_append, List.cons_append, Nat.add_zero, Nat.zero_add]; rfl))) ?_
  intro _u
  refine LW.nil (QW.thenC (CW.seq (CW.seq (CW.region ?_))))
  refine LW.val rfl rfl rfl (x_fieldAddr rfl rfl fl26_0 rfl) ?_
  refine LW.val rfl rfl rfl (x_loadB rfl rfl ty3 (by (repeat (first | exact Rem.head | apply Rem.tail)); done) (by exact rfl)) ?_
  refine LW.val rfl rfl rfl (x_fieldAddr rfl rfl fl26_1 rfl) ?_
  refine LW.val rfl rfl rfl (x_loadB rfl rfl ty3 (by (repeat (first | exact Rem.head | apply Rem.tail)); done) (by exact rfl)) ?_
  refine LW.op rfl rfl rfl (y_call rfl rfl rfl en207 (fun w HW => ret_i (ringPlaces_any W H _ hW hW8 hH hH8))) ?_
  rintro ⟨A2, c2⟩
  refine LW.val rfl rfl rfl (x_len (ty := 0) rfl rfl Try.underlying22) ?_
  refine LW.val rfl rfl rfl (x_move rfl rfl) ?_
  refine LW.nil (QW.thenC (CW.block ?_))
  refine CW.open_ (e := 3) (sz := 1) (A := A1) (m := k.length) (c := c1) (n' := k.length) (cs := nums .i64 k) (by (repeat (first | exact Rem.head | apply Rem.tail)); done) (by rw [nums_len]; omega) ?_
  rintro g1 rfl
  refine CW.open_ (e := 3) (sz := 1) (A := A2) (m := (placesL W H).length) (c := c2) (n' := (placesL W H).length) (cs := nums .i64 (placesL W H)) (by (repeat (first | exact Rem.head | apply Rem.tail)); done) (by rw [nums_len]; omega) ?_
  rintro g2 rfl
  refine CW.loopC1 [6, 7, 16, 17, 18, 19, 20, 21, 22, 23, 24, 25, 26, 27, 28, 29, 30, 31, 32] (fun (j : Nat) => j ≤ (placesL W H).length) (fun (j : Nat) => [(16, .int .i64 j)]) (fun (j : Nat) => [rowI (some ⟨g1, 0, none⟩) k.length c1 (fillN k (placesL W H) pat j)]) (fun (j : Nat) => (placesL W H).length - j) (0) (by first | exact trivial | omega) (by (repeat (first | exact trivial | (refine ⟨rfl, ?_⟩) | (refine ⟨gS rfl (by omega), ?_⟩)))) (Take.row (by (repeat (first | exact Rem.head | apply Rem.tail)); done) (by first | with_reducible rfl | assumption | omega | (simp; done) | (simp [Nat.mul_comm]; done) | (simp; omega)) (by first | with_reducible rfl | assumption | omega | (simp; done) | (simp [Nat.mul_comm]; done) | (simp; omega)) (by first | with_reducible rfl | rfl) (Take.nil)) ?_
  intro j hinv
  refine CW.seq (CW.region ?_)
  refine LW.val rfl rfl rfl (x_lss rfl rfl rfl) ?_
  refine LW.nil (QW.thenC (CW.seq ?_))
  refine CW.condD rfl (fun h => ?_) (fun h => ?_)
  · have hj : j < (placesL W H).length := by omega
    obtain ⟨q1, q2⟩ := places_in hW hW8 hH hH8 j hj
    obtain ⟨q, hq⟩ : ∃ q : Nat, rd (placesL W H) j = q := ⟨(rd (placesL W H) j).toNat, by omega⟩
    have hqk : q < k.length := by omega
    obtain ⟨ad, rfl, hpat⟩ := hR'.at_ (j % pat.length) (Nat.mod_lt _ hp)
    rw [rd_nat (Nat.mod_lt _ hp)] at hpat
    have hmod := Nat.mod_lt j hp
    obtain ⟨y, hy⟩ : ∃ y, rd pat ((j % pat.length : Nat) : Int) = y := ⟨_, rfl⟩
    rw [hy] at hpat
    refine CW.skip (QW.thenC (CW.seq (CW.block (CW.seq (CW.region ?_)))))
    refine LW.val rfl rfl rfl (x_move rfl rfl) ?_
    refine LW.val rfl rfl rfl (x_idx1 rfl rfl rfl el22 (by omega)) ?_
    refine LW.val rfl rfl rfl (x_load1 (v := .int .i64 q) rfl rfl ty3 (rowC (g := g2) (cs := nums .i64 (placesL W H)) (by (repeat (first | exact Rem.head | apply Rem.tail)); done) (by rw [addr_add, Nat.zero_add]) (by rw [nums_rd hj, hq]))) ?_
    refine LW.val rfl rfl rfl (x_assign rfl rfl) ?_
    refine LW.val rfl rfl rfl (x_assign rfl rfl) ?_
    refine LW.nil (QW.thenC ?_)
    refine CW.draw [11] ([.blk b5 (chL W H (some ⟨g1, 0, none⟩) k.length c1) 26]) follows ?_
    refine DW.take 0 rfl rfl (by kernel_rfl) (by kernel_rfl) (by kernel_rfl) (by kernel_rfl) (by kernel_rfl) rfl (fun _ _ _ h => h) rfl (by (repeat (first | exact Sub.nil | exact Sub.all | (apply Sub.cons; (focus ((repeat (first | exact Rem.head | apply Rem.tail)); done))) | fail))) (x_fieldAddr rfl rfl fl26_2 rfl) rfl ?_
    refine DW.take 1 rfl rfl (by kernel_rfl) (by kernel_rfl) (by kernel_rfl) (by kernel_rfl) (by kernel_rfl) rfl (fun _ _ _ h => h) rfl (by (repeat (first | exact Sub.nil | exact Sub.all | (apply Sub.cons; (focus ((repeat (first | exact Rem.head | apply Rem.tail)); done))) | fail))) (x_loadB rfl rfl ty22 (by (repeat (first | exact Rem.head | apply Rem.tail)); done) (by exact rfl)) rfl ?_
    refine DW.take 2 rfl rfl (by kernel_rfl) (by kernel_rfl) (by kernel_rfl) (by kernel_rfl) (by kernel_rfl) rfl (fun _ _ _ h => h) rfl (by (repeat (first | exact Sub.nil | exact Sub.all | (apply Sub.cons; (focus ((repeat (first | exact Rem.head | apply Rem.tail)); done))) | fail))) (x_move rfl rfl) rfl ?_
    refine DW.take 3 rfl rfl (by kernel_rfl) (by kernel_rfl) (by kernel_rfl) (by kernel_rfl) (by kernel_rfl) rfl (fun _ _ _ h => h) rfl (by (repeat (first | exact Sub.nil | exact Sub.all | (apply Sub.cons; (focus ((repeat (first | exact Rem.head | apply Rem.tail)); done))) | fail))) (x_move rfl rfl) rfl ?_
    refine DW.take 4 rfl rfl (by kernel_rfl) (by kernel_rfl) (by kernel_rfl) (by kernel_rfl) (by kernel_rfl) rfl (fun _ _ _ h => h) rfl (by (repeat (first | exact Sub.nil | exact Sub.all | (apply Sub.cons; (focus ((repeat (first | exact Rem.head | apply Rem.tail)); done))) | fail))) (x_move rfl rfl) rfl ?_
    refine DW.take 5 rfl rfl (by kernel_rfl) (by kernel_rfl) (by kernel_rfl) (by kernel_rfl) (by kernel_rfl) rfl (fun _ _ _ h => h) rfl (by (repeat (first | exact Sub.nil | exact Sub.all | (apply Sub.cons; (focus ((repeat (first | exact Rem.head | apply Rem.tail)); done))) | fail))) (x_move rfl rfl) rfl ?_
    refine DW.take 6 rfl rfl (by kernel_rfl) (by kernel_rfl) (by kernel_rfl) (by kernel_rfl) (by kernel_rfl) rfl (fun _ _ _ h => h) rfl (by (repeat (first | exact Sub.nil | exact Sub.all | (apply Sub.cons; (focus ((repeat (first | exact Rem.head | apply Rem.tail)); done))) | fail))) (x_len (ty := 0) rfl rfl Try.underlying22) rfl ?_
    refine DW.take 7 rfl rfl (by kernel_rfl) (by kernel_rfl) (by kernel_rfl) (by kernel_rfl) (by kernel_rfl) rfl (fun _ _ _ h => h) rfl (by (repeat (first | exact Sub.nil | exact Sub.all | (apply Sub.cons; (focus ((repeat (first | exact Rem.head | apply Rem.tail)); done))) | fail))) (x_rem rfl rfl rfl (by omega)) rfl ?_
    refine DW.take 8 rfl rfl (by kernel_rfl) (by kernel_rfl) (by kernel_rfl) (by kernel_rfl) (by kernel_rfl) rfl (fun _ _ _ h => h) rfl (by (repeat (first | exact Sub.nil | exact Sub.all | (apply Sub.cons; (focus ((repeat (first | exact Rem.head | apply Rem.tail)); done))) | fail))) (x_idx1 (i := j % pat.length) rfl rfl rfl el22 (by omega)) rfl ?_
    refine DW.take 9 rfl rfl (by kernel_rfl) (by kernel_rfl) (by kernel_rfl) (by kernel_rfl) (by kernel_rfl) rfl (fun _ _ _ h => h) rfl (by (repeat (first | exact Sub.nil | exact Sub.all | (apply Sub.cons; (focus ((repeat (first | exact Rem.head | apply Rem.tail)); done))) | fail))) (x_load1 rfl rfl ty3 (by first | exact inC (by assumption) | (refine rowC ?_ ?_; (repeat (first | exact Rem.head | apply Rem.tail)); done; first | rfl | assumption | simp [*]))) rfl ?_
    refine DW.take 10 rfl rfl (by kernel_rfl) (by kernel_rfl) (by kernel_rfl) (by kernel_rfl) (by kernel_rfl) rfl (fun _ _ _ h => h) rfl (by (repeat (first | exact Sub.nil | exact Sub.all | (apply Sub.cons; (focus ((repeat (first | exact Rem.head | apply Rem.tail)); done))) | fail))) (x_idx1 rfl rfl rfl el22 (by omega)) rfl ?_
    refine DW.ready [11] (by kernel_rfl) (by simp) ?_
    refine AllR.last rfl rfl rfl (by kernel_rfl) (y_storeR rfl rfl rfl rfl rfl ty3 (by rw [addr_add, Nat.zero_add]) (by (repeat (first | exact Rem.head | apply Rem.tail)); done) (by rw [nums_len, fillN_length]; omega)) rfl ?_ AllR.nil
    rintro ⟨⟩
    refine DW.done (by kernel_rfl) ?_
    refine QW.in_normal (QW.thenC (CW.region ?_))
    refine LW.val rfl rfl rfl (x_add rfl rfl rfl (by omega)) ?_
    refine LW.val rfl rfl rfl (x_move rfl rfl) ?_
    refine LW.nil ?_
    refine QW.then_ (QW.roundC1 (j + 1) ?_ ?_ (by (repeat (first | exact trivial | (refine ⟨rfl, ?_⟩) | (refine ⟨gS rfl (by omega), ?_⟩)))) (by (repeat (first | exact Ext.refl | (refine Ext.cons rfl ?_)))) (by (repeat (first | exact Sub.nil | exact Sub.all | (apply Sub.cons; (focus ((repeat (first | exact Rem.head | apply Rem.tail)); done))) | (apply Sub.row; (focus ((repeat (first | exact Rem.head | apply Rem.tail)); done)); (focus (first | with_reducible rfl | assumption | omega | (simp; done) | (simp [Nat.mul_comm]; done) | (simp; omega))); (focus (first | with_reducible rfl | assumption | omega | (simp; done) | (simp [Nat.mul_comm]; done) | (simp; omega))); (focus (first | with_reducible rfl | exact fillN_next hq hy))) | (apply Sub.blk; (focus ((repeat (first | exact Rem.head | apply Rem.tail)); done)); (focus (first | with_reducible rfl | exact fillN_next hq hy))) | fail))))
    · first | exact trivial | omega
    · first | omega | (simp; omega)
  · have hj : j = (placesL W H).length := by omega
    refine CW.exit (QW.then_exit (QW.then_exit (QW.in_hit (QW.thenC (CW.seq (CW.region ?_))))))
    refine LW.val rfl rfl rfl (x_loadBN rfl rfl ty26 (by (repeat (first | exact Rem.head | apply Rem.tail)); done) (by exact rfl) rfl) ?_
    refine LW.op0 rfl rfl (y_storeBN rfl rfl rfl rfl ty26 rfl (by (repeat (first | exact Rem.head | apply Rem.tail)); done) (by exact rfl) (by (simp only [List.take, List.drop, List.nil_append, List.cons_append, Nat.add_zero, Nat.zero_add]; rfl))) ?_
    intro _u
    refine LW.nil (QW.thenC (CW.ret ?_))
    refine QW.res1 rfl (ResV.cellN rfl ty26 (by (repeat (first | exact Rem.head | apply Rem.tail)); done) (by exact rfl)) (ret_eq ((some ⟨g1, 0, none⟩, c1)) ?_ ?_)
    · first | rfl | (simp only []; rfl)
    · (repeat (first | exact Sub.nil | exact Sub.all | (apply Sub.cons; (focus ((repeat (first | exact Rem.head | apply Rem.tail)); done))) | (apply Sub.row; (focus ((repeat (first | exact Rem.head | apply Rem.tail)); done)); (focus (first | with_reducible rfl | assumption | omega | (simp; done) | (simp [Nat.mul_comm]; done) | (simp; omega))); (focus (first | with_reducible rfl | assumption | omega | (simp; done) | (simp [Nat.mul_comm]; done) | (simp; omega))); (focus (first | with_reducible rfl | (rw [hj]; rfl)))) | (apply Sub.blk; (focus ((repeat (first | exact Rem.head | apply Rem.tail)); done)); (focus (first | with_reducible rfl | (rw [hj]; rfl)))) | fail))

set_option maxRecDepth 20000 in
theorem l8Put_i (wi hi : Int) (W H : Nat) (e1 : wi = W) (e2 : hi = H) (k pat : List Int) (A C : Option Addr) (c d m : Nat) (w : World) (hm : k.length = m) (hk : k.length = W * H) (hW : 2 ≤ W) (hW8 : W ≤ 8) (hH : 2 ≤ H) (hH8 : H ≤ 8) (hp : 1 ≤ pat.length) (hR : RdI w A c k) (hR' : RdI w C d pat) :
    Calls Try.prog 147 #[chA wi hi A m c, .slice C pat.length d] w (Ret (chV wi hi m) (fun p => [rowI p.1 m p.2 (ringed W H k pat)]) w) := by
  subst e1 e2 hm
  have hPL := places_length W H
  have hm1 : W * H ≤ 8 * 8 := Nat.mul_le_mul hW8 hH8
  have hm2 : 2 * 2 ≤ W * H := Nat.mul_le_mul hW hH
  have hpl := hR'.len
  refine enter Try.func147 rfl rfl Try.ntmps147 rfl ?_
  refine CW.seq (CW.region ?_)
  refine LW.op rfl rfl rfl (y_box rfl rfl rfl) ?_
  intro b2
  refine LW.op rfl rfl rfl (y_alloc rfl ze26) ?_
  intro b4
  refine LW.nil (QW.thenC (CW.seq ?_))
  refine CW.cutC5 (M := []) [5, 6, 8, 9, 10, 11, 12, 13, 14] (fun (b : Nat) (A1 : Option Addr) (c1 : Nat) (A2 : Option Addr) (c2 : Nat) => True) (fun (b : Nat) (A1 : Option Addr) (c1 : Nat) (A2 : Option Addr) (c2 : Nat) => [(5, .pointer (some ⟨b, 0, none⟩)), (6, .slice A2 (placesL W H).length c2)]) (fun (b : Nat) (A1 : Option Addr) (c1 : Nat) (A2 : Option Addr) (c2 : Nat) => [rowI A1 k.length c1 k, rowI A2 (placesL W H).length c2 (placesL W H), .blk b (chL W H A1 k.length c1) 26]) (Take.nil) ?_ ?_
  · skip
    refine CW.drawL [] follows ?_
    refine DW.take 0 rfl rfl (by kernel_rfl) (by kernel_rfl) (by kernel_rfl) (by kernel_rfl) (by kernel_rfl) rfl (fun _ _ _ h => nomatch h.1) rfl (by (repeat (first | exact Sub.nil | exact Sub.all | (apply Sub.cons; (focus ((repeat (first | exact Rem.head | apply Rem.tail)); done))) | fail))) (x_loadBN rfl rfl ty26 (by (repeat (first | exact Rem.head | apply Rem.tail)); done) (by exact rfl) rfl) rfl ?_
    refine DW.take 2 rfl rfl (by kernel_rfl) (by kernel_rfl) (by kernel_rfl) (by kernel_rfl) (by kernel_rfl) rfl (fun _ _ _ h => nomatch h.1) rfl (by (repeat (first | exact Sub.nil | exact Sub.all | (apply Sub.cons; (focus ((repeat (first | exact Rem.head | apply Rem.tail)); done))) | fail))) (x_fieldAddr rfl rfl fl26_0 rfl) rfl ?_
    refine DW.take 3 rfl rfl (by kernel_rfl) (by kernel_rfl) (by kernel_rfl) (by kernel_rfl) (by kernel_rfl) rfl (fun _ _ _ h => nomatch h.1) rfl (by (repeat (first | exact Sub.nil | exact Sub.all | (apply Sub.cons; (focus ((repeat (first | exact Rem.head | apply Rem.tail)); done))) | fail))) (x_loadB rfl rfl ty3 (by (repeat (first | exact Rem.head | apply Rem.tail)); done) (by exact rfl)) rfl ?_
    refine DW.take 4 rfl rfl (by kernel_rfl) (by kernel_rfl) (by kernel_rfl) (by kernel_rfl) (by kernel_rfl) rfl (fun _ _ _ h => nomatch h.1) rfl (by (repeat (first | exact Sub.nil | exact Sub.all | (apply Sub.cons; (focus ((repeat (first | exact Rem.head | apply Rem.tail)); done))) | fail))) (x_fieldAddr rfl rfl fl26_1 rfl) rfl ?_
    refine DW.take 5 rfl rfl (by kernel_rfl) (by kernel_rfl) (by kernel_rfl) (by kernel_rfl) (by kernel_rfl) rfl (fun _ _ _ h => nomatch h.1) rfl (by (repeat (first | exact Sub.nil | exact Sub.all | (apply Sub.cons; (focus ((repeat (first | exact Rem.head | apply Rem.tail)); done))) | fail))) (x_loadB rfl rfl ty3 (by (repeat (first | exact Rem.head | apply Rem.tail)); done) (by exact rfl)) rfl ?_
    refine DW.ready [1, 7] (by kernel_rfl) (by simp) ?_
    refine AllR.cons rfl rfl rfl rfl (y_call rfl rfl rfl en154 (fun w HW => l2Own_ct W H k _ _ c w rfl (hR.up HW.below))) (fun _ => by (repeat (first | exact Sub.nil | exact Sub.all | (apply Sub.cons; (focus ((repeat (first | exact Rem.head | apply Rem.tail)); done))) | fail))) rfl ?_ ?_
    · rintro ⟨A1, c1⟩
      refine DW.ready [6, 7] (by kernel_rfl) (by simp) ?_
      refine AllR.cons rfl rfl rfl rfl (y_call rfl rfl rfl en206 (fun w HW => ret_i (l8Places_any W H _ hW hW8 hH hH8))) (fun _ => by (repeat (first | exact Sub.nil | exact Sub.all | (apply Sub.cons; (focus ((repeat (first | exact Rem.head | apply Rem.tail)); done))) | fail))) rfl ?_ ?_
      · rintro ⟨A2, c2⟩
        refine DW.ready [7] (by kernel_rfl) (by simp) ?_
        refine AllR.cons rfl rfl rfl rfl (y_alloc rfl ze26) (fun _ => by (repeat (first | exact Sub.nil | exact Sub.all | (apply Sub.cons; (focus ((repeat (first | exact Rem.head | apply Rem.tail)); done))) | fail))) rfl ?_ AllR.nil
        rintro b5
        refine DW.ready [8] (by kernel_rfl) (by simp) ?_
        refine AllR.cons0 rfl rfl rfl (y_storeBN rfl rfl rfl rfl ty26 rfl (by (repeat (first | exact Rem.head | apply Rem.tail)); done) (by exact rfl) (by (simp only [List.take, List.drop, List.nil_append, List.cons_append, Nat.add_zero, Nat.zero_add]; rfl))) (fun _ => by (repeat (first | exact Sub.nil | exact Sub.all | (apply Sub.cons; (focus ((repeat (first | exact Rem.head | apply Rem.tail)); done))) | fail))) rfl ?_ AllR.nil
        intro _u
        refine DW.take 9 rfl rfl (by kernel_rfl) (by kernel_rfl) (by kernel_rfl) (by kernel_rfl) (by kernel_rfl) rfl (fun _ _ _ h => nomatch h.1) rfl (by (repeat (first | exact Sub.nil | exact Sub.all | (apply Sub.cons; (focus ((repeat (first | exact Rem.head | apply Rem.tail)); done))) | fail))) (x_assign rfl rfl) rfl ?_
        refine DW.done (by kernel_rfl) ?_
        refine QW.cutEndC5 (b5) (A1) (c1) (A2) (c2) ?_ (by (repeat (first | exact trivial | (refine ⟨rfl, ?_⟩) | (refine ⟨gS rfl (by omega), ?_⟩)))) (by (repeat (first | exact Ext.refl | (refine Ext.cons rfl ?_)))) (by (repeat (first | exact Sub.nil | exact Sub.all | (apply Sub.cons; (focus ((repeat (first | exact Rem.head | apply Rem.tail)); done))) | (apply Sub.row; (focus ((repeat (first | exact Rem.head | apply Rem.tail)); done)); (focus (first | with_reducible rfl | assumption | omega | (simp; done) | (simp [Nat.mul_comm]; done) | (simp; omega))); (focus (first | with_reducible rfl | assumption | omega | (simp; done) | (simp [Nat.mul_comm]; done) | (simp; omega))); (focus (first | with_reducible rfl | (simp [nums]; done) | (simp [nums]; omega) | (simp; done) | (simp; omega)))) | (apply Sub.blk; (focus ((repeat (first | exact Rem.head | apply Rem.tail)); done)); (focus (first | with_reducible rfl | (simp [nums]; done) | (simp [nums]; omega) | (simp; done) | (simp; omega)))) | fail)))
        · first | exact trivial | omega
      refine AllR.cons rfl rfl rfl rfl (y_alloc rfl ze26) (fun _ => by (repeat (first | exact Sub.nil | exact Sub.all | (apply Sub.cons; (focus ((repeat (first | exact Rem.head | apply Rem.tail)); done))) | fail))) rfl ?_ ?_
      · rintro b5
        refine DW.ready [6] (by kernel_rfl) (by simp) ?_
        refine AllR.cons rfl rfl rfl rfl (y_call rfl rfl rfl en206 (fun w HW => ret_i (l8Places_any W H _ hW hW8 hH hH8))) (fun _ => by (repeat (first | exact Sub.nil | exact Sub.all | (apply Sub.cons; (focus ((repeat (first | exact Rem.head | apply Rem.tail)); done))) | fail))) rfl ?_ AllR.nil
        rintro ⟨A2, c2⟩
        refine DW.ready [8] (by kernel_rfl) (by simp) ?_
        refine AllR.cons0 rfl rfl rfl (y_storeBN rfl rfl rfl rfl ty26 rfl (by (repeat (first | exact Rem.head | apply Rem.tail)); done) (by exact rfl) (by (simp only [List.take, List.drop, List.nil_append, List.cons_append, Nat.add_zero, Nat.zero_add]; rfl))) (fun _ => by (repeat (first | exact Sub.nil | exact Sub.all | (apply Sub.cons; (focus ((repeat (first | exact Rem.head | apply Rem.tail)); done))) | fail))) rfl ?_ AllR.nil
        intro _u
        refine DW.take 9 rfl rfl (by kernel_rfl) (by kernel_rfl) (by kernel_rfl) (by kernel_rfl) (by kernel_rfl) rfl (fun _ _ _ h => nomatch h.1) rfl (by (repeat (first | exact Sub.nil | exact Sub.all | (apply Sub.cons; (focus ((repeat (first | exact Rem.head | apply Rem.tail)); done))) | fail))) (x_assign rfl rfl) rfl ?_
        refine DW.done (by kernel_rfl) ?_
        refine QW.cutEndC5 (b5) (A1) (c1) (A2) (c2) ?_ (by (repeat (first | exact trivial | (refine ⟨rfl, ?_⟩) | (refine ⟨gS rfl (by omega), ?_⟩)))) (by (repeat (first | exact Ext.refl | (refine Ext.cons rfl ?_)))) (by (repeat (first | exact Sub.nil | exact Sub.all | (apply Sub.cons; (focus ((repeat (first | exact Rem.head | apply Rem.tail)); done))) | (apply Sub.row; (focus ((repeat (first | exact Rem.head | apply Rem.tail)); done)); (focus (first | with_reducible rfl | assumption | omega | (simp; done) | (simp [Nat.mul_comm]; done) | (simp; omega))); (focus (first | with_reducible rfl | assumption | omega | (simp; done) | (simp [Nat.mul_comm]; done) | (simp; omega))); (focus (first | with_reducible rfl | (simp [nums]; done) | (simp [nums]; omega) | (simp; done) | (simp; omega)))) | (apply Sub.blk; (focus ((repeat (first | exact Rem.head | apply Rem.tail)); done)); (focus (first | with_reducible rfl | (simp [nums]; done) | (simp [nums]; omega) | (simp; done) | (simp; omega)))) | fail)))
        · first | exact trivial | omega
      exact AllR.nil
    refine AllR.cons rfl rfl rfl rfl (y_alloc rfl ze26) (fun _ => by (repeat (first | exact Sub.nil | exact Sub.all | (apply Sub.cons; (focus ((repeat (first | exact Rem.head | apply Rem.tail)); done))) | fail))) rfl ?_ ?_
    · rintro b5
      refine DW.ready [1] (by kernel_rfl) (by simp) ?_
      refine AllR.cons rfl rfl rfl rfl (y_call rfl rfl rfl en154 (fun w HW => l2Own_ct W H k _ _ c w rfl (hR.up HW.below))) (fun _ => by (repeat (first | exact Sub.nil | exact Sub.all | (apply Sub.cons; (focus ((repeat (first | exact Rem.head | apply Rem.tail)); done))) | fail))) rfl ?_ AllR.nil
      rintro ⟨A1, c1⟩
      refine DW.ready [6] (by kernel_rfl) (by simp) ?_
      refine AllR.cons rfl rfl rfl rfl (y_call rfl rfl rfl en206 (fun w HW => ret_i (l8Places_any W H _ hW hW8 hH hH8))) (fun _ => by (repeat (first | exact Sub.nil | exact Sub.all | (apply Sub.cons; (focus ((repeat (first | exact Rem.head | apply Rem.tail)); done))) | fail))) rfl ?_ AllR.nil
      rintro ⟨A2, c2⟩
      refine DW.ready [8] (by kernel_rfl) (by simp) ?_
      refine AllR.cons0 rfl rfl rfl (y_storeBN rfl rfl rfl rfl ty26 rfl (by (repeat (first | exact Rem.head | apply Rem.tail)); done) (by exact rfl) (by (simp only [List.take, List.drop, List.nil_append, List.cons_append, Nat.add_zero, Nat.zero_add]; rfl))) (fun _ => by (repeat (first | exact Sub.nil | exact Sub.all | (apply Sub.cons; (focus ((repeat (first | exact Rem.head | apply Rem.tail)); done))) | fail))) rfl ?_ AllR.nil
      intro _u
      refine DW.take 9 rfl rfl (by kernel_rfl) (by kernel_rfl) (by kernel_rfl) (by kernel_rfl) (by kernel_rfl) rfl (fun _ _ _ h => nomatch h.1) rfl (by (repeat (first | exact Sub.nil | exact Sub.all | (apply Sub.cons; (focus ((repeat (first | exact Rem.head | apply Rem.tail)); done))) | fail))) (x_assign rfl rfl) rfl ?_
      refine DW.done (by kernel_rfl) ?_
      refine QW.cutEndC5 (b5) (A1) (c1) (A2) (c2) ?_ (by (repeat (first | exact trivial | (refine ⟨rfl, ?_⟩) | (refine ⟨gS rfl (by omega), ?_⟩)))) (by (repeat (first | exact Ext.refl | (refine Ext.cons rfl ?_)))) (by (repeat (first | exact Sub.nil | exact Sub.all | (apply Sub.cons; (focus ((repeat (first | exact Rem.head | apply Rem.tail)); done))) | (apply Sub.row; (focus ((repeat (first | exact Rem.head | apply Rem.tail)); done)); (focus (first | with_reducible rfl | assumption | omega | (simp; done) | (simp [Nat.mul_comm]; done) | (simp; omega))); (focus (first | with_reducible rfl | assumption | omega | (simp; done) | (simp [Nat.mul_comm]; done) | (simp; omega))); (focus (first | with_reducible rfl | (simp [nums]; done) | (simp [nums]; omega) | (simp; done) | (simp; omega)))) | (apply Sub.blk; (focus ((repeat (first | exact Rem.head | apply Rem.tail)); done)); (focus (first | with_reducible rfl | (simp [nums]; done) | (simp [nums]; omega) | (simp; done) | (simp; omega)))) | fail)))
      · first | exact trivial | omega
    exact AllR.nil
  · intro b A1 c1 A2 c2 _
    refine QW.thenC (CW.seq (CW.seq (CW.region ?_)))
    refine LW.val rfl rfl rfl (x_assign rfl rfl) ?_
    refine LW.nil (QW.thenC (CW.block ?_))
    refine CW.open_ (e := 3) (sz := 1) (A := A1) (m := k.length) (c := c1) (n' := k.length) (cs := nums .i64 k) (by (repeat (first | exact Rem.head | apply Rem.tail)); done) (by rw [nums_len]; omega) ?_
    rintro g1 rfl
    refine CW.open_ (e := 3) (sz := 1) (A := A2) (m := (placesL W H).length) (c := c2) (n' := (placesL W H).length) (cs := nums .i64 (placesL W H)) (by (repeat (first | exact Rem.head | apply Rem.tail)); done) (by rw [nums_len]; omega) ?_
    rintro g2 rfl
    refine CW.loopC1 [7, 15, 16, 17, 18, 19, 20, 21, 22, 23, 24, 25, 26, 27, 28, 29, 30, 31, 32, 33, 34] (fun (j : Nat) => j ≤ (placesL W H).length) (fun (j : Nat) => [(7, .int .i64 j)]) (fun (j : Nat) => [rowI (some ⟨g1, 0, none⟩) k.length c1 (fillN k (placesL W H) pat j)]) (fun (j : Nat) => (placesL W H).length - j) (0) (by first | exact trivial | omega) (by (repeat (first | exact trivial | (refine ⟨rfl, ?_⟩) | (refine ⟨gS rfl (by omega), ?_⟩)))) (Take.row (by (repeat (first | exact Rem.head | apply Rem.tail)); done) (by first | with_reducible rfl | assumption | omega | (simp; done) | (simp [Nat.mul_comm]; done) | (simp; omega)) (by first | with_reducible rfl | assumption | omega | (simp; done) | (simp [Nat.mul_comm]; done) | (simp; omega)) (by first | with_reducible rfl | rfl) (Take.nil)) ?_
    intro j hinv
    refine CW.seq (CW.seq (CW.region ?_))
    refine LW.val rfl rfl rfl (x_move rfl rfl) ?_
    refine LW.val rfl rfl rfl (x_move rfl rfl) ?_
    refine LW.val rfl rfl rfl (x_len (ty := 0) rfl rfl Try.underlying22) ?_
    refine LW.val rfl rfl rfl (x_lss rfl rfl rfl) ?_
    refine LW.nil (QW.thenC ?_)
    refine CW.condD rfl (fun h => ?_) (fun h => ?_)
    · have hj : j < (placesL W H).length := by omega
      obtain ⟨q1, q2⟩ := places_in hW hW8 hH hH8 j hj
      obtain ⟨q, hq⟩ : ∃ q : Nat, rd (placesL W H) j = q := ⟨(rd (placesL W H) j).toNat, by omega⟩
      have hqk : q < k.length := by omega
      obtain ⟨ad, rfl, hpat⟩ := hR'.at_ (j % pat.length) (Nat.mod_lt _ hp)
      rw [rd_nat (Nat.mod_lt _ hp)] at hpat
      have hmod := Nat.mod_lt j hp
      obtain ⟨y, hy⟩ : ∃ y, rd pat ((j % pat.length : Nat) : Int) = y := ⟨_, rfl⟩
      rw [hy] at hpat
      refine CW.skip (QW.thenC (CW.seq (CW.block ?_)))
      refine CW.draw [14] ([.blk b (chL W H (some ⟨g1, 0, none⟩) k.length c1) 26, rowI (some ⟨g2, 0, none⟩) (placesL W H).length c2 (placesL W H)]) follows ?_
      refine DW.take 0 rfl rfl (by kernel_rfl) (by kernel_rfl) (by kernel_rfl) (by kernel_rfl) (by kernel_rfl) rfl (fun _ _ _ h => h) rfl (by (repeat (first | exact Sub.nil | exact Sub.all | (apply Sub.cons; (focus ((repeat (first | exact Rem.head | apply Rem.tail)); done))) | fail))) (x_fieldAddr rfl rfl fl26_2 rfl) rfl ?_
      refine DW.take 1 rfl rfl (by kernel_rfl) (by kernel_rfl) (by kernel_rfl) (by kernel_rfl) (by kernel_rfl) rfl (fun _ _ _ h => h) rfl (by (repeat (first | exact Sub.nil | exact Sub.all | (apply Sub.cons; (focus ((repeat (first | exact Rem.head | apply Rem.tail)); done))) | fail))) (x_loadB rfl rfl ty22 (by (repeat (first | exact Rem.head | apply Rem.tail)); done) (by exact rfl)) rfl ?_
      refine DW.take 2 rfl rfl (by kernel_rfl) (by kernel_rfl) (by kernel_rfl) (by kernel_rfl) (by kernel_rfl) rfl (fun _ _ _ h => h) rfl (by (repeat (first | exact Sub.nil | exact Sub.all | (apply Sub.cons; (focus ((repeat (first | exact Rem.head | apply Rem.tail)); done))) | fail))) (x_move rfl rfl) rfl ?_
      refine DW.take 3 rfl rfl (by kernel_rfl) (by kernel_rfl) (by kernel_rfl) (by kernel_rfl) (by kernel_rfl) rfl (fun _ _ _ h => h) rfl (by (repeat (first | exact Sub.nil | exact Sub.all | (apply Sub.cons; (focus ((repeat (first | exact Rem.head | apply Rem.tail)); done))) | fail))) (x_move rfl rfl) rfl ?_
      refine DW.take 4 rfl rfl (by kernel_rfl) (by kernel_rfl) (by kernel_rfl) (by kernel_rfl) (by kernel_rfl) rfl (fun _ _ _ h => h) rfl (by (repeat (first | exact Sub.nil | exact Sub.all | (apply Sub.cons; (focus ((repeat (first | exact Rem.head | apply Rem.tail)); done))) | fail))) (x_idx1 rfl rfl rfl el22 (by omega)) rfl ?_
      refine DW.take 5 rfl rfl (by kernel_rfl) (by kernel_rfl) (by kernel_rfl) (by kernel_rfl) (by kernel_rfl) rfl (fun _ _ _ h => h) rfl (by (repeat (first | exact Sub.nil | exact Sub.all | (apply Sub.cons; (focus ((repeat (first | exact Rem.head | apply Rem.tail)); done))) | fail))) (x_load1 (v := .int .i64 q) rfl rfl ty3 (rowC (g := g2) (cs := nums .i64 (placesL W H)) (by (repeat (first | exact Rem.head | apply Rem.tail)); done) (by rw [addr_add, Nat.zero_add]) (by rw [nums_rd hj, hq]))) rfl ?_
      refine DW.take 6 rfl rfl (by kernel_rfl) (by kernel_rfl) (by kernel_rfl) (by kernel_rfl) (by kernel_rfl) rfl (fun _ _ _ h => h) rfl (by (repeat (first | exact Sub.nil | exact Sub.all | (apply Sub.cons; (focus ((repeat (first | exact Rem.head | apply Rem.tail)); done))) | fail))) (x_move rfl rfl) rfl ?_
      refine DW.take 7 rfl rfl (by kernel_rfl) (by kernel_rfl) (by kernel_rfl) (by kernel_rfl) (by kernel_rfl) rfl (fun _ _ _ h => h) rfl (by (repeat (first | exact Sub.nil | exact Sub.all | (apply Sub.cons; (focus ((repeat (first | exact Rem.head | apply Rem.tail)); done))) | fail))) (x_move rfl rfl) rfl ?_
      refine DW.take 8 rfl rfl (by kernel_rfl) (by kernel_rfl) (by kernel_rfl) (by kernel_rfl) (by kernel_rfl) rfl (fun _ _ _ h => h) rfl (by (repeat (first | exact Sub.nil | exact Sub.all | (apply Sub.cons; (focus ((repeat (first | exact Rem.head | apply Rem.tail)); done))) | fail))) (x_move rfl rfl) rfl ?_
      refine DW.take 9 rfl rfl (by kernel_rfl) (by kernel_rfl) (by kernel_rfl) (by kernel_rfl) (by kernel_rfl) rfl (fun _ _ _ h => h) rfl (by (repeat (first | exact Sub.nil | exact Sub.all | (apply Sub.cons; (focus ((repeat (first | exact Rem.head | apply Rem.tail)); done))) | fail))) (x_len (ty := 0) rfl rfl Try.underlying22) rfl ?_
      refine DW.take 10 rfl rfl (by kernel_rfl) (by kernel_rfl) (by kernel_rfl) (by kernel_rfl) (by kernel_rfl) rfl (fun _ _ _ h => h) rfl (by (repeat (first | exact Sub.nil | exact Sub.all | (apply Sub.cons; (focus ((repeat (first | exact Rem.head | apply Rem.tail)); done))) | fail))) (x_rem rfl rfl rfl (by omega)) rfl ?_
      refine DW.take 11 rfl rfl (by kernel_rfl) (by kernel_rfl) (by kernel_rfl) (by kernel_rfl) (by kernel_rfl) rfl (fun _ _ _ h => h) rfl (by (repeat (first | exact Sub.nil | exact Sub.all | (apply Sub.cons; (focus ((repeat (first | exact Rem.head | apply Rem.tail)); done))) | fail))) (x_idx1 (i := j % pat.length) rfl rfl rfl el22 (by omega)) rfl ?_
      refine DW.take 12 rfl rfl (by kernel_rfl) (by kernel_rfl) (by kernel_rfl) (by kernel_rfl) (by kernel_rfl) rfl (fun _ _ _ h => h) rfl (by (repeat (first | exact Sub.nil | exact Sub.all | (apply Sub.cons; (focus ((repeat (first | exact Rem.head | apply Rem.tail)); done))) | fail))) (x_load1 rfl rfl ty3 (by first | exact inC (by assumption) | (refine rowC ?_ ?_; (repeat (first | exact Rem.head | apply Rem.tail)); done; first | rfl | assumption | simp [*]))) rfl ?_
      refine DW.take 13 rfl rfl (by kernel_rfl) (by kernel_rfl) (by kernel_rfl) (by kernel_rfl) (by kernel_rfl) rfl (fun _ _ _ h => h) rfl (by (repeat (first | exact Sub.nil | exact Sub.all | (apply Sub.cons; (focus ((repeat (first | exact Rem.head | apply Rem.tail)); done))) | fail))) (x_idx1 rfl rfl rfl el22 (by omega)) rfl ?_
      refine DW.ready [14] (by kernel_rfl) (by simp) ?_
      refine AllR.last rfl rfl rfl (by kernel_rfl) (y_storeR rfl rfl rfl rfl rfl ty3 (by rw [addr_add, Nat.zero_add]) (by (repeat (first | exact Rem.head | apply Rem.tail)); done) (by rw [nums_len, fillN_length]; omega)) rfl ?_ AllR.nil
      rintro ⟨⟩
      refine DW.done (by kernel_rfl) ?_
      refine QW.in_normal (QW.thenC (CW.region ?_))
      refine LW.val rfl rfl rfl (x_move rfl rfl) ?_
      refine LW.val rfl rfl rfl (x_add rfl rfl rfl (by omega)) ?_
      refine LW.val rfl rfl rfl (x_assign rfl rfl) ?_
      refine LW.nil ?_
      refine QW.then_ (QW.roundC1 (j + 1) ?_ ?_ (by (repeat (first | exact trivial | (refine ⟨rfl, ?_⟩) | (refine ⟨gS rfl (by omega), ?_⟩)))) (by (repeat (first | exact Ext.refl | (refine Ext.cons rfl ?_)))) (by (repeat (first | exact Sub.nil | exact Sub.all | (apply Sub.cons; (focus ((repeat (first | exact Rem.head | apply Rem.tail)); done))) | (apply Sub.row; (focus ((repeat (first | exact Rem.head | apply Rem.tail)); done)); (focus (first | with_reducible rfl | assumption | omega | (simp; done) | (simp [Nat.mul_comm]; done) | (simp; omega))); (focus (first | with_reducible rfl | assumption | omega | (simp; done) | (simp [Nat.mul_comm]; done) | (simp; omega))); (focus (first | with_reducible rfl | exact fillN_next hq hy))) | (apply Sub.blk; (focus ((repeat (first | exact Rem.head | apply Rem.tail)); done)); (focus (first | with_reducible rfl | exact fillN_next hq hy))) | fail))))
      · first | exact trivial | omega
      · first | omega | (simp; omega)
    · have hj : j = (placesL W H).length := by omega
      refine CW.exit (QW.then_exit (QW.then_exit (QW.in_hit (QW.thenC (CW.seq (CW.region ?_))))))
      refine LW.val rfl rfl rfl (x_loadBN rfl rfl ty26 (by (repeat (first | exact Rem.head | apply Rem.tail)); done) (by exact rfl) rfl) ?_
      refine LW.op0 rfl rfl (y_storeBN rfl rfl rfl rfl ty26 rfl (by (repeat (first | exact Rem.head | apply Rem.tail)); done) (by exact rfl) (by (simp only [List.take, List.drop, List.nil_append, List.cons_append, Nat.add_zero, Nat.zero_add]; rfl))) ?_
      intro _u
      refine LW.nil (QW.thenC (CW.ret ?_))
      refine QW.res1 rfl (ResV.cellN rfl ty26 (by (repeat (first | exact Rem.head | apply Rem.tail)); done) (by exact rfl)) (ret_eq ((some ⟨g1, 0, none⟩, c1)) ?_ ?_)
      · first | rfl | (simp only []; rfl)
      · (repeat (first | exact Sub.nil | exact Sub.all | (apply Sub.cons; (focus ((repeat (first | exact Rem.head | apply Rem.tail)); done))) | (apply Sub.row; (focus ((repeat (first | exact Rem.head | apply Rem.tail)); done)); (focus (first | with_reducible rfl | assumption | omega | (simp; done) | (simp [Nat.mul_comm]; done) | (simp; omega))); (focus (first | with_reducible rfl | assumption | omega | (simp; done) | (simp [Nat.mul_comm]; done) | (simp; omega))); (focus (first | with_reducible rfl | (rw [hj]; rfl)))) | (apply Sub.blk; (focus ((repeat (first | exact Rem.head | apply Rem.tail)); done)); (focus (first | with_reducible rfl | (rw [hj]; rfl)))) | fail))
end Go.Proofs.Ytbandmcdkcfpiaa
