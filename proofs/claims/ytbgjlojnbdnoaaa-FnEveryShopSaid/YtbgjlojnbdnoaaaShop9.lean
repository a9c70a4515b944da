/- The law FnEveryShop. -/
import Derived.Test.YtbgjlojnbdnoaaaShop8
namespace Go.Proofs.Ytbgjlojnbdnoaaa
open Go.RowKit
set_option linter.unusedVariables false
set_option linter.unusedSimpArgs false
set_option maxRecDepth 20000 in
theorem tdShop_ct (day looms money : Int) (xs : List Cp) (A : Option Addr) (c : Nat) (B : Option Addr) (d : Nat) (w : World) (hR : RdC w A c xs) (hR' : RdC w B d xs) : Calls Try.prog 12 #[shV day looms money A xs.length c, shV day looms money B xs.length d] w (Ret (fun _ : Unit => .bool true) (fun _ => []) w) := by
  have hb := hR.bnd
  refine enter Try.func12 rfl rfl Try.ntmps12 rfl ?_
  refine CW.seq (CW.region ?_)
  refine LW.op rfl rfl rfl (y_box rfl rfl rfl) ?_
  intro b2
  refine LW.op rfl rfl rfl (y_box rfl rfl rfl) ?_
  intro b3
  refine LW.val rfl rfl rfl (x_assign rfl rfl) ?_
  refine LW.nil (QW.thenC (CW.seq (CW.seq (CW.region ?_))))
  refine LW.val rfl rfl rfl (x_fieldAddr rfl rfl fl31_0 rfl) ?_
  refine LW.val rfl rfl rfl (x_loadB rfl rfl ty3 (by (repeat (first | exact Rem.head | apply Rem.tail)); done) (by exact rfl)) ?_
  refine LW.val rfl rfl rfl (x_fieldAddr rfl rfl fl31_0 rfl) ?_
  refine LW.val rfl rfl rfl (x_loadB rfl rfl ty3 (by (repeat (first | exact Rem.head | apply Rem.tail)); done) (by exact rfl)) ?_
  refine LW.val rfl rfl rfl (x_neq rfl rfl rfl) ?_
  refine LW.val rfl rfl rfl (x_move rfl rfl) ?_
  refine LW.split (t := 12) rfl (fun hno => absurd hno (by simp)) (fun _ => ?_)
  refine LW.valG rfl rfl rfl rfl rfl (x_fieldAddr rfl rfl fl31_1 rfl) ?_
  refine LW.valG rfl rfl rfl rfl rfl (x_loadB rfl rfl ty3 (by (repeat (first | exact Rem.head | apply Rem.tail)); done) (by exact rfl)) ?_
  refine LW.valG rfl rfl rfl rfl rfl (x_fieldAddr rfl rfl fl31_1 rfl) ?_
  refine LW.valG rfl rfl rfl rfl rfl (x_loadB rfl rfl ty3 (by (repeat (first | exact Rem.head | apply Rem.tail)); done) (by exact rfl)) ?_
  refine LW.valG rfl rfl rfl rfl rfl (x_neq rfl rfl rfl) ?_
  refine LW.val rfl rfl rfl (x_pickF rfl rfl rfl) ?_
  refine LW.val rfl rfl rfl (x_move rfl rfl) ?_
  refine LW.split (t := 19) rfl (fun hno => absurd hno (by simp)) (fun _ => ?_)
  refine LW.valG rfl rfl rfl rfl rfl (x_fieldAddr rfl rfl fl31_3 rfl) ?_
  refine LW.valG rfl rfl rfl rfl rfl (x_loadB rfl rfl ty3 (by (repeat (first | exact Rem.head | apply Rem.tail)); done) (by exact rfl)) ?_
  refine LW.valG rfl rfl rfl rfl rfl (x_fieldAddr rfl rfl fl31_3 rfl) ?_
  refine LW.valG rfl rfl rfl rfl rfl (x_loadB rfl rfl ty3 (by (repeat (first | exact Rem.head | apply Rem.tail)); done) (by exact rfl)) ?_
  refine LW.valG rfl rfl rfl rfl rfl (x_neq rfl rfl rfl) ?_
  refine LW.val rfl rfl rfl (x_pickF rfl rfl rfl) ?_
  refine LW.val rfl rfl rfl (x_move rfl rfl) ?_
  refine LW.split (t := 26) rfl (fun hno => absurd hno (by simp)) (fun _ => ?_)
  refine LW.valG rfl rfl rfl rfl rfl (x_fieldAddr rfl rfl fl31_2 rfl) ?_
  refine LW.valG rfl rfl rfl rfl rfl (x_loadB rfl rfl ty29 (by (repeat (first | exact Rem.head | apply Rem.tail)); done) (by exact rfl)) ?_
  refine LW.valG rfl rfl rfl rfl rfl (x_len (ty := 0) rfl rfl Try.underlying29) ?_
  refine LW.valG rfl rfl rfl rfl rfl (x_fieldAddr rfl rfl fl31_2 rfl) ?_
  refine LW.valG rfl rfl rfl rfl rfl (x_loadB rfl rfl ty29 (by (repeat (first | exact Rem.head | apply Rem.tail)); done) (by exact rfl)) ?_
  refine LW.valG rfl rfl rfl rfl rfl (x_len (ty := 0) rfl rfl Try.underlying29) ?_
  refine LW.valG rfl rfl rfl rfl rfl (x_neq rfl rfl rfl) ?_
  refine LW.val rfl rfl rfl (x_pickF rfl rfl rfl) ?_
  refine LW.nil (QW.thenC ?_)
  refine CW.cond rfl (fun hno => absurd hno (by simp)) (fun _ => ?_)
  refine CW.skip (QW.thenC (CW.seq (CW.seq (CW.region ?_))))
  refine LW.val rfl rfl rfl (x_fieldAddr rfl rfl fl31_2 rfl) ?_
  refine LW.val rfl rfl rfl (x_loadB rfl rfl ty29 (by (repeat (first | exact Rem.head | apply Rem.tail)); done) (by exact rfl)) ?_
  refine LW.val rfl rfl rfl (x_len (ty := 0) rfl rfl Try.underlying29) ?_
  refine LW.val rfl rfl rfl (x_move rfl rfl) ?_
  refine LW.nil (QW.thenC (CW.block ?_))
  refine CW.loopC1 [4, 5, 6, 38, 39, 40, 41, 42, 43, 44, 45, 46, 47, 48, 49, 50] (fun (i : Nat) => i ≤ xs.length) (fun (i : Nat) => [(38, .int .i64 i)]) (fun (i : Nat) => []) (fun (i : Nat) => xs.length - i) (0) (by first | exact trivial | omega) (by (repeat (first | exact trivial | (refine ⟨rfl, ?_⟩) | (refine ⟨gS rfl (by omega), ?_⟩)))) (Take.nil) ?_
  intro i hinv
  refine CW.seq (CW.region ?_)
  refine LW.val rfl rfl rfl (x_lss rfl rfl rfl) ?_
  refine LW.nil (QW.thenC (CW.seq ?_))
  refine CW.condD rfl (fun h => ?_) (fun h => ?_)
  · have hi : i < xs.length := by omega
    obtain ⟨ad, rfl⟩ := hR.some hi
    obtain ⟨bd, rfl⟩ := hR'.some hi
    obtain ⟨y, hy⟩ : ∃ y, xs[i] = y := ⟨_, rfl⟩
    refine CW.skip (QW.thenC (CW.seq (CW.block (CW.seq (CW.region ?_)))))
    refine LW.val rfl rfl rfl (x_move rfl rfl) ?_
    refine LW.val rfl rfl rfl (x_idxN rfl rfl rfl el29 (by omega)) ?_
    refine LW.val rfl rfl rfl (x_loadF (y := y) hR (by simp) cpLen rfl rfl ty41 (by simp [hi, hy])) ?_
    refine LW.op rfl rfl rfl (y_alloc rfl ze41) ?_
    intro b6
    refine LW.val rfl rfl rfl (x_assign rfl rfl) ?_
    refine LW.op0 rfl rfl (y_storeB0 rfl rfl rfl rfl ty41 rfl (by (repeat (first | exact Rem.head | apply Rem.tail)); done) rfl) ?_
    intro _u
    refine LW.nil (QW.thenC (CW.seq ?_))
    refine CW.drawL [] follows ?_
    refine DW.take 0 rfl rfl (by kernel_rfl) (by kernel_rfl) (by kernel_rfl) (by kernel_rfl) (by kernel_rfl) rfl (fun _ _ _ h => h) rfl (by (repeat (first | exact Sub.nil | exact Sub.all | (apply Sub.cons; (focus ((repeat (first | exact Rem.head | apply Rem.tail)); done))) | fail))) (x_loadB0 rfl rfl ty41 (by (repeat (first | exact Rem.head | apply Rem.tail)); done) rfl) rfl ?_
    refine DW.take 1 rfl rfl (by kernel_rfl) (by kernel_rfl) (by kernel_rfl) (by kernel_rfl) (by kernel_rfl) rfl (fun _ _ _ h => h) rfl (by (repeat (first | exact Sub.nil | exact Sub.all | (apply Sub.cons; (focus ((repeat (first | exact Rem.head | apply Rem.tail)); done))) | fail))) (x_fieldAddr rfl rfl fl31_2 rfl) rfl ?_
    refine DW.take 2 rfl rfl (by kernel_rfl) (by kernel_rfl) (by kernel_rfl) (by kernel_rfl) (by kernel_rfl) rfl (fun _ _ _ h => h) rfl (by (repeat (first | exact Sub.nil | exact Sub.all | (apply Sub.cons; (focus ((repeat (first | exact Rem.head | apply Rem.tail)); done))) | fail))) (x_loadB rfl rfl ty29 (by (repeat (first | exact Rem.head | apply Rem.tail)); done) (by exact rfl)) rfl ?_
    refine DW.take 3 rfl rfl (by kernel_rfl) (by kernel_rfl) (by kernel_rfl) (by kernel_rfl) (by kernel_rfl) rfl (fun _ _ _ h => h) rfl (by (repeat (first | exact Sub.nil | exact Sub.all | (apply Sub.cons; (focus ((repeat (first | exact Rem.head | apply Rem.tail)); done))) | fail))) (x_move rfl rfl) rfl ?_
    refine DW.take 4 rfl rfl (by kernel_rfl) (by kernel_rfl) (by kernel_rfl) (by kernel_rfl) (by kernel_rfl) rfl (fun _ _ _ h => h) rfl (by (repeat (first | exact Sub.nil | exact Sub.all | (apply Sub.cons; (focus ((repeat (first | exact Rem.head | apply Rem.tail)); done))) | fail))) (x_idxN rfl rfl rfl el29 (by omega)) rfl ?_
    refine DW.take 5 rfl rfl (by kernel_rfl) (by kernel_rfl) (by kernel_rfl) (by kernel_rfl) (by kernel_rfl) rfl (fun _ _ _ h => h) rfl (by (repeat (first | exact Sub.nil | exact Sub.all | (apply Sub.cons; (focus ((repeat (first | exact Rem.head | apply Rem.tail)); done))) | fail))) (x_loadF (y := y) hR' (by simp) cpLen rfl rfl ty41 (by simp [hi, hy])) rfl ?_
    refine DW.take 6 rfl rfl (by kernel_rfl) (by kernel_rfl) (by kernel_rfl) (by kernel_rfl) (by kernel_rfl) rfl (fun _ _ _ h => h) rfl (by (repeat (first | exact Sub.nil | exact Sub.all | (apply Sub.cons; (focus ((repeat (first | exact Rem.head | apply Rem.tail)); done))) | fail))) (x_neqS (v := .bool false) (xs := cpL y) (ys := cpL y) rfl rfl rfl (by kernel_rfl) (neqCp y)) rfl ?_
    refine DW.done (by kernel_rfl) ?_
    refine QW.thenC ?_
    refine CW.cond rfl (fun hno => absurd hno (by decide)) (fun _ => ?_)
    refine CW.skip (QW.in_normal (QW.thenC (CW.region ?_)))
    refine LW.val rfl rfl rfl (x_add rfl rfl rfl (by omega)) ?_
    refine LW.val rfl rfl rfl (x_move rfl rfl) ?_
    refine LW.nil ?_
    refine QW.then_ (QW.roundC1 (i + 1) ?_ ?_ (by (repeat (first | exact trivial | (refine ⟨rfl, ?_⟩) | (refine ⟨gS rfl (by omega), ?_⟩)))) (by (repeat (first | exact Ext.refl | (refine Ext.cons rfl ?_)))) (by (repeat (first | exact Sub.nil | exact Sub.all | (apply Sub.cons; (focus ((repeat (first | exact Rem.head | apply Rem.tail)); done))) | (apply Sub.row; (focus ((repeat (first | exact Rem.head | apply Rem.tail)); done)); (focus (first | with_reducible rfl | assumption | omega | (simp; done) | (simp [Nat.mul_comm]; done) | (simp; omega))); (focus (first | with_reducible rfl | assumption | omega | (simp; done) | (simp [Nat.mul_comm]; done) | (simp; omega))); (focus (first | with_reducible rfl | (simp [nums]; done) | (simp [nums]; omega) | (simp; done) | (simp; omega)))) | (apply Sub.blk; (focus ((repeat (first | exact Rem.head | apply Rem.tail)); done)); (focus (first | with_reducible rfl | (simp [nums]; done) | (simp [nums]; omega) | (simp; done) | (simp; omega)))) | fail))))
    · first | exact trivial | omega
    · first | omega | (simp; omega)
  · refine CW.exit (QW.then_exit (QW.then_exit (QW.in_hit (QW.thenC (CW.seq (CW.region ?_))))))
    refine LW.val rfl rfl rfl (x_assign rfl rfl) ?_
    refine LW.nil (QW.thenC (CW.ret ?_))
    refine QW.res1 rfl (ResV.tmp rfl) (ret_eq (()) ?_ ?_)
    · first | rfl | (simp only []; rfl)
    · (repeat (first | exact Sub.nil | exact Sub.all | (apply Sub.cons; (focus ((repeat (first | exact Rem.head | apply Rem.tail)); done))) | (apply Sub.row; (focus ((repeat (first | exact Rem.head | apply Rem.tail)); done)); (focus (first | with_reducible rfl | assumption | omega | (simp; done) | (simp [Nat.mul_comm]; done) | (simp; omega))); (focus (first | with_reducible rfl | assumption | omega | (simp; done) | (simp [Nat.mul_comm]; done) | (simp; omega))); (focus (first | with_reducible rfl | (simp [nums]; done) | (simp [nums]; omega) | (simp; done) | (simp; omega)))) | (apply Sub.blk; (focus ((repeat (first | exact Rem.head | apply Rem.tail)); done)); (focus (first | with_reducible rfl | (simp [nums]; done) | (simp [nums]; omega) | (simp; done) | (simp; omega)))) | fail))
/-- what a step may do to a carpet -/
def fair (d' : Int) (old c : Cp) : Prop := (c.state = 4 → old.state ≠ 4 → c.made = c.rows ∧ old.state = 3 ∧ 3 ≤ d' - old.since) ∧ old.state ≤ c.state ∧ c.state ≤ old.state + 1 ∧ c.rows = old.rows ∧ old.made ≤ c.made ∧ (2 ≤ c.state → c.made = c.rows)
theorem fair_self {day d' looms : Int} {c : Cp} (h : carpetOk day looms c = true) : fair d' c c := by
  refine ⟨fun h1 h2 => absurd h1 h2, by omega, by omega, rfl, by omega, fun h2 => ?_⟩
  simp only [carpetOk, Bool.and_eq_true] at h
  have h3 := h.2
  rw [if_neg (by omega), if_neg (by omega)] at h3
  simp at h3; exact h3.1
theorem step_fair {day looms money d l m : Int} {xs ys : List Cp} {x : Sp} (hg : goodSh day looms money xs = true) (h : stepR day looms money xs x = (true, d, l, m, ys)) :
    xs.length ≤ ys.length ∧ ∀ (i : Nat) (y c : Cp), xs[i]? = some y → ys[i]? = some c → fair d y c := by
  obtain ⟨g1, g2, g3, g4, g5⟩ := goodSh_iff.1 hg
  have hok : ∀ (i : Nat) (y : Cp), xs[i]? = some y → carpetOk day looms y = true := fun i y hy => by
    obtain ⟨hi, e⟩ := List.getElem?_eq_some_iff.1 hy
    have := okAt_carpet hi (g5 i hi)
    rwa [e] at this
  have hgd := (stepR_ok h).2
  have hl := (stepR_ok h).1
  subst hl
  obtain ⟨hc1, hc2⟩ : cand day money xs x = some (d, m, ys) ∧ True := by
    unfold stepR at h
    split at h
    · rename_i d1 m1 y1 e1
      split at h
      · simp at h; obtain ⟨h3, h5, h6⟩ := h; subst h3 h5 h6; exact ⟨e1, trivial⟩
      · simp at h
    · simp at h
  obtain ⟨kind, car, val⟩ := x
  unfold cand at hc1
  split at hc1
  · cases hc1
  rename_i hv
  have hv : validI ⟨kind, car, val⟩ = true := by simpa using hv
  split at hc1
  · simp only [Option.some.injEq, Prod.mk.injEq] at hc1
    obtain ⟨rfl, rfl, rfl⟩ := hc1
    exact ⟨Nat.le_refl _, fun i y c hy hc => by rw [hy] at hc; cases hc; exact fair_self (hok i y hy)⟩
  rename_i k1
  split at hc1
  · simp only [Option.some.injEq, Prod.mk.injEq] at hc1
    obtain ⟨rfl, rfl, rfl⟩ := hc1
    refine ⟨by simp, fun i y c hy hc => ?_⟩
    have hi := (List.getElem?_eq_some_iff.1 hy).1
    rw [List.getElem?_append_left hi, hy] at hc
    cases hc; exact fair_self (hok i y hy)
  rename_i k2
  split at hc1
  · cases hc1
  rename_i hin
  have hin : inB car 0 ((xs.length : Int) - 1) = true := by simpa using hin
  have q0 := inB_iff.1 hin
  obtain ⟨i, rfl⟩ : ∃ i : Nat, car = i := ⟨car.toNat, by omega⟩
  have hi : i < xs.length := by omega
  obtain ⟨y, hy⟩ : ∃ y, xs[i] = y := ⟨_, rfl⟩
  simp only [Int.toNat_natCast, List.getElem?_eq_getElem hi, hy] at hc1
  split at hc1
  · rename_i hcan
    simp only [Option.some.injEq, Prod.mk.injEq] at hc1
    obtain ⟨rfl, rfl, rfl⟩ := hc1
    refine ⟨by simp, fun j y' c hy' hc => ?_⟩
    by_cases e : j = i
    · subst e
      have : y' = y := by rw [List.getElem?_eq_getElem hi, hy] at hy'; exact (Option.some.inj hy').symm
      subst this
      have hcc : c = chC day ⟨kind, j, val⟩ y' := by
        rw [List.getElem?_set_self hi] at hc; exact (Option.some.inj hc).symm
      have h1 := hok j y' hy'
      have h2 := good_set hi hgd
      rw [← hcc] at h2
      have k1 : ¬ kind = 1 := k1
      have k2 : ¬ kind = 2 := k2
      simp only [carpetOk, Bool.and_eq_true, inB_iff] at h1 h2
      by_cases k3 : kind = 3
      · subst k3
        simp [canCh] at hcan
        simp [chC] at hcc
        subst hcc
        simp [hcan.1, inB] at h1
        refine ⟨fun h => by simp at h, by simp; omega, by simp; omega, rfl, by simp, fun h => by simp at h⟩
      by_cases k4 : kind = 4
      · subst k4
        simp [canCh] at hcan
        simp [chC] at hcc
        simp [validI, inB] at hv
        subst hcc
        refine ⟨fun h => by simp at h; omega, by simp, by simp; omega, rfl, by simp; omega, fun h => by simp at h; omega⟩
      by_cases k5 : kind = 5
      · subst k5
        simp [canCh] at hcan
        simp [chC] at hcc
        subst hcc
        refine ⟨fun h => by simp at h, by simp; omega, by simp; omega, rfl, by simp, fun h => hcan.2⟩
      by_cases k6 : kind = 6
      · subst k6
        simp [canCh] at hcan
        simp [chC] at hcc
        subst hcc
        simp [hcan] at h1
        refine ⟨fun h => by simp at h, by simp; omega, by simp; omega, rfl, by simp, fun h => h1.2.1⟩
      by_cases k7 : kind = 7
      · subst k7
        simp [canCh] at hcan
        simp [chC] at hcc
        subst hcc
        simp [hcan.1] at h1
        refine ⟨fun _ _ => ⟨h1.2.1, hcan.1, hcan.2⟩, by simp; omega, by simp; omega, rfl, by simp, fun h => h1.2.1⟩
      · simp [validI, k1, k2, k3, k4, k5, k6, k7] at hv
    · rw [List.getElem?_set_ne (by omega), hy'] at hc
      cases hc; exact fair_self (hok j y' hy')
  · cases hc1
end Go.Proofs.Ytbgjlojnbdnoaaa
