/- Charts: the reference's validity; places; knots. -/
import Derived.Test.YtbandmcdkcfpiaaChart1
namespace Go.Proofs.Ytbandmcdkcfpiaa
open Go.RowKit Go.Proofs.YtbandmcdkcfpiaaW.PrintWords
set_option linter.unusedVariables false
set_option linter.unusedSimpArgs false

theorem all_take_succ {α : Type} (p : α → Bool) (xs : List α) (k : Nat) (h : k < xs.length) (h1 : (xs.take k).all p = true) (h2 : p xs[k] = true) : (xs.take (k + 1)).all p = true := by
  rw [List.take_succ_eq_append_getElem h, List.all_append, h1]
  simp [h2]
theorem all_false_at {α : Type} (p : α → Bool) (xs : List α) (k : Nat) (h : k < xs.length) (h2 : p xs[k] = false) : allF p xs = false :=
  List.all_eq_false.2 ⟨xs[k], List.getElem_mem h, by simp [h2]⟩
theorem all_take_all {α : Type} (p : α → Bool) (xs : List α) (h : (xs.take xs.length).all p = true) : allF p xs = true := by
  rw [List.take_length] at h; exact h

set_option maxHeartbeats 800000 in
theorem l2Good_any (cw ch : Int) (k : List Int) (A : Option Addr) (c : Nat) (w : World) (hR : RdI w A c k) :
    Calls Try.prog 119 #[.agg #[.int .i64 cw, .int .i64 ch, .slice A k.length c]] w fun e w' => e = .returned (.bool (goodB cw ch k)) ∧ Below w.heap.size w w' := by
  have hl := hR.len
  have F := Lib.hid (show goodB cw ch k = (sideB cw && (sideB ch && (decide ((k.length : Int) = cw * ch) && allF colB k))) from rfl)
  have HC := Lib.hid hR.at_
  clear hR
  have hmul : sideB cw = true → sideB ch = true → 1 ≤ cw * ch ∧ cw * ch ≤ 64 := fun h1 h2 => mul_bd (inB_iff.1 h1) (inB_iff.1 h2)
  have HM := Lib.hid hmul
  clear hmul
  go_enter Try.func119, Try.ntmps119
  go_wp2
  go_loop [3] (fun i => ∃ j : Nat, j ≤ k.length ∧ i = .int .i64 j ∧ Hid ((k.take j).all colB = true)) (fun i => k.length - (intOf i).toNat)
  case atStart => exact ⟨0, Nat.zero_le _, rfl, by simp [Hid]⟩
  case round =>
    obtain ⟨j, hj, rfl, HA⟩ := hrel
    by_cases hlt : j < k.length
    · have hltz : (j : Int) < (k.length : Int) := by omega
      obtain ⟨ad, rfl, hcell⟩ := HC.out j hlt
      have hcell' := fun o => (pw_cell_below (below_alloc (Below.refl _ w) o) hcell)
      cases hq : colB k[j] with
      | false =>
        have G := Lib.hid (all_false_at colB k j hlt hq)
        have Q := Lib.hid hq
        clear hq hcell
        go_wp2_with (go_at_call 143; refine (l2Color_any _ _).mono ?_; rw [Q.out]; rintro e w' ⟨rfl, rfl⟩)
        go_ret
        refine ⟨by rw [F.out, G.out]; simp, (Below.refl _ _).alloc (Nat.le_refl _) _⟩
      | true =>
        have G := Lib.hid (all_take_succ colB k j hlt HA.out hq)
        have Q := Lib.hid hq
        clear hq hcell
        go_wp2_with (go_at_call 143; refine (l2Color_any _ _).mono ?_; rw [Q.out]; rintro e w' ⟨rfl, rfl⟩)
        go_round
        case rel => exact ⟨j + 1, by omega, by go_num, G⟩
        case measure => simp [intOf]; omega
    · have hk' : j = k.length := by omega
      subst hk'
      have G := Lib.hid (all_take_all colB k HA.out)
      cases h1 : sideB cw with
      | false =>
        have H1 := Lib.hid h1; clear h1
        go_wp2_with (go_at_call 142; refine (l2Side_any _ _).mono ?_; rw [H1.out]; rintro e w' ⟨rfl, rfl⟩)
        go_ret
        exact ⟨by rw [F.out, H1.out]; rfl, (Below.refl _ _).alloc (Nat.le_refl _) _⟩
      | true =>
        cases h2 : sideB ch with
        | false =>
          have H1 := Lib.hid h1; clear h1
          have H2 := Lib.hid h2; clear h2
          go_wp2_with (first | (go_at_call 142; refine (l2Side_any _ _).mono ?_; rw [H1.out]; rintro e w' ⟨rfl, rfl⟩) | (go_at_call 142; refine (l2Side_any _ _).mono ?_; rw [H2.out]; rintro e w' ⟨rfl, rfl⟩))
          go_ret
          exact ⟨by rw [F.out, H1.out, H2.out]; rfl, (Below.refl _ _).alloc (Nat.le_refl _) _⟩
        | true =>
          obtain ⟨b4, b5⟩ := HM.out h1 h2
          have H1 := Lib.hid h1; clear h1
          have H2 := Lib.hid h2; clear h2
          go_wp2_with (first | (go_at_call 142; refine (l2Side_any _ _).mono ?_; rw [H1.out]; rintro e w' ⟨rfl, rfl⟩) | (go_at_call 142; refine (l2Side_any _ _).mono ?_; rw [H2.out]; rintro e w' ⟨rfl, rfl⟩))
          all_goals go_ret
          all_goals refine ⟨by rw [F.out, H1.out, H2.out, G.out]; simp [*] <;> first | rfl | omega, ?_⟩
          all_goals exact (Below.refl _ _).alloc (Nat.le_refl _) _

set_option maxHeartbeats 400000 in
theorem at_any (cw ch row col : Int) (k : List Int) (A : Option Addr) (c : Nat) (w : World) (hR : RdI w A c k) (h0 : 0 ≤ row * cw) (h3 : 0 ≤ col) (h1 : row * cw + col < k.length) :
    Calls Try.prog 132 #[.agg #[.int .i64 cw, .int .i64 ch, .slice A k.length c], .int .i64 row, .int .i64 col] w fun e w' => e = .returned (.int .i64 (rd k (row * cw + col))) ∧ Below w.heap.size w w' := by
  have hl := hR.len
  obtain ⟨ad, rfl, hcell⟩ := hR.at_ (row * cw + col).toNat (by omega)
  have hv : k[(row * cw + col).toNat]'(by omega) = rd k (row * cw + col) := by simp [rd, List.getD_eq_getElem?_getD, List.getElem?_eq_getElem (show (row * cw + col).toNat < k.length by omega)]
  rw [hv] at hcell
  have hcell' := fun o => (pw_cell_below (below_alloc (Below.refl _ w) o) hcell)
  clear hcell hv hR
  have h2 : 0 ≤ row * cw + col := by omega
  go_enter Try.func132, Try.ntmps132
  go_wp2
  go_ret
  exact ⟨rfl, (Below.refl _ _).alloc (Nat.le_refl _) _⟩

set_option maxHeartbeats 400000 in
theorem l2At_any (cw ch row col : Int) (k : List Int) (A : Option Addr) (c : Nat) (w : World) (hR : RdI w A c k) (h0 : 0 ≤ row * cw) (h3 : 0 ≤ col) (h1 : row * cw + col < k.length) :
    Calls Try.prog 136 #[.agg #[.int .i64 cw, .int .i64 ch, .slice A k.length c], .int .i64 row, .int .i64 col] w fun e w' => e = .returned (.int .i64 (rd k (row * cw + col))) ∧ Below w.heap.size w w' := by
  have hl := hR.len
  obtain ⟨ad, rfl, hcell⟩ := hR.at_ (row * cw + col).toNat (by omega)
  have hv : k[(row * cw + col).toNat]'(by omega) = rd k (row * cw + col) := by simp [rd, List.getD_eq_getElem?_getD, List.getElem?_eq_getElem (show (row * cw + col).toNat < k.length by omega)]
  rw [hv] at hcell
  have hcell' := fun o => (pw_cell_below (below_alloc (Below.refl _ w) o) hcell)
  clear hcell hv hR
  have h2 : 0 ≤ row * cw + col := by omega
  go_enter Try.func136, Try.ntmps136
  go_wp2
  go_ret
  exact ⟨rfl, (Below.refl _ _).alloc (Nat.le_refl _) _⟩
end Go.Proofs.Ytbandmcdkcfpiaa
