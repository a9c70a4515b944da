/- The places of a ring. -/
import Derived.Test.YtbandmcdkcfpiaaApp
namespace Go.Proofs.Ytbandmcdkcfpiaa
open Go.RowKit Go.Proofs.YtbandmcdkcfpiaaW.PrintWords
set_option linter.unusedVariables false
set_option linter.unusedSimpArgs false

def pA (j : Nat) : List Int := (List.range j).map fun (i : Nat) => (i : Int)
def pB (W j : Nat) : List Int := (List.range j).map fun (i : Nat) => ((i : Int) + 1) * W + W - 1
def pC (W H j : Nat) : List Int := (List.range j).map fun (i : Nat) => ((H : Int) - 1) * W + ((W : Int) - 2 - i)
def pD (W H j : Nat) : List Int := (List.range j).map fun (i : Nat) => ((H : Int) - 2 - i) * W
/-- the places of a ring, clockwise -/
def placesL (W H : Nat) : List Int := ((pA W ++ pB W (H - 1)) ++ pC W H (W - 1)) ++ pD W H (H - 2)
theorem pA_succ (j : Nat) : pA (j + 1) = pA j ++ [(j : Int)] := by simp [pA, List.range_succ]
theorem pB_succ (W j : Nat) : pB W (j + 1) = pB W j ++ [((j : Int) + 1) * W + W - 1] := by simp [pB, List.range_succ]
theorem pC_succ (W H j : Nat) : pC W H (j + 1) = pC W H j ++ [((H : Int) - 1) * W + ((W : Int) - 2 - j)] := by simp [pC, List.range_succ]
theorem pD_succ (W H j : Nat) : pD W H (j + 1) = pD W H j ++ [((H : Int) - 2 - j) * W] := by simp [pD, List.range_succ]
theorem pA_length (j) : (pA j).length = j := by simp [pA]
theorem pB_length (W j) : (pB W j).length = j := by simp [pB]
theorem pC_length (W H j) : (pC W H j).length = j := by simp [pC]
theorem pD_length (W H j) : (pD W H j).length = j := by simp [pD]


set_option maxHeartbeats 1600000 in
theorem l8Places_any (W H : Nat) (w : World) (hW : 2 ≤ W) (hW8 : W ≤ 8) (hH : 2 ≤ H) (hH8 : H ≤ 8) :
    Calls Try.prog 206 #[.int .i64 W, .int .i64 H] w (RetI w (placesL W H)) := by
  have O0 := Lib.hid (show OwnI (w.alloc (.cells #[] 3)) w.heap.size (.slice (some ⟨w.heap.size, 0, none⟩) 0 0) (pA 0) from ⟨by simpa [nums, pA] using own_lit w w.heap.size 3 .i64 [] (Nat.le_refl _) (by simp), by simp [pA]⟩)
  go_enter Try.func206, Try.ntmps206
  go_wp2
  go_loopw [5, 6] (fun s5 s6 wr => ∃ j : Nat, j ≤ W ∧ s6 = .int .i64 j ∧ OwnI wr w.heap.size s5 (pA j) ∧ Below w.heap.size w wr) (fun _ s6 _ => W - (intOf s6).toNat)
  case atStart => exact ⟨0, Nat.zero_le _, rfl, O0.out, below_alloc (Below.refl _ w) _⟩
  obtain ⟨j, hj, rfl, ho, hb⟩ := hrel
  have HO := Lib.hid ho
  have HB := Lib.hid hb
  clear ho hb O0
  by_cases hlt : j < W
  · have hltz : (j : Int) < (W : Int) := by omega
    have HL := Lib.hid (show (pA j).length < 17592186043904 by rw [pA_length]; omega)
    go_wp2_with (at_builtin; refine app_num w.heap.size rfl _ _ rfl u5 (pA j) (j : Int) rfl rfl HO.out HB.out HB.out.size HL.out ?_; intro v1 w1 ho hb hg; clear hg; have HO1 := Lib.hid ho; have HB1 := Lib.hid hb; clear ho hb)
    go_roundw
    case rel => exact ⟨j + 1, by omega, by go_num, by rw [pA_succ]; exact HO1.out, HB1.out⟩
    case measure => simp [intOf]; omega
  have HO' := Lib.hid (show OwnI wr w.heap.size u5 (pA W ++ pB W 0) from by
    have := HO.out
    rw [show j = W by omega] at this
    simpa [pB] using this)
  have hltz : ¬ (j : Int) < ((W : Nat) : Int) := by omega
  clear HO hlt
  go_wp2
  go_loopw [5, 7] (fun s5 s wr => ∃ j : Nat, j ≤ H - 1 ∧ s = .int .i64 ((j : Int) + 1) ∧ OwnI wr w.heap.size s5 (pA W ++ pB W j) ∧ Below w.heap.size w wr) (fun _ s _ => H - (intOf s).toNat)
  case atStart => exact ⟨0, Nat.zero_le _, by go_num, HO'.out, HB.out⟩
  clear HO' HB hltz hj
  obtain ⟨j, hj, rfl, ho, hb⟩ := hrel
  have HO := Lib.hid ho
  have HB := Lib.hid hb
  clear ho hb
  by_cases hlt : j < H - 1
  · have HL := Lib.hid (show (pA W ++ pB W j).length < 17592186043904 by simp only [List.length_append, pA_length, pB_length, pC_length, pD_length]; omega)
    have m1 : ((j : Int) + 1) * (W : Int) ≤ 8 * 8 := Int.mul_le_mul (by omega) (by omega) (by omega) (by omega)
    have m2 : 0 ≤ ((j : Int) + 1) * (W : Int) := Int.mul_nonneg (by omega) (by omega)
    have m3 : ((H : Int) - 1) * (W : Int) ≤ 8 * 8 := Int.mul_le_mul (by omega) (by omega) (by omega) (by omega)
    have m4 : 0 ≤ ((H : Int) - 1) * (W : Int) := Int.mul_nonneg (by omega) (by omega)
    have hltz : (j : Int) + 1 < (H : Int) := by omega
    go_wp2_with (at_builtin; refine app_num w.heap.size rfl _ _ rfl u5 (pA W ++ pB W j) (((j : Int) + 1) * W + W - 1) rfl rfl HO.out HB.out HB.out.size HL.out ?_; intro v1 w1 ho hb hg; clear hg; have HO1 := Lib.hid ho; have HB1 := Lib.hid hb; clear ho hb)
    go_roundw
    case rel => exact ⟨j + 1, by omega, by go_num, by rw [pB_succ, ← List.append_assoc]; exact HO1.out, HB1.out⟩
    case measure => simp [intOf]; omega
  have HO' := Lib.hid (show OwnI wr w.heap.size u5 ((pA W ++ pB W (H - 1)) ++ pC W H 0) from by
    have := HO.out
    rw [show j = H - 1 by omega] at this
    simpa [pC] using this)
  have hltz : ¬ (j : Int) < ((H - 1 : Nat) : Int) := by omega
  have hltz2 : ¬ (j : Int) + 1 < (H : Int) := by omega
  clear HO hlt
  go_wp2
  go_loopw [5, 8] (fun s5 s wr => ∃ j : Nat, j ≤ W - 1 ∧ s = .int .i64 ((W : Int) - 2 - j) ∧ OwnI wr w.heap.size s5 ((pA W ++ pB W (H - 1)) ++ pC W H j) ∧ Below w.heap.size w wr) (fun _ s _ => ((intOf s) + 1).toNat)
  case atStart => exact ⟨0, Nat.zero_le _, by go_num, HO'.out, HB.out⟩
  clear HO' HB hltz hj
  obtain ⟨j, hj, rfl, ho, hb⟩ := hrel
  have HO := Lib.hid ho
  have HB := Lib.hid hb
  clear ho hb
  by_cases hlt : j < W - 1
  · have HL := Lib.hid (show ((pA W ++ pB W (H - 1)) ++ pC W H j).length < 17592186043904 by simp only [List.length_append, pA_length, pB_length, pC_length, pD_length]; omega)
    have m1 : ((j : Int) + 1) * (W : Int) ≤ 8 * 8 := Int.mul_le_mul (by omega) (by omega) (by omega) (by omega)
    have m2 : 0 ≤ ((j : Int) + 1) * (W : Int) := Int.mul_nonneg (by omega) (by omega)
    have m3 : ((H : Int) - 1) * (W : Int) ≤ 8 * 8 := Int.mul_le_mul (by omega) (by omega) (by omega) (by omega)
    have m4 : 0 ≤ ((H : Int) - 1) * (W : Int) := Int.mul_nonneg (by omega) (by omega)
    have hltz : (0 : Int) ≤ (W : Int) - 2 - (j : Int) := by omega
    go_wp2_with (at_builtin; refine app_num w.heap.size rfl _ _ rfl u5 ((pA W ++ pB W (H - 1)) ++ pC W H j) (((H : Int) - 1) * W + ((W : Int) - 2 - j)) rfl rfl HO.out HB.out HB.out.size HL.out ?_; intro v1 w1 ho hb hg; clear hg; have HO1 := Lib.hid ho; have HB1 := Lib.hid hb; clear ho hb)
    go_roundw
    case rel => exact ⟨j + 1, by omega, by go_num, by rw [pC_succ, ← List.append_assoc]; exact HO1.out, HB1.out⟩
    case measure => simp [intOf]; omega
  have HO' := Lib.hid (show OwnI wr w.heap.size u5 (((pA W ++ pB W (H - 1)) ++ pC W H (W - 1)) ++ pD W H 0) from by
    have := HO.out
    rw [show j = W - 1 by omega] at this
    simpa [pD] using this)
  have hltz : ¬ (j : Int) < ((W - 1 : Nat) : Int) := by omega
  have hltz2 : ¬ (0 : Int) ≤ (W : Int) - 2 - (j : Int) := by omega
  clear HO hlt
  go_wp2
  go_loopw [5, 9] (fun s5 s wr => ∃ j : Nat, j ≤ H - 2 ∧ s = .int .i64 ((H : Int) - 2 - j) ∧ OwnI wr w.heap.size s5 (((pA W ++ pB W (H - 1)) ++ pC W H (W - 1)) ++ pD W H j) ∧ Below w.heap.size w wr) (fun _ s _ => (intOf s).toNat)
  case atStart => exact ⟨0, Nat.zero_le _, by go_num, HO'.out, HB.out⟩
  clear HO' HB hltz hj
  obtain ⟨j, hj, rfl, ho, hb⟩ := hrel
  have HO := Lib.hid ho
  have HB := Lib.hid hb
  clear ho hb
  by_cases hlt : j < H - 2
  · have HL := Lib.hid (show (((pA W ++ pB W (H - 1)) ++ pC W H (W - 1)) ++ pD W H j).length < 17592186043904 by simp only [List.length_append, pA_length, pB_length, pC_length, pD_length]; omega)
    have m1 : ((j : Int) + 1) * (W : Int) ≤ 8 * 8 := Int.mul_le_mul (by omega) (by omega) (by omega) (by omega)
    have m2 : 0 ≤ ((j : Int) + 1) * (W : Int) := Int.mul_nonneg (by omega) (by omega)
    have m3 : ((H : Int) - 1) * (W : Int) ≤ 8 * 8 := Int.mul_le_mul (by omega) (by omega) (by omega) (by omega)
    have m4 : 0 ≤ ((H : Int) - 1) * (W : Int) := Int.mul_nonneg (by omega) (by omega)
    have m5 : ((H : Int) - 2 - j) * (W : Int) ≤ 8 * 8 := Int.mul_le_mul (by omega) (by omega) (by omega) (by omega)
    have m6 : 0 ≤ ((H : Int) - 2 - j) * (W : Int) := Int.mul_nonneg (by omega) (by omega)
    have hltz : (0 : Int) < (H : Int) - 2 - (j : Int) := by omega
    go_wp2_with (at_builtin; refine app_num w.heap.size rfl _ _ rfl u5 (((pA W ++ pB W (H - 1)) ++ pC W H (W - 1)) ++ pD W H j) (((H : Int) - 2 - j) * W) rfl rfl HO.out HB.out HB.out.size HL.out ?_; intro v1 w1 ho hb hg; clear hg; have HO1 := Lib.hid ho; have HB1 := Lib.hid hb; clear ho hb)
    go_roundw
    case rel => exact ⟨j + 1, by omega, by go_num, by rw [pD_succ, ← List.append_assoc]; exact HO1.out, HB1.out⟩
    case measure => simp [intOf]; omega
  have hltz : ¬ (0 : Int) < (H : Int) - 2 - (j : Int) := by omega
  have HO' := Lib.hid (show OwnI wr w.heap.size u5 (placesL W H) from by
    have := HO.out
    rw [show j = H - 2 by omega] at this
    exact this)
  clear HO
  obtain ⟨A, c, rfl, _⟩ := HO'.out.form
  go_wp2
  go_ret
  exact ⟨A, c, rfl, HO'.out, HB.out⟩

set_option maxHeartbeats 1600000 in
theorem ringPlaces_any (W H : Nat) (w : World) (hW : 2 ≤ W) (hW8 : W ≤ 8) (hH : 2 ≤ H) (hH8 : H ≤ 8) :
    Calls Try.prog 207 #[.int .i64 W, .int .i64 H] w (RetI w (placesL W H)) := by
  have O0 := Lib.hid (show OwnI (w.alloc (.cells #[] 3)) w.heap.size (.slice (some ⟨w.heap.size, 0, none⟩) 0 0) (pA 0) from ⟨by simpa [nums, pA] using own_lit w w.heap.size 3 .i64 [] (Nat.le_refl _) (by simp), by simp [pA]⟩)
  go_enter Try.func207, Try.ntmps207
  go_wp2
  go_loopw [5, 12] (fun s5 s6 wr => ∃ j : Nat, j ≤ W ∧ s6 = .int .i64 j ∧ OwnI wr w.heap.size s5 (pA j) ∧ Below w.heap.size w wr) (fun _ s6 _ => W - (intOf s6).toNat)
  case atStart => exact ⟨0, Nat.zero_le _, rfl, O0.out, below_alloc (Below.refl _ w) _⟩
  obtain ⟨j, hj, rfl, ho, hb⟩ := hrel
  have HO := Lib.hid ho
  have HB := Lib.hid hb
  clear ho hb O0
  by_cases hlt : j < W
  · have hltz : (j : Int) < (W : Int) := by omega
    have HL := Lib.hid (show (pA j).length < 17592186043904 by rw [pA_length]; omega)
    go_wp2_with (at_builtin; refine app_num w.heap.size rfl _ _ rfl u5 (pA j) (j : Int) rfl rfl HO.out HB.out HB.out.size HL.out ?_; intro v1 w1 ho hb hg; clear hg; have HO1 := Lib.hid ho; have HB1 := Lib.hid hb; clear ho hb)
    go_roundw
    case rel => exact ⟨j + 1, by omega, by go_num, by rw [pA_succ]; exact HO1.out, HB1.out⟩
    case measure => simp [intOf]; omega
  have HO' := Lib.hid (show OwnI wr w.heap.size u5 (pA W ++ pB W 0) from by
    have := HO.out
    rw [show j = W by omega] at this
    simpa [pB] using this)
  have hltz : ¬ (j : Int) < ((W : Nat) : Int) := by omega
  clear HO hlt
  go_wp2
  go_loopw [5, 7] (fun s5 s wr => ∃ j : Nat, j ≤ H - 1 ∧ s = .int .i64 ((j : Int) + 1) ∧ OwnI wr w.heap.size s5 (pA W ++ pB W j) ∧ Below w.heap.size w wr) (fun _ s _ => H - (intOf s).toNat)
  case atStart => exact ⟨0, Nat.zero_le _, by go_num, HO'.out, HB.out⟩
  clear HO' HB hltz hj
  obtain ⟨j, hj, rfl, ho, hb⟩ := hrel
  have HO := Lib.hid ho
  have HB := Lib.hid hb
  clear ho hb
  by_cases hlt : j < H - 1
  · have HL := Lib.hid (show (pA W ++ pB W j).length < 17592186043904 by simp only [List.length_append, pA_length, pB_length, pC_length, pD_length]; omega)
    have m1 : ((j : Int) + 1) * (W : Int) ≤ 8 * 8 := Int.mul_le_mul (by omega) (by omega) (by omega) (by omega)
    have m2 : 0 ≤ ((j : Int) + 1) * (W : Int) := Int.mul_nonneg (by omega) (by omega)
    have m3 : ((H : Int) - 1) * (W : Int) ≤ 8 * 8 := Int.mul_le_mul (by omega) (by omega) (by omega) (by omega)
    have m4 : 0 ≤ ((H : Int) - 1) * (W : Int) := Int.mul_nonneg (by omega) (by omega)
    have hltz : (j : Int) + 1 < (H : Int) := by omega
    go_wp2_with (at_builtin; refine app_num w.heap.size rfl _ _ rfl u5 (pA W ++ pB W j) (((j : Int) + 1) * W + W - 1) rfl rfl HO.out HB.out HB.out.size HL.out ?_; intro v1 w1 ho hb hg; clear hg; have HO1 := Lib.hid ho; have HB1 := Lib.hid hb; clear ho hb)
    go_roundw
    case rel => exact ⟨j + 1, by omega, by go_num, by rw [pB_succ, ← List.append_assoc]; exact HO1.out, HB1.out⟩
    case measure => simp [intOf]; omega
  have HO' := Lib.hid (show OwnI wr w.heap.size u5 ((pA W ++ pB W (H - 1)) ++ pC W H 0) from by
    have := HO.out
    rw [show j = H - 1 by omega] at this
    simpa [pC] using this)
  have hltz : ¬ (j : Int) < ((H - 1 : Nat) : Int) := by omega
  have hltz2 : ¬ (j : Int) + 1 < (H : Int) := by omega
  clear HO hlt
  go_wp2
  go_loopw [5, 8] (fun s5 s wr => ∃ j : Nat, j ≤ W - 1 ∧ s = .int .i64 ((W : Int) - 2 - j) ∧ OwnI wr w.heap.size s5 ((pA W ++ pB W (H - 1)) ++ pC W H j) ∧ Below w.heap.size w wr) (fun _ s _ => ((intOf s) + 1).toNat)
  case atStart => exact ⟨0, Nat.zero_le _, by go_num, HO'.out, HB.out⟩
  clear HO' HB hltz hj
  obtain ⟨j, hj, rfl, ho, hb⟩ := hrel
  have HO := Lib.hid ho
  have HB := Lib.hid hb
  clear ho hb
  by_cases hlt : j < W - 1
  · have HL := Lib.hid (show ((pA W ++ pB W (H - 1)) ++ pC W H j).length < 17592186043904 by simp only [List.length_append, pA_length, pB_length, pC_length, pD_length]; omega)
    have m1 : ((j : Int) + 1) * (W : Int) ≤ 8 * 8 := Int.mul_le_mul (by omega) (by omega) (by omega) (by omega)
    have m2 : 0 ≤ ((j : Int) + 1) * (W : Int) := Int.mul_nonneg (by omega) (by omega)
    have m3 : ((H : Int) - 1) * (W : Int) ≤ 8 * 8 := Int.mul_le_mul (by omega) (by omega) (by omega) (by omega)
    have m4 : 0 ≤ ((H : Int) - 1) * (W : Int) := Int.mul_nonneg (by omega) (by omega)
    have hltz : (0 : Int) ≤ (W : Int) - 2 - (j : Int) := by omega
    go_wp2_with (at_builtin; refine app_num w.heap.size rfl _ _ rfl u5 ((pA W ++ pB W (H - 1)) ++ pC W H j) (((H : Int) - 1) * W + ((W : Int) - 2 - j)) rfl rfl HO.out HB.out HB.out.size HL.out ?_; intro v1 w1 ho hb hg; clear hg; have HO1 := Lib.hid ho; have HB1 := Lib.hid hb; clear ho hb)
    go_roundw
    case rel => exact ⟨j + 1, by omega, by go_num, by rw [pC_succ, ← List.append_assoc]; exact HO1.out, HB1.out⟩
    case measure => simp [intOf]; omega
  have HO' := Lib.hid (show OwnI wr w.heap.size u5 (((pA W ++ pB W (H - 1)) ++ pC W H (W - 1)) ++ pD W H 0) from by
    have := HO.out
    rw [show j = W - 1 by omega] at this
    simpa [pD] using this)
  have hltz : ¬ (j : Int) < ((W - 1 : Nat) : Int) := by omega
  have hltz2 : ¬ (0 : Int) ≤ (W : Int) - 2 - (j : Int) := by omega
  clear HO hlt
  go_wp2
  go_loopw [5, 9] (fun s5 s wr => ∃ j : Nat, j ≤ H - 2 ∧ s = .int .i64 ((H : Int) - 2 - j) ∧ OwnI wr w.heap.size s5 (((pA W ++ pB W (H - 1)) ++ pC W H (W - 1)) ++ pD W H j) ∧ Below w.heap.size w wr) (fun _ s _ => (intOf s).toNat)
  case atStart => exact ⟨0, Nat.zero_le _, by go_num, HO'.out, HB.out⟩
  clear HO' HB hltz hj
  obtain ⟨j, hj, rfl, ho, hb⟩ := hrel
  have HO := Lib.hid ho
  have HB := Lib.hid hb
  clear ho hb
  by_cases hlt : j < H - 2
  · have HL := Lib.hid (show (((pA W ++ pB W (H - 1)) ++ pC W H (W - 1)) ++ pD W H j).length < 17592186043904 by simp only [List.length_append, pA_length, pB_length, pC_length, pD_length]; omega)
    have m1 : ((j : Int) + 1) * (W : Int) ≤ 8 * 8 := Int.mul_le_mul (by omega) (by omega) (by omega) (by omega)
    have m2 : 0 ≤ ((j : Int) + 1) * (W : Int) := Int.mul_nonneg (by omega) (by omega)
    have m3 : ((H : Int) - 1) * (W : Int) ≤ 8 * 8 := Int.mul_le_mul (by omega) (by omega) (by omega) (by omega)
    have m4 : 0 ≤ ((H : Int) - 1) * (W : Int) := Int.mul_nonneg (by omega) (by omega)
    have m5 : ((H : Int) - 2 - j) * (W : Int) ≤ 8 * 8 := Int.mul_le_mul (by omega) (by omega) (by omega) (by omega)
    have m6 : 0 ≤ ((H : Int) - 2 - j) * (W : Int) := Int.mul_nonneg (by omega) (by omega)
    have hltz : (0 : Int) < (H : Int) - 2 - (j : Int) := by omega
    go_wp2_with (at_builtin; refine app_num w.heap.size rfl _ _ rfl u5 (((pA W ++ pB W (H - 1)) ++ pC W H (W - 1)) ++ pD W H j) (((H : Int) - 2 - j) * W) rfl rfl HO.out HB.out HB.out.size HL.out ?_; intro v1 w1 ho hb hg; clear hg; have HO1 := Lib.hid ho; have HB1 := Lib.hid hb; clear ho hb)
    go_roundw
    case rel => exact ⟨j + 1, by omega, by go_num, by rw [pD_succ, ← List.append_assoc]; exact HO1.out, HB1.out⟩
    case measure => simp [intOf]; omega
  have hltz : ¬ (0 : Int) < (H : Int) - 2 - (j : Int) := by omega
  have HO' := Lib.hid (show OwnI wr w.heap.size u5 (placesL W H) from by
    have := HO.out
    rw [show j = H - 2 by omega] at this
    exact this)
  clear HO
  obtain ⟨A, c, rfl, _⟩ := HO'.out.form
  go_wp2
  go_ret
  exact ⟨A, c, rfl, HO'.out, HB.out⟩
end Go.Proofs.Ytbandmcdkcfpiaa
