/- Patterns; lengths of rings. -/
import Derived.Test.YtbandmcdkcfpiaaChart2
namespace Go.Proofs.Ytbandmcdkcfpiaa
open Go.RowKit Go.Proofs.YtbandmcdkcfpiaaW.PrintWords
set_option linter.unusedVariables false
set_option linter.unusedSimpArgs false

/-- a list is a pattern -/
def patB (p : List Int) : Bool := inB p.length 1 8 && allF colB p
theorem patB_iff {p : List Int} : patB p = true ↔ (1 ≤ p.length ∧ p.length ≤ 8) ∧ ∀ x ∈ p, 0 ≤ x ∧ x ≤ 5 := by
  simp [patB, inB_iff, allF, colB]; omega

set_option maxHeartbeats 400000 in
theorem ringLength_any (W H : Nat) (w : World) (hW : W ≤ 10) (hH : H ≤ 10) :
    Calls Try.prog 150 #[.int .i64 W, .int .i64 H] w fun e w' => e = .returned (.int .i64 (2 * ((W : Int) + H) - 4)) ∧ w = w' := by
  go_enter Try.func150, Try.ntmps150
  go_wp2
  go_ret
  exact ⟨rfl, rfl⟩
set_option maxHeartbeats 400000 in
theorem l8Length_any (W H : Nat) (w : World) (hW : W ≤ 10) (hH : H ≤ 10) :
    Calls Try.prog 146 #[.int .i64 W, .int .i64 H] w fun e w' => e = .returned (.int .i64 (2 * ((W : Int) + H) - 4)) ∧ w = w' := by
  go_enter Try.func146, Try.ntmps146
  go_wp2
  go_ret
  exact ⟨by rw [Int.mul_add]; rfl, rfl⟩

set_option maxHeartbeats 800000 in
theorem isPattern_any (p : List Int) (A : Option Addr) (c : Nat) (w : World) (hR : RdI w A c p) :
    Calls Try.prog 148 #[.slice A p.length c] w fun e w' => e = .returned (.bool (patB p)) ∧ Below w.heap.size w w' := by
  have hl := hR.len
  have F := Lib.hid (show patB p = (inB p.length 1 8 && allF colB p) from rfl)
  have H := areAll_int 139 #[] colB A c p w eg_isColor (fun x W _ => isColor_any x W) hR
  generalize hA : allF colB p = b1 at *
  generalize hB : inB p.length 1 8 = b2 at *
  have H := Lib.hid H
  have HA := Lib.hid hA; clear hA hR
  have HB2 := Lib.hid hB; clear hB
  go_enter Try.func148, Try.ntmps148
  go_wp2_with (first | (go_at_call 156; refine (in_any _ _ _ _).mono ?_; rw [HB2.out]; rintro e w' ⟨rfl, rfl⟩) | (go_at_call 163; refine H.out.mono ?_; rintro e w' ⟨rfl, hb⟩))
  all_goals go_ret
  all_goals refine ⟨by rw [F.out]; simp [*], ?_⟩
  all_goals first | exact Below.refl _ _ | exact hb

set_option maxHeartbeats 800000 in
theorem l8Colors_any (k : List Int) (A : Option Addr) (c : Nat) (w : World) (hR : RdI w A c k) :
    Calls Try.prog 166 #[.slice A k.length c] w fun e w' => e = .returned (.bool (allF colB k)) ∧ w = w' := by
  have hl := hR.len
  have HC := Lib.hid hR.at_
  clear hR
  go_enter Try.func166, Try.ntmps166
  go_wp2
  go_loop [3] (fun i => ∃ j : Nat, j ≤ k.length ∧ i = .int .i64 j ∧ Hid ((k.take j).all colB = true)) (fun i => k.length - (intOf i).toNat)
  case atStart => exact ⟨0, Nat.zero_le _, rfl, by simp [Hid]⟩
  case round =>
    obtain ⟨j, hj, rfl, HA⟩ := hrel
    by_cases hlt : j < k.length
    · have hltz : (j : Int) < (k.length : Int) := by omega
      obtain ⟨ad, rfl, hcell⟩ := HC.out j hlt
      cases hq : colB k[j] with
      | false =>
        have G := Lib.hid (all_false_at colB k j hlt hq)
        have Q := Lib.hid hq
        clear hq
        go_wp2_with (go_at_call 143; refine (l2Color_any _ _).mono ?_; rw [Q.out]; rintro e w' ⟨rfl, rfl⟩)
        go_ret
        exact ⟨by rw [G.out]; rfl, rfl⟩
      | true =>
        have G := Lib.hid (all_take_succ colB k j hlt HA.out hq)
        have Q := Lib.hid hq
        clear hq
        go_wp2_with (go_at_call 143; refine (l2Color_any _ _).mono ?_; rw [Q.out]; rintro e w' ⟨rfl, rfl⟩)
        go_round
        case rel => exact ⟨j + 1, by omega, by go_num, G⟩
        case measure => simp [intOf]; omega
    · have hk' : j = k.length := by omega
      subst hk'
      have G := Lib.hid (all_take_all colB k HA.out)
      go_wp2
      go_ret
      exact ⟨by rw [G.out]; rfl, rfl⟩

set_option maxHeartbeats 800000 in
theorem l8Pattern_any (p : List Int) (A : Option Addr) (c : Nat) (w : World) (hR : RdI w A c p) :
    Calls Try.prog 144 #[.slice A p.length c] w fun e w' => e = .returned (.bool (patB p)) ∧ w = w' := by
  have hl := hR.len
  have F := Lib.hid (show patB p = (inB p.length 1 8 && allF colB p) from rfl)
  have H := l8Colors_any p A c w hR
  generalize hA : allF colB p = b1 at *
  generalize hB : inB p.length 1 8 = b2 at *
  have H := Lib.hid H
  have HA := Lib.hid hA; clear hA hR
  have HB2 := Lib.hid hB; clear hB
  go_enter Try.func144, Try.ntmps144
  go_wp2_with (first | (go_at_call 153; refine (l1In_any _ _ _ _).mono ?_; rw [HB2.out]; rintro e w' ⟨rfl, rfl⟩) | (go_at_call 166; refine H.out.mono ?_; rintro e w' ⟨rfl, rfl⟩))
  all_goals go_ret
  all_goals refine ⟨by rw [F.out]; simp [*], rfl⟩
end Go.Proofs.Ytbandmcdkcfpiaa
