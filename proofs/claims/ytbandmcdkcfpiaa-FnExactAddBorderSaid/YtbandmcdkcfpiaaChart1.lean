/- Charts: validity, places. -/
import Derived.Test.YtbandmcdkcfpiaaAll
namespace Go.Proofs.Ytbandmcdkcfpiaa
open Go.RowKit Go.Proofs.YtbandmcdkcfpiaaW.PrintWords
set_option linter.unusedVariables false
set_option linter.unusedSimpArgs false

def colB (n : Int) : Bool := inB n 0 5
def sideB (n : Int) : Bool := inB n 1 8
/-- a chart is valid -/
def goodB (w h : Int) (k : List Int) : Bool := sideB w && (sideB h && (decide ((k.length : Int) = w * h) && allF colB k))
theorem goodB_iff {w h : Int} {k : List Int} : goodB w h k = true ↔ (1 ≤ w ∧ w ≤ 8) ∧ (1 ≤ h ∧ h ≤ 8) ∧ (k.length : Int) = w * h ∧ ∀ x ∈ k, 0 ≤ x ∧ x ≤ 5 := by
  simp [goodB, sideB, inB_iff, allF, colB]
theorem mul_bd {w h : Int} (hw : 1 ≤ w ∧ w ≤ 8) (hh : 1 ≤ h ∧ h ≤ 8) : 1 ≤ w * h ∧ w * h ≤ 64 := by
  have h1 : 1 * 1 ≤ w * h := Int.mul_le_mul hw.1 hh.1 (by omega) (by omega)
  have h2 : w * h ≤ 8 * 8 := Int.mul_le_mul hw.2 hh.2 (by omega) (by omega)
  omega

set_option maxHeartbeats 400000 in
theorem isColor_any (n : Int) (w : World) : Calls Try.prog 139 #[.int .i64 n] w fun e w' => e = .returned (.bool (colB n)) ∧ w = w' := by
  go_enter Try.func139, Try.ntmps139
  go_wp2_with (go_at_call 156; refine (in_any _ _ _ _).mono ?_; rintro e w' ⟨rfl, rfl⟩)
  go_ret
  exact ⟨rfl, rfl⟩
set_option maxHeartbeats 400000 in
theorem isSide_any (n : Int) (w : World) : Calls Try.prog 138 #[.int .i64 n] w fun e w' => e = .returned (.bool (sideB n)) ∧ w = w' := by
  go_enter Try.func138, Try.ntmps138
  go_wp2_with (go_at_call 156; refine (in_any _ _ _ _).mono ?_; rintro e w' ⟨rfl, rfl⟩)
  go_ret
  exact ⟨rfl, rfl⟩
set_option maxHeartbeats 400000 in
theorem l2Color_any (n : Int) (w : World) : Calls Try.prog 143 #[.int .i64 n] w fun e w' => e = .returned (.bool (colB n)) ∧ w = w' := by
  go_enter Try.func143, Try.ntmps143
  go_wp2_with (go_at_call 153; refine (l1In_any _ _ _ _).mono ?_; rintro e w' ⟨rfl, rfl⟩)
  go_ret
  exact ⟨rfl, rfl⟩
set_option maxHeartbeats 400000 in
theorem l2Side_any (n : Int) (w : World) : Calls Try.prog 142 #[.int .i64 n] w fun e w' => e = .returned (.bool (sideB n)) ∧ w = w' := by
  go_enter Try.func142, Try.ntmps142
  go_wp2_with (go_at_call 153; refine (l1In_any _ _ _ _).mono ?_; rintro e w' ⟨rfl, rfl⟩)
  go_ret
  exact ⟨rfl, rfl⟩

theorem eg_isColor : ∀ args w, (callFunc 139 args).run Try.prog w = .ok (.enter 139 args) w := enters_of Try.func139 (by kernel_rfl) rfl

set_option maxHeartbeats 800000 in
theorem IsChart_any (cw ch : Int) (k : List Int) (A : Option Addr) (c : Nat) (w : World) (hR : RdI w A c k) :
    Calls Try.prog 102 #[.agg #[.int .i64 cw, .int .i64 ch, .slice A k.length c]] w fun e w' => e = .returned (.bool (goodB cw ch k)) ∧ Below w.heap.size w w' := by
  have hl := hR.len
  have F := Lib.hid (show goodB cw ch k = (sideB cw && (sideB ch && (decide ((k.length : Int) = cw * ch) && allF colB k))) from rfl)
  generalize hA : allF colB k = b3 at *
  have H := fun W hb => areAll_int 139 #[] colB A c k W eg_isColor (fun x W _ => isColor_any x W) (RdI.up hR hb)
  have H := Lib.hid (H)
  have HA := Lib.hid hA; clear hA hR
  cases h1 : sideB cw with
  | false =>
    have H1 := Lib.hid h1; clear h1
    go_enter Try.func102, Try.ntmps102
    go_wp2_with (go_at_call 138; refine (isSide_any _ _).mono ?_; rw [H1.out]; rintro e w' ⟨rfl, rfl⟩)
    go_ret
    exact ⟨by rw [F.out, H1.out]; rfl, (Below.refl _ _).alloc (Nat.le_refl _) _⟩
  | true =>
    have b1 := inB_iff.1 h1
    have H1 := Lib.hid h1; clear h1
    cases h2 : sideB ch with
    | false =>
      have H2 := Lib.hid h2; clear h2
      go_enter Try.func102, Try.ntmps102
      go_wp2_with (first | (go_at_call 138; refine (isSide_any _ _).mono ?_; rw [H1.out]; rintro e w' ⟨rfl, rfl⟩) | (go_at_call 138; refine (isSide_any _ _).mono ?_; rw [H2.out]; rintro e w' ⟨rfl, rfl⟩))
      go_ret
      exact ⟨by rw [F.out, H1.out, H2.out]; rfl, (Below.refl _ _).alloc (Nat.le_refl _) _⟩
    | true =>
      have b2 := inB_iff.1 h2
      have H2 := Lib.hid h2; clear h2
      have b3 := mul_bd b1 b2
      obtain ⟨b4, b5⟩ := b3
      go_enter Try.func102, Try.ntmps102
      go_wp2_with (first | (go_at_call 138; refine (isSide_any _ _).mono ?_; rw [H1.out]; rintro e w' ⟨rfl, rfl⟩) | (go_at_call 138; refine (isSide_any _ _).mono ?_; rw [H2.out]; rintro e w' ⟨rfl, rfl⟩) | (go_at_call 163; refine (H.out _ (below_alloc (Below.refl _ w) _)).mono ?_; rw [HA.out]; rintro e w' ⟨rfl, hb⟩))
      all_goals go_ret
      all_goals refine ⟨by rw [F.out, H1.out, H2.out]; simp [*]; try omega, ?_⟩
      all_goals first | exact (Below.refl _ _).alloc (Nat.le_refl _) _ | exact below_up (below_alloc (Below.refl _ w) _) hb
end Go.Proofs.Ytbandmcdkcfpiaa
