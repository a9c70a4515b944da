/- New charts: blank. -/
import Derived.Test.YtbandmcdkcfpiaaApp
import Derived.Test.YtbandmcdkcfpiaaFacts
import Derived.Test.YtbandmcdkcfpiaaRingN
import Derived.Test.YtbandmcdkcfpiaaFacts
namespace Go.Proofs.Ytbandmcdkcfpiaa
open Go.RowKit Go.Proofs.YtbandmcdkcfpiaaW.PrintWords
set_option linter.unusedVariables false
set_option linter.unusedSimpArgs false
set_option maxHeartbeats 800000 in
theorem l6Blank_any (W H : Nat) (w : World) (hW : W ≤ 100) (hH : H ≤ 100) :
    Calls Try.prog 145 #[.int .i64 W, .int .i64 H] w fun e w' => if sideB W && sideB H then ∃ A c, e = .returned (.tuple #[.agg #[.int .i64 W, .int .i64 H, .slice A (W * H) c], .bool true]) ∧ OwnI w' w.heap.size (.slice A (W * H) c) (List.replicate (W * H) 0) ∧ Below w.heap.size w w'
      else e = .returned (.tuple #[.agg #[.int .i64 0, .int .i64 0, .slice none 0 0], .bool false]) ∧ Below w.heap.size w w' := by
  generalize hA : sideB W = b1 at *
  generalize hB : sideB H = b2 at *
  have HA := Lib.hid hA; clear hA
  have HB2 := Lib.hid hB; clear hB
  have hm : W * H ≤ 100 * 100 := Nat.mul_le_mul hW hH
  have hmk := print_make (P := Try.prog) 22 3 .i64 8 Try.underlying22 infoInt (by decide) (W * H) (by omega)
  have hmz : (W : Int) * (H : Int) = ((W * H : Nat) : Int) := by push_cast; rfl
  have hmw : IntKind.i64.wrap ((W : Int) * (H : Int)) = ((W * H : Nat) : Int) := by rw [hmz]; exact IntWalk.i64_in _ (by omega)
  clear hmz
  generalize hm0 : W * H = m at *
  have HM0 := Lib.hid hm0
  clear hm0
  cases b1 with
  | false =>
    go_enter Try.func145, Try.ntmps145
    go_wp2_with (go_at_call 142; refine (l2Side_any _ _).mono ?_; rw [HA.out]; rintro e w' ⟨rfl, rfl⟩)
    refine bodyPost_ret (v := .tuple #[.agg #[.int .i64 0, .int .i64 0, .slice none 0 0], .bool false]) (by simp [results, Try.results145, go_sem]) rfl ⟨rfl, ?_⟩
    exact (by repeat (first | exact Below.refl _ _ | (with_reducible first | exact HB.out | apply below_alloc | apply pw_below_drewN | apply below_drew | (refine below_setc ?_ (by simp))) | exact HB.out))
  | true =>
    cases b2 with
    | false =>
      go_enter Try.func145, Try.ntmps145
      go_wp2_with (first | (go_at_call 142; (with_reducible refine (l2Side_any (W : Int) _).mono ?_); rw [HA.out]; rintro e w' ⟨rfl, rfl⟩) | (go_at_call 142; refine (l2Side_any (H : Int) _).mono ?_; rw [HB2.out]; rintro e w' ⟨rfl, rfl⟩))
      refine bodyPost_ret (v := .tuple #[.agg #[.int .i64 0, .int .i64 0, .slice none 0 0], .bool false]) (by simp [results, Try.results145, go_sem]) rfl ⟨rfl, ?_⟩
      exact (by repeat (first | exact Below.refl _ _ | (with_reducible first | exact HB.out | apply below_alloc | apply pw_below_drewN | apply below_drew | (refine below_setc ?_ (by simp))) | exact HB.out))
    | true =>
      go_enter Try.func145, Try.ntmps145
      go_wp2_with (first | (go_at_call 142; (with_reducible refine (l2Side_any (W : Int) _).mono ?_); rw [HA.out]; rintro e w' ⟨rfl, rfl⟩) | (go_at_call 142; refine (l2Side_any (H : Int) _).mono ?_; rw [HB2.out]; rintro e w' ⟨rfl, rfl⟩))
      refine bodyPost_ret (v := .tuple #[.agg #[.int .i64 W, .int .i64 H, .slice (some ⟨w.heap.size + 1, 0, none⟩) m m], .bool true]) (by simp [results, Try.results145, go_sem]) rfl ⟨_, _, rfl, ⟨?_, ?_⟩, ?_⟩
      · have h1 := own_made (w.alloc (.cells #[.int .i64 W, .int .i64 H, .slice (some ⟨w.heap.size + 1, 0, none⟩) m m] 26)) w.heap.size 3 .i64 m (by simp) (by omega)
        simpa using h1
      · simp; omega
      · exact (by repeat (first | exact Below.refl _ _ | (with_reducible first | exact HB.out | apply below_alloc | apply pw_below_drewN | apply below_drew | (refine below_setc ?_ (by simp))) | exact HB.out))

end Go.Proofs.Ytbandmcdkcfpiaa
