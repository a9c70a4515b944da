/- New charts, the lists. -/
import Derived.Test.YtbandmcdkcfpiaaBase
namespace Go.Proofs.Ytbandmcdkcfpiaa
set_option linter.unusedVariables false
/-- a chart by a function of the place, row by row: what is made of it when R rows and C knots of the next have been made -/
def madeN (p : Nat → Nat → Int) (W R C : Nat) : List Int := ((List.range R).flatMap fun r => (List.range W).map (p r)) ++ (List.range C).map (p R)
theorem madeN_row (p : Nat → Nat → Int) (W R : Nat) : madeN p W R W = madeN p W (R + 1) 0 := by simp [madeN, List.range_succ]
theorem madeN_next (p : Nat → Nat → Int) (W R C : Nat) : madeN p W R (C + 1) = madeN p W R C ++ [p R C] := by simp [madeN, List.range_succ]
theorem flat_length (p : Nat → Nat → Int) (W R : Nat) : ((List.range R).flatMap fun r => (List.range W).map (p r)).length = R * W := by
  induction R with
  | zero => simp
  | succ R ih => rw [List.range_succ, List.flatMap_append, List.length_append, ih, Nat.add_mul]; simp
theorem madeN_length (p : Nat → Nat → Int) (W R C : Nat) : (madeN p W R C).length = R * W + C := by unfold madeN; rw [List.length_append, flat_length]; simp
def made (p : Nat → Nat → Int) (W H : Nat) : List Int := madeN p W H 0
theorem made_length (p : Nat → Nat → Int) (W H : Nat) : (made p W H).length = W * H := by unfold made; rw [madeN_length, Nat.mul_comm]; rfl
theorem made_zero (W H : Nat) : made (fun _ _ => 0) W H = List.replicate (W * H) 0 := by
  apply List.eq_replicate_iff.2
  refine ⟨made_length _ _ _, fun x hx => ?_⟩
  rw [made, madeN, List.mem_append] at hx
  rcases hx with hx | hx
  · obtain ⟨r, _, hr⟩ := List.mem_flatMap.1 hx
    obtain ⟨c, _, rfl⟩ := List.mem_map.1 hr
    rfl
  · simp at hx

end Go.Proofs.Ytbandmcdkcfpiaa
