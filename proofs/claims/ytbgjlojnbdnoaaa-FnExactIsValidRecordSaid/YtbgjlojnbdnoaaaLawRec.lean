/- The law of IsValidRecord, walked. -/
import Derived.Test.YtbgjlojnbdnoaaaText1
namespace Go.Proofs.Ytbgjlojnbdnoaaa
open Go.RowKit Go.Proofs.YtbgjlojnbdnoaaaW.PrintWords
set_option linter.unusedVariables false
set_option linter.unusedSimpArgs false

theorem box2 {W : World} {b t : Nat} {v0 v1 : Value} (h : W.heap[b]? = some (.cells #[v0, v1] t (0, 0))) : (W.cell? ⟨b, 0, none⟩ = some v0 ∧ W.cell? ⟨b, 1, none⟩ = some v1) ∧ (∀ o, W.frozen? ⟨b, o, none⟩ = false) ∧ b < W.heap.size :=
  ⟨⟨(blk_cell h 0).trans rfl, (blk_cell h 1).trans rfl⟩, fun o => blk_frozen h o, blk_lt h⟩

set_option maxHeartbeats 800000 in
theorem szLogRecord_any (c r : ByteArray) (w : World) (hc : c.size ≤ 140737488351232) (hr : r.size ≤ 140737488351232) :
    Calls Try.prog 6 #[.agg #[.string c, .string r], .int .i64 1048576] w fun e w' => (∃ n, e = .returned (.int .i64 n)) ∧ Below w.heap.size w w' := by
  go_enter Try.func6, Try.ntmps6
  go_wp2
  all_goals go_ret
  all_goals exact ⟨⟨_, rfl⟩, below_alloc (Below.refl _ w) _⟩

set_option maxHeartbeats 800000 in
theorem toLogRecord_any (c r : ByteArray) (w : World) :
    Calls Try.prog 8 #[.agg #[.string c, .string r]] w fun e w' => e = .returned (.agg #[.string c, .string r]) ∧ Below w.heap.size w w' := by
  go_enter Try.func8, Try.ntmps8
  go_wp2
  refine bodyPost_ret (v := .agg #[.string c, .string r]) (by simp [results, Try.results8, go_sem]) rfl ⟨rfl, ?_⟩
  exact (by repeat (first | exact Below.refl _ _ | (with_reducible first | exact HB.out | apply below_alloc | apply pw_below_drewN | apply below_drew | (refine below_setc ?_ (by simp))) | exact HB.out))

set_option maxHeartbeats 1600000 in
theorem FnExactIsValidRecord_any (c r : ByteArray) (w : World) (hc : c.size ≤ 140737488351232) (hr : r.size ≤ 140737488351232) :
    Calls Try.prog 3 #[.agg #[.string c, .string r]] w fun e w' => e = .returned (.bool true) ∧ Below w.heap.size w w' := by
  have HS := Lib.hid (fun W => spec_IsValidRecord_any c r W (by omega) (by omega))
  have HI := Lib.hid (fun W => impl_IsValidRecord_any c r W (by omega) (by omega))
  generalize recB c r = ok at *
  go_enter Try.func3, Try.ntmps3
  go_wp2_with fail
  refine (szLogRecord_any c r _ hc hr).mono ?_; rintro e w1 ⟨⟨n, rfl⟩, hb⟩
  have HB := Lib.hid (below_up (below_alloc (Below.refl _ w) _) hb)
  have B0 := Lib.hid (blk_below (blk0 w _) hb); clear hb
  obtain ⟨⟨x0, x1⟩, xf, xl⟩ := box2 B0.out
  go_wp2_with fail
  · go_ret
    exact ⟨rfl, HB.out⟩
  refine (toLogRecord_any c r _).mono ?_; rintro e w2 ⟨rfl, hb⟩; have HB' := Lib.hid (below_up HB.out hb); have B0' := Lib.hid (blk_below B0.out hb); clear hb HB B0 x0 x1 xf xl; have HB := HB'; have B0 := B0'; clear HB' B0'; obtain ⟨⟨x0, x1⟩, xf, xl⟩ := box2 B0.out
  go_wp2_with fail
  refine (HS.out _).mono ?_; rintro e w3 ⟨rfl, hb⟩; have HB' := Lib.hid (below_up HB.out hb); have B0' := Lib.hid (blk_below B0.out hb); clear hb HB B0 x0 x1 xf xl; have HB := HB'; have B0 := B0'; clear HB' B0'; obtain ⟨⟨x0, x1⟩, xf, xl⟩ := box2 B0.out
  go_wp2_with fail
  refine (toLogRecord_any c r _).mono ?_; rintro e w4 ⟨rfl, hb⟩; have HB' := Lib.hid (below_up HB.out hb); have B0' := Lib.hid (blk_below B0.out hb); clear hb HB B0 x0 x1 xf xl; have HB := HB'; have B0 := B0'; clear HB' B0'; obtain ⟨⟨x0, x1⟩, xf, xl⟩ := box2 B0.out
  go_wp2_with fail
  refine (HI.out _).mono ?_; rintro e w5 ⟨rfl, hb⟩; have HB' := Lib.hid (below_up HB.out hb); have B0' := Lib.hid (blk_below B0.out hb); clear hb HB B0 x0 x1 xf xl; have HB := HB'; have B0 := B0'; clear HB' B0'; obtain ⟨⟨x0, x1⟩, xf, xl⟩ := box2 B0.out
  go_wp2
  go_ret
  exact ⟨rfl, HB.out⟩
end Go.Proofs.Ytbgjlojnbdnoaaa
