/- Charts: copied, compared, marked, held. -/
import Derived.Test.YtbandmcdkcfpiaaConv
import Derived.Test.YtbandmcdkcfpiaaChart3
namespace Go.Proofs.Ytbandmcdkcfpiaa
open Go.RowKit Go.Proofs.YtbandmcdkcfpiaaW.PrintWords
set_option linter.unusedVariables false
set_option linter.unusedSimpArgs false

set_option maxHeartbeats 800000 in
theorem szChart_any (cw ch : Int) (n : Nat) (left : Int) (A : Option Addr) (c : Nat) (w : World) (hn : n ≤ 17592186043904) (h0 : -1 ≤ left) (h1 : left ≤ 1048576) :
    Calls Try.prog 13 #[.agg #[.int .i64 cw, .int .i64 ch, .slice A n c], .int .i64 left] w fun e w' => e = .returned (.int .i64 (szN n left)) ∧ Below w.heap.size w w' := by
  have H := fun w => szIntS_any n left A c w hn h0 h1
  have F : szN n left ≤ 1048576 ∧ -1 ≤ szN n left := by unfold szN; split <;> omega
  obtain ⟨f1, f2⟩ := F
  generalize hz : szN n left = z at *
  have G := Lib.hid (show z < 0 → z = -1 from by omega)
  go_enter Try.func13, Try.ntmps13
  go_wp2_with (go_at_call 118; refine (H _).mono ?_; rintro e w1 ⟨rfl, rfl⟩)
  all_goals go_ret
  all_goals refine ⟨?_, below_alloc (Below.refl _ w) _⟩
  all_goals (first | rfl | (have := G.out (by assumption); subst this; rfl))

set_option maxHeartbeats 800000 in
theorem toChart_any (cw ch : Int) (k : List Int) (A : Option Addr) (c : Nat) (w : World) (hR : RdI w A c k) :
    Calls Try.prog 15 #[.agg #[.int .i64 cw, .int .i64 ch, .slice A k.length c]] w (RetC w cw ch k) := by
  have HR := Lib.hid (fun W hb => toIntS_any k A c W (hR.up hb)); clear hR
  go_enter Try.func15, Try.ntmps15
  go_wp2_with fail
  refine (HR.out _ ?hb0).mono ?_
  case hb0 => exact (by repeat (first | exact Below.refl _ _ | (with_reducible first | exact HB.out | apply below_alloc | apply pw_below_drewN | apply below_drew | (refine below_setc ?_ (by simp))) | exact HB.out))
  rintro e w1 ⟨A1, c1, rfl, ho, hb⟩
  have HO := Lib.hid ho; clear ho
  obtain ⟨⟨x0, x1, x2⟩, xf, xl⟩ := box3 (blk_below (blk2 w _ _ _) hb)
  obtain ⟨⟨y0, y1, y2⟩, yf, yl⟩ := box3 (blk_below (blk_alloc (blk1 w _ _) _) hb)
  have HB := Lib.hid (below_up (below_alloc (below_alloc (below_alloc (Below.refl _ w) _) _) _) hb)
  clear hb
  go_wp2
  refine bodyPost_ret (v := .agg #[.int .i64 cw, .int .i64 ch, .slice A1 k.length c1]) (by simp [results, Try.results15, go_sem, y0, y1, y2, yf]) rfl ⟨A1, c1, rfl, ?_, ?_⟩
  · refine OwnI.weaken (base := w.heap.size + 3) ?_ (by omega)
    refine OwnI.setc (OwnI.setc (OwnI.setc (OwnI.setc (by simpa using HO.out) ?_ _) ?_ _) ?_ _) ?_ _ <;> omega
  · exact below_setc (below_setc (below_setc (below_setc HB.out (by omega)) (by omega)) (by omega)) (by omega)

set_option maxHeartbeats 800000 in
theorem eqChart_same (cw ch : Int) (k : List Int) (A B : Option Addr) (c d : Nat) (w : World) (hR : RdI w A c k) (hR' : RdI w B d k) :
    Calls Try.prog 17 #[.agg #[.int .i64 cw, .int .i64 ch, .slice A k.length c], .agg #[.int .i64 cw, .int .i64 ch, .slice B k.length d]] w fun e w' => e = .returned (.bool true) ∧ Below w.heap.size w w' := by
  have H := Lib.hid (fun W hb => eqIntS_any k k A B c d W (hR.up hb) (hR'.up hb)); clear hR hR'
  go_enter Try.func17, Try.ntmps17
  go_wp2_with fail
  refine (H.out _ (below_alloc (below_alloc (Below.refl _ w) _) _)).mono ?_; simp only [decide_true]; rintro e w1 ⟨rfl, hb⟩
  have HB := Lib.hid (below_up (below_alloc (below_alloc (Below.refl _ w) _) _) hb); clear hb
  go_wp2
  go_ret
  exact ⟨rfl, HB.out⟩

set_option maxHeartbeats 800000 in
theorem markChart_any (cw ch : Int) (xs : List Int) (k base : Nat) (A : Option Addr) (c : Nat) (w : World) (hO : OwnI w base (.slice A xs.length c) xs) (hk : k ≤ 17592186043904) (hb : base ≤ w.heap.size) :
    Calls Try.prog 18 #[.agg #[.int .i64 cw, .int .i64 ch, .slice A xs.length c], .int .i64 k] w fun e w' => e = .returned (.int .i64 ((k + xs.length : Nat) : Int)) ∧ OwnI w' base (.slice A xs.length c) (marks k xs.length) ∧ Marked w w' base A := by
  have H := Lib.hid (fun o => markIntS_any xs k base A c _ (hO.alloc o) hk); clear hO
  go_enter Try.func18, Try.ntmps18
  go_wp2_with fail
  refine (H.out _).mono ?_; rintro e w1 ⟨rfl, ho, hm⟩
  have HO := Lib.hid ho
  have HM := Lib.hid hm
  clear ho hm
  go_wp2
  go_ret
  exact ⟨rfl, HO.out, ((Below.refl base w).alloc hb _).trans HM.out.below, fun b x hne hx => HM.out.keep b x hne (blk_alloc hx _)⟩

set_option maxHeartbeats 800000 in
theorem heldChart_any (cw ch : Int) (n k : Nat) (A : Option Addr) (c : Nat) (w : World) (hR : RdI w A c (marks k n)) (hk : k ≤ 17592186043904) :
    Calls Try.prog 19 #[.agg #[.int .i64 cw, .int .i64 ch, .slice A n c], .int .i64 k] w fun e w' => e = .returned (.int .i64 ((k + n : Nat) : Int)) ∧ Below w.heap.size w w' := by
  have hl : n ≤ 17592186043904 := by have := hR.len; rwa [marks_length] at this
  have H := Lib.hid (fun o => heldIntS_any n k A c _ (hR.up (below_alloc (Below.refl _ w) o)) hk); clear hR
  have hkn : k + n ≤ 35184372087808 := by omega
  generalize hq : k + n = q at *
  have HQ := Lib.hid hq; clear hq
  go_enter Try.func19, Try.ntmps19
  go_wp2_with fail
  refine (H.out _).mono ?_; rintro e w1 ⟨rfl, rfl⟩
  go_wp2
  go_ret
  exact ⟨rfl, below_alloc (Below.refl _ w) _⟩
end Go.Proofs.Ytbandmcdkcfpiaa
