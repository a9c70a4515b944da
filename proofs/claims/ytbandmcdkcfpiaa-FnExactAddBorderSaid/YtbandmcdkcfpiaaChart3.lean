/- Charts: parts of a chart; copies. -/
import Derived.Test.YtbandmcdkcfpiaaChart2
import Derived.Test.YtbandmcdkcfpiaaOwn
import Derived.Deep.RegionHeld3
namespace Go.Proofs.Ytbandmcdkcfpiaa
open Go.RowKit Go.Proofs.YtbandmcdkcfpiaaW.PrintWords
set_option linter.unusedVariables false
set_option linter.unusedSimpArgs false

def placeB (cw ch row col : Int) : Bool := inB row 0 (ch - 1) && inB col 0 (cw - 1)
def partB (cw ch row col height width : Int) : Bool := placeB cw ch row col && (inB height 1 (ch - row) && inB width 1 (cw - col))
theorem placeB_iff {cw ch row col : Int} : placeB cw ch row col = true ↔ (0 ≤ row ∧ row ≤ ch - 1) ∧ (0 ≤ col ∧ col ≤ cw - 1) := by simp [placeB, inB_iff]
theorem partB_iff {cw ch row col height width : Int} : partB cw ch row col height width = true ↔ ((0 ≤ row ∧ row ≤ ch - 1) ∧ (0 ≤ col ∧ col ≤ cw - 1)) ∧ (1 ≤ height ∧ height ≤ ch - row) ∧ (1 ≤ width ∧ width ≤ cw - col) := by simp [partB, placeB_iff, inB_iff]

set_option maxHeartbeats 400000 in
theorem hasPlace_any (cw ch row col : Int) (k : List Int) (A : Option Addr) (c : Nat) (w : World) (hw : 1 ≤ cw) (hw8 : cw ≤ 8) (hh : 1 ≤ ch) (hh8 : ch ≤ 8) :
    Calls Try.prog 131 #[.agg #[.int .i64 cw, .int .i64 ch, .slice A k.length c], .int .i64 row, .int .i64 col] w fun e w' => e = .returned (.bool (placeB cw ch row col)) ∧ Below w.heap.size w w' := by
  have F := Lib.hid (show placeB cw ch row col = (inB row 0 (ch - 1) && inB col 0 (cw - 1)) from rfl)
  generalize hA : inB row 0 (ch - 1) = b1 at *
  generalize hB : inB col 0 (cw - 1) = b2 at *
  have HA := Lib.hid hA; clear hA
  have HB2 := Lib.hid hB; clear hB
  go_enter Try.func131, Try.ntmps131
  go_wp2_with (first | (go_at_call 156; refine (in_any _ _ _ _).mono ?_; rw [HA.out]; rintro e w' ⟨rfl, rfl⟩) | (go_at_call 156; refine (in_any _ _ _ _).mono ?_; rw [HB2.out]; rintro e w' ⟨rfl, rfl⟩))
  all_goals go_ret
  all_goals refine ⟨by rw [F.out]; simp [*], (Below.refl _ _).alloc (Nat.le_refl _) _⟩

set_option maxHeartbeats 800000 in
theorem hasPart_any (cw ch row col height width : Int) (k : List Int) (A : Option Addr) (c : Nat) (w : World) (hw : 1 ≤ cw) (hw8 : cw ≤ 8) (hh : 1 ≤ ch) (hh8 : ch ≤ 8) :
    Calls Try.prog 122 #[.agg #[.int .i64 cw, .int .i64 ch, .slice A k.length c], .int .i64 row, .int .i64 col, .int .i64 height, .int .i64 width] w fun e w' => e = .returned (.bool (partB cw ch row col height width)) ∧ Below w.heap.size w w' := by
  have F := Lib.hid (show partB cw ch row col height width = (placeB cw ch row col && (inB height 1 (ch - row) && inB width 1 (cw - col))) from rfl)
  cases h1 : placeB cw ch row col with
  | false =>
    have H1 := Lib.hid h1; clear h1
    go_enter Try.func122, Try.ntmps122
    go_wp2_with (go_at_call 131; refine (hasPlace_any _ _ _ _ _ _ _ _ hw hw8 hh hh8).mono ?_; rw [H1.out]; rintro e w1 ⟨rfl, hb⟩)
    go_ret
    exact ⟨by rw [F.out, H1.out]; rfl, below_up (below_alloc (Below.refl _ w) _) hb⟩
  | true =>
    obtain ⟨⟨r0, r1⟩, c0, c1⟩ := placeB_iff.1 h1
    have H1 := Lib.hid h1; clear h1
    generalize hA : inB height 1 (ch - row) = b1 at *
    generalize hB : inB width 1 (cw - col) = b2 at *
    have HA := Lib.hid hA; clear hA
    have HB2 := Lib.hid hB; clear hB
    go_enter Try.func122, Try.ntmps122
    go_wp2_with (first | (go_at_call 131; refine (hasPlace_any _ _ _ _ _ _ _ _ hw hw8 hh hh8).mono ?_; rw [H1.out]; rintro e w1 ⟨rfl, hb⟩; obtain ⟨hq1, hq2⟩ := bcell hb) | (go_at_call 156; refine (in_any _ _ _ _).mono ?_; rw [HA.out]; rintro e w' ⟨rfl, rfl⟩) | (go_at_call 156; refine (in_any _ _ _ _).mono ?_; rw [HB2.out]; rintro e w' ⟨rfl, rfl⟩))
    all_goals go_ret
    all_goals refine ⟨by rw [F.out, H1.out]; simp [*], below_up (below_alloc (Below.refl _ w) _) hb⟩

set_option maxHeartbeats 800000 in
theorem l2Within_any (cw ch row col : Int) (k : List Int) (A : Option Addr) (c : Nat) (w : World) (hR : RdI w A c k) :
    Calls Try.prog 135 #[.agg #[.int .i64 cw, .int .i64 ch, .slice A k.length c], .int .i64 row, .int .i64 col] w fun e w' => e = .returned (.bool (goodB cw ch k && placeB cw ch row col)) ∧ Below w.heap.size w w' := by
  have F := Lib.hid (show placeB cw ch row col = (inB row 0 (ch - 1) && inB col 0 (cw - 1)) from rfl)
  have HG := Lib.hid (fun o => l2Good_any cw ch k A c _ (hR.up (below_alloc (Below.refl _ w) o)))
  clear hR
  cases h1 : goodB cw ch k with
  | false =>
    have H1 := Lib.hid h1; clear h1
    go_enter Try.func135, Try.ntmps135
    go_wp2_with (go_at_call 119; refine (HG.out _).mono ?_; rw [H1.out]; rintro e w1 ⟨rfl, hb⟩)
    go_ret
    exact ⟨by rfl, below_up (below_alloc (Below.refl _ w) _) hb⟩
  | true =>
    obtain ⟨⟨r0, r1⟩, ⟨c0, c1⟩, _⟩ := goodB_iff.1 h1
    have H1 := Lib.hid h1; clear h1
    generalize hA : inB row 0 (ch - 1) = b1 at *
    generalize hB : inB col 0 (cw - 1) = b2 at *
    have HA := Lib.hid hA; clear hA
    have HB2 := Lib.hid hB; clear hB
    go_enter Try.func135, Try.ntmps135
    go_wp2_with (first | (go_at_call 119; refine (HG.out _).mono ?_; rw [H1.out]; rintro e w1 ⟨rfl, hb⟩; obtain ⟨hq1, hq2⟩ := bcell hb) | (go_at_call 153; refine (l1In_any _ _ _ _).mono ?_; rw [HA.out]; rintro e w' ⟨rfl, rfl⟩) | (go_at_call 153; refine (l1In_any _ _ _ _).mono ?_; rw [HB2.out]; rintro e w' ⟨rfl, rfl⟩))
    all_goals go_ret
    all_goals refine ⟨by rw [F.out]; simp [*], below_up (below_alloc (Below.refl _ w) _) hb⟩

set_option maxHeartbeats 800000 in
theorem l2Fits_any (cw ch row col height width : Int) (k : List Int) (A : Option Addr) (c : Nat) (w : World) (hR : RdI w A c k) :
    Calls Try.prog 120 #[.agg #[.int .i64 cw, .int .i64 ch, .slice A k.length c], .int .i64 row, .int .i64 col, .int .i64 height, .int .i64 width] w fun e w' => e = .returned (.bool (goodB cw ch k && partB cw ch row col height width)) ∧ Below w.heap.size w w' := by
  have F := Lib.hid (show (goodB cw ch k && partB cw ch row col height width) = ((goodB cw ch k && placeB cw ch row col) && (inB height 1 (ch - row) && inB width 1 (cw - col))) from by unfold partB; rw [Bool.and_assoc])
  have HG := Lib.hid (fun o => l2Within_any cw ch row col k A c _ (hR.up (below_alloc (Below.refl _ w) o)))
  clear hR
  cases h1 : goodB cw ch k && placeB cw ch row col with
  | false =>
    have H1 := Lib.hid h1; clear h1
    go_enter Try.func120, Try.ntmps120
    go_wp2_with (go_at_call 135; refine (HG.out _).mono ?_; rw [H1.out]; rintro e w1 ⟨rfl, hb⟩)
    go_ret
    exact ⟨by rw [F.out, H1.out]; rfl, below_up (below_alloc (Below.refl _ w) _) hb⟩
  | true =>
    obtain ⟨h11, h12⟩ := Bool.and_eq_true_iff.1 h1
    obtain ⟨⟨r0, r1⟩, ⟨c0, c1⟩, _⟩ := goodB_iff.1 h11
    obtain ⟨⟨r2, r3⟩, c2, c3⟩ := placeB_iff.1 h12
    have H1 := Lib.hid h1; clear h1 h11 h12
    generalize hA : inB height 1 (ch - row) = b1 at *
    generalize hB : inB width 1 (cw - col) = b2 at *
    have HA := Lib.hid hA; clear hA
    have HB2 := Lib.hid hB; clear hB
    go_enter Try.func120, Try.ntmps120
    go_wp2_with (first | (go_at_call 135; refine (HG.out _).mono ?_; rw [H1.out]; rintro e w1 ⟨rfl, hb⟩; obtain ⟨hq1, hq2⟩ := bcell hb) | (go_at_call 153; refine (l1In_any _ _ _ _).mono ?_; rw [HA.out]; rintro e w' ⟨rfl, rfl⟩) | (go_at_call 153; refine (l1In_any _ _ _ _).mono ?_; rw [HB2.out]; rintro e w' ⟨rfl, rfl⟩))
    all_goals go_ret
    all_goals refine ⟨by rw [F.out, H1.out]; simp [*], below_up (below_alloc (Below.refl _ w) _) hb⟩

/-- a chart that the call hands back, its knots in memory of its own -/
def RetC (w : World) (cw ch : Int) (k : List Int) (e : Ending) (w' : World) : Prop := ∃ A c, e = .returned (.agg #[.int .i64 cw, .int .i64 ch, .slice A k.length c]) ∧ OwnI w' w.heap.size (.slice A k.length c) k ∧ Below w.heap.size w w'

set_option maxHeartbeats 800000 in
theorem copied_any (cw ch : Int) (k : List Int) (A : Option Addr) (c : Nat) (w : World) (hR : RdI w A c k) :
    Calls Try.prog 157 #[.agg #[.int .i64 cw, .int .i64 ch, .slice A k.length c]] w (RetC w cw ch k) := by
  have HG := Lib.hid (fun o o' => Clone_any k A c _ (hR.up (below_alloc (below_alloc (Below.refl _ w) o) o')))
  clear hR
  go_enter Try.func157, Try.ntmps157
  go_wp2_with (go_at_call 212; refine (HG.out _ _).mono ?_; rintro e w1 ⟨A1, c1, rfl, ho, hb⟩; have ho := Lib.hid ho; have hB := Lib.hid (below_up (below_alloc (below_alloc (Below.refl _ w) _) _) hb); obtain ⟨⟨k0, k1, k2⟩, kf, kl⟩ := box3 (blk_below (blk_alloc (blk0 w _) _) hb); obtain ⟨⟨l0, l1, l2⟩, lf, ll⟩ := box3 (blk_below (blk1 w _ _) hb); clear hb)
  refine bodyPost_ret (v := .agg #[.int .i64 cw, .int .i64 ch, .slice A1 k.length c1]) (by simp [results, Try.results157, go_sem, k0, k1, k2, kf, l0, l1, l2, lf]) rfl ⟨A1, c1, rfl, ?_, ?_⟩
  · refine OwnI.weaken (base := w.heap.size + 2) ?_ (by omega)
    refine OwnI.setc (OwnI.setc (OwnI.setc (OwnI.setc (by simpa using ho.out) ?_ _) ?_ _) ?_ _) ?_ _ <;> omega
  · exact below_setc (below_setc (below_setc (below_setc hB.out (Nat.le_refl _)) (by omega)) (by omega)) (by omega)

set_option maxHeartbeats 800000 in
theorem l2Own_any (cw ch : Int) (k : List Int) (A : Option Addr) (c : Nat) (w : World) (hR : RdI w A c k) :
    Calls Try.prog 154 #[.agg #[.int .i64 cw, .int .i64 ch, .slice A k.length c]] w (RetC w cw ch k) := by
  have HG := Lib.hid (fun o o' => l1Own_any k A c _ (hR.up (below_alloc (below_alloc (Below.refl _ w) o) o')).drew)
  clear hR
  go_enter Try.func154, Try.ntmps154
  go_wp2_with fail
  go_region_held3 (fun w' => w'.cell? ⟨w.heap.size, 0, none⟩ = some (.int .i64 cw) ∧ w'.cell? ⟨w.heap.size, 1, none⟩ = some (.int .i64 ch) ∧ w'.cell? ⟨w.heap.size, 2, none⟩ = some (.slice A k.length c))
    (first | go_keep | exact ⟨k0, k1, k2⟩)
    (first | (go_at_call 209; refine (HG.out _ _).mono ?_; rintro e w1 ⟨A1, c1, rfl, ho, hb⟩; have ho := Lib.hid ho; have hB := Lib.hid (below_up (below_drew (below_alloc (below_alloc (Below.refl _ w) _) _)) hb); obtain ⟨⟨k0, k1, k2⟩, kf, kl⟩ := box3 (blk_below (blk_drew (blk_alloc (blk0 w _) _)) hb); obtain ⟨⟨l0, l1, l2⟩, lf, ll⟩ := box3 (blk_below (blk_drew (blk1 w _ _)) hb); clear hb))
  go_wp2
  refine bodyPost_ret (v := .agg #[.int .i64 cw, .int .i64 ch, .slice A1 k.length c1]) (by simp [results, Try.results154, go_sem, l0, l1, l2, lf]) rfl ⟨A1, c1, rfl, ?_, ?_⟩
  · refine OwnI.weaken (base := w.heap.size + 2) ?_ (by omega)
    refine OwnI.setc (OwnI.setc (OwnI.setc (by simpa using ho.out) ?_ _) ?_ _) ?_ _ <;> omega
  · exact below_setc (below_setc (below_setc hB.out (by omega)) (by omega)) (by omega)
end Go.Proofs.Ytbandmcdkcfpiaa
