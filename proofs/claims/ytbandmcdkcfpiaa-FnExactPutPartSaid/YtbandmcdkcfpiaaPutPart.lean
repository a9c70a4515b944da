/- PutPart: the program's and the reference's, by one meaning. -/
import Derived.Test.YtbandmcdkcfpiaaPut2
namespace Go.Proofs.Ytbandmcdkcfpiaa
open Go.RowKit Go.Proofs.YtbandmcdkcfpiaaW.PrintWords
set_option linter.unusedVariables false
set_option linter.unusedSimpArgs false

/-- a chart and a bool that are handed back -/
def RetCB (w : World) (ok : Bool) (cw ch : Int) (k : List Int) (e : Ending) (w' : World) : Prop := ∃ A c, e = .returned (.tuple #[.agg #[.int .i64 cw, .int .i64 ch, .slice A k.length c], .bool ok]) ∧ OwnI w' w.heap.size (.slice A k.length c) k ∧ Below w.heap.size w w'
def putOk (cw ch : Int) (k : List Int) (pw ph : Int) (pk : List Int) (row col : Int) : Bool := goodB cw ch k && (goodB pw ph pk && partB cw ch row col ph pw)
/-- what PutPart hands back -/
def RetPut (w : World) (cw ch : Int) (k : List Int) (pw ph : Int) (pk : List Int) (row col : Int) (e : Ending) (w' : World) : Prop :=
  if putOk cw ch k pw ph pk row col = true then RetCB w true cw ch (putN cw.toNat k pw.toNat ph.toNat pk row.toNat col.toNat) e w' else RetCB w false 0 0 [] e w'
theorem RetPut.no {w : World} {cw ch : Int} {k : List Int} {pw ph : Int} {pk : List Int} {row col : Int} {e : Ending} {w' : World} (h : putOk cw ch k pw ph pk row col = false) (h' : RetCB w false 0 0 [] e w') : RetPut w cw ch k pw ph pk row col e w' := by
  unfold RetPut; rw [if_neg (by simp [h])]; exact h'
theorem RetPut.yes {w : World} {cw ch : Int} {k : List Int} {pw ph : Int} {pk : List Int} {row col : Int} {e : Ending} {w' : World} (h : putOk cw ch k pw ph pk row col = true) (h' : RetCB w true cw ch (putN cw.toNat k pw.toNat ph.toNat pk row.toNat col.toNat) e w') : RetPut w cw ch k pw ph pk row col e w' := by
  unfold RetPut; rw [if_pos h]; exact h'

set_option maxHeartbeats 1600000 in
theorem impl_PutPart_any (cw ch pw ph row col : Int) (k pk : List Int) (A A' : Option Addr) (c c' : Nat) (w : World) (hR : RdI w A c k) (hR' : RdI w A' c' pk) :
    Calls Try.prog 16 #[.agg #[.int .i64 cw, .int .i64 ch, .slice A k.length c], .agg #[.int .i64 pw, .int .i64 ph, .slice A' pk.length c'], .int .i64 row, .int .i64 col] w (RetPut w cw ch k pw ph pk row col) := by
  have HR := Lib.hid hR
  have HR' := Lib.hid hR'
  clear hR hR'
  cases h1 : goodB cw ch k with
  | false =>
    have HOK := Lib.hid (show putOk cw ch k pw ph pk row col = false from by simp [putOk, h1])
    have H1 := Lib.hid h1; clear h1
    go_enter Try.func16, Try.ntmps16
    go_wp2_with fail
    refine (IsChart_any _ _ _ _ _ _ (HR.out.up (below_alloc (below_alloc (below_alloc (Below.refl _ w) _) _) _))).mono ?_; rw [H1.out]; rintro e w1 ⟨rfl, hb⟩; have HB := Lib.hid (below_up (below_alloc (below_alloc (below_alloc (Below.refl _ w) _) _) _) hb); have B0 := Lib.hid (blk_below (blk_alloc (blk_alloc (blk0 w _) _) _) hb); have B1 := Lib.hid (blk_below (blk_alloc (blk1 w _ _) _) hb); have B2 := Lib.hid (blk_below (blk2 w _ _ _) hb); obtain ⟨⟨x0, x1, x2⟩, xf, xl⟩ := box3 B0.out; obtain ⟨⟨y0, y1, y2⟩, yf, yl⟩ := box3 B1.out; obtain ⟨⟨r0, r1, r2⟩, rf, rl⟩ := box3 B2.out; clear hb
    go_wp2
    refine bodyPost_ret (v := .tuple #[.agg #[.int .i64 0, .int .i64 0, .slice none 0 0], .bool false]) (by simp [results, Try.results16, go_sem, r0, r1, r2, rf]) rfl (RetPut.no HOK.out ⟨none, 0, rfl, OwnI.nil _ _, below_setc (below_setc (below_setc HB.out (by omega)) (by omega)) (by omega)⟩)
  | true =>
    obtain ⟨⟨a1, a2⟩, ⟨a3, a4⟩, a5, _⟩ := goodB_iff.1 h1
    have A5 := Lib.hid a5; clear a5
    cases h2 : goodB pw ph pk with
    | false =>
      have HOK := Lib.hid (show putOk cw ch k pw ph pk row col = false from by simp [putOk, h2])
      have H1 := Lib.hid h1; clear h1
      have H2 := Lib.hid h2; clear h2
      go_enter Try.func16, Try.ntmps16
      go_wp2_with fail
      refine (IsChart_any _ _ _ _ _ _ (HR.out.up (below_alloc (below_alloc (below_alloc (Below.refl _ w) _) _) _))).mono ?_; rw [H1.out]; rintro e w1 ⟨rfl, hb⟩; have HB := Lib.hid (below_up (below_alloc (below_alloc (below_alloc (Below.refl _ w) _) _) _) hb); have B0 := Lib.hid (blk_below (blk_alloc (blk_alloc (blk0 w _) _) _) hb); have B1 := Lib.hid (blk_below (blk_alloc (blk1 w _ _) _) hb); have B2 := Lib.hid (blk_below (blk2 w _ _ _) hb); obtain ⟨⟨x0, x1, x2⟩, xf, xl⟩ := box3 B0.out; obtain ⟨⟨y0, y1, y2⟩, yf, yl⟩ := box3 B1.out; obtain ⟨⟨r0, r1, r2⟩, rf, rl⟩ := box3 B2.out; clear hb
      go_wp2_with fail
      refine (IsChart_any _ _ _ _ _ _ (HR'.out.up HB.out)).mono ?_; rw [H2.out]; rintro e w2 ⟨rfl, hb⟩; clear x0 x1 x2 xf xl y0 y1 y2 yf yl r0 r1 r2 rf rl; have HB' := Lib.hid (below_up HB.out hb); have B0' := Lib.hid (blk_below B0.out hb); have B1' := Lib.hid (blk_below B1.out hb); have B2' := Lib.hid (blk_below B2.out hb); clear HB B0 B1 B2 hb; have HB := HB'; have B0 := B0'; have B1 := B1'; have B2 := B2'; clear HB' B0' B1' B2'; obtain ⟨⟨x0, x1, x2⟩, xf, xl⟩ := box3 B0.out; obtain ⟨⟨y0, y1, y2⟩, yf, yl⟩ := box3 B1.out; obtain ⟨⟨r0, r1, r2⟩, rf, rl⟩ := box3 B2.out
      go_wp2
      refine bodyPost_ret (v := .tuple #[.agg #[.int .i64 0, .int .i64 0, .slice none 0 0], .bool false]) (by simp [results, Try.results16, go_sem, r0, r1, r2, rf]) rfl (RetPut.no HOK.out ⟨none, 0, rfl, OwnI.nil _ _, below_setc (below_setc (below_setc HB.out (by omega)) (by omega)) (by omega)⟩)
    | true =>
      obtain ⟨⟨b1, b2⟩, ⟨b3, b4⟩, b5, _⟩ := goodB_iff.1 h2
      have A6 := Lib.hid b5; clear b5
      cases h3 : partB cw ch row col ph pw with
      | false =>
        have HOK := Lib.hid (show putOk cw ch k pw ph pk row col = false from by simp [putOk, h3])
        have H1 := Lib.hid h1; clear h1
        have H2 := Lib.hid h2; clear h2
        have H3 := Lib.hid h3; clear h3
        go_enter Try.func16, Try.ntmps16
        go_wp2_with fail
        refine (IsChart_any _ _ _ _ _ _ (HR.out.up (below_alloc (below_alloc (below_alloc (Below.refl _ w) _) _) _))).mono ?_; rw [H1.out]; rintro e w1 ⟨rfl, hb⟩; have HB := Lib.hid (below_up (below_alloc (below_alloc (below_alloc (Below.refl _ w) _) _) _) hb); have B0 := Lib.hid (blk_below (blk_alloc (blk_alloc (blk0 w _) _) _) hb); have B1 := Lib.hid (blk_below (blk_alloc (blk1 w _ _) _) hb); have B2 := Lib.hid (blk_below (blk2 w _ _ _) hb); obtain ⟨⟨x0, x1, x2⟩, xf, xl⟩ := box3 B0.out; obtain ⟨⟨y0, y1, y2⟩, yf, yl⟩ := box3 B1.out; obtain ⟨⟨r0, r1, r2⟩, rf, rl⟩ := box3 B2.out; clear hb
        go_wp2_with fail
        refine (IsChart_any _ _ _ _ _ _ (HR'.out.up HB.out)).mono ?_; rw [H2.out]; rintro e w2 ⟨rfl, hb⟩; clear x0 x1 x2 xf xl y0 y1 y2 yf yl r0 r1 r2 rf rl; have HB' := Lib.hid (below_up HB.out hb); have B0' := Lib.hid (blk_below B0.out hb); have B1' := Lib.hid (blk_below B1.out hb); have B2' := Lib.hid (blk_below B2.out hb); clear HB B0 B1 B2 hb; have HB := HB'; have B0 := B0'; have B1 := B1'; have B2 := B2'; clear HB' B0' B1' B2'; obtain ⟨⟨x0, x1, x2⟩, xf, xl⟩ := box3 B0.out; obtain ⟨⟨y0, y1, y2⟩, yf, yl⟩ := box3 B1.out; obtain ⟨⟨r0, r1, r2⟩, rf, rl⟩ := box3 B2.out
        go_wp2_with fail
        refine (hasPart_any _ _ _ _ _ _ _ _ _ _ a1 a2 a3 a4).mono ?_; rw [H3.out]; rintro e w3 ⟨rfl, hb⟩; clear x0 x1 x2 xf xl y0 y1 y2 yf yl r0 r1 r2 rf rl; have HB' := Lib.hid (below_up HB.out hb); have B0' := Lib.hid (blk_below B0.out hb); have B1' := Lib.hid (blk_below B1.out hb); have B2' := Lib.hid (blk_below B2.out hb); clear HB B0 B1 B2 hb; have HB := HB'; have B0 := B0'; have B1 := B1'; have B2 := B2'; clear HB' B0' B1' B2'; obtain ⟨⟨x0, x1, x2⟩, xf, xl⟩ := box3 B0.out; obtain ⟨⟨y0, y1, y2⟩, yf, yl⟩ := box3 B1.out; obtain ⟨⟨r0, r1, r2⟩, rf, rl⟩ := box3 B2.out
        go_wp2
        refine bodyPost_ret (v := .tuple #[.agg #[.int .i64 0, .int .i64 0, .slice none 0 0], .bool false]) (by simp [results, Try.results16, go_sem, r0, r1, r2, rf]) rfl (RetPut.no HOK.out ⟨none, 0, rfl, OwnI.nil _ _, below_setc (below_setc (below_setc HB.out (by omega)) (by omega)) (by omega)⟩)
      | true =>
        have HOK := Lib.hid (show putOk cw ch k pw ph pk row col = true from by simp [putOk, h1, h2, h3])
        obtain ⟨⟨⟨c1, c2⟩, c3, c4⟩, ⟨c5, c6⟩, c7, c8⟩ := partB_iff.1 h3
        obtain ⟨cw, rfl⟩ : ∃ n : Nat, cw = n := ⟨cw.toNat, by omega⟩
        obtain ⟨ch, rfl⟩ : ∃ n : Nat, ch = n := ⟨ch.toNat, by omega⟩
        obtain ⟨pw, rfl⟩ : ∃ n : Nat, pw = n := ⟨pw.toNat, by omega⟩
        obtain ⟨ph, rfl⟩ : ∃ n : Nat, ph = n := ⟨ph.toNat, by omega⟩
        obtain ⟨row, rfl⟩ : ∃ n : Nat, row = n := ⟨row.toNat, by omega⟩
        obtain ⟨col, rfl⟩ : ∃ n : Nat, col = n := ⟨col.toNat, by omega⟩
        have H1 := Lib.hid h1; clear h1
        have H2 := Lib.hid h2; clear h2
        have H3 := Lib.hid h3; clear h3
        have hk : k.length = cw * ch := by have := A5.out; exact_mod_cast this
        have hpk : pk.length = pw * ph := by have := A6.out; exact_mod_cast this
        have HP := Lib.hid (fun W hb => put_any cw ch pw ph row col k pk A A' c c' W hk hpk (by omega) (by omega) (by omega) (by omega) (by omega) (HR.out.up hb) (HR'.out.up hb))
        clear hk hpk
        go_enter Try.func16, Try.ntmps16
        go_wp2_with fail
        refine (IsChart_any _ _ _ _ _ _ (HR.out.up (below_alloc (below_alloc (below_alloc (Below.refl _ w) _) _) _))).mono ?_; rw [H1.out]; rintro e w1 ⟨rfl, hb⟩; have HB := Lib.hid (below_up (below_alloc (below_alloc (below_alloc (Below.refl _ w) _) _) _) hb); have B0 := Lib.hid (blk_below (blk_alloc (blk_alloc (blk0 w _) _) _) hb); have B1 := Lib.hid (blk_below (blk_alloc (blk1 w _ _) _) hb); have B2 := Lib.hid (blk_below (blk2 w _ _ _) hb); obtain ⟨⟨x0, x1, x2⟩, xf, xl⟩ := box3 B0.out; obtain ⟨⟨y0, y1, y2⟩, yf, yl⟩ := box3 B1.out; obtain ⟨⟨r0, r1, r2⟩, rf, rl⟩ := box3 B2.out; clear hb
        go_wp2_with fail
        refine (IsChart_any _ _ _ _ _ _ (HR'.out.up HB.out)).mono ?_; rw [H2.out]; rintro e w2 ⟨rfl, hb⟩; clear x0 x1 x2 xf xl y0 y1 y2 yf yl r0 r1 r2 rf rl; have HB' := Lib.hid (below_up HB.out hb); have B0' := Lib.hid (blk_below B0.out hb); have B1' := Lib.hid (blk_below B1.out hb); have B2' := Lib.hid (blk_below B2.out hb); clear HB B0 B1 B2 hb; have HB := HB'; have B0 := B0'; have B1 := B1'; have B2 := B2'; clear HB' B0' B1' B2'; obtain ⟨⟨x0, x1, x2⟩, xf, xl⟩ := box3 B0.out; obtain ⟨⟨y0, y1, y2⟩, yf, yl⟩ := box3 B1.out; obtain ⟨⟨r0, r1, r2⟩, rf, rl⟩ := box3 B2.out
        go_wp2_with fail
        refine (hasPart_any _ _ _ _ _ _ _ _ _ _ a1 a2 a3 a4).mono ?_; rw [H3.out]; rintro e w3 ⟨rfl, hb⟩; clear x0 x1 x2 xf xl y0 y1 y2 yf yl r0 r1 r2 rf rl; have HB' := Lib.hid (below_up HB.out hb); have B0' := Lib.hid (blk_below B0.out hb); have B1' := Lib.hid (blk_below B1.out hb); have B2' := Lib.hid (blk_below B2.out hb); clear HB B0 B1 B2 hb; have HB := HB'; have B0 := B0'; have B1 := B1'; have B2 := B2'; clear HB' B0' B1' B2'; obtain ⟨⟨x0, x1, x2⟩, xf, xl⟩ := box3 B0.out; obtain ⟨⟨y0, y1, y2⟩, yf, yl⟩ := box3 B1.out; obtain ⟨⟨r0, r1, r2⟩, rf, rl⟩ := box3 B2.out
        go_wp2_with fail
        refine (HP.out _ HB.out).mono ?_; rintro e w4 ⟨A1, c1, rfl, ho, hb⟩; have HO := Lib.hid ho; clear ho; have HW3 := Lib.hid rl; clear x0 x1 x2 xf xl y0 y1 y2 yf yl r0 r1 r2 rf rl; have HB' := Lib.hid (below_up HB.out hb); have B0' := Lib.hid (blk_below B0.out hb); have B1' := Lib.hid (blk_below B1.out hb); have B2' := Lib.hid (blk_below B2.out hb); clear HB B0 B1 B2 hb; have HB := HB'; have B0 := B0'; have B1 := B1'; have B2 := B2'; clear HB' B0' B1' B2'; obtain ⟨⟨x0, x1, x2⟩, xf, xl⟩ := box3 B0.out; obtain ⟨⟨y0, y1, y2⟩, yf, yl⟩ := box3 B1.out; obtain ⟨⟨r0, r1, r2⟩, rf, rl⟩ := box3 B2.out
        go_wp2
        refine bodyPost_ret (v := .tuple #[.agg #[.int .i64 cw, .int .i64 ch, .slice A1 (putN cw k pw ph pk row col).length c1], .bool true]) (by simp [results, Try.results16, go_sem, r0, r1, r2, rf]) rfl (RetPut.yes HOK.out ?_)
        simp only [Int.toNat_natCast]
        have l3 := HW3.out
        refine ⟨A1, c1, rfl, ?_, below_setc (below_setc (below_setc HB.out (by omega)) (by omega)) (by omega)⟩
        refine OwnI.weaken (base := w3.heap.size) ?_ (by omega)
        refine OwnI.setc (OwnI.setc (OwnI.setc HO.out ?_ _) ?_ _) ?_ _ <;> omega

set_option maxHeartbeats 1600000 in
theorem spec_PutPart_any (cw ch pw ph row col : Int) (k pk : List Int) (A A' : Option Addr) (c c' : Nat) (w : World) (hR : RdI w A c k) (hR' : RdI w A' c' pk) :
    Calls Try.prog 14 #[.agg #[.int .i64 cw, .int .i64 ch, .slice A k.length c], .agg #[.int .i64 pw, .int .i64 ph, .slice A' pk.length c'], .int .i64 row, .int .i64 col] w (RetPut w cw ch k pw ph pk row col) := by
  have HR := Lib.hid hR
  have HR' := Lib.hid hR'
  clear hR hR'
  cases h2 : goodB pw ph pk with
  | false =>
    have HOK := Lib.hid (show putOk cw ch k pw ph pk row col = false from by simp [putOk, h2])
    have H2 := Lib.hid h2; clear h2
    go_enter Try.func14, Try.ntmps14
    go_wp2_with fail
    refine (l2Good_any _ _ _ _ _ _ (HR'.out.up (below_alloc (below_alloc (below_alloc (Below.refl _ w) _) _) _))).mono ?_; rw [H2.out]; rintro e w1 ⟨rfl, hb⟩; have HB := Lib.hid (below_up (below_alloc (below_alloc (below_alloc (Below.refl _ w) _) _) _) hb); have B0 := Lib.hid (blk_below (blk_alloc (blk_alloc (blk0 w _) _) _) hb); have B1 := Lib.hid (blk_below (blk_alloc (blk1 w _ _) _) hb); have B2 := Lib.hid (blk_below (blk2 w _ _ _) hb); obtain ⟨⟨x0, x1, x2⟩, xf, xl⟩ := box3 B0.out; obtain ⟨⟨y0, y1, y2⟩, yf, yl⟩ := box3 B1.out; obtain ⟨⟨r0, r1, r2⟩, rf, rl⟩ := box3 B2.out; clear hb
    go_wp2
    refine bodyPost_ret (v := .tuple #[.agg #[.int .i64 0, .int .i64 0, .slice none 0 0], .bool false]) (by simp [results, Try.results14, go_sem, r0, r1, r2, rf]) rfl (RetPut.no HOK.out ⟨none, 0, rfl, OwnI.nil _ _, below_setc (below_setc (below_setc HB.out (by omega)) (by omega)) (by omega)⟩)
  | true =>
    obtain ⟨⟨b1, b2⟩, ⟨b3, b4⟩, b5, _⟩ := goodB_iff.1 h2
    have A6 := Lib.hid b5; clear b5
    cases h3 : goodB cw ch k && partB cw ch row col ph pw with
    | false =>
      have HOK := Lib.hid (show putOk cw ch k pw ph pk row col = false from by
        rcases Bool.and_eq_false_iff.1 h3 with h | h <;> simp [putOk, h])
      have H2 := Lib.hid h2; clear h2
      have H3 := Lib.hid h3; clear h3
      go_enter Try.func14, Try.ntmps14
      go_wp2_with fail
      refine (l2Good_any _ _ _ _ _ _ (HR'.out.up (below_alloc (below_alloc (below_alloc (Below.refl _ w) _) _) _))).mono ?_; rw [H2.out]; rintro e w1 ⟨rfl, hb⟩; have HB := Lib.hid (below_up (below_alloc (below_alloc (below_alloc (Below.refl _ w) _) _) _) hb); have B0 := Lib.hid (blk_below (blk_alloc (blk_alloc (blk0 w _) _) _) hb); have B1 := Lib.hid (blk_below (blk_alloc (blk1 w _ _) _) hb); have B2 := Lib.hid (blk_below (blk2 w _ _ _) hb); obtain ⟨⟨x0, x1, x2⟩, xf, xl⟩ := box3 B0.out; obtain ⟨⟨y0, y1, y2⟩, yf, yl⟩ := box3 B1.out; obtain ⟨⟨r0, r1, r2⟩, rf, rl⟩ := box3 B2.out; clear hb
      go_wp2_with fail
      refine (l2Fits_any _ _ _ _ _ _ _ _ _ _ (HR.out.up HB.out)).mono ?_; rw [H3.out]; rintro e w2 ⟨rfl, hb⟩; clear x0 x1 x2 xf xl y0 y1 y2 yf yl r0 r1 r2 rf rl; have HB' := Lib.hid (below_up HB.out hb); have B0' := Lib.hid (blk_below B0.out hb); have B1' := Lib.hid (blk_below B1.out hb); have B2' := Lib.hid (blk_below B2.out hb); clear HB B0 B1 B2 hb; have HB := HB'; have B0 := B0'; have B1 := B1'; have B2 := B2'; clear HB' B0' B1' B2'; obtain ⟨⟨x0, x1, x2⟩, xf, xl⟩ := box3 B0.out; obtain ⟨⟨y0, y1, y2⟩, yf, yl⟩ := box3 B1.out; obtain ⟨⟨r0, r1, r2⟩, rf, rl⟩ := box3 B2.out
      go_wp2
      refine bodyPost_ret (v := .tuple #[.agg #[.int .i64 0, .int .i64 0, .slice none 0 0], .bool false]) (by simp [results, Try.results14, go_sem, r0, r1, r2, rf]) rfl (RetPut.no HOK.out ⟨none, 0, rfl, OwnI.nil _ _, below_setc (below_setc (below_setc HB.out (by omega)) (by omega)) (by omega)⟩)
    | true =>
      obtain ⟨h1, h4⟩ := Bool.and_eq_true_iff.1 h3
      obtain ⟨⟨a1, a2⟩, ⟨a3, a4⟩, a5, _⟩ := goodB_iff.1 h1
      have A5 := Lib.hid a5; clear a5
      have HOK := Lib.hid (show putOk cw ch k pw ph pk row col = true from by simp [putOk, h1, h2, h4])
      obtain ⟨⟨⟨c1, c2⟩, c3, c4⟩, ⟨c5, c6⟩, c7, c8⟩ := partB_iff.1 h4
      obtain ⟨cw, rfl⟩ : ∃ n : Nat, cw = n := ⟨cw.toNat, by omega⟩
      obtain ⟨ch, rfl⟩ : ∃ n : Nat, ch = n := ⟨ch.toNat, by omega⟩
      obtain ⟨pw, rfl⟩ : ∃ n : Nat, pw = n := ⟨pw.toNat, by omega⟩
      obtain ⟨ph, rfl⟩ : ∃ n : Nat, ph = n := ⟨ph.toNat, by omega⟩
      obtain ⟨row, rfl⟩ : ∃ n : Nat, row = n := ⟨row.toNat, by omega⟩
      obtain ⟨col, rfl⟩ : ∃ n : Nat, col = n := ⟨col.toNat, by omega⟩
      have H2 := Lib.hid h2; clear h2
      have H3 := Lib.hid h3; clear h3 h1 h4
      have hk : k.length = cw * ch := by have := A5.out; exact_mod_cast this
      have hpk : pk.length = pw * ph := by have := A6.out; exact_mod_cast this
      have HP := Lib.hid (fun W hb => l2Put_any cw ch pw ph row col k pk A A' c c' W hk hpk (by omega) (by omega) (by omega) (by omega) (HR.out.up hb) (HR'.out.up hb))
      clear hk hpk
      go_enter Try.func14, Try.ntmps14
      go_wp2_with fail
      refine (l2Good_any _ _ _ _ _ _ (HR'.out.up (below_alloc (below_alloc (below_alloc (Below.refl _ w) _) _) _))).mono ?_; rw [H2.out]; rintro e w1 ⟨rfl, hb⟩; have HB := Lib.hid (below_up (below_alloc (below_alloc (below_alloc (Below.refl _ w) _) _) _) hb); have B0 := Lib.hid (blk_below (blk_alloc (blk_alloc (blk0 w _) _) _) hb); have B1 := Lib.hid (blk_below (blk_alloc (blk1 w _ _) _) hb); have B2 := Lib.hid (blk_below (blk2 w _ _ _) hb); obtain ⟨⟨x0, x1, x2⟩, xf, xl⟩ := box3 B0.out; obtain ⟨⟨y0, y1, y2⟩, yf, yl⟩ := box3 B1.out; obtain ⟨⟨r0, r1, r2⟩, rf, rl⟩ := box3 B2.out; clear hb
      go_wp2_with fail
      refine (l2Fits_any _ _ _ _ _ _ _ _ _ _ (HR.out.up HB.out)).mono ?_; rw [H3.out]; rintro e w3 ⟨rfl, hb⟩; clear x0 x1 x2 xf xl y0 y1 y2 yf yl r0 r1 r2 rf rl; have HB' := Lib.hid (below_up HB.out hb); have B0' := Lib.hid (blk_below B0.out hb); have B1' := Lib.hid (blk_below B1.out hb); have B2' := Lib.hid (blk_below B2.out hb); clear HB B0 B1 B2 hb; have HB := HB'; have B0 := B0'; have B1 := B1'; have B2 := B2'; clear HB' B0' B1' B2'; obtain ⟨⟨x0, x1, x2⟩, xf, xl⟩ := box3 B0.out; obtain ⟨⟨y0, y1, y2⟩, yf, yl⟩ := box3 B1.out; obtain ⟨⟨r0, r1, r2⟩, rf, rl⟩ := box3 B2.out
      go_wp2_with fail
      refine (HP.out _ HB.out).mono ?_; rintro e w4 ⟨A1, c1, rfl, ho, hb⟩; have HO := Lib.hid ho; clear ho; have HW3 := Lib.hid rl; clear x0 x1 x2 xf xl y0 y1 y2 yf yl r0 r1 r2 rf rl; have HB' := Lib.hid (below_up HB.out hb); have B0' := Lib.hid (blk_below B0.out hb); have B1' := Lib.hid (blk_below B1.out hb); have B2' := Lib.hid (blk_below B2.out hb); clear HB B0 B1 B2 hb; have HB := HB'; have B0 := B0'; have B1 := B1'; have B2 := B2'; clear HB' B0' B1' B2'; obtain ⟨⟨x0, x1, x2⟩, xf, xl⟩ := box3 B0.out; obtain ⟨⟨y0, y1, y2⟩, yf, yl⟩ := box3 B1.out; obtain ⟨⟨r0, r1, r2⟩, rf, rl⟩ := box3 B2.out
      go_wp2
      refine bodyPost_ret (v := .tuple #[.agg #[.int .i64 cw, .int .i64 ch, .slice A1 (putN cw k pw ph pk row col).length c1], .bool true]) (by simp [results, Try.results14, go_sem, r0, r1, r2, rf]) rfl (RetPut.yes HOK.out ?_)
      simp only [Int.toNat_natCast]
      have l3 := HW3.out
      refine ⟨A1, c1, rfl, ?_, below_setc (below_setc (below_setc HB.out (by omega)) (by omega)) (by omega)⟩
      refine OwnI.weaken (base := w3.heap.size) ?_ (by omega)
      refine OwnI.setc (OwnI.setc (OwnI.setc HO.out ?_ _) ?_ _) ?_ _ <;> omega
end Go.Proofs.Ytbandmcdkcfpiaa
