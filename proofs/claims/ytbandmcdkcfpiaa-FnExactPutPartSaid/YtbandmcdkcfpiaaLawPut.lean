/- The law of PutPart, walked. -/
import Derived.Test.YtbandmcdkcfpiaaFacts
import Derived.Test.YtbandmcdkcfpiaaPutPart
namespace Go.Proofs.Ytbandmcdkcfpiaa
open Go.RowKit Go.Proofs.YtbandmcdkcfpiaaW.PrintWords
set_option linter.unusedVariables false
set_option linter.unusedSimpArgs false

theorem RetPut.cb {w : World} {cw ch : Int} {k : List Int} {pw ph : Int} {pk : List Int} {row col : Int} {e : Ending} {w' : World} (h : RetPut w cw ch k pw ph pk row col e w') :
    RetCB w (putOk cw ch k pw ph pk row col) (if putOk cw ch k pw ph pk row col = true then cw else 0) (if putOk cw ch k pw ph pk row col = true then ch else 0) (if putOk cw ch k pw ph pk row col = true then putN cw.toNat k pw.toNat ph.toNat pk row.toNat col.toNat else []) e w' := by
  unfold RetPut at h
  by_cases ho : putOk cw ch k pw ph pk row col = true
  · rw [if_pos ho] at h; simp only [if_pos ho]; rw [ho]; exact h
  · rw [if_neg ho] at h; simp only [if_neg ho]; rw [Bool.not_eq_true] at ho; rw [ho]; exact h
theorem leave1 {n : Nat} {m : Int} (h : ¬ szN n m < 0) : (n : Int) ≤ m ∧ szN n m = m - n := by
  unfold szN at *; split at h <;> omega

theorem act129 (T : Array Value) (h : T.size = 129) : ∃ u : Nat → Value, T = #[u 0, u 1, u 2, u 3, u 4, u 5, u 6, u 7, u 8, u 9, u 10, u 11, u 12, u 13, u 14, u 15, u 16, u 17, u 18, u 19, u 20, u 21, u 22, u 23, u 24, u 25, u 26, u 27, u 28, u 29, u 30, u 31, u 32, u 33, u 34, u 35, u 36, u 37, u 38, u 39, u 40, u 41, u 42, u 43, u 44, u 45, u 46, u 47, u 48, u 49, u 50, u 51, u 52, u 53, u 54, u 55, u 56, u 57, u 58, u 59, u 60, u 61, u 62, u 63, u 64, u 65, u 66, u 67, u 68, u 69, u 70, u 71, u 72, u 73, u 74, u 75, u 76, u 77, u 78, u 79, u 80, u 81, u 82, u 83, u 84, u 85, u 86, u 87, u 88, u 89, u 90, u 91, u 92, u 93, u 94, u 95, u 96, u 97, u 98, u 99, u 100, u 101, u 102, u 103, u 104, u 105, u 106, u 107, u 108, u 109, u 110, u 111, u 112, u 113, u 114, u 115, u 116, u 117, u 118, u 119, u 120, u 121, u 122, u 123, u 124, u 125, u 126, u 127, u 128] ∧ ∀ i, u i = T.getD i undef :=
  ⟨fun i => T.getD i undef, (act_all T 129 h).trans (by kernel_rfl), fun _ => rfl⟩
set_option maxRecDepth 4000 in
set_option maxHeartbeats 8000000 in
theorem FnExactPutPart_any (cw ch pw ph row col : Int) (k pk : List Int) (A A' : Option Addr) (c c' : Nat) (w : World) (hR : RdI w A c k) (hR' : RdI w A' c' pk) :
    Calls Try.prog 3 #[.agg #[.int .i64 cw, .int .i64 ch, .slice A k.length c], .agg #[.int .i64 pw, .int .i64 ph, .slice A' pk.length c'], .int .i64 row, .int .i64 col] w fun e w' => e = .returned (.bool true) ∧ Below w.heap.size w w' := by
  have hk := hR.len
  have hpk := hR'.len
  have HR := Lib.hid hR
  have HR' := Lib.hid hR'
  have hs := fun W A c A' c' h h' => (spec_PutPart_any cw ch pw ph row col k pk A A' c c' W h h').mono (fun _ _ => RetPut.cb)
  have hi := fun W A c A' c' h h' => (impl_PutPart_any cw ch pw ph row col k pk A A' c c' W h h').mono (fun _ _ => RetPut.cb)
  generalize putOk cw ch k pw ph pk row col = ok at *
  generalize (if ok = true then cw else 0) = rw at *
  generalize (if ok = true then ch else 0) = rh at *
  generalize (if ok = true then putN cw.toNat k pw.toNat ph.toNat pk row.toNat col.toNat else []) = rk at *
  have HS := Lib.hid hs
  have HI := Lib.hid hi
  clear hs hi hR hR'
  by_cases z1 : szN k.length 1048576 < 0
  · go_enter Try.func3, Try.ntmps3
    go_wp2_with fail
    refine (szChart_any _ _ _ _ _ _ _ hk (by omega) (by omega)).mono ?_; rintro e w1 ⟨rfl, hb⟩
    have HB := Lib.hid (below_up (below_alloc (below_alloc (Below.refl _ w) _) _) hb); clear hb
    go_wp2
    go_ret
    exact ⟨rfl, HB.out⟩
  · obtain ⟨l1, e1⟩ := leave1 z1
    generalize hz1 : szN k.length 1048576 = q1 at *
    have Z1 := Lib.hid hz1
    have q1l : -1 ≤ q1 ∧ q1 ≤ 1048576 := by omega
    have L1 := Lib.hid e1
    clear e1 hz1
    have hS0 : Facts ((w.alloc (.cells #[.int .i64 cw, .int .i64 ch, .slice A k.length c] 24)).alloc (.cells #[.int .i64 pw, .int .i64 ph, .slice A' pk.length c'] 24)) [.below w w.heap.size, .blk w.heap.size #[.int .i64 cw, .int .i64 ch, .slice A k.length c] 24, .blk (w.heap.size + 1) #[.int .i64 pw, .int .i64 ph, .slice A' pk.length c'] 24] :=
      ⟨⟨below_alloc (below_alloc (Below.refl _ w) _) _, by simp; omega⟩, blk_alloc (blk0 w _) _, blk1 w _ _, trivial⟩
    have HF := Lib.hid hS0; clear hS0
    by_cases z2 : szN pk.length q1 < 0
    · go_enter Try.func3, Try.ntmps3
      go_wp2_with fail
      refine (szChart_any _ _ _ _ _ _ _ hk (by omega) (by omega)).mono ?_; rw [Z1.out]; rintro e w1 ⟨rfl, hb⟩; have HF' := Lib.hid (Facts.up (by repeat (with_reducible first | exact HF.out | apply Facts.alloc | apply Facts.drew)) hb); clear HF hb; have HF := HF'; clear HF'; obtain ⟨⟨x0, x1, x2⟩, xf, xl⟩ := box3 HF.out.2.1; obtain ⟨⟨y0, y1, y2⟩, yf, yl⟩ := box3 HF.out.2.2.1
      go_wp2_with fail
      refine (szChart_any _ _ _ _ _ _ _ hpk (by omega) (by omega)).mono ?_; rintro e w2 ⟨rfl, hb⟩; have HF' := Lib.hid (Facts.up (by repeat (with_reducible first | exact HF.out | apply Facts.alloc | apply Facts.drew)) hb); clear HF hb; have HF := HF'; clear HF'
      go_wp2
      go_ret
      exact ⟨rfl, HF.out.1.1⟩
    · obtain ⟨l2, e2⟩ := leave1 z2
      generalize hz2 : szN pk.length q1 = q2 at *
      have Z2 := Lib.hid hz2
      have l2' : (pk.length : Int) ≤ 1048576 := by omega
      clear e2 hz2
      go_enter Try.func3, Try.ntmps3
      go_wp2_with fail
      refine (szChart_any _ _ _ _ _ _ _ hk (by omega) (by omega)).mono ?_; rw [Z1.out]; rintro e w1 ⟨rfl, hb⟩; have HF' := Lib.hid (Facts.up (by repeat (with_reducible first | exact HF.out | apply Facts.alloc | apply Facts.drew)) hb); clear HF hb; have HF := HF'; clear HF'; obtain ⟨⟨x0, x1, x2⟩, xf, xl⟩ := box3 HF.out.2.1; obtain ⟨⟨y0, y1, y2⟩, yf, yl⟩ := box3 HF.out.2.2.1
      go_wp2_with fail
      refine (szChart_any _ _ _ _ _ _ _ hpk (by omega) (by omega)).mono ?_; rw [Z2.out]; rintro e w2 ⟨rfl, hb⟩; have HF' := Lib.hid (Facts.up (by repeat (with_reducible first | exact HF.out | apply Facts.alloc | apply Facts.drew)) hb); clear HF hb; have HF := HF'; clear HF'; obtain ⟨⟨x0, x1, x2⟩, xf, xl⟩ := box3 HF.out.2.1; obtain ⟨⟨y0, y1, y2⟩, yf, yl⟩ := box3 HF.out.2.2.1
      go_wp2_with fail
      rename_i K hK0
      have hcut : ∀ a' W, (∃ (B lo : Nat) (A0 : Option Addr) (c0 : Nat), Facts W [.blk B #[.int .i64 rw, .int .i64 rh, .slice A0 rk.length c0] 26, .below w w.heap.size, .blk w.heap.size #[.int .i64 cw, .int .i64 ch, .slice A k.length c] 24, .blk (w.heap.size + 1) #[.int .i64 pw, .int .i64 ph, .slice A' pk.length c'] 24, .own lo (.slice A0 rk.length c0) rk] ∧ (a'.tmps.size = 129 ∧ a'.defers = [] ∧ a'.tmps.getD 2 undef = .int .i64 row ∧ a'.tmps.getD 3 undef = .int .i64 col ∧ a'.tmps.getD 4 undef = .pointer (some ⟨w.heap.size, 0, none⟩) ∧ a'.tmps.getD 5 undef = .pointer (some ⟨w.heap.size + 1, 0, none⟩) ∧ a'.tmps.getD 8 undef = .bool false ∧ a'.tmps.getD 9 undef = .int .i64 q2 ∧ a'.tmps.getD 10 undef = .pointer (some ⟨B, 0, none⟩) ∧ a'.tmps.getD 11 undef = .bool ok ∧ True)) → K a' W := by
        rintro a' W ⟨B, lo, A0, c0, hF, hsl⟩
        apply hK0
        obtain ⟨hs, hd, hv⟩ := hsl; obtain ⟨T, D⟩ := a'; dsimp only at hs hd hv; obtain ⟨u, hT, hu⟩ := act129 T hs; have e2 := (hu 2).trans hv.1; have e3 := (hu 3).trans hv.2.1; have e4 := (hu 4).trans hv.2.2.1; have e5 := (hu 5).trans hv.2.2.2.1; have e8 := (hu 8).trans hv.2.2.2.2.1; have e9 := (hu 9).trans hv.2.2.2.2.2.1; have e10 := (hu 10).trans hv.2.2.2.2.2.2.1; have e11 := (hu 11).trans hv.2.2.2.2.2.2.2.1; clear hu hv hs; subst hd; subst hT; rw [e2, e3, e4, e5, e8, e9, e10, e11]; clear e2 e3 e4 e5 e8 e9 e10 e11
        clear hK0 x0 x1 x2 xf xl y0 y1 y2 yf yl HF
        have HF := Lib.hid hF
        clear hF
        obtain ⟨⟨x0, x1, x2⟩, xf, xl⟩ := box3 HF.out.2.2.1
        have nl : w.heap.size + 1 < W.heap.size := blk_lt HF.out.2.2.2.1
        have Bl : B < W.heap.size := blk_lt HF.out.1
        have IN0 := Lib.hid (fun k (e : A0 = some ⟨k, 0, none⟩) => (own_in HF.out.2.2.2.2.1 e).2)
        go_wp2_with fail
        refine (toChart_any cw ch k A c _ (HR.out.up (Facts.below1 HF.out))).mono ?_; rintro e w6 ⟨A1, c1, rfl, ho, hb⟩
        have IN1 := Lib.hid (fun k (e : A1 = some ⟨k, 0, none⟩) => own_in ho e); have s6 := hb.size; have HF' := Lib.hid (Facts.up (by repeat (with_reducible first | exact HF.out | apply Facts.alloc | apply Facts.drew)) hb); clear HF hb; have HF := HF'; clear HF'; have HF' := Lib.hid (Facts.more (f := .own _ _ _) ho HF.out); clear HF ho; have HF := HF'; clear HF'; clear x0 x1 x2 xf xl
        obtain ⟨⟨y0, y1, y2⟩, yf, yl⟩ := box3 HF.out.2.2.2.2.1
        go_wp2_with fail
        refine (toChart_any pw ph pk A' c' _ (HR'.out.up (below_alloc HF.out.2.2.1.1 _))).mono ?_; rintro e w7 ⟨A2, c2, rfl, ho, hb⟩
        have in2 := fun k (e : A2 = some ⟨k, 0, none⟩) => own_in ho e; have s7 := hb.size; rw [size_alloc] at s7; simp only [size_alloc] at in2; have IN2 := Lib.hid in2; clear in2; have HF' := Lib.hid (Facts.up (leafA HF.out) hb); clear HF hb; have HF := HF'; clear HF'; have HF' := Lib.hid (Facts.more (f := .own _ _ _) ho HF.out); clear HF ho; have HF := HF'; clear HF'; clear y0 y1 y2 yf yl
        obtain ⟨⟨x0, x1, x2⟩, xf, xl⟩ := box3 HF.out.2.1
        go_wp2_with fail
        refine (HI.out _ A1 c1 A2 c2 (HF.out.2.2.1.alloc _).reads' (HF.out.1.alloc _).reads').mono ?_; rintro e w8 ⟨A3, c3, rfl, ho, hb⟩
        have in3 := fun k (e : A3 = some ⟨k, 0, none⟩) => own_in ho e; have s8 := hb.size; rw [size_alloc] at s8; simp only [size_alloc] at in3; have IN3 := Lib.hid in3; clear in3; have HF' := Lib.hid (Facts.up (leafA HF.out) hb); clear HF hb; have HF := HF'; clear HF'; have HF' := Lib.hid (Facts.more (f := .own _ _ _) ho HF.out); clear HF ho; have HF := HF'; clear HF'; clear x0 x1 x2 xf xl
        obtain ⟨⟨x0, x1, x2⟩, xf, xl⟩ := box3 HF.out.2.2.2.2.2.1
        go_wp2_with fail
        -- TAIL
        refine (eqChart_same rw rh rk A3 A0 c3 c0 _ (HF.out.1.alloc _).reads' (HF.out.2.2.2.2.2.2.2.2.2.1.alloc _).reads').mono ?_; rintro e w9 ⟨rfl, hb⟩
        have s9 := hb.size; rw [size_alloc] at s9; have HF' := Lib.hid (Facts.up (leafA HF.out) hb); clear HF hb; have HF := HF'; clear HF'; clear x0 x1 x2 xf xl
        obtain ⟨⟨x0, x1, x2⟩, xf, xl⟩ := box3 HF.out.2.2.2.2.1
        obtain ⟨⟨y0, y1, y2⟩, yf, yl⟩ := box3 HF.out.2.2.2.2.2.2.2.2.1
        go_wp2_with fail
        go_region_held3 (fun w' => w'.cell? ⟨w6.heap.size, 0, none⟩ = some (.int .i64 cw) ∧ w'.cell? ⟨w6.heap.size, 1, none⟩ = some (.int .i64 ch) ∧ w'.cell? ⟨w6.heap.size, 2, none⟩ = some (.slice A1 k.length c1) ∧ w'.cell? ⟨w.heap.size, 0, none⟩ = some (.int .i64 cw) ∧ w'.cell? ⟨w.heap.size, 1, none⟩ = some (.int .i64 ch) ∧ w'.cell? ⟨w.heap.size, 2, none⟩ = some (.slice A k.length c))
          (first | exact ⟨x0, x1, x2, y0, y1, y2⟩ | go_keep)
          (first
            | (go_at_call 15; (with_reducible refine (toChart_any cw ch k A c _ ?h1).mono ?_); (case h1 => exact HR.out.up HF.out.drew.2.2.2.2.2.2.2.1.1); rintro e w10 ⟨A4, c4, rfl, ho, hb⟩; have s10 := hb.size; rw [size_drew] at s10; have HF' := Lib.hid (Facts.up (by repeat (with_reducible first | exact HF.out | apply Facts.alloc | apply Facts.drew)) hb); clear HF hb; have HF := HF'; clear HF'; have HF' := Lib.hid (Facts.more (f := .own _ _ _) ho HF.out); clear HF ho; have HF := HF'; clear HF'; clear x0 x1 x2 xf xl y0 y1 y2 yf yl; obtain ⟨⟨x0, x1, x2⟩, xf, xl⟩ := box3 HF.out.2.2.2.2.2.1; obtain ⟨⟨y0, y1, y2⟩, yf, yl⟩ := box3 HF.out.2.2.2.2.2.2.2.2.2.1)
            | (go_at_call 17; (with_reducible refine (eqChart_same cw ch k A1 A4 c1 c4 _ ?h1 ?h2).mono ?_); (case h1 => exact HF.out.2.2.2.2.2.2.1.reads'); (case h2 => exact HF.out.1.reads'); rintro e w11 ⟨rfl, hb⟩; have s11 := hb.size; have HF' := Lib.hid (Facts.up (by repeat (with_reducible first | exact HF.out | apply Facts.alloc | apply Facts.drew)) hb); clear HF hb; have HF := HF'; clear HF'; clear x0 x1 x2 xf xl y0 y1 y2 yf yl; obtain ⟨⟨x0, x1, x2⟩, xf, xl⟩ := box3 HF.out.2.2.2.2.2.1; obtain ⟨⟨y0, y1, y2⟩, yf, yl⟩ := box3 HF.out.2.2.2.2.2.2.2.2.2.1))
        have HF' := Lib.hid HF.out.2; clear HF; have HF := HF'; clear HF'
        clear x0 x1 x2 xf xl y0 y1 y2 yf yl
        obtain ⟨⟨x0, x1, x2⟩, xf, xl⟩ := box3 HF.out.2.2.1
        obtain ⟨⟨y0, y1, y2⟩, yf, yl⟩ := box3 HF.out.2.2.2.2.2.2.2.2.2.1
        go_wp2_with fail
        go_region_held3 (fun w' => w'.cell? ⟨w7.heap.size, 0, none⟩ = some (.int .i64 pw) ∧ w'.cell? ⟨w7.heap.size, 1, none⟩ = some (.int .i64 ph) ∧ w'.cell? ⟨w7.heap.size, 2, none⟩ = some (.slice A2 pk.length c2) ∧ w'.cell? ⟨w.heap.size + 1, 0, none⟩ = some (.int .i64 pw) ∧ w'.cell? ⟨w.heap.size + 1, 1, none⟩ = some (.int .i64 ph) ∧ w'.cell? ⟨w.heap.size + 1, 2, none⟩ = some (.slice A' pk.length c'))
          (first | exact ⟨x0, x1, x2, y0, y1, y2⟩ | go_keep)
          (first
            | (go_at_call 15; (with_reducible refine (toChart_any pw ph pk A' c' _ ?h1).mono ?_); (case h1 => exact HR'.out.up HF.out.drew.2.2.2.2.2.2.2.1.1); rintro e w12 ⟨A4, c4, rfl, ho, hb⟩; have s12 := hb.size; rw [size_drew] at s12; have HF' := Lib.hid (Facts.up (by repeat (with_reducible first | exact HF.out | apply Facts.alloc | apply Facts.drew)) hb); clear HF hb; have HF := HF'; clear HF'; have HF' := Lib.hid (Facts.more (f := .own _ _ _) ho HF.out); clear HF ho; have HF := HF'; clear HF'; clear x0 x1 x2 xf xl y0 y1 y2 yf yl; obtain ⟨⟨x0, x1, x2⟩, xf, xl⟩ := box3 HF.out.2.2.2.1; obtain ⟨⟨y0, y1, y2⟩, yf, yl⟩ := box3 HF.out.2.2.2.2.2.2.2.2.2.2.1)
            | (go_at_call 17; (with_reducible refine (eqChart_same pw ph pk A2 A4 c2 c4 _ ?h1 ?h2).mono ?_); (case h1 => exact HF.out.2.2.2.2.1.reads'); (case h2 => exact HF.out.1.reads'); rintro e w13 ⟨rfl, hb⟩; have s13 := hb.size; have HF' := Lib.hid (Facts.up (by repeat (with_reducible first | exact HF.out | apply Facts.alloc | apply Facts.drew)) hb); clear HF hb; have HF := HF'; clear HF'; clear x0 x1 x2 xf xl y0 y1 y2 yf yl; obtain ⟨⟨x0, x1, x2⟩, xf, xl⟩ := box3 HF.out.2.2.2.1; obtain ⟨⟨y0, y1, y2⟩, yf, yl⟩ := box3 HF.out.2.2.2.2.2.2.2.2.2.2.1))
        have HF' := Lib.hid HF.out.2; clear HF; have HF := HF'; clear HF'
        clear x0 x1 x2 xf xl y0 y1 y2 yf yl
        obtain ⟨⟨x0, x1, x2⟩, xf, xl⟩ := box3 HF.out.2.2.2.2.1
        go_wp2_with fail
        refine (markChart_any cw ch k 1 _ A1 c1 _ HF.out.2.2.2.2.2.1 (by omega) (by omega)).mono ?_; rintro e w14 ⟨rfl, _, hm⟩
        have s14 := hm.below.size
        have HF' := Lib.hid (Facts.marked (Facts.drop5 HF.out) hm (fun g e => by
          obtain ⟨i1, i2⟩ := IN1.out g e
          refine ⟨?_, own_off HF.out.2.1 (fun k e => by have := IN3.out k e; omega), ?_, own_off HF.out.2.2.2.1 (fun k e => by have := IN2.out k e; omega), ?_, ?_, ?_, ?_, ?_, own_off HF.out.2.2.2.2.2.2.2.2.2.2.1 (fun k e => by have := IN0.out k e; omega), trivial⟩
          all_goals first | (show _ ≠ _; omega) | (show _ ≤ _; omega)) ⟨by omega, trivial⟩)
        clear HF hm; have HF := HF'; clear HF' x0 x1 x2 xf xl
        obtain ⟨⟨x0, x1, x2⟩, xf, xl⟩ := box3 HF.out.2.2.1
        go_wp2_with fail
        refine (markChart_any pw ph pk (1 + k.length) _ A2 c2 _ HF.out.2.2.2.1 (by omega) (by rw [size_alloc]; omega)).mono ?_; rintro e w15 ⟨rfl, _, hm⟩
        have s15 := hm.below.size
        have HF' := Lib.hid (Facts.marked (Facts.drop3 HF.out) hm (fun g e => by
          obtain ⟨i1, i2⟩ := IN2.out g e
          refine ⟨?_, own_off HF.out.2.1 (fun k e => by have := IN3.out k e; omega), ?_, ?_, ?_, ?_, ?_, ?_, own_off HF.out.2.2.2.2.2.2.2.2.2.1 (fun k e => by have := IN0.out k e; omega), trivial⟩
          all_goals first | (show _ ≠ _; omega) | (show _ ≤ _; omega)) ⟨by rw [size_alloc]; omega, trivial⟩)
        clear HF hm; have HF := HF'; clear HF' x0 x1 x2 xf xl
        obtain ⟨⟨x0, x1, x2⟩, xf, xl⟩ := box3 HF.out.1
        obtain ⟨⟨y0, y1, y2⟩, yf, yl⟩ := box3 HF.out.2.2.2.2.1
        go_wp2_with fail
        refine (eqChart_same rw rh rk A3 A0 c3 c0 _ HF.out.2.1.reads' HF.out.2.2.2.2.2.2.2.2.1.reads').mono ?_; rintro e w16 ⟨rfl, hb⟩
        have s16 := hb.size; have HF' := Lib.hid (Facts.up (by repeat (with_reducible first | exact HF.out | apply Facts.alloc | apply Facts.drew)) hb); clear HF hb; have HF := HF'; clear HF'; clear x0 x1 x2 xf xl y0 y1 y2 yf yl
        obtain ⟨⟨x0, x1, x2⟩, xf, xl⟩ := box3 HF.out.1
        go_wp2_with fail
        refine (markChart_any rw rh rk 1 _ A3 c3 _ HF.out.2.1 (by omega) (by rw [size_alloc]; omega)).mono ?_; rintro e w17 ⟨rfl, ho, hm⟩
        have s17 := hm.below.size
        have HF' := Lib.hid (Facts.more (f := .own _ _ _) ho (Facts.marked (Facts.drop1 HF.out) hm (fun g e => by
          obtain ⟨i1, i2⟩ := IN3.out g e
          refine ⟨?_, ?_, ?_, ?_, ?_, ?_, ?_, own_off HF.out.2.2.2.2.2.2.2.2.1 (fun k e => by have := IN0.out k e; omega), trivial⟩
          all_goals first | (show _ ≠ _; omega) | (show _ ≤ _; omega)) ⟨by rw [size_alloc]; omega, trivial⟩))
        clear HF hm ho; have HF := HF'; clear HF' x0 x1 x2 xf xl
        obtain ⟨⟨x0, x1, x2⟩, xf, xl⟩ := box3 HF.out.2.1
        go_wp2_with fail
        refine (heldChart_any rw rh rk.length 1 A3 c3 _ HF.out.1.reads' (by omega)).mono ?_; rintro e w18 ⟨rfl, hb⟩
        have s18 := hb.size; have HF' := Lib.hid (Facts.up (by repeat (with_reducible first | exact HF.out | apply Facts.alloc | apply Facts.drew)) hb); clear HF hb; have HF := HF'; clear HF'; clear x0 x1 x2 xf xl
        obtain ⟨⟨x0, x1, x2⟩, xf, xl⟩ := box3 HF.out.2.2.2.2.2.2.1
        obtain ⟨⟨y0, y1, y2⟩, yf, yl⟩ := box3 HF.out.2.2.2.2.2.2.2.1
        go_wp2_with fail
        have xn := Nat.ne_of_gt xl
        have yn := Nat.ne_of_gt yl
        go_region_held3 (fun w' => w'.cell? ⟨w.heap.size, 0, none⟩ = some (.int .i64 cw) ∧ w'.cell? ⟨w.heap.size, 1, none⟩ = some (.int .i64 ch) ∧ w'.cell? ⟨w.heap.size, 2, none⟩ = some (.slice A k.length c) ∧ w'.cell? ⟨w.heap.size + 1, 0, none⟩ = some (.int .i64 pw) ∧ w'.cell? ⟨w.heap.size + 1, 1, none⟩ = some (.int .i64 ph) ∧ w'.cell? ⟨w.heap.size + 1, 2, none⟩ = some (.slice A' pk.length c'))
          (first | exact ⟨x0, x1, x2, y0, y1, y2⟩ | go_keep)
          (first
            | (go_at_call 15; (with_reducible refine (toChart_any cw ch k A c _ ?h1).mono ?_); (case h1 => (apply RdI.up HR.out; apply Facts.below5; repeat (with_reducible first | exact HF.out | apply Facts.alloc | apply Facts.drew))); rintro e w19 ⟨A5, c5, rfl, ho, hb⟩; have HB3 := Lib.hid hb; (first | (revert hB; intro hB; have hBn := Lib.hid (blk_below hB.out hb); clear hB; have hB := hBn; clear hBn) | (with_reducible have hB := Lib.hid (blk_below (blk_new_drew _ _) hb)) | (with_reducible have hB := Lib.hid (blk_below (blk_new _ _) hb)) | skip); have HF' := Lib.hid (Facts.up (by repeat (with_reducible first | exact HF.out | apply Facts.alloc | apply Facts.drew)) hb); clear HF hb; have HF := HF'; clear HF'; have HF' := Lib.hid (Facts.more (f := .own _ _ _) ho HF.out); clear HF ho; have HF := HF'; clear HF'; clear x0 x1 x2 xf y0 y1 y2 yf; obtain ⟨⟨x0, x1, x2⟩, xf, xl⟩ := box3 HF.out.2.2.2.2.2.2.2.1; obtain ⟨⟨y0, y1, y2⟩, yf, yl⟩ := box3 HF.out.2.2.2.2.2.2.2.2.1; have xn := Nat.ne_of_gt xl; have yn := Nat.ne_of_gt yl)
            | (go_at_call 15; (with_reducible refine (toChart_any pw ph pk A' c' _ ?h1).mono ?_); (case h1 => (apply RdI.up HR'.out; apply Facts.below6; repeat (with_reducible first | exact HF.out | apply Facts.alloc | apply Facts.drew))); rintro e w20 ⟨A6, c6, rfl, ho, hb⟩; have HB4 := Lib.hid hb; (first | (revert hB; intro hB; have hBn := Lib.hid (blk_below hB.out hb); clear hB; have hB := hBn; clear hBn) | (with_reducible have hB := Lib.hid (blk_below (blk_new_drew _ _) hb)) | (with_reducible have hB := Lib.hid (blk_below (blk_new _ _) hb)) | skip); have HF' := Lib.hid (Facts.up (by repeat (with_reducible first | exact HF.out | apply Facts.alloc | apply Facts.drew)) hb); clear HF hb; have HF := HF'; clear HF'; have HF' := Lib.hid (Facts.more (f := .own _ _ _) ho HF.out); clear HF ho; have HF := HF'; clear HF'; clear x0 x1 x2 xf y0 y1 y2 yf; obtain ⟨⟨x0, x1, x2⟩, xf, xl⟩ := box3 HF.out.2.2.2.2.2.2.2.2.1; obtain ⟨⟨y0, y1, y2⟩, yf, yl⟩ := box3 HF.out.2.2.2.2.2.2.2.2.2.1; have xn := Nat.ne_of_gt xl; have yn := Nat.ne_of_gt yl)
            | (go_at_call 16; (with_reducible refine (HI.out _ A5 c5 A6 c6 ?h1 ?h2).mono ?_); (case h1 => (apply OwnI.reads'; apply Facts.own2; repeat (with_reducible first | exact HF.out | apply Facts.alloc | apply Facts.drew))); (case h2 => (apply OwnI.reads'; apply Facts.own1; repeat (with_reducible first | exact HF.out | apply Facts.alloc | apply Facts.drew))); rintro e w21 ⟨A7, c7, rfl, ho, hb⟩; have HB5 := Lib.hid hb; (first | (revert hB; intro hB; have hBn := Lib.hid (blk_below hB.out hb); clear hB; have hB := hBn; clear hBn) | (with_reducible have hB := Lib.hid (blk_below (blk_new_drew _ _) hb)) | (with_reducible have hB := Lib.hid (blk_below (blk_new _ _) hb)) | skip); (try (revert hB; intro hB; obtain ⟨⟨b0, b1, b2⟩, bf, bl⟩ := box3 hB.out)); have HF' := Lib.hid (Facts.up (by repeat (with_reducible first | exact HF.out | apply Facts.alloc | apply Facts.drew)) hb); clear HF hb; have HF := HF'; clear HF'; have HF' := Lib.hid (Facts.more (f := .own _ _ _) ho HF.out); clear HF ho; have HF := HF'; clear HF'; clear x0 x1 x2 xf y0 y1 y2 yf; obtain ⟨⟨x0, x1, x2⟩, xf, xl⟩ := box3 HF.out.2.2.2.2.2.2.2.2.2.1; obtain ⟨⟨y0, y1, y2⟩, yf, yl⟩ := box3 HF.out.2.2.2.2.2.2.2.2.2.2.1; have xn := Nat.ne_of_gt xl; have yn := Nat.ne_of_gt yl))
        all_goals
          have s19 := HB3.out.size
          have s20 := HB4.out.size
          have s21 := HB5.out.size
          try simp only [size_drew, size_alloc] at s19
          try simp only [size_drew, size_alloc] at s20
          try simp only [size_drew, size_alloc] at s21
          have in7 := fun k e => (own_in HF.out.1 (k := k) e).1
          try simp only [size_drew, size_alloc] at in7
          have in3 := fun k e => (own_in HF.out.2.2.2.1 (k := k) e)
          try simp only [size_alloc] at in3
          obtain ⟨lo, hP⟩ : ∃ lo, Facts w21 [.own lo (.slice A7 rk.length c7) rk, .own _ (.slice A3 rk.length c3) (marks 1 rk.length), .blk B #[.int .i64 rw, .int .i64 rh, .slice A0 rk.length c0] 26, .below w w.heap.size, .own _ (.slice A0 rk.length c0) rk, .blk w8.heap.size #[.int .i64 rw, .int .i64 rh, .slice A3 rk.length c3] 26] :=
            ⟨_, HF.out.1, HF.out.2.2.2.1, HF.out.2.2.2.2.2.2.2.1, HF.out.2.2.2.2.2.2.2.2.1, HF.out.2.2.2.2.2.2.2.2.2.2.2.1, HF.out.2.2.2.2.1, trivial⟩
          clear HF x0 x1 x2 xf y0 y1 y2 yf
          have hP := Lib.hid hP
          first
          | (revert hB; intro hB; have hQ := leafB (v0 := .int .i64 rw) (v1 := .int .i64 rh) (v2 := .slice A7 rk.length c7) hP.out hB.out ⟨own_off hP.out.1 (fun k e => by have := in7 k e; omega), own_off hP.out.2.1 (fun k e => by have := IN3.out k e; omega), (by show _ ≠ _; omega), (by show _ ≤ _; omega), own_off hP.out.2.2.2.2.1 (fun k e => by have := IN0.out k e; omega), (by show _ ≠ _; omega), trivial⟩)
          | have hQ := leafA (cs := #[.int .i64 rw, .int .i64 rh, .slice A7 rk.length c7]) (t := 26) hP.out
          have HF := Lib.hid hQ
          clear hQ
          obtain ⟨⟨x0, x1, x2⟩, xf, xl⟩ := box3 HF.out.1
          obtain ⟨⟨y0, y1, y2⟩, yf, yl⟩ := box3 HF.out.2.2.2.1
          go_wp2_with fail
          refine (eqChart_same rw rh rk A7 A0 c7 c0 _ HF.out.2.1.reads' HF.out.2.2.2.2.2.1.reads').mono ?_; rintro e w22 ⟨rfl, hb⟩
          have HF' := Lib.hid (Facts.up (by repeat (with_reducible first | exact HF.out | apply Facts.alloc | apply Facts.drew)) hb); clear HF hb; have HF := HF'; clear HF'; clear x0 x1 x2 xf xl y0 y1 y2 yf yl
          obtain ⟨⟨x0, x1, x2⟩, xf, xl⟩ := box3 HF.out.2.2.2.2.2.2.1
          go_wp2_with fail
          refine (heldChart_any rw rh rk.length 1 A3 c3 _ HF.out.2.2.1.reads' (by omega)).mono ?_; rintro e w23 ⟨rfl, hb⟩
          have HF' := Lib.hid (Facts.up (by repeat (with_reducible first | exact HF.out | apply Facts.alloc | apply Facts.drew)) hb); clear HF hb; have HF := HF'; clear HF'
          go_wp2
          go_ret
          exact ⟨rfl, HF.out.2.2.2.2.1.1⟩
      have HK := Lib.hid hcut
      clear hcut hK0
      have xn := Nat.ne_of_gt xl
      have yn := Nat.ne_of_gt yl
      go_region_held3 (fun w' => w'.cell? ⟨w.heap.size, 0, none⟩ = some (.int .i64 cw) ∧ w'.cell? ⟨w.heap.size, 1, none⟩ = some (.int .i64 ch) ∧ w'.cell? ⟨w.heap.size, 2, none⟩ = some (.slice A k.length c) ∧ w'.cell? ⟨w.heap.size + 1, 0, none⟩ = some (.int .i64 pw) ∧ w'.cell? ⟨w.heap.size + 1, 1, none⟩ = some (.int .i64 ph) ∧ w'.cell? ⟨w.heap.size + 1, 2, none⟩ = some (.slice A' pk.length c'))
        (first | exact ⟨x0, x1, x2, y0, y1, y2⟩ | go_keep)
        (first
            | (go_at_call 15; (with_reducible refine (toChart_any cw ch k A c _ ?h1).mono ?_); (case h1 => (apply RdI.up HR.out; apply Facts.head; repeat (with_reducible first | exact HF.out | apply Facts.alloc | apply Facts.drew))); rintro e w3 ⟨A1, c1, rfl, ho, hb⟩; have HB3 := Lib.hid hb; (first | (revert hB; intro hB; have hBn := Lib.hid (blk_below hB.out hb); clear hB; have hB := hBn; clear hBn) | (with_reducible have hB := Lib.hid (blk_below (blk_new_drew _ _) hb)) | (with_reducible have hB := Lib.hid (blk_below (blk_new _ _) hb)) | skip); have HF' := Lib.hid (Facts.up (by repeat (with_reducible first | exact HF.out | apply Facts.alloc | apply Facts.drew)) hb); clear HF hb; have HF := HF'; clear HF'; have HF' := Lib.hid (Facts.more (f := .own _ _ _) ho HF.out); clear HF ho; have HF := HF'; clear HF'; clear x0 x1 x2 xf y0 y1 y2 yf; obtain ⟨⟨x0, x1, x2⟩, xf, xl⟩ := box3 HF.out.2.2.1; obtain ⟨⟨y0, y1, y2⟩, yf, yl⟩ := box3 HF.out.2.2.2.1; have xn := Nat.ne_of_gt xl; have yn := Nat.ne_of_gt yl)
            | (go_at_call 15; (with_reducible refine (toChart_any pw ph pk A' c' _ ?h1).mono ?_); (case h1 => (apply RdI.up HR'.out; apply Facts.below1; repeat (with_reducible first | exact HF.out | apply Facts.alloc | apply Facts.drew))); rintro e w4 ⟨A2, c2, rfl, ho, hb⟩; have HB4 := Lib.hid hb; (first | (revert hB; intro hB; have hBn := Lib.hid (blk_below hB.out hb); clear hB; have hB := hBn; clear hBn) | (with_reducible have hB := Lib.hid (blk_below (blk_new_drew _ _) hb)) | (with_reducible have hB := Lib.hid (blk_below (blk_new _ _) hb)) | skip); have HF' := Lib.hid (Facts.up (by repeat (with_reducible first | exact HF.out | apply Facts.alloc | apply Facts.drew)) hb); clear HF hb; have HF := HF'; clear HF'; have HF' := Lib.hid (Facts.more (f := .own _ _ _) ho HF.out); clear HF ho; have HF := HF'; clear HF'; clear x0 x1 x2 xf y0 y1 y2 yf; obtain ⟨⟨x0, x1, x2⟩, xf, xl⟩ := box3 HF.out.2.2.2.1; obtain ⟨⟨y0, y1, y2⟩, yf, yl⟩ := box3 HF.out.2.2.2.2.1; have xn := Nat.ne_of_gt xl; have yn := Nat.ne_of_gt yl)
            | (go_at_call 14; (with_reducible refine (HS.out _ A1 c1 A2 c2 ?h1 ?h2).mono ?_); (case h1 => (apply OwnI.reads'; apply Facts.own2; repeat (with_reducible first | exact HF.out | apply Facts.alloc | apply Facts.drew))); (case h2 => (apply OwnI.reads'; apply Facts.own1; repeat (with_reducible first | exact HF.out | apply Facts.alloc | apply Facts.drew))); rintro e w5 ⟨A0, c0, rfl, ho, hb⟩; have HB5 := Lib.hid hb; (first | (revert hB; intro hB; have hBn := Lib.hid (blk_below hB.out hb); clear hB; have hB := hBn; clear hBn) | (with_reducible have hB := Lib.hid (blk_below (blk_new_drew _ _) hb)) | (with_reducible have hB := Lib.hid (blk_below (blk_new _ _) hb)) | skip); (try (revert hB; intro hB; obtain ⟨⟨b0, b1, b2⟩, bf, bl⟩ := box3 hB.out)); have HF' := Lib.hid (Facts.up (by repeat (with_reducible first | exact HF.out | apply Facts.alloc | apply Facts.drew)) hb); clear HF hb; have HF := HF'; clear HF'; have HF' := Lib.hid (Facts.more (f := .own _ _ _) ho HF.out); clear HF ho; have HF := HF'; clear HF'; clear x0 x1 x2 xf y0 y1 y2 yf; obtain ⟨⟨x0, x1, x2⟩, xf, xl⟩ := box3 HF.out.2.2.2.2.1; obtain ⟨⟨y0, y1, y2⟩, yf, yl⟩ := box3 HF.out.2.2.2.2.2.1))
      all_goals
        have s3 := HB3.out.size
        have s4 := HB4.out.size
        have s5 := HB5.out.size
        try simp only [size_drew, size_alloc] at s3
        try simp only [size_drew, size_alloc] at s4
        try simp only [size_drew, size_alloc] at s5
        obtain ⟨lo, hP⟩ : ∃ lo, Facts w5 [.below w w.heap.size, .blk w.heap.size #[.int .i64 cw, .int .i64 ch, .slice A k.length c] 24, .blk (w.heap.size + 1) #[.int .i64 pw, .int .i64 ph, .slice A' pk.length c'] 24, .own lo (.slice A0 rk.length c0) rk] :=
          ⟨_, HF.out.2.2.2.1, HF.out.2.2.2.2.1, HF.out.2.2.2.2.2.1, HF.out.1, trivial⟩
        refine cutK HK.out ⟨_, lo, A0, c0, ?_, rfl, rfl, rfl, rfl, rfl, rfl, rfl, rfl, rfl, rfl, trivial⟩
        have hF0 := fun k e => (own_in HF.out.1 (k := k) e).1
        try simp only [size_drew, size_alloc] at hF0
        have hP := Lib.hid hP
        first
        | (with_reducible exact leafA hP.out)
        | (with_reducible refine leafB hP.out hB.out ?_)
        all_goals refine ⟨?_, ?_, ?_, own_off hP.out.2.2.2.1 (fun k e => ?_), trivial⟩
        all_goals first | (show _ ≠ _; omega) | (show _ ≤ _; omega) | (have := hF0 k e; omega)
end Go.Proofs.Ytbandmcdkcfpiaa
