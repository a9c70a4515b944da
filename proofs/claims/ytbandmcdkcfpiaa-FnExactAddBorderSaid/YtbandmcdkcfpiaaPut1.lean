/- The reference puts a part into a chart. -/
import Derived.Test.YtbandmcdkcfpiaaChart3
import Derived.Test.YtbandmcdkcfpiaaPutL
namespace Go.Proofs.Ytbandmcdkcfpiaa
open Go.RowKit Go.Proofs.YtbandmcdkcfpiaaW.PrintWords
set_option linter.unusedVariables false
set_option linter.unusedSimpArgs false

/-- what holds while a part is put: the boxes of the call and the knots made so far -/
structure PutInv (w : World) (W H pw ph row col : Nat) (k pk : List Int) (A A' A1 : Option Addr) (c c' c1 B9 R C : Nat) (W' : World) : Prop where
  b0 : W'.heap[w.heap.size]? = some (.cells #[.int .i64 W, .int .i64 H, .slice A k.length c] 26 (0, 0))
  b1 : W'.heap[w.heap.size + 1]? = some (.cells #[.int .i64 pw, .int .i64 ph, .slice A' pk.length c'] 26 (0, 0))
  b2 : W'.heap[w.heap.size + 1 + 1]? = some (.cells #[.int .i64 0, .int .i64 0, .slice none 0 0] 26 (0, 0))
  b9 : W'.heap[B9]? = some (.cells #[.int .i64 W, .int .i64 H, .slice A1 k.length c1] 26 (0, 0))
  lt9 : w.heap.size + 1 + 1 < B9
  own : OwnI W' (w.heap.size + 3) (.slice A1 k.length c1) (stN W k pw pk row col R C)
  ne9 : ∀ g, A1 = some ⟨g, 0, none⟩ → g ≠ B9
  below : Below w.heap.size w W'

set_option maxHeartbeats 1600000 in
theorem l2Put_any (W H pw ph row col : Nat) (k pk : List Int) (A A' : Option Addr) (c c' : Nat) (w : World) (hk : k.length = W * H) (hpk : pk.length = pw * ph) (hW : W ≤ 8) (hH : H ≤ 8) (hr : row + ph ≤ H) (hc : col + pw ≤ W)
    (hR : RdI w A c k) (hR' : RdI w A' c' pk) :
    Calls Try.prog 121 #[.agg #[.int .i64 W, .int .i64 H, .slice A k.length c], .agg #[.int .i64 pw, .int .i64 ph, .slice A' pk.length c'], .int .i64 row, .int .i64 col] w (RetC w W H (putN W k pw ph pk row col)) := by
  have HG := Lib.hid (fun o o' o'' => l2Own_any W H k A c _ (hR.up (below_alloc (below_alloc (below_alloc (Below.refl _ w) o) o') o'')))
  have HR' := Lib.hid hR'
  have HK := Lib.hid hk
  have HPK := Lib.hid hpk
  clear hR hR' hk hpk
  go_enter Try.func121, Try.ntmps121
  go_wp2_with (go_at_call 154; refine (HG.out _ _ _).mono ?_; rintro e w1 ⟨A1, c1, rfl, ho, hb⟩; have HO := Lib.hid ho; clear ho; have HB := Lib.hid hb; clear hb)
  go_loopw [10] (fun s10 wr => ∃ R : Nat, R ≤ ph ∧ s10 = .int .i64 R ∧ PutInv w W H pw ph row col k pk A A' A1 c c' c1 w1.heap.size R 0 wr) (fun s10 _ => ph - (intOf s10).toNat)
  case atStart =>
    have ho : OwnI w1 (w.heap.size + 3) (.slice A1 k.length c1) k := by simpa using HO.out
    refine ⟨0, Nat.zero_le _, rfl, { b0 := blk_alloc (blk_below (blk_alloc (blk_alloc (blk0 w _) _) _) HB.out) _, b1 := blk_alloc (blk_below (blk_alloc (blk1 w _ _) _) HB.out) _, b2 := blk_alloc (blk_below (blk2 w _ _ _) HB.out) _, b9 := blk_new _ _, lt9 := ?_, own := ?_, ne9 := ?_, below := ?_ }⟩
    · have := HB.out.size; simp at this; omega
    · rw [stN_zero]; exact ho.alloc _
    · rintro g rfl
      have := (ho.1.lt g rfl).2
      omega
    · exact below_alloc (below_up (below_alloc (below_alloc (below_alloc (Below.refl _ w) _) _) _) HB.out) _
  case round =>
    obtain ⟨R, hRp, rfl, I⟩ := hrel
    obtain ⟨wo, rfl⟩ : ∃ wo : World, wo = wr := ⟨_, rfl⟩
    obtain ⟨⟨p0, p1, p2⟩, pf, pl⟩ := box3 I.b1
    by_cases hlt : R < ph
    · have hlt' : (R : Int) < (ph : Int) := by omega
      go_wp2
      go_loopw [11] (fun s11 W' => ∃ C : Nat, C ≤ pw ∧ s11 = .int .i64 C ∧ PutInv w W H pw ph row col k pk A A' A1 c c' c1 w1.heap.size R C W') (fun s11 _ => pw - (intOf s11).toNat)
      case atStart => exact ⟨0, Nat.zero_le _, rfl, I⟩
      case round =>
        obtain ⟨C, hCp, rfl, J⟩ := hrel
        clear p0 p1 p2 pf pl
        obtain ⟨⟨p0, p1, p2⟩, pf, pl⟩ := box3 J.b1
        by_cases hlc : C < pw
        · have hlc' : (C : Int) < (pw : Int) := by omega
          obtain ⟨⟨q0, q1, q2⟩, qf, ql⟩ := box3 J.b0
          obtain ⟨⟨o0, o1, o2⟩, of_, ol⟩ := box3 J.b9
          have hrow : row + R + 1 ≤ H := by omega
          have hm : (row + R + 1) * W ≤ H * W := Nat.mul_le_mul_right _ hrow
          have hm64 : H * W ≤ 8 * 8 := Nat.mul_le_mul hH hW
          have hkl : k.length = H * W := by rw [HK.out, Nat.mul_comm]
          have hsm : (row + R + 1) * W = (row + R) * W + W := by rw [Nat.add_mul, Nat.one_mul]
          have hil : (row + R) * W + (col + C) < k.length := by omega
          have hpm : (R + 1) * pw ≤ ph * pw := Nat.mul_le_mul_right _ (by omega)
          have hps : (R + 1) * pw = R * pw + pw := by rw [Nat.add_mul, Nat.one_mul]
          have hpl : R * pw + C < pk.length := by rw [HPK.out, Nat.mul_comm pw ph]; omega
          obtain ⟨g, rfl, hx, hg1, hg2⟩ := J.own.block (by rw [stN_length]; omega)
          clear hx
          have g9 : g ≠ w1.heap.size := J.ne9 g rfl
          have g0 : g ≠ w.heap.size := by omega
          have g1 : g ≠ w.heap.size + 1 := by omega
          have g2 : g ≠ w.heap.size + 1 + 1 := by omega
          have e1 : ((row : Int) + (R : Int)) * (W : Int) = (((row + R) * W : Nat) : Int) := by push_cast; rfl
          have e2 : (R : Int) * (pw : Int) = ((R * pw : Nat) : Int) := by push_cast; rfl
          have n1 : (0 : Int) ≤ ((row : Int) + (R : Int)) * (W : Int) := by omega
          have n2 : ((row : Int) + (R : Int)) * (W : Int) ≤ 64 := by omega
          have n3 : ((row : Int) + (R : Int)) * (W : Int) + (col : Int) + (C : Int) < (k.length : Int) := by omega
          have n0 : (0 : Int) ≤ ((row : Int) + (R : Int)) * (W : Int) + (col : Int) + (C : Int) := by omega
          have n4 : (row : Int) + (R : Int) ≤ 8 := by omega
          have n5 : (col : Int) + (C : Int) ≤ 8 := by omega
          have HI := Lib.hid (show (((row : Int) + (R : Int)) * (W : Int) + (col : Int) + (C : Int)).toNat = (row + R) * W + (col + C) from by rw [e1]; omega)
          have HN := Lib.hid (stN_next W k pw pk row col R C hlc hc hil)
          have HV := Lib.hid (show rd pk ((R : Int) * (pw : Int) + (C : Int)) = pk.getD (R * pw + C) 0 from by unfold rd; rw [e2]; congr 1)
          have HIL := Lib.hid hil
          have m1 : (0 : Int) ≤ (R : Int) * (pw : Int) := by omega
          have m2 : (R : Int) * (pw : Int) + (C : Int) < (pk.length : Int) := by omega
          have v1 : IntKind.i64.wrap ((row : Int) + (R : Int)) = (row : Int) + (R : Int) := IntWalk.i64_in _ (by omega)
          have v2 : IntKind.i64.wrap (((row : Int) + (R : Int)) * (W : Int)) = ((row : Int) + (R : Int)) * (W : Int) := IntWalk.i64_in _ (by omega)
          have v3 : IntKind.i64.wrap (((row : Int) + (R : Int)) * (W : Int) + (col : Int)) = ((row : Int) + (R : Int)) * (W : Int) + (col : Int) := IntWalk.i64_in _ (by omega)
          have v4 : IntKind.i64.wrap (((row : Int) + (R : Int)) * (W : Int) + (col : Int) + (C : Int)) = ((row : Int) + (R : Int)) * (W : Int) + (col : Int) + (C : Int) := IntWalk.i64_in _ (by omega)
          clear e1 e2 hm hm64 hkl hsm hil hpm hps hpl hrow
          go_wp2_with fail
          go_region_held3 (fun w' => w'.cell? ⟨w1.heap.size, 2, none⟩ = some (.slice (some ⟨g, 0, none⟩) k.length c1) ∧ w'.cell? ⟨w.heap.size, 0, none⟩ = some (.int .i64 W) ∧ w'.cell? ⟨w.heap.size + 1, 0, none⟩ = some (.int .i64 pw) ∧ w'.cell? ⟨w.heap.size + 1, 1, none⟩ = some (.int .i64 ph) ∧ w'.cell? ⟨w.heap.size + 1, 2, none⟩ = some (.slice A' pk.length c'))
            (first | go_keep | exact ⟨(cell_far g9).trans x2, (cell_far g0).trans y0, (cell_far g1).trans z0, (cell_far g1).trans z1, (cell_far g1).trans z2⟩)
            (first | (go_at_call 136; refine (l2At_any _ _ _ _ _ _ _ _ (HR'.out.up (below_drew J.below)) m1 (by omega) m2).mono ?_; rintro e w2 ⟨rfl, hb⟩; have HB2 := Lib.hid hb; obtain ⟨⟨x0, x1, x2⟩, xf, xl⟩ := box3 (blk_below (blk_drew J.b9) hb); obtain ⟨⟨y0, y1, y2⟩, yf, yl⟩ := box3 (blk_below (blk_drew J.b0) hb); obtain ⟨⟨z0, z1, z2⟩, zf, zl⟩ := box3 (blk_below (blk_drew J.b1) hb); have HO2 := Lib.hid (J.own.drew.up hb); obtain ⟨hs1, hs2⟩ := HO2.out.cellI _ n0 (by rw [stN_length]; exact n3); clear hb))
          go_wp2
          go_roundw
          case rel =>
            refine ⟨C + 1, by omega, by go_num, { b0 := blk_far' g0 (blk_below (blk_drew J.b0) HB2.out), b1 := blk_far' g1 (blk_below (blk_drew J.b1) HB2.out), b2 := blk_far' g2 (blk_below (blk_drew J.b2) HB2.out), b9 := blk_far' g9 (blk_below (blk_drew J.b9) HB2.out), lt9 := J.lt9, own := ?_, ne9 := J.ne9, below := below_setc (below_up (below_drew J.below) HB2.out) (by omega) }⟩
            rw [HN.out, HV.out, ← Nat.add_assoc]
            exact HO2.out.store _ _
          case measure => simp [intOf]; omega
        · have hCe : C = pw := by omega
          subst hCe
          go_wp2
          go_roundw
          case rel =>
            refine ⟨R + 1, by omega, by go_num, ?_⟩
            have e := stN_row W k C pk row col R
            exact { J with own := by rw [← e]; exact J.own }
          case measure => simp [intOf]; omega
    · have hRe : R = ph := by omega
      subst hRe
      obtain ⟨⟨o0, o1, o2⟩, of_, ol⟩ := box3 I.b9
      obtain ⟨⟨r0, r1, r2⟩, rf, rl⟩ := box3 I.b2
      have l9 := I.lt9
      go_wp2
      refine bodyPost_ret (v := .agg #[.int .i64 W, .int .i64 H, .slice A1 k.length c1]) (by simp [results, Try.results121, go_sem, r0, r1, r2, rf]) rfl ⟨A1, c1, ?_, ?_, ?_⟩
      · rw [putN_length]
      · rw [putN_length]
        refine OwnI.weaken (base := w.heap.size + 3) ?_ (by omega)
        refine OwnI.setc (OwnI.setc (OwnI.setc I.own ?_ _) ?_ _) ?_ _ <;> omega
      · exact below_setc (below_setc (below_setc I.below (by omega)) (by omega)) (by omega)
end Go.Proofs.Ytbandmcdkcfpiaa
