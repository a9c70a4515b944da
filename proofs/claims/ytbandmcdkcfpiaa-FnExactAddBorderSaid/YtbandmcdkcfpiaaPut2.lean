/- The program puts a part into a chart: row by row, with copy. -/
import Derived.Test.YtbandmcdkcfpiaaPut1
import Derived.Test.YtbandmcdkcfpiaaCopy
import Derived.Deep.Matrix
namespace Go.Proofs.Ytbandmcdkcfpiaa
open Go.RowKit Go.Proofs.YtbandmcdkcfpiaaW.PrintWords
set_option linter.unusedVariables false
set_option linter.unusedSimpArgs false

set_option maxHeartbeats 1600000 in
theorem put_any (W H pw ph row col : Nat) (k pk : List Int) (A A' : Option Addr) (c c' : Nat) (w : World) (hk : k.length = W * H) (hpk : pk.length = pw * ph) (hW : W ≤ 8) (hH : H ≤ 8) (hr : row + ph ≤ H) (hc : col + pw ≤ W) (hpw : 1 ≤ pw)
    (hR : RdI w A c k) (hR' : RdI w A' c' pk) :
    Calls Try.prog 123 #[.agg #[.int .i64 W, .int .i64 H, .slice A k.length c], .agg #[.int .i64 pw, .int .i64 ph, .slice A' pk.length c'], .int .i64 row, .int .i64 col] w (RetC w W H (putN W k pw ph pk row col)) := by
  have HG := Lib.hid (fun o o' o'' => copied_any W H k A c _ (hR.up (below_alloc (below_alloc (below_alloc (Below.refl _ w) o) o') o'')))
  have HR' := Lib.hid hR'
  have HK := Lib.hid hk
  have HPK := Lib.hid hpk
  clear hR hR' hk hpk
  go_enter Try.func123, Try.ntmps123
  go_wp2_with (go_at_call 157; refine (HG.out _ _ _).mono ?_; rintro e w1 ⟨A1, c1, rfl, ho, hb⟩; have HO := Lib.hid ho; clear ho; have HB := Lib.hid hb; obtain ⟨⟨p0, p1, p2⟩, pf, pl⟩ := box3 (blk_below (blk_alloc (blk1 w _ _) _) hb); clear hb)
  go_wp2
  go_loopw [10, 15] (fun _ s15 wr => ∃ R : Nat, R ≤ ph ∧ s15 = .int .i64 R ∧ PutInv w W H pw ph row col k pk A A' A1 c c' c1 w1.heap.size R 0 wr) (fun _ s15 _ => ph - (intOf s15).toNat)
  case atStart =>
    have ho : OwnI w1 (w.heap.size + 3) (.slice A1 k.length c1) k := by simpa using HO.out
    refine ⟨0, Nat.zero_le _, rfl, { b0 := blk_alloc (blk_below (blk_alloc (blk_alloc (blk0 w _) _) _) HB.out) _, b1 := blk_alloc (blk_below (blk_alloc (blk1 w _ _) _) HB.out) _, b2 := blk_alloc (blk_below (blk2 w _ _ _) HB.out) _, b9 := blk_new _ _, lt9 := ?_, own := ?_, ne9 := ?_, below := ?_ }⟩
    · have := HB.out.size; simp at this; omega
    · rw [stN_zero]; exact ho.alloc _
    · rintro g rfl
      have := (ho.1.lt g rfl).2
      omega
    · exact below_alloc (below_up (below_alloc (below_alloc (below_alloc (Below.refl _ w) _) _) _) HB.out) _
  case round =>
    obtain ⟨R, hRp, rfl, J⟩ := hrel
    clear p0 p1 p2 pf pl
    by_cases hlt : R < ph
    · have hlt' : (R : Int) < (ph : Int) := by omega
      obtain ⟨⟨p0, p1, p2⟩, pf, pl⟩ := box3 J.b1
      obtain ⟨⟨q0, q1, q2⟩, qf, ql⟩ := box3 J.b0
      obtain ⟨⟨o0, o1, o2⟩, of_, ol⟩ := box3 J.b9
      have hrow : row + R + 1 ≤ H := by omega
      have hm : (row + R + 1) * W ≤ H * W := Nat.mul_le_mul_right _ hrow
      have hm64 : H * W ≤ 8 * 8 := Nat.mul_le_mul hH hW
      have hkl : k.length = H * W := by rw [HK.out, Nat.mul_comm]
      have hsm : (row + R + 1) * W = (row + R) * W + W := by rw [Nat.add_mul, Nat.one_mul]
      have hil : (row + R) * W + (col + pw) ≤ k.length := by omega
      have hpm : (R + 1) * pw ≤ ph * pw := Nat.mul_le_mul_right _ (by omega)
      have hps : (R + 1) * pw = R * pw + pw := by rw [Nat.add_mul, Nat.one_mul]
      have hpl : (R + 1) * pw ≤ pk.length := by rw [HPK.out, Nat.mul_comm pw ph]; omega
      have hpk64 : ph * pw ≤ 8 * 8 := Nat.mul_le_mul (by omega) (by omega)
      obtain ⟨g, rfl, hx, hg1, hg2⟩ := J.own.block (by rw [stN_length]; omega)
      clear hx
      have g9 : g ≠ w1.heap.size := J.ne9 g rfl
      have g0 : g ≠ w.heap.size := by omega
      have g1 : g ≠ w.heap.size + 1 := by omega
      have g2 : g ≠ w.heap.size + 1 + 1 := by omega
      have hcap : k.length ≤ c1 := by have := J.own.reads'.le; rw [stN_length] at this; exact this
      have hcap2 : c1 ≤ 9223372036854775807 := by have := J.own.reads'; exact this.capLe
      obtain ⟨ad', rfl, hsrc⟩ := HR'.out.at_ 0 (by omega)
      clear hsrc
      have hcap3 := HR'.out.le
      have hcap4 := HR'.out.capLe
      have e1 : ((row : Int) + (R : Int)) * (W : Int) = (((row + R) * W : Nat) : Int) := by push_cast; rfl
      have e2 : (R : Int) * (pw : Int) = ((R * pw : Nat) : Int) := by push_cast; rfl
      have e3 : ((R : Int) + 1) * (pw : Int) = (((R + 1) * pw : Nat) : Int) := by push_cast; rfl
      have v1 : IntKind.i64.wrap ((row : Int) + (R : Int)) = (row : Int) + (R : Int) := IntWalk.i64_in _ (by omega)
      have v2 : IntKind.i64.wrap (((row : Int) + (R : Int)) * (W : Int)) = ((row : Int) + (R : Int)) * (W : Int) := IntWalk.i64_in _ (by omega)
      have v3 : IntKind.i64.wrap (((row : Int) + (R : Int)) * (W : Int) + (col : Int)) = (((row + R) * W + col : Nat) : Int) := by rw [IntWalk.i64_in _ (by omega)]; push_cast; rfl
      have v4 : IntKind.i64.wrap ((R : Int) * (pw : Int)) = ((R * pw : Nat) : Int) := by rw [e2]; exact IntWalk.i64_in _ (by omega)
      have v5 : IntKind.i64.wrap ((R : Int) + 1) = (R : Int) + 1 := IntWalk.i64_in _ (by omega)
      have v6 : IntKind.i64.wrap (((R : Int) + 1) * (pw : Int)) = (((R + 1) * pw : Nat) : Int) := by rw [e3]; exact IntWalk.i64_in _ (by omega)
      have HN := Lib.hid (stN_splice W k pw pk row col R hc hil hpl)
      generalize hO : (row + R) * W + col = off at *
      generalize hA : R * pw = lo at *
      generalize hB : (R + 1) * pw = hi at *
      have s1 : hi ≤ lo + pw := by omega
      have s2 : lo + pw ≤ hi := by omega
      have s3 : off + pw ≤ k.length := by omega
      have HA := Lib.hid hA; have HBB := Lib.hid hB; have HOO := Lib.hid hO
      clear e1 e2 e3 hm hm64 hkl hsm hpm hrow hpk64 hps hA hB hO hil
      have hcl : ((pk.drop lo).take pw).length = pw := by simp; omega
      have HC1 := Lib.hid (show ((pk.drop lo).take pw).length = Nat.min (hi - lo) (k.length - off) from by
        rw [hcl]; show pw = min (hi - lo) (k.length - off); omega)
      have HC2 := Lib.hid (show ∀ (j : Nat) (h : j < ((pk.drop lo).take pw).length), wr.drew.cell? ((ad'.add lo).add j) = some (.int .i64 ((pk.drop lo).take pw)[j]) from fun j h => by
        obtain ⟨ad2, e, h1⟩ := (HR'.out.up (below_drew J.below)).at_ (lo + j) (by omega)
        cases e
        rw [Go.Deep.add_add, h1]
        simp)
      have HC3 := Lib.hid (show off + ((pk.drop lo).take pw).length ≤ (stN W k pw pk row col R 0).length from by rw [hcl, stN_length]; exact s3)
      clear hcl
      have hc1 : ¬ c1 = off := by omega
      have hc2 : ¬ c' = lo := by omega
      have i1 : (off : Int) ≤ (k.length : Int) := by omega
      have i2 : (lo : Int) ≤ (hi : Int) := by omega
      have i3 : (hi : Int) ≤ (c' : Int) := by omega
      have i4 : (hi : Int) ≤ (pk.length : Int) := by omega
      go_wp2_with fail
      go_region_held3 (fun w' => w'.cell? ⟨w1.heap.size, 2, none⟩ = some (.slice (some ⟨g, 0, none⟩) k.length c1) ∧ w'.cell? ⟨w.heap.size, 0, none⟩ = some (.int .i64 W) ∧ w'.cell? ⟨w.heap.size + 1, 0, none⟩ = some (.int .i64 pw) ∧ w'.cell? ⟨w.heap.size + 1, 2, none⟩ = some (.slice (some ad') pk.length c'))
        (first | go_keep | exact ⟨(blk_cell (K1.out w1.heap.size g9 J.b9) 2).trans rfl, (blk_cell (K1.out _ g0 J.b0) 0).trans rfl, (blk_cell (K1.out _ g1 J.b1) 0).trans rfl, (blk_cell (K1.out _ g1 J.b1) 2).trans rfl⟩)
        (first | (refine step_copy_int (by rfl) _ _ _ _ (by rfl) Try.underlying22 (by kernel_rfl) g off _ _ (ad'.add lo) _ _ (by rfl) (by rfl) _ _ _ _ _ J.own.drew HC1.out HC2.out HC3.out ?_; intro w2 ho2 hg2'; have HO2 := Lib.hid ho2; have HGR := Lib.hid hg2'; have K1 := Lib.hid (keep_of hg2'); clear ho2 hg2'))
      go_wp2
      go_roundw
      case rel =>
        refine ⟨R + 1, by omega, by go_num, { b0 := K1.out _ g0 J.b0, b1 := K1.out _ g1 J.b1, b2 := K1.out _ g2 J.b2, b9 := K1.out _ g9 J.b9, lt9 := J.lt9, own := ?_, ne9 := J.ne9, below := (below_drew J.below).grown HGR.out (below_drew J.below).size (fun b e => by injection e with e; omega) }⟩
        rw [HN.out]
        exact HO2.out
      case measure => simp [intOf]; omega
    · have hRe : R = ph := by omega
      subst hRe
      obtain ⟨⟨o0, o1, o2⟩, of_, ol⟩ := box3 J.b9
      obtain ⟨⟨r0, r1, r2⟩, rf, rl⟩ := box3 J.b2
      have l9 := J.lt9
      go_wp2
      refine bodyPost_ret (v := .agg #[.int .i64 W, .int .i64 H, .slice A1 k.length c1]) (by simp [results, Try.results123, go_sem, r0, r1, r2, rf]) rfl ⟨A1, c1, ?_, ?_, ?_⟩
      · rw [putN_length]
      · rw [putN_length]
        refine OwnI.weaken (base := w.heap.size + 3) ?_ (by omega)
        refine OwnI.setc (OwnI.setc (OwnI.setc J.own ?_ _) ?_ _) ?_ _ <;> omega
      · exact below_setc (below_setc (below_setc J.below (by omega)) (by omega)) (by omega)
end Go.Proofs.Ytbandmcdkcfpiaa
