/- Rows of ints: copied, compared, marked, held. -/
import Derived.Test.YtbandmcdkcfpiaaOwn
import Derived.Deep.RegionHeld3
namespace Go.Proofs.Ytbandmcdkcfpiaa
open Go.RowKit Go.Proofs.YtbandmcdkcfpiaaW.PrintWords
set_option linter.unusedVariables false
set_option linter.unusedSimpArgs false

theorem below_setc' {w W : World} {B : Nat} (h : Below B w W) {b o : Nat} (hb : B ≤ b) {v : Value} : Below B w (W.setCell ⟨b, o, none⟩ v) := h.setCell hb v
def szN (n left : Int) : Int := if left - n < 0 then -1 else left - n
theorem take_all (xs : List Int) : xs.take xs.length = xs := List.take_length
theorem take_set (xs : List Int) (j n : Nat) (h : j < xs.length) (hn : n = xs.length) : (xs.take j ++ List.replicate (n - j) 0).set j xs[j] = xs.take (j + 1) ++ List.replicate (n - (j + 1)) 0 := by
  subst hn
  apply List.ext_getElem
  · simp; omega
  · intro i h1 h2
    rw [List.getElem_set]
    by_cases e : j = i
    · subst e
      rw [if_pos rfl, List.getElem_append_left (by simp; omega)]
      simp
    · rw [if_neg e, List.getElem_append, List.getElem_append]
      by_cases h3 : i < j
      · have h4 : i < min j xs.length := by omega
        have h5 : i < min (j + 1) xs.length := by omega
        simp [h4, h5]
      · have h4 : ¬ i < min j xs.length := by omega
        have h5 : ¬ i < min (j + 1) xs.length := by omega
        simp [h4, h5]
/-- the marks k, k+1, .. -/
def marks (k n : Nat) : List Int := (List.range n).map fun i => ((k + i : Nat) : Int)
theorem marks_length (k n : Nat) : (marks k n).length = n := by simp [marks]

set_option maxHeartbeats 400000 in
theorem szIntS_any (n : Nat) (left : Int) (A : Option Addr) (c : Nat) (w : World) (hn : n ≤ 17592186043904) (h0 : -1 ≤ left) (h1 : left ≤ 1048576) :
    Calls Try.prog 118 #[.slice A n c, .int .i64 left] w fun e w' => e = .returned (.int .i64 (szN n left)) ∧ w = w' := by
  go_enter Try.func118, Try.ntmps118
  go_wp2
  all_goals go_ret
  all_goals refine ⟨?_, rfl⟩
  all_goals (simp [szN]; try omega)

set_option maxHeartbeats 800000 in
theorem toIntS_any (xs : List Int) (A : Option Addr) (c : Nat) (w : World) (hR : RdI w A c xs) :
    Calls Try.prog 34 #[.slice A xs.length c] w (RetI w xs) := by
  have hl := hR.len
  have hmk := print_make (P := Try.prog) 22 3 .i64 8 Try.underlying22 infoInt (by decide) xs.length (by omega)
  have HR := Lib.hid hR; clear hR
  go_enter Try.func34, Try.ntmps34
  go_wp2
  go_loopw [4] (fun s4 wr => ∃ j : Nat, j ≤ xs.length ∧ s4 = .int .i64 j ∧ OwnI wr w.heap.size (.slice (some ⟨w.heap.size, 0, none⟩) xs.length xs.length) (xs.take j ++ List.replicate (xs.length - j) 0) ∧ Below w.heap.size w wr) (fun s4 _ => xs.length - (intOf s4).toNat)
  case atStart =>
    refine ⟨0, Nat.zero_le _, rfl, ⟨?_, by simp; exact hl⟩, below_alloc (Below.refl _ w) _⟩
    simpa using own_made w w.heap.size 3 .i64 xs.length (Nat.le_refl _) (by omega)
  case round =>
    obtain ⟨j, hj, rfl, ho, hb⟩ := hrel
    have HO := Lib.hid ho
    have HB := Lib.hid hb
    clear ho hb
    by_cases hlt : j < xs.length
    · have hltz : (j : Int) < (xs.length : Int) := by omega
      obtain ⟨ad, rfl, hcell⟩ := (HR.out.up HB.out).at_ j hlt
      obtain ⟨hs1, hs2⟩ := HO.out.cell j (by simp; omega)
      have HS := Lib.hid (take_set xs j xs.length hlt rfl)
      generalize xs[j] = y at *
      go_wp2
      go_roundw
      case rel =>
        refine ⟨j + 1, by omega, by go_num, ?_, below_setc HB.out (Nat.le_refl _)⟩
        rw [← HS.out]
        exact HO.out.store _ _
      case measure => simp [intOf]; omega
    · have hk' : j = xs.length := by omega
      subst hk'
      go_wp2
      go_ret
      have ho := HO.out
      simp at ho
      exact ⟨_, _, rfl, ho, HB.out⟩

theorem eq_take_succ {xs ys : List Int} (j : Nat) (h1 : j < xs.length) (h2 : j < ys.length) (h : xs.take j = ys.take j) (e : xs[j] = ys[j]) : xs.take (j + 1) = ys.take (j + 1) := by
  rw [List.take_succ_eq_append_getElem h1, List.take_succ_eq_append_getElem h2, h, e]

set_option maxHeartbeats 800000 in
theorem eqIntS_any (xs ys : List Int) (A B : Option Addr) (c d : Nat) (w : World) (hR : RdI w A c xs) (hR' : RdI w B d ys) :
    Calls Try.prog 36 #[.slice A xs.length c, .slice B ys.length d] w fun e w' => e = .returned (.bool (decide (xs = ys))) ∧ Below w.heap.size w w' := by
  have hl := hR.len
  have hl' := hR'.len
  have HR := Lib.hid hR; clear hR
  have HR' := Lib.hid hR'; clear hR'
  by_cases hn : xs.length = ys.length
  · have hnz : (xs.length : Int) = (ys.length : Int) := by omega
    have HN := Lib.hid hn; clear hn
    go_enter Try.func36, Try.ntmps36
    go_wp2
    go_loopw [5] (fun s5 wr => ∃ j : Nat, j ≤ xs.length ∧ s5 = .int .i64 j ∧ xs.take j = ys.take j ∧ Below w.heap.size w wr) (fun s5 _ => xs.length - (intOf s5).toNat)
    case atStart => exact ⟨0, Nat.zero_le _, rfl, rfl, Below.refl _ _⟩
    case round =>
      obtain ⟨j, hj, rfl, he, hb⟩ := hrel
      have HE := Lib.hid he
      have HB := Lib.hid hb
      clear he hb
      by_cases hlt : j < xs.length
      · have hltz : (j : Int) < (ys.length : Int) := by omega
        have hltz' : (j : Int) < (xs.length : Int) := by omega
        have hlt' : j < ys.length := by omega
        obtain ⟨ad, rfl, hcell⟩ := (HR.out.up HB.out).at_ j hlt
        obtain ⟨bd, rfl, hcell'⟩ := (HR'.out.up HB.out).at_ j hlt'
        have HC := Lib.hid hcell
        have HC' := Lib.hid hcell'
        have HS := Lib.hid (fun e => eq_take_succ j hlt hlt' HE.out e)
        have HF := Lib.hid (fun (e : xs[j] ≠ ys[j]) => show decide (xs = ys) = false from decide_eq_false (fun h => e (by subst h; rfl)))
        generalize xs[j] = y at *
        generalize ys[j] = z at *
        by_cases hyz : y = z
        · go_wp2_with fail
          go_region_held3 (fun w' => w'.cell? (ad.add j) = some (.int .i64 y) ∧ w'.cell? (bd.add j) = some (.int .i64 z))
            (first | go_keep | exact ⟨hcell, hcell'⟩)
            (fail)
          go_wp2
          go_roundw
          case rel => exact ⟨j + 1, by omega, by go_num, HS.out hyz, below_drew HB.out⟩
          case measure => simp [intOf]; omega
        · go_wp2_with fail
          go_region_held3 (fun w' => w'.cell? (ad.add j) = some (.int .i64 y) ∧ w'.cell? (bd.add j) = some (.int .i64 z))
            (first | go_keep | exact ⟨hcell, hcell'⟩)
            (fail)
          go_wp2
          go_ret
          exact ⟨by rw [HF.out hyz]; rfl, below_drew HB.out⟩
      · have hk' : j = xs.length := by omega
        subst hk'
        have F := Lib.hid (show decide (xs = ys) = true from decide_eq_true (by
          have := HE.out
          rw [List.take_length, HN.out, List.take_length] at this
          exact this))
        go_wp2
        go_ret
        exact ⟨by rw [F.out]; rfl, HB.out⟩
  · have hnz : ¬ (xs.length : Int) = (ys.length : Int) := by omega
    have F := Lib.hid (show decide (xs = ys) = false from decide_eq_false (fun h => hn (by subst h; rfl)))
    go_enter Try.func36, Try.ntmps36
    go_wp2
    go_ret
    exact ⟨by rw [F.out]; rfl, Below.refl _ _⟩

theorem marks_zero (k : Nat) : marks k 0 = [] := rfl
theorem marks_row (k n : Nat) (j : Nat) (h : j < n) (xs : List Int) (hx : xs.length = n) : (marks k j ++ xs.drop j).set j ((k + j : Nat) : Int) = marks k (j + 1) ++ xs.drop (j + 1) := by
  apply List.ext_getElem
  · simp [marks]; omega
  · intro i h1 h2
    simp only [List.getElem_set, List.getElem_append, marks, List.length_map, List.length_range, List.getElem_map, List.getElem_range, List.getElem_drop]
    by_cases e : j = i
    · subst e; simp
    · by_cases h3 : i < j
      · simp [e, h3, show i < j + 1 by omega]
      · simp only [e, h3, show ¬ i < j + 1 by omega, if_false, dite_false]
        congr 1; omega
/-- what is left as it was when marks are written into the row at A -/
structure Marked (w w' : World) (base : Nat) (A : Option Addr) : Prop where
  below : Below base w w'
  keep : ∀ b x, A ≠ some ⟨b, 0, none⟩ → w.heap[b]? = some x → w'.heap[b]? = some x

set_option maxHeartbeats 800000 in
theorem markIntS_any (xs : List Int) (k base : Nat) (A : Option Addr) (c : Nat) (w : World) (hO : OwnI w base (.slice A xs.length c) xs) (hk : k ≤ 17592186043904) :
    Calls Try.prog 37 #[.slice A xs.length c, .int .i64 k] w fun e w' => e = .returned (.int .i64 ((k + xs.length : Nat) : Int)) ∧ OwnI w' base (.slice A xs.length c) (marks k xs.length) ∧ Marked w w' base A := by
  have hl := hO.2
  have HO := Lib.hid hO; clear hO
  go_enter Try.func37, Try.ntmps37
  go_wp2
  go_loopw [1, 5] (fun s1 s5 wr => ∃ j : Nat, j ≤ xs.length ∧ s5 = .int .i64 j ∧ s1 = .int .i64 ((k + j : Nat) : Int) ∧ OwnI wr base (.slice A xs.length c) (marks k j ++ xs.drop j) ∧ Marked w wr base A) (fun _ s5 _ => xs.length - (intOf s5).toNat)
  case atStart => exact ⟨0, Nat.zero_le _, rfl, rfl, by simpa [marks_zero] using HO.out, Below.refl _ _, fun _ _ _ h => h⟩
  case round =>
    obtain ⟨j, hj, rfl, rfl, ho, hm⟩ := hrel
    have HO2 := Lib.hid ho
    have HM := Lib.hid hm
    clear ho hm
    by_cases hlt : j < xs.length
    · have hltz : (j : Int) < (xs.length : Int) := by omega
      obtain ⟨g, rfl, hx, hg1, hg2⟩ := HO2.out.block (by simp; omega)
      clear hx
      obtain ⟨hs1, hs2⟩ := HO2.out.cell j (by simp [marks]; omega)
      have HS := Lib.hid (marks_row k xs.length j hlt xs rfl)
      generalize (marks k j ++ xs.drop j)[j]'(by simp [marks]; omega) = y at *
      have hkj : k + j ≤ 35184372087808 := by omega
      generalize hq : k + j = q at *
      have HQ := Lib.hid hq; clear hq
      go_wp2
      go_roundw
      case rel =>
        refine ⟨j + 1, by omega, by go_num, ?_, ?_, below_setc' HM.out.below hg1, fun b x hb hx => blk_far' (fun e => hb (by rw [e])) (HM.out.keep b x hb hx)⟩
        · have := HQ.out; simp only [Value.int.injEq, true_and]; go_num
        · rw [← HS.out]
          exact HO2.out.store _ _
      case measure => simp [intOf]; omega
    · have hk' : j = xs.length := by omega
      subst hk'
      go_wp2
      go_ret
      have ho := HO2.out
      simp at ho
      exact ⟨rfl, ho, HM.out⟩

set_option maxHeartbeats 800000 in
theorem heldIntS_any (n k : Nat) (A : Option Addr) (c : Nat) (w : World) (hR : RdI w A c (marks k n)) (hk : k ≤ 17592186043904) :
    Calls Try.prog 124 #[.slice A n c, .int .i64 k] w fun e w' => e = .returned (.int .i64 ((k + n : Nat) : Int)) ∧ w = w' := by
  have hl := hR.len
  rw [marks_length] at hl
  have HR := Lib.hid hR; clear hR
  go_enter Try.func124, Try.ntmps124
  go_wp2
  go_loop [1, 5] (fun s1 s5 => ∃ j : Nat, j ≤ n ∧ s5 = .int .i64 j ∧ s1 = .int .i64 ((k + j : Nat) : Int)) (fun _ s5 => n - (intOf s5).toNat)
  case atStart => exact ⟨0, Nat.zero_le _, rfl, rfl⟩
  case round =>
    obtain ⟨j, hj, rfl, rfl⟩ := hrel
    by_cases hlt : j < n
    · have hltz : (j : Int) < (n : Int) := by omega
      obtain ⟨ad, rfl, hcell0⟩ := HR.out.at_ j (by rw [marks_length]; exact hlt)
      have hcell : w.cell? (ad.add j) = some (.int .i64 ((k + j : Nat) : Int)) := by rw [hcell0]; simp [marks]
      clear hcell0
      have hkj : k + j ≤ 35184372087808 := by omega
      generalize hq : k + j = q at *
      have HQ := Lib.hid hq; clear hq
      go_wp2
      go_round
      case rel =>
        refine ⟨j + 1, by omega, by go_num, ?_⟩
        have := HQ.out; simp only [Value.int.injEq, true_and]; go_num
      case measure => simp [intOf]; omega
    · have hk' : j = n := by omega
      subst hk'
      go_wp2
      go_ret
      exact ⟨rfl, rfl⟩
end Go.Proofs.Ytbandmcdkcfpiaa
