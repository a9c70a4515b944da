/- Plain lists: a part of a chart is put in its place. -/
import Derived.Test.YtbandmcdkcfpiaaBase
import Derived.Laws.CopyOwn
namespace Go.Proofs.Ytbandmcdkcfpiaa
set_option linter.unusedVariables false
set_option linter.unusedSimpArgs false

/-- the knots of a chart of width W when the rows below R of a part, and the columns below C of its row R, have been put at (row, col) -/
def stN (W : Nat) (k : List Int) (pw : Nat) (pk : List Int) (row col R C : Nat) : List Int :=
  (List.range k.length).map fun i => if row ≤ i / W ∧ col ≤ i % W ∧ i % W < col + pw ∧ (i / W < row + R ∨ (i / W = row + R ∧ i % W < col + C)) then pk.getD ((i / W - row) * pw + (i % W - col)) 0 else k.getD i 0
/-- .. when all of the part, of height ph, has been put -/
def putN (W : Nat) (k : List Int) (pw ph : Nat) (pk : List Int) (row col : Nat) : List Int := stN W k pw pk row col ph 0
theorem stN_length (W k pw pk row col R C) : (stN W k pw pk row col R C).length = k.length := by simp [stN]
theorem putN_length (W k pw ph pk row col) : (putN W k pw ph pk row col).length = k.length := by simp [putN, stN]
theorem idx_iff {W r c i : Nat} (hc : c < W) : i = r * W + c ↔ i / W = r ∧ i % W = c := by
  constructor
  · rintro rfl
    constructor
    · rw [Nat.mul_comm, Nat.mul_add_div (by omega), Nat.div_eq_of_lt hc]; rfl
    · rw [Nat.mul_comm, Nat.mul_add_mod, Nat.mod_eq_of_lt hc]
  · rintro ⟨rfl, rfl⟩
    rw [Nat.mul_comm]; exact (Nat.div_add_mod i W).symm
theorem stN_zero (W k pw pk row col) : stN W k pw pk row col 0 0 = k := by
  apply List.ext_getElem
  · simp [stN]
  · intro i h1 h2
    simp only [stN, List.getElem_map, List.getElem_range]
    rw [if_neg (by omega)]
    simp [List.getD_eq_getElem?_getD, List.getElem?_eq_getElem h2]
theorem stN_row (W k pw pk row col R) : stN W k pw pk row col R pw = stN W k pw pk row col (R + 1) 0 := by
  unfold stN
  apply List.map_congr_left
  intro i _
  have : (row ≤ i / W ∧ col ≤ i % W ∧ i % W < col + pw ∧ (i / W < row + R ∨ (i / W = row + R ∧ i % W < col + pw))) ↔ (row ≤ i / W ∧ col ≤ i % W ∧ i % W < col + pw ∧ (i / W < row + (R + 1) ∨ (i / W = row + (R + 1) ∧ i % W < col + 0))) := by omega
  simp only [this]
theorem stN_next (W k pw pk row col R C) (hC : C < pw) (hW : col + pw ≤ W) (hl : (row + R) * W + (col + C) < k.length) :
    stN W k pw pk row col R (C + 1) = (stN W k pw pk row col R C).set ((row + R) * W + (col + C)) (pk.getD (R * pw + C) 0) := by
  apply List.ext_getElem
  · simp [stN]
  · intro i h1 h2
    have hi : i < k.length := by simpa [stN] using h1
    rw [List.getElem_set]
    have hiff := idx_iff (W := W) (r := row + R) (c := col + C) (i := i) (by omega)
    by_cases e : (row + R) * W + (col + C) = i
    · rw [if_pos e]
      obtain ⟨h3, h4⟩ := hiff.1 e.symm
      simp only [stN, List.getElem_map, List.getElem_range]
      rw [if_pos (by omega), h3, h4]
      congr 1
      rw [show row + R - row = R from by omega, show col + C - col = C from by omega]
    · rw [if_neg e]
      have h5 : ¬ (i / W = row + R ∧ i % W = col + C) := fun h => e (hiff.2 h).symm
      simp only [stN, List.getElem_map, List.getElem_range]
      have : (row ≤ i / W ∧ col ≤ i % W ∧ i % W < col + pw ∧ (i / W < row + R ∨ (i / W = row + R ∧ i % W < col + (C + 1)))) ↔ (row ≤ i / W ∧ col ≤ i % W ∧ i % W < col + pw ∧ (i / W < row + R ∨ (i / W = row + R ∧ i % W < col + C))) := by omega
      simp only [this]
theorem splice_get (L cs : List Int) (off i : Nat) (h : off + cs.length ≤ L.length) (hi : i < (splice L off cs).length) : (splice L off cs)[i] = if off ≤ i ∧ i < off + cs.length then cs.getD (i - off) 0 else L.getD i 0 := by
  have hl := length_splice L off cs h
  have hi' : i < L.length := by omega
  have key : (splice L off cs)[i]? = some (if off ≤ i ∧ i < off + cs.length then cs.getD (i - off) 0 else L.getD i 0) := by
    unfold splice
    have h2 : (L.take off).length = off := by simp; omega
    rw [List.getElem?_append, h2]
    by_cases h1 : i < off
    · rw [if_pos h1, if_neg (by omega)]
      simp [List.getD_eq_getElem?_getD, List.getElem?_eq_getElem hi', List.getElem?_take, h1]
    · rw [if_neg h1, List.getElem?_append]
      by_cases h3 : i < off + cs.length
      · rw [if_pos (by omega), if_pos (by omega)]
        simp [List.getD_eq_getElem?_getD, List.getElem?_eq_getElem (show i - off < cs.length by omega)]
      · rw [if_neg (by omega), if_neg (by omega), List.getElem?_drop]
        have : off + cs.length + (i - off - cs.length) = i := by omega
        simp [List.getD_eq_getElem?_getD, this, List.getElem?_eq_getElem hi']
  rw [List.getElem?_eq_getElem hi] at key
  exact Option.some.inj key
theorem stN_splice (W k pw pk row col R) (hW : col + pw ≤ W) (hl : (row + R) * W + (col + pw) ≤ k.length) (hp : (R + 1) * pw ≤ pk.length) :
    stN W k pw pk row col (R + 1) 0 = splice (stN W k pw pk row col R 0) ((row + R) * W + col) ((pk.drop (R * pw)).take pw) := by
  have hps : (R + 1) * pw = R * pw + pw := by rw [Nat.add_mul, Nat.one_mul]
  have hc : ((pk.drop (R * pw)).take pw).length = pw := by simp; omega
  have hs : ((row + R) * W + col) + ((pk.drop (R * pw)).take pw).length ≤ (stN W k pw pk row col R 0).length := by rw [hc, stN_length]; omega
  apply List.ext_getElem
  · rw [length_splice _ _ _ hs, stN_length, stN_length]
  · intro i h1 h2
    rw [splice_get _ _ _ _ hs h2, hc]
    have hi : i < k.length := by simpa [stN] using h1
    have hg : (stN W k pw pk row col R 0).getD i 0 = (stN W k pw pk row col R 0)[i]'(by rw [stN_length]; exact hi) := by
      simp [List.getD_eq_getElem?_getD, List.getElem?_eq_getElem (show i < (stN W k pw pk row col R 0).length by rw [stN_length]; exact hi)]
    by_cases e : (row + R) * W + col ≤ i ∧ i < (row + R) * W + col + pw
    · rw [if_pos e]
      have hq := (idx_iff (W := W) (r := row + R) (c := i - (row + R) * W) (i := i) (by omega)).1 (by omega)
      simp only [stN, List.getElem_map, List.getElem_range]
      rw [if_pos (by omega), hq.1, hq.2]
      have e1 : (row + R - row) * pw + (i - (row + R) * W - col) = R * pw + (i - ((row + R) * W + col)) := by
        rw [show row + R - row = R from by omega]; omega
      rw [e1]
      have e2 : i - ((row + R) * W + col) < pw := by omega
      simp [List.getD_eq_getElem?_getD, List.getElem?_take, e2]
    · rw [if_neg e, hg]
      have h5 : ¬ (i / W = row + R ∧ col ≤ i % W ∧ i % W < col + pw) := by
        rintro ⟨h3, h4, h6⟩
        have := (idx_iff (W := W) (r := row + R) (c := i % W) (i := i) (by omega)).2 ⟨h3, rfl⟩
        omega
      simp only [stN, List.getElem_map, List.getElem_range]
      have : (row ≤ i / W ∧ col ≤ i % W ∧ i % W < col + pw ∧ (i / W < row + (R + 1) ∨ (i / W = row + (R + 1) ∧ i % W < col + 0))) ↔ (row ≤ i / W ∧ col ≤ i % W ∧ i % W < col + pw ∧ (i / W < row + R ∨ (i / W = row + R ∧ i % W < col + 0))) := by omega
      simp only [this]
end Go.Proofs.Ytbandmcdkcfpiaa
