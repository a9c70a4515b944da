/- The workshop: the program's step and the reference's are one (plain). -/
import Derived.Test.YtbgjlojnbdnoaaaShop6
namespace Go.Proofs.Ytbgjlojnbdnoaaa
open Go.RowKit
set_option linter.unusedVariables false
set_option linter.unusedSimpArgs false
theorem carpetOk_up {day d' looms : Int} {c : Cp} (h : day ≤ d') (hc : carpetOk day looms c = true) : carpetOk d' looms c = true := by
  simp only [carpetOk, Bool.and_eq_true, inB_iff] at hc ⊢
  exact ⟨⟨hc.1.1, by omega⟩, hc.2⟩
theorem okAt_up {day d' looms : Int} {xs : List Cp} {i : Nat} (h : day ≤ d') (hc : okAt day looms xs i = true) : okAt d' looms xs i = true := by
  unfold okAt at *
  split
  · rename_i c hx
    rw [hx] at hc
    simp only [Bool.and_eq_true] at hc ⊢
    exact ⟨carpetOk_up h hc.1, hc.2⟩
  · rfl
theorem good_up {day d' looms money : Int} {xs : List Cp} (h : day ≤ d') (h' : d' ≤ 4000) (hg : goodSh day looms money xs = true) : goodSh d' looms money xs = true := by
  obtain ⟨g1, g2, g3, g4, g5⟩ := goodSh_iff.1 hg
  rw [inB_iff] at g1
  exact goodSh_iff.2 ⟨inB_iff.2 (by omega), g2, g3, g4, fun j hj => okAt_up h (g5 j hj)⟩
theorem good_last {day looms money : Int} {xs : List Cp} {c : Cp} (hg : goodSh day looms money (xs ++ [c]) = true) : carpetOk day looms c = true := by
  have := okAt_carpet (i := xs.length) (by simp) ((goodSh_iff.1 hg).2.2.2.2 xs.length (by simp))
  simpa using this
theorem good_set {day looms money : Int} {xs : List Cp} {c : Cp} {i : Nat} (hi : i < xs.length) (hg : goodSh day looms money (xs.set i c) = true) : carpetOk day looms c = true := by
  have := okAt_carpet (i := i) (by simpa using hi) ((goodSh_iff.1 hg).2.2.2.2 i (by simpa using hi))
  simpa using this
theorem okAt_free' {day looms : Int} {xs : List Cp} {i k : Nat} {c d : Cp} (h : okAt day looms xs i = true) (hc : xs[i]? = some c) (hk : k < i) (hd : xs[k]? = some d) : ¬ (0 < c.loom ∧ d.loom = c.loom) := by
  simp only [okAt, hc, Bool.and_eq_true, List.all_eq_true] at h
  have := h.2 k (by simpa using hk)
  simp only [freeAt, hd] at this
  intro hh
  simp [hh.1, hh.2] at this
theorem good_free {day looms money val : Int} {xs : List Cp} {y c : Cp} {i : Nat} (hi : i < xs.length) (hy : xs[i] = y) (hs : y.state = 0) (hcl : c.loom = val) (hv : 1 ≤ val) (hg : goodSh day looms money (xs.set i c) = true) : idxF (onL val) xs < 0 := by
  have g5 := (goodSh_iff.1 hg).2.2.2.2
  have : idxF (onL val) xs = -1 := idxF_miss _ _ fun j hj => by
    by_cases e : j = i
    · subst e; simp [onL, hy, hs]
    · have hne : ¬ xs[j].loom = val := by
        intro hl
        by_cases hlt : j < i
        · exact okAt_free' (i := i) (k := j) (c := c) (d := xs[j]) (g5 i (by simpa using hi)) (by simp [hi]) hlt (by rw [List.getElem?_set_ne (by omega)]; simp [hj]) ⟨by omega, by rw [hl, hcl]⟩
        · exact okAt_free' (i := j) (k := i) (c := xs[j]) (d := c) (g5 j (by simpa using hj)) (by rw [List.getElem?_set_ne (by omega)]; simp [hj]) (by omega) (by simp [hi]) ⟨by omega, by rw [hl, hcl]⟩
      simp [onL, hne]
  rw [this]; decide
theorem stepR_core {day looms money : Int} {xs : List Cp} {kind val : Int} {i : Nat} {y : Cp} (k1 : ¬ kind = 1) (k2 : ¬ kind = 2) (hv : validI ⟨kind, i, val⟩ = true) (hi : i < xs.length) (hy : xs[i] = y) :
    stepR day looms money xs ⟨kind, i, val⟩ = if (canCh day xs ⟨kind, i, val⟩ y && goodSh day looms (if kind = 7 then money + val else money) (xs.set i (chC day ⟨kind, i, val⟩ y))) = true then (true, day, looms, (if kind = 7 then money + val else money), xs.set i (chC day ⟨kind, i, val⟩ y)) else (false, 0, 0, 0, []) := by
  have hin : inB (i : Int) 0 ((xs.length : Int) - 1) = true := inB_iff.2 (by omega)
  have hc : cand day money xs ⟨kind, i, val⟩ = if canCh day xs ⟨kind, i, val⟩ y = true then some (day, (if kind = 7 then money + val else money), xs.set i (chC day ⟨kind, i, val⟩ y)) else none := by
    unfold cand
    rw [if_neg (by rw [hv]; decide), if_neg k1, if_neg k2, if_neg (by show ¬ inB (i : Int) 0 ((xs.length : Int) - 1) = false; rw [hin]; decide)]
    simp only [Int.toNat_natCast, List.getElem?_eq_getElem hi, hy]
  unfold stepR
  rw [hc]
  cases canCh day xs ⟨kind, i, val⟩ y with
  | true => simp only [if_true, Bool.true_and]
  | false => simp only [Bool.false_and, if_false]; rfl
/-- what the reference gives, in the program's words -/
def specR (day looms money : Int) (xs : List Cp) (x : Sp) : Bool × Int × Int × Int × List Cp :=
  if specSt looms xs x = true then (if (specMk day looms money xs x).1 = true then (true, (specMk day looms money xs x).2.1, looms, (specMk day looms money xs x).2.2.1, (specMk day looms money xs x).2.2.2) else (false, 0, 0, 0, [])) else (false, 0, 0, 0, [])
theorem specR_core {day looms money : Int} {xs : List Cp} {kind val : Int} {i : Nat} {y : Cp} (k1 : ¬ kind = 1) (k2 : ¬ kind = 2) (hs : specSt looms xs ⟨kind, i, val⟩ = true) (h7 : ¬ (kind = 7 ∧ 1000000 - money < val)) (hi : i < xs.length) (hy : xs[i] = y) :
    specR day looms money xs ⟨kind, i, val⟩ = if (okS day ⟨kind, i, val⟩ y && goodSh day looms (if kind = 7 then money + val else money) (xs.set i (chS day ⟨kind, i, val⟩ y))) = true then (true, day, looms, (if kind = 7 then money + val else money), xs.set i (chS day ⟨kind, i, val⟩ y)) else (false, 0, 0, 0, []) := by
  have hm : specMk day looms money xs ⟨kind, i, val⟩ = (okS day ⟨kind, i, val⟩ y && goodSh day looms (if kind = 7 then money + val else money) (xs.set i (chS day ⟨kind, i, val⟩ y)), day, (if kind = 7 then money + val else money), xs.set i (chS day ⟨kind, i, val⟩ y)) := by
    unfold specMk
    rw [if_neg k1, if_neg k2, if_neg h7]
    simp only [Int.toNat_natCast, List.getElem?_eq_getElem hi, hy]
  unfold specR
  rw [if_pos hs, hm]
theorem spec_same {day looms money : Int} {xs : List Cp} {x : Sp} (hg : goodSh day looms money xs = true) : specR day looms money xs x = stepR day looms money xs x := by
  obtain ⟨g1, g2, g3, g4, g5⟩ := goodSh_iff.1 hg
  rw [inB_iff] at g1 g2 g3
  obtain ⟨kind, car, val⟩ := x
  by_cases k1 : kind = 1
  · subst k1
    have e1 : specSt looms xs ⟨1, car, val⟩ = validI ⟨1, car, val⟩ := by simp [specSt, validI]
    cases hv : validI ⟨1, car, val⟩ with
    | false => rw [specR, if_neg (by rw [e1, hv]; decide), stepR_none (by simp [cand, hv])]
    | true =>
      have hc : cand day money xs ⟨1, car, val⟩ = some (day + val, money, xs) := by simp [cand, hv]
      have hv1 : 1 ≤ val := by simp [validI] at hv; exact hv.2
      rw [specR, if_pos (by rw [e1, hv])]
      by_cases h : 4000 - day < val
      · have hm : specMk day looms money xs ⟨1, car, val⟩ = (false, day, money, xs) := by simp [specMk, h]
        rw [hm, stepR_bad hc (by rw [goodSh, inB_not.2 (by omega)]; rfl)]; rfl
      · have hm : specMk day looms money xs ⟨1, car, val⟩ = (true, day + val, money, xs) := by simp [specMk, h]
        rw [hm, stepR_good hc (good_up (by omega) (by omega) hg)]; rfl
  by_cases k2 : kind = 2
  · subst k2
    cases hv : validI ⟨2, car, val⟩ with
    | false =>
      have e1 : specSt looms xs ⟨2, car, val⟩ = false := by
        simp [specSt, validI, inB] at hv ⊢
        intro h; have := hv h; intro; omega
      rw [specR, if_neg (by rw [e1]; decide), stepR_none (by simp [cand, hv])]
    | true =>
      have hc : cand day money xs ⟨2, car, val⟩ = some (day, money, xs ++ [⟨val, 0, 0, 0, day⟩]) := by simp [cand, hv]
      have hv1 : car = 0 ∧ 1 ≤ val := by simp [validI] at hv; exact hv
      by_cases h : val ≤ 500
      · have e1 : specSt looms xs ⟨2, car, val⟩ = true := by simp [specSt, inB, hv1.1, hv1.2, h]
        have hm : specMk day looms money xs ⟨2, car, val⟩ = (goodSh day looms money (xs ++ [⟨val, 0, 0, 0, day⟩]), day, money, xs ++ [⟨val, 0, 0, 0, day⟩]) := by simp [specMk]
        rw [specR, if_pos e1, hm]
        cases hgg : goodSh day looms money (xs ++ [⟨val, 0, 0, 0, day⟩]) with
        | true => rw [stepR_good hc hgg]; rfl
        | false => rw [stepR_bad hc hgg]; rfl
      · have e1 : specSt looms xs ⟨2, car, val⟩ = false := by simp [specSt, inB]; intro _ _; omega
        rw [specR, if_neg (by rw [e1]; decide)]
        cases hgg : goodSh day looms money (xs ++ [⟨val, 0, 0, 0, day⟩]) with
        | true =>
          have := good_last hgg
          simp [carpetOk, inB] at this
          omega
        | false => rw [stepR_bad hc hgg]
  cases hin : inB car 0 ((xs.length : Int) - 1) with
  | false =>
    have e1 : specSt looms xs ⟨kind, car, val⟩ = false := by simp [specSt, k1, k2, hin]
    rw [specR, if_neg (by rw [e1]; decide), stepR_none (by simp [cand, k1, k2, hin])]
  | true =>
    have q0 := inB_iff.1 hin
    obtain ⟨i, rfl⟩ : ∃ i : Nat, car = i := ⟨car.toNat, by omega⟩
    have hi : i < xs.length := by omega
    obtain ⟨y, hy⟩ : ∃ y, xs[i] = y := ⟨_, rfl⟩
    have none_of : validI ⟨kind, i, val⟩ = false → stepR day looms money xs ⟨kind, i, val⟩ = (false, 0, 0, 0, []) := fun h => stepR_none (by simp [cand, h])
    have spec_of : specSt looms xs ⟨kind, i, val⟩ = false → specR day looms money xs ⟨kind, i, val⟩ = (false, 0, 0, 0, []) := fun h => by rw [specR, if_neg (by rw [h]; decide)]
    -- the two are one where both may be asked for
    have both : validI ⟨kind, i, val⟩ = true → specSt looms xs ⟨kind, i, val⟩ = true → ¬ (kind = 7 ∧ 1000000 - money < val) → chS day ⟨kind, i, val⟩ y = chC day ⟨kind, i, val⟩ y →
        (∀ m, goodSh day looms m (xs.set i (chC day ⟨kind, i, val⟩ y)) = true → okS day ⟨kind, i, val⟩ y = canCh day xs ⟨kind, i, val⟩ y) → specR day looms money xs ⟨kind, i, val⟩ = stepR day looms money xs ⟨kind, i, val⟩ := fun hv hs h7 hch hok => by
      rw [stepR_core k1 k2 hv hi hy, specR_core k1 k2 hs h7 hi hy, hch]
      cases hgg : goodSh day looms (if kind = 7 then money + val else money) (xs.set i (chC day ⟨kind, i, val⟩ y)) with
      | true => rw [hok _ hgg]
      | false => simp only [Bool.and_false]
    by_cases k3 : kind = 3
    · subst k3
      by_cases hv1 : 1 ≤ val
      · have hv : validI ⟨3, i, val⟩ = true := by simp [validI, hv1]
        by_cases hl : val ≤ looms
        · refine both hv (by simp [specSt, hin]; simp [inB, hv1, hl]) (by omega) (by simp [chS, chC]) fun m hgg => ?_
          by_cases h0 : y.state = 0
          · have := good_free (val := val) hi hy h0 (by simp [chC]) hv1 hgg
            simp [okS, canCh, h0, this]
          · simp [okS, canCh, h0]
        · rw [spec_of (by simp [specSt, hin, inB]; intro _; omega), stepR_core k1 k2 hv hi hy]
          rw [if_neg]
          intro hh
          simp only [Bool.and_eq_true] at hh
          have := good_set hi hh.2
          simp [carpetOk, chC, inB] at this
          omega
      · have hv : validI ⟨3, i, val⟩ = false := by simp [validI]; omega
        rw [none_of hv, spec_of (by simp [specSt, hin, inB]; intro h; omega)]
    by_cases k4 : kind = 4
    · subst k4
      have e1 : specSt looms xs ⟨4, i, val⟩ = validI ⟨4, i, val⟩ := by simp [specSt, validI, hin]
      cases hv : validI ⟨4, i, val⟩ with
      | false => rw [none_of hv, spec_of (e1.trans hv)]
      | true =>
        refine both hv (e1.trans hv) (by omega) (by simp [chS, chC]) fun m hgg => ?_
        have := good_set hi hgg
        simp [carpetOk, chC, inB] at this
        have h2 : val ≤ y.rows - y.made := by omega
        simp [okS, canCh, h2]
    by_cases k5 : kind = 5
    · subst k5
      have e1 : specSt looms xs ⟨5, i, val⟩ = validI ⟨5, i, val⟩ := by simp [specSt, validI, hin]
      cases hv : validI ⟨5, i, val⟩ with
      | false => rw [none_of hv, spec_of (e1.trans hv)]
      | true =>
        refine both hv (e1.trans hv) (by omega) (by simp [chS, chC]) fun m hgg => ?_
        have := good_set hi hgg
        simp [carpetOk, chC, inB] at this
        have h2 : y.made = y.rows := by omega
        simp [okS, canCh, h2]
    by_cases k6 : kind = 6
    · subst k6
      have e1 : specSt looms xs ⟨6, i, val⟩ = validI ⟨6, i, val⟩ := by simp [specSt, validI, hin]
      cases hv : validI ⟨6, i, val⟩ with
      | false => rw [none_of hv, spec_of (e1.trans hv)]
      | true => exact both hv (e1.trans hv) (by omega) (by simp [chS, chC]) fun m hgg => by simp [okS, canCh]
    by_cases k7 : kind = 7
    · subst k7
      have e1 : specSt looms xs ⟨7, i, val⟩ = validI ⟨7, i, val⟩ := by simp [specSt, validI, hin]
      cases hv : validI ⟨7, i, val⟩ with
      | false => rw [none_of hv, spec_of (e1.trans hv)]
      | true =>
        by_cases hm : 1000000 - money < val
        · have hmk : specMk day looms money xs ⟨7, i, val⟩ = (false, day, money, xs) := by simp [specMk, hm]
          have h8 : stepR day looms money xs ⟨7, i, val⟩ = (false, 0, 0, 0, []) := by
            rw [stepR_core k1 k2 hv hi hy, if_neg]
            intro hh
            simp only [Bool.and_eq_true, if_true] at hh
            have := (goodSh_iff.1 hh.2).2.2.1
            rw [inB_iff] at this
            omega
          rw [specR, if_pos (e1.trans hv), hmk, h8]; rfl
        · exact both hv (e1.trans hv) (fun h => hm h.2) (by simp [chS, chC]) fun m hgg => by simp [okS, canCh]
    · have hv : validI ⟨kind, i, val⟩ = false := by simp [validI, k1, k2, k3, k4, k5, k6, k7]
      rw [none_of hv, spec_of (by simp [specSt, k1, k2, k3, k4, k5, k6, k7])]
end Go.Proofs.Ytbgjlojnbdnoaaa
