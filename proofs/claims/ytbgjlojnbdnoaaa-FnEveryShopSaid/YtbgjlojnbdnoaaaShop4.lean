/- The workshop: a step of the program's, its meaning. -/
import Derived.Test.YtbgjlojnbdnoaaaShop3
namespace Go.Proofs.Ytbgjlojnbdnoaaa
open Go.RowKit
set_option linter.unusedVariables false
set_option linter.unusedSimpArgs false
section
variable {P : Program} {S : Slots} {w w0 : World} {X : List Nat} {L l l' : List Fct} {f g : Fct}
theorem SH.front2 (h : SH w0 X w L) (h1 : Rem L f l) (h2 : Rem l g l') : SH w0 X w (f :: g :: l') := h.perm (h1.perm.trans (List.Perm.cons _ h2.perm))
theorem SH.ne {a b : Nat} (h : SH w0 X w L) (h1 : Rem L f l) (h2 : Rem l g l') (hf : f.foot = some a) (hg : g.foot = some b) : a ≠ b := fun e => by
  have := (List.pairwise_cons.1 (h.front2 h1 h2).apart).1 g (.head _) a hf
  rw [hg, e] at this; exact this rfl
end
/-- the shop behind a step, if it is one that can be made -/
def cand (day money : Int) (xs : List Cp) (x : Sp) : Option (Int × Int × List Cp) :=
  if validI x = false then none else if x.kind = 1 then some (day + x.val, money, xs) else if x.kind = 2 then some (day, money, xs ++ [⟨x.val, 0, 0, 0, day⟩])
  else if inB x.car 0 ((xs.length : Int) - 1) = false then none else match xs[x.car.toNat]? with
    | some c => if canCh day xs x c = true then some (day, if x.kind = 7 then money + x.val else money, xs.set x.car.toNat (chC day x c)) else none
    | none => none
def stepR (day looms money : Int) (xs : List Cp) (x : Sp) : Bool × Int × Int × Int × List Cp := match cand day money xs x with
  | some (d, m, ys) => if goodSh d looms m ys = true then (true, d, looms, m, ys) else (false, 0, 0, 0, [])
  | none => (false, 0, 0, 0, [])
theorem stepR_none {day looms money : Int} {xs : List Cp} {x : Sp} (h : cand day money xs x = none) : stepR day looms money xs x = (false, 0, 0, 0, []) := by simp [stepR, h]
theorem stepR_bad {day looms money d m : Int} {xs ys : List Cp} {x : Sp} (h : cand day money xs x = some (d, m, ys)) (hg : goodSh d looms m ys = false) : stepR day looms money xs x = (false, 0, 0, 0, []) := by simp [stepR, h, hg]
theorem stepR_good {day looms money d m : Int} {xs ys : List Cp} {x : Sp} (h : cand day money xs x = some (d, m, ys)) (hg : goodSh d looms m ys = true) : stepR day looms money xs x = (true, d, looms, m, ys) := by simp [stepR, h, hg]
theorem wrap_in {a b hi : Int} (ha : 0 ≤ a ∧ a ≤ 1000000) (hb : 1 ≤ b ∧ b ≤ 9223372036854775807) (hh : hi ≤ 1000000) : inB (IntKind.i64.wrap (a + b)) 0 hi = inB (a + b) 0 hi ∧ (inB (a + b) 0 hi = true → IntKind.i64.wrap (a + b) = a + b) := by
  have hw : IntKind.i64.wrap (a + b) = a + b ∨ (a + b > 9223372036854775807 ∧ IntKind.i64.wrap (a + b) < 0) := by
    by_cases h : a + b ≤ 9223372036854775807
    · exact .inl (IntWalk.i64_in _ ⟨by omega, h⟩)
    · right; refine ⟨by omega, ?_⟩
      have e : (a + b) % (2 ^ 64 : Int) = a + b := Int.emod_eq_of_lt (by omega) (by omega)
      show (if (true && decide ((a + b) % (2 ^ 64 : Int) ≥ 2 ^ 63)) = true then (a + b) % (2 ^ 64 : Int) - 2 ^ 64 else (a + b) % (2 ^ 64 : Int)) < 0
      rw [e, if_pos (by simp; omega)]
      omega
  rcases hw with h | ⟨h1, h2⟩
  · rw [h]; exact ⟨rfl, fun _ => rfl⟩
  · have e1 : inB (IntKind.i64.wrap (a + b)) 0 hi = false := inB_not.2 (by omega)
    have e2 : inB (a + b) 0 hi = false := inB_not.2 (by omega)
    rw [e1, e2]; exact ⟨rfl, fun h => by cases h⟩
theorem good_wrapDay {day val looms money : Int} {xs : List Cp} (ha : 0 ≤ day ∧ day ≤ 1000000) (hb : 1 ≤ val ∧ val ≤ 9223372036854775807) : goodSh (IntKind.i64.wrap (day + val)) looms money xs = goodSh (day + val) looms money xs ∧ (goodSh (day + val) looms money xs = true → IntKind.i64.wrap (day + val) = day + val) := by
  obtain ⟨h1, h2⟩ := wrap_in (hi := 4000) ha hb (by omega)
  cases h : inB (day + val) 0 4000 with
  | true => rw [h2 h]; exact ⟨rfl, fun _ => rfl⟩
  | false => rw [h] at h1; simp [goodSh, h1, h]
theorem good_wrapMoney {day val looms money : Int} {xs : List Cp} (ha : 0 ≤ money ∧ money ≤ 1000000) (hb : 1 ≤ val ∧ val ≤ 9223372036854775807) : goodSh day looms (IntKind.i64.wrap (money + val)) xs = goodSh day looms (money + val) xs ∧ (goodSh day looms (money + val) xs = true → IntKind.i64.wrap (money + val) = money + val) := by
  obtain ⟨h1, h2⟩ := wrap_in (hi := 1000000) ha hb (by omega)
  cases h : inB (money + val) 0 1000000 with
  | true => rw [h2 h]; exact ⟨rfl, fun _ => rfl⟩
  | false => rw [h] at h1; simp [goodSh, h1, h]
theorem len_snoc {α : Type} (xs : List α) (y : α) : (xs ++ [y]).length = xs.length + 1 := by simp
theorem row_snoc {A : Option Addr} {c : Nat} {xs : List Cp} {y : Cp} {news : List Value} (h : news = cpL y) : Fct.row 41 5 (.slice A (xs.length + 1) c) (xs.length + 1) (flat cpL xs ++ news) = rowCp A (xs ++ [y]).length c (xs ++ [y]) := by subst h; rw [flat_snoc, ← len_snoc xs y]
abbrev shT (ok : Bool) (day looms money : Int) (m : Nat) (p : Option Addr × Nat) : Value := .tuple #[shV day looms money p.1 m p.2, .bool ok]
set_option maxHeartbeats 400000 in
set_option maxRecDepth 20000 in
theorem step_ct (day looms money : Int) (xs : List Cp) (A : Option Addr) (c : Nat) (x : Sp) (w : World) (hR : RdC w A c xs) (hg : goodSh day looms money xs = true) (hv : x.val ≤ 9223372036854775807)
    (ok : Bool) (d l mny : Int) (ys : List Cp) (hr : stepR day looms money xs x = (ok, d, l, mny, ys)) :
    Calls Try.prog 30 #[shV day looms money A xs.length c, .agg (spL x).toArray] w (Ret (shT ok d l mny ys.length) (fun p => [rowCp p.1 ys.length p.2 ys]) w) := by
  have no : stepR day looms money xs x = (false, 0, 0, 0, []) → ok = false ∧ d = 0 ∧ l = 0 ∧ mny = 0 ∧ ys = [] := fun h => by rw [h] at hr; simp at hr; exact ⟨hr.1, hr.2.1.symm, hr.2.2.1.symm, hr.2.2.2.1.symm, hr.2.2.2.2⟩
  have yes : ∀ d' m' ys', cand day money xs x = some (d', m', ys') → goodSh d' looms m' ys' = true → ok = true ∧ d = d' ∧ l = looms ∧ mny = m' ∧ ys = ys' := fun d' m' ys' h1 h2 => by
    rw [stepR_good h1 h2] at hr; simp at hr; exact ⟨hr.1, hr.2.1.symm, hr.2.2.1.symm, hr.2.2.2.1.symm, hr.2.2.2.2.symm⟩
  obtain ⟨g1, g2, g3, g4, g5⟩ := goodSh_iff.1 hg
  rw [inB_iff] at g1 g2 g3
  obtain ⟨kind, car, val⟩ := x
  have hv : val ≤ 9223372036854775807 := hv
  refine enter Try.func30 rfl rfl Try.ntmps30 rfl ?_
  refine CW.nilRow 41 5 ?_
  refine CW.seq (CW.region ?_)
  refine LW.op rfl rfl rfl (y_box rfl rfl rfl) ?_
  intro b2
  refine LW.op rfl rfl rfl (y_box rfl rfl rfl) ?_
  intro b3
  refine LW.op rfl rfl rfl (y_alloc rfl ze31) ?_
  intro b4
  refine LW.val rfl rfl rfl (x_assign rfl rfl) ?_
  refine LW.nil (QW.thenC (CW.seq (CW.seq (CW.region ?_))))
  refine LW.val rfl rfl rfl (x_loadB0 rfl rfl ty37 (by (repeat (first | exact Rem.head | apply Rem.tail)); done) rfl) ?_
  refine LW.op rfl rfl rfl (y_call rfl rfl rfl en51 (fun w HW => isValid_ct _ _)) ?_
  rintro ⟨⟩
  refine LW.val rfl rfl rfl (x_not rfl rfl) ?_
  refine LW.nil (QW.thenC ?_)
  refine CW.cond rfl (fun h1 => ?_) (fun h1 => ?_)
  · obtain ⟨rfl, rfl, rfl, rfl, rfl⟩ := no (stepR_none (by simp [cand, show validI ⟨kind, car, val⟩ = false by simpa using h1]))
    refine CW.seq (CW.region ?_)
    refine LW.val rfl rfl rfl (x_build rfl rfl rfl ze31 st31 pl31 (by simp [fillL, Value.cells]; rfl)) ?_
    refine LW.op0 rfl rfl (y_storeB0 rfl rfl rfl rfl ty31 rfl (by (repeat (first | exact Rem.head | apply Rem.tail)); done) rfl) ?_
    intro _u
    refine LW.val rfl rfl rfl (x_assign rfl rfl) ?_
    refine LW.nil (QW.thenC (CW.ret (QW.then_ret ?_)))
    refine QW.res2 rfl (ResV.cellN rfl ty31 (by (repeat (first | exact Rem.head | apply Rem.tail)); done) (by exact rfl)) (ResV.tmp rfl) (ret_eq ((none, 0)) ?_ ?_)
    · first | rfl | (simp only []; rfl)
    · (repeat (first | exact Sub.nil | exact Sub.all | (apply Sub.cons; (focus ((repeat (first | exact Rem.head | apply Rem.tail)); done))) | (apply Sub.row; (focus ((repeat (first | exact Rem.head | apply Rem.tail)); done)); (focus (first | with_reducible rfl | assumption | omega | (simp; done) | (simp [Nat.mul_comm]; done) | (simp; omega))); (focus (first | with_reducible rfl | assumption | omega | (simp; done) | (simp [Nat.mul_comm]; done) | (simp; omega))); (focus (first | with_reducible rfl | (simp [nums]; done) | (simp [nums]; omega) | (simp; done) | (simp; omega)))) | (apply Sub.blk; (focus ((repeat (first | exact Rem.head | apply Rem.tail)); done)); (focus (first | with_reducible rfl | (simp [nums]; done) | (simp [nums]; omega) | (simp; done) | (simp; omega)))) | fail))
  · have h1 : validI ⟨kind, car, val⟩ = true := by simpa using h1
    refine CW.skip (QW.thenC (CW.seq (CW.region ?_)))
    refine LW.val rfl rfl rfl (x_loadB0 rfl rfl ty31 (by (repeat (first | exact Rem.head | apply Rem.tail)); done) rfl) ?_
    refine LW.op rfl rfl rfl (y_call rfl rfl rfl en29 (fun w HW => copied_ct day looms money xs A c _ (hR.up HW.below))) ?_
    rintro ⟨A1, c1⟩
    refine LW.op rfl rfl rfl (y_alloc rfl ze31) ?_
    intro b6
    refine LW.op0 rfl rfl (y_storeB0 rfl rfl rfl rfl ty31 rfl (by (repeat (first | exact Rem.head | apply Rem.tail)); done) rfl) ?_
    intro _u
    refine LW.nil (QW.thenC (CW.seq (CW.seq (CW.region ?_))))
    refine LW.val rfl rfl rfl (x_fieldAddr rfl rfl fl37_0 rfl) ?_
    refine LW.val rfl rfl rfl (x_loadB rfl rfl ty3 (by (repeat (first | exact Rem.head | apply Rem.tail)); done) (by exact rfl)) ?_
    refine LW.nil (QW.thenC (CW.block (CW.seq (CW.region ?_))))
    refine LW.val rfl rfl rfl (x_eql rfl rfl rfl) ?_
    refine LW.val rfl rfl rfl (x_assign rfl rfl) ?_
    refine LW.nil (QW.thenC ?_)
    refine CW.condD rfl (fun k1 => ?_) (fun k1 => ?_)
    · have k1 : kind = 1 := k1
      have hval : 1 ≤ val := by simp [validI, k1] at h1; exact h1.2
      have hc : cand day money xs ⟨kind, car, val⟩ = some (day + val, money, xs) := by unfold cand; rw [if_neg (by simp [h1]), if_pos k1]
      obtain ⟨w1, w2⟩ := good_wrapDay (looms := looms) (money := money) (xs := xs) ⟨g1.1, by omega⟩ ⟨hval, hv⟩
      refine CW.region ?_
      refine LW.val rfl rfl rfl (x_fieldAddr rfl rfl fl31_0 rfl) ?_
      refine LW.val rfl rfl rfl (x_loadB rfl rfl ty3 (by (repeat (first | exact Rem.head | apply Rem.tail)); done) (by exact rfl)) ?_
      refine LW.val rfl rfl rfl (x_fieldAddr rfl rfl fl37_2 rfl) ?_
      refine LW.val rfl rfl rfl (x_loadB rfl rfl ty3 (by (repeat (first | exact Rem.head | apply Rem.tail)); done) (by exact rfl)) ?_
      refine LW.val rfl rfl rfl (x_addW rfl rfl rfl) ?_
      refine LW.val rfl rfl rfl (x_fieldAddr rfl rfl fl31_0 rfl) ?_
      refine LW.op0 rfl rfl (y_storeB rfl rfl rfl rfl rfl ty3 (by (repeat (first | exact Rem.head | apply Rem.tail)); done) (by exact rfl) (by (simp only [List.set_cons_zero, List.set_cons_succ]; rfl))) ?_
      intro _u
      refine LW.nil (QW.in_normal (QW.thenC (CW.seq (CW.seq (CW.region ?_)))))
      refine LW.val rfl rfl rfl (x_loadB0 rfl rfl ty31 (by (repeat (first | exact Rem.head | apply Rem.tail)); done) rfl) ?_
      refine LW.op rfl rfl rfl (y_call rfl rfl rfl en18 (fun w HW => IsShop_ct (IntKind.i64.wrap (day + val)) looms money xs A1 c1 _ (SH.rdR (by (repeat (first | exact Rem.head | apply Rem.tail)); done) (by omega) HW))) ?_
      rintro ⟨⟩
      refine LW.val rfl rfl rfl (x_not rfl rfl) ?_
      refine LW.nil (QW.thenC ?_)
      refine CW.cond rfl (fun h2 => ?_) (fun h2 => ?_)
      · obtain ⟨rfl, rfl, rfl, rfl, rfl⟩ := no (stepR_bad hc (by rw [← w1]; simpa using h2))
        refine CW.seq (CW.region ?_)
        refine LW.val rfl rfl rfl (x_build rfl rfl rfl ze31 st31 pl31 (by simp [fillL, Value.cells]; rfl)) ?_
        refine LW.op0 rfl rfl (y_storeB0 rfl rfl rfl rfl ty31 rfl (by (repeat (first | exact Rem.head | apply Rem.tail)); done) rfl) ?_
        intro _u
        refine LW.val rfl rfl rfl (x_assign rfl rfl) ?_
        refine LW.nil (QW.thenC (CW.ret (QW.then_ret ?_)))
        refine QW.res2 rfl (ResV.cellN rfl ty31 (by (repeat (first | exact Rem.head | apply Rem.tail)); done) (by exact rfl)) (ResV.tmp rfl) (ret_eq ((none, 0)) ?_ ?_)
        · first | rfl | (simp only []; rfl)
        · (repeat (first | exact Sub.nil | exact Sub.all | (apply Sub.cons; (focus ((repeat (first | exact Rem.head | apply Rem.tail)); done))) | (apply Sub.row; (focus ((repeat (first | exact Rem.head | apply Rem.tail)); done)); (focus (first | with_reducible rfl | assumption | omega | (simp; done) | (simp [Nat.mul_comm]; done) | (simp; omega))); (focus (first | with_reducible rfl | assumption | omega | (simp; done) | (simp [Nat.mul_comm]; done) | (simp; omega))); (focus (first | with_reducible rfl | (simp [nums]; done) | (simp [nums]; omega) | (simp; done) | (simp; omega)))) | (apply Sub.blk; (focus ((repeat (first | exact Rem.head | apply Rem.tail)); done)); (focus (first | with_reducible rfl | (simp [nums]; done) | (simp [nums]; omega) | (simp; done) | (simp; omega)))) | fail))
      · have h2 : goodSh (day + val) looms money xs = true := by rw [← w1]; simpa using h2
        obtain ⟨rfl, rfl, rfl, rfl, rfl⟩ := yes _ _ _ hc h2
        rw [w2 h2]
        refine CW.skip (QW.thenC (CW.seq (CW.region ?_)))
        refine LW.val rfl rfl rfl (x_loadB0 rfl rfl ty31 (by (repeat (first | exact Rem.head | apply Rem.tail)); done) rfl) ?_
        refine LW.op0 rfl rfl (y_storeB0 rfl rfl rfl rfl ty31 rfl (by (repeat (first | exact Rem.head | apply Rem.tail)); done) rfl) ?_
        intro _u
        refine LW.val rfl rfl rfl (x_assign rfl rfl) ?_
        refine LW.nil (QW.thenC (CW.ret ?_))
        refine QW.res2 rfl (ResV.cellN rfl ty31 (by (repeat (first | exact Rem.head | apply Rem.tail)); done) (by exact rfl)) (ResV.tmp rfl) (ret_eq ((A1, c1)) ?_ ?_)
        · first | rfl | (simp only []; rfl)
        · (repeat (first | exact Sub.nil | exact Sub.all | (apply Sub.cons; (focus ((repeat (first | exact Rem.head | apply Rem.tail)); done))) | (apply Sub.row; (focus ((repeat (first | exact Rem.head | apply Rem.tail)); done)); (focus (first | with_reducible rfl | assumption | omega | (simp; done) | (simp [Nat.mul_comm]; done) | (simp; omega))); (focus (first | with_reducible rfl | assumption | omega | (simp; done) | (simp [Nat.mul_comm]; done) | (simp; omega))); (focus (first | with_reducible rfl | (simp [nums]; done) | (simp [nums]; omega) | (simp; done) | (simp; omega)))) | (apply Sub.blk; (focus ((repeat (first | exact Rem.head | apply Rem.tail)); done)); (focus (first | with_reducible rfl | (simp [nums]; done) | (simp [nums]; omega) | (simp; done) | (simp; omega)))) | fail))
    · have k1 : ¬ kind = 1 := k1
      refine CW.seq (CW.region ?_)
      refine LW.val rfl rfl rfl (x_eql rfl rfl rfl) ?_
      refine LW.val rfl rfl rfl (x_assign rfl rfl) ?_
      refine LW.nil (QW.thenC ?_)
      refine CW.condD rfl (fun k2 => ?_) (fun k2 => ?_)
      · have k2 : kind = 2 := k2
        have hc : cand day money xs ⟨kind, car, val⟩ = some (day, money, xs ++ [⟨val, 0, 0, 0, day⟩]) := by unfold cand; rw [if_neg (by simp [h1]), if_neg k1, if_pos k2]
        obtain ⟨zs, hz⟩ : ∃ zs, xs ++ [(⟨val, 0, 0, 0, day⟩ : Cp)] = zs := ⟨_, rfl⟩
        have hzl : zs.length = xs.length + 1 := by rw [← hz, len_snoc]
        rw [hz] at hc
        refine CW.region ?_
        refine LW.val rfl rfl rfl (x_fieldAddr rfl rfl fl31_2 rfl) ?_
        refine LW.val rfl rfl rfl (x_loadB rfl rfl ty29 (by (repeat (first | exact Rem.head | apply Rem.tail)); done) (by exact rfl)) ?_
        refine LW.val rfl rfl rfl (x_fieldAddr rfl rfl fl37_2 rfl) ?_
        refine LW.val rfl rfl rfl (x_loadB rfl rfl ty3 (by (repeat (first | exact Rem.head | apply Rem.tail)); done) (by exact rfl)) ?_
        refine LW.val rfl rfl rfl (x_fieldAddr rfl rfl fl31_0 rfl) ?_
        refine LW.val rfl rfl rfl (x_loadB rfl rfl ty3 (by (repeat (first | exact Rem.head | apply Rem.tail)); done) (by exact rfl)) ?_
        refine LW.val rfl rfl rfl (x_build rfl rfl rfl ze41 st41 pl41 (by simp [fillL, Value.cells]; rfl)) ?_
        refine LW.op rfl rfl rfl (y_bs rfl rfl rfl el29 ze41 rfl rfl rfl (by simp [fillL, Value.cells]; rfl) rfl) ?_
        intro g55
        refine LW.op rfl rfl rfl (y_appendR (ty := 0) rfl rfl rfl el29 in41 rfl (by (repeat (first | exact Rem.head | apply Rem.tail)); done) (by (repeat (first | exact Rem.head | apply Rem.tail)); done) rfl rfl (by omega)) ?_
        rintro ⟨A2, c2⟩
        refine LW.re (rowCp A2 zs.length c2 zs) (by (repeat (first | exact Rem.head | apply Rem.tail)); done) (by subst hz; exact row_snoc (by first | rfl | simp [cpL])) ?_
        refine LW.sl 56 (.slice A2 zs.length c2) rfl (by rw [hzl]) ?_
        refine LW.val rfl rfl rfl (x_fieldAddr rfl rfl fl31_2 rfl) ?_
        refine LW.op0 rfl rfl (y_storeB rfl rfl rfl rfl rfl ty29 (by (repeat (first | exact Rem.head | apply Rem.tail)); done) (by exact rfl) (by (simp only [List.set_cons_zero, List.set_cons_succ]; rfl))) ?_
        intro _u
        refine LW.nil (QW.in_normal (QW.thenC (CW.seq (CW.seq (CW.region ?_)))))
        refine LW.val rfl rfl rfl (x_loadB0 rfl rfl ty31 (by (repeat (first | exact Rem.head | apply Rem.tail)); done) rfl) ?_
        refine LW.op rfl rfl rfl (y_call rfl rfl rfl en18 (fun w HW => IsShop_ct day looms money zs A2 c2 _ (SH.rdR (by (repeat (first | exact Rem.head | apply Rem.tail)); done) (by omega) HW))) ?_
        rintro ⟨⟩
        refine LW.val rfl rfl rfl (x_not rfl rfl) ?_
        refine LW.nil (QW.thenC ?_)
        refine CW.cond rfl (fun h2 => ?_) (fun h2 => ?_)
        · obtain ⟨rfl, rfl, rfl, rfl, rfl⟩ := no (stepR_bad hc (by simpa using h2))
          refine CW.seq (CW.region ?_)
          refine LW.val rfl rfl rfl (x_build rfl rfl rfl ze31 st31 pl31 (by simp [fillL, Value.cells]; rfl)) ?_
          refine LW.op0 rfl rfl (y_storeB0 rfl rfl rfl rfl ty31 rfl (by (repeat (first | exact Rem.head | apply Rem.tail)); done) rfl) ?_
          intro _u
          refine LW.val rfl rfl rfl (x_assign rfl rfl) ?_
          refine LW.nil (QW.thenC (CW.ret (QW.then_ret ?_)))
          refine QW.res2 rfl (ResV.cellN rfl ty31 (by (repeat (first | exact Rem.head | apply Rem.tail)); done) (by exact rfl)) (ResV.tmp rfl) (ret_eq ((none, 0)) ?_ ?_)
          · first | rfl | (simp only []; rfl)
          · (repeat (first | exact Sub.nil | exact Sub.all | (apply Sub.cons; (focus ((repeat (first | exact Rem.head | apply Rem.tail)); done))) | (apply Sub.row; (focus ((repeat (first | exact Rem.head | apply Rem.tail)); done)); (focus (first | with_reducible rfl | assumption | omega | (simp; done) | (simp [Nat.mul_comm]; done) | (simp; omega))); (focus (first | with_reducible rfl | assumption | omega | (simp; done) | (simp [Nat.mul_comm]; done) | (simp; omega))); (focus (first | with_reducible rfl | (simp [nums]; done) | (simp [nums]; omega) | (simp; done) | (simp; omega)))) | (apply Sub.blk; (focus ((repeat (first | exact Rem.head | apply Rem.tail)); done)); (focus (first | with_reducible rfl | (simp [nums]; done) | (simp [nums]; omega) | (simp; done) | (simp; omega)))) | fail))
        · obtain ⟨rfl, rfl, rfl, rfl, rfl⟩ := yes _ _ _ hc (by simpa using h2)
          refine CW.skip (QW.thenC (CW.seq (CW.region ?_)))
          refine LW.val rfl rfl rfl (x_loadB0 rfl rfl ty31 (by (repeat (first | exact Rem.head | apply Rem.tail)); done) rfl) ?_
          refine LW.op0 rfl rfl (y_storeB0 rfl rfl rfl rfl ty31 rfl (by (repeat (first | exact Rem.head | apply Rem.tail)); done) rfl) ?_
          intro _u
          refine LW.val rfl rfl rfl (x_assign rfl rfl) ?_
          refine LW.nil (QW.thenC (CW.ret ?_))
          refine QW.res2 rfl (ResV.cellN rfl ty31 (by (repeat (first | exact Rem.head | apply Rem.tail)); done) (by exact rfl)) (ResV.tmp rfl) (ret_eq ((A2, c2)) ?_ ?_)
          · first | rfl | (simp only []; rfl)
          · (repeat (first | exact Sub.nil | exact Sub.all | (apply Sub.cons; (focus ((repeat (first | exact Rem.head | apply Rem.tail)); done))) | (apply Sub.row; (focus ((repeat (first | exact Rem.head | apply Rem.tail)); done)); (focus (first | with_reducible rfl | assumption | omega | (simp; done) | (simp [Nat.mul_comm]; done) | (simp; omega))); (focus (first | with_reducible rfl | assumption | omega | (simp; done) | (simp [Nat.mul_comm]; done) | (simp; omega))); (focus (first | with_reducible rfl | (simp [nums]; done) | (simp [nums]; omega) | (simp; done) | (simp; omega)))) | (apply Sub.blk; (focus ((repeat (first | exact Rem.head | apply Rem.tail)); done)); (focus (first | with_reducible rfl | (simp [nums]; done) | (simp [nums]; omega) | (simp; done) | (simp; omega)))) | fail))
      · have k2 : ¬ kind = 2 := k2
        refine CW.seq (CW.seq ?_)
        refine CW.drawL [] follows ?_
        refine DW.take 0 rfl rfl (by kernel_rfl) (by kernel_rfl) (by kernel_rfl) (by kernel_rfl) (by kernel_rfl) rfl (fun _ _ _ h => h) rfl (by (repeat (first | exact Sub.nil | exact Sub.all | (apply Sub.cons; (focus ((repeat (first | exact Rem.head | apply Rem.tail)); done))) | fail))) (x_fieldAddr rfl rfl fl37_1 rfl) rfl ?_
        refine DW.take 1 rfl rfl (by kernel_rfl) (by kernel_rfl) (by kernel_rfl) (by kernel_rfl) (by kernel_rfl) rfl (fun _ _ _ h => h) rfl (by (repeat (first | exact Sub.nil | exact Sub.all | (apply Sub.cons; (focus ((repeat (first | exact Rem.head | apply Rem.tail)); done))) | fail))) (x_loadB rfl rfl ty3 (by (repeat (first | exact Rem.head | apply Rem.tail)); done) (by exact rfl)) rfl ?_
        refine DW.take 2 rfl rfl (by kernel_rfl) (by kernel_rfl) (by kernel_rfl) (by kernel_rfl) (by kernel_rfl) rfl (fun _ _ _ h => h) rfl (by (repeat (first | exact Sub.nil | exact Sub.all | (apply Sub.cons; (focus ((repeat (first | exact Rem.head | apply Rem.tail)); done))) | fail))) (x_fieldAddr rfl rfl fl31_2 rfl) rfl ?_
        refine DW.take 3 rfl rfl (by kernel_rfl) (by kernel_rfl) (by kernel_rfl) (by kernel_rfl) (by kernel_rfl) rfl (fun _ _ _ h => h) rfl (by (repeat (first | exact Sub.nil | exact Sub.all | (apply Sub.cons; (focus ((repeat (first | exact Rem.head | apply Rem.tail)); done))) | fail))) (x_loadB rfl rfl ty29 (by (repeat (first | exact Rem.head | apply Rem.tail)); done) (by exact rfl)) rfl ?_
        refine DW.take 4 rfl rfl (by kernel_rfl) (by kernel_rfl) (by kernel_rfl) (by kernel_rfl) (by kernel_rfl) rfl (fun _ _ _ h => h) rfl (by (repeat (first | exact Sub.nil | exact Sub.all | (apply Sub.cons; (focus ((repeat (first | exact Rem.head | apply Rem.tail)); done))) | fail))) (x_len (ty := 0) rfl rfl Try.underlying29) rfl ?_
        refine DW.take 5 rfl rfl (by kernel_rfl) (by kernel_rfl) (by kernel_rfl) (by kernel_rfl) (by kernel_rfl) rfl (fun _ _ _ h => h) rfl (by (repeat (first | exact Sub.nil | exact Sub.all | (apply Sub.cons; (focus ((repeat (first | exact Rem.head | apply Rem.tail)); done))) | fail))) (x_sub rfl rfl rfl (by omega)) rfl ?_
        refine DW.ready [6] (by kernel_rfl) (by simp) ?_
        refine AllR.cons rfl rfl rfl rfl (y_call rfl rfl rfl en26 (fun w HW => in_ct _ _ _ _)) (fun _ => by (repeat (first | exact Sub.nil | exact Sub.all | (apply Sub.cons; (focus ((repeat (first | exact Rem.head | apply Rem.tail)); done))) | fail))) rfl ?_ AllR.nil
        rintro ⟨⟩
        refine DW.take 7 rfl rfl (by kernel_rfl) (by kernel_rfl) (by kernel_rfl) (by kernel_rfl) (by kernel_rfl) rfl (fun _ _ _ h => h) rfl (by (repeat (first | exact Sub.nil | exact Sub.all | (apply Sub.cons; (focus ((repeat (first | exact Rem.head | apply Rem.tail)); done))) | fail))) (x_not rfl rfl) rfl ?_
        refine DW.take 8 rfl rfl (by kernel_rfl) (by kernel_rfl) (by kernel_rfl) (by kernel_rfl) (by kernel_rfl) rfl (fun _ _ _ h => h) rfl (by (repeat (first | exact Sub.nil | exact Sub.all | (apply Sub.cons; (focus ((repeat (first | exact Rem.head | apply Rem.tail)); done))) | fail))) (x_move rfl rfl) rfl ?_
        refine DW.split (t := 23) rfl (fun q1 => ?_) (fun q1 => ?_)
        · obtain ⟨rfl, rfl, rfl, rfl, rfl⟩ := no (stepR_none (by simp [cand, h1, k1, k2, show inB car 0 ((xs.length : Int) - 1) = false by simpa using q1]))
          refine DW.takeF 9 rfl rfl rfl rfl rfl (by kernel_rfl) (by kernel_rfl) (by kernel_rfl) (by kernel_rfl) (by kernel_rfl) rfl (fun _ _ _ h => h) rfl (by (repeat (first | exact Sub.nil | exact Sub.all | (apply Sub.cons; (focus ((repeat (first | exact Rem.head | apply Rem.tail)); done))) | fail))) rfl ?_
          refine DW.takeF 10 rfl rfl rfl rfl rfl (by kernel_rfl) (by kernel_rfl) (by kernel_rfl) (by kernel_rfl) (by kernel_rfl) rfl (fun _ _ _ h => h) rfl (by (repeat (first | exact Sub.nil | exact Sub.all | (apply Sub.cons; (focus ((repeat (first | exact Rem.head | apply Rem.tail)); done))) | fail))) rfl ?_
          refine DW.takeF 11 rfl rfl rfl rfl rfl (by kernel_rfl) (by kernel_rfl) (by kernel_rfl) (by kernel_rfl) (by kernel_rfl) rfl (fun _ _ _ h => h) rfl (by (repeat (first | exact Sub.nil | exact Sub.all | (apply Sub.cons; (focus ((repeat (first | exact Rem.head | apply Rem.tail)); done))) | fail))) rfl ?_
          refine DW.takeF 12 rfl rfl rfl rfl rfl (by kernel_rfl) (by kernel_rfl) (by kernel_rfl) (by kernel_rfl) (by kernel_rfl) rfl (fun _ _ _ h => h) rfl (by (repeat (first | exact Sub.nil | exact Sub.all | (apply Sub.cons; (focus ((repeat (first | exact Rem.head | apply Rem.tail)); done))) | fail))) rfl ?_
          refine DW.takeF 13 rfl rfl rfl rfl rfl (by kernel_rfl) (by kernel_rfl) (by kernel_rfl) (by kernel_rfl) (by kernel_rfl) rfl (fun _ _ _ h => h) rfl (by (repeat (first | exact Sub.nil | exact Sub.all | (apply Sub.cons; (focus ((repeat (first | exact Rem.head | apply Rem.tail)); done))) | fail))) rfl ?_
          refine DW.takeF 14 rfl rfl rfl rfl rfl (by kernel_rfl) (by kernel_rfl) (by kernel_rfl) (by kernel_rfl) (by kernel_rfl) rfl (fun _ _ _ h => h) rfl (by (repeat (first | exact Sub.nil | exact Sub.all | (apply Sub.cons; (focus ((repeat (first | exact Rem.head | apply Rem.tail)); done))) | fail))) rfl ?_
          refine DW.takeF 15 rfl rfl rfl rfl rfl (by kernel_rfl) (by kernel_rfl) (by kernel_rfl) (by kernel_rfl) (by kernel_rfl) rfl (fun _ _ _ h => h) rfl (by (repeat (first | exact Sub.nil | exact Sub.all | (apply Sub.cons; (focus ((repeat (first | exact Rem.head | apply Rem.tail)); done))) | fail))) rfl ?_
          refine DW.takeF 16 rfl rfl rfl rfl rfl (by kernel_rfl) (by kernel_rfl) (by kernel_rfl) (by kernel_rfl) (by kernel_rfl) rfl (fun _ _ _ h => h) rfl (by (repeat (first | exact Sub.nil | exact Sub.all | (apply Sub.cons; (focus ((repeat (first | exact Rem.head | apply Rem.tail)); done))) | fail))) rfl ?_
          refine DW.takeF 17 rfl rfl rfl rfl rfl (by kernel_rfl) (by kernel_rfl) (by kernel_rfl) (by kernel_rfl) (by kernel_rfl) rfl (fun _ _ _ h => h) rfl (by (repeat (first | exact Sub.nil | exact Sub.all | (apply Sub.cons; (focus ((repeat (first | exact Rem.head | apply Rem.tail)); done))) | fail))) rfl ?_
          refine DW.takeF 18 rfl rfl rfl rfl rfl (by kernel_rfl) (by kernel_rfl) (by kernel_rfl) (by kernel_rfl) (by kernel_rfl) rfl (fun _ _ _ h => h) rfl (by (repeat (first | exact Sub.nil | exact Sub.all | (apply Sub.cons; (focus ((repeat (first | exact Rem.head | apply Rem.tail)); done))) | fail))) rfl ?_
          refine DW.take 19 rfl rfl (by kernel_rfl) (by kernel_rfl) (by kernel_rfl) (by kernel_rfl) (by kernel_rfl) rfl (fun _ _ _ h => h) rfl (by (repeat (first | exact Sub.nil | exact Sub.all | (apply Sub.cons; (focus ((repeat (first | exact Rem.head | apply Rem.tail)); done))) | fail))) (x_pickT rfl rfl rfl) rfl ?_
          refine DW.done (by kernel_rfl) ?_
          refine QW.thenC (CW.condT rfl (CW.seq (CW.region ?_)))
          refine LW.val rfl rfl rfl (x_build rfl rfl rfl ze31 st31 pl31 (by simp [fillL, Value.cells]; rfl)) ?_
          refine LW.op0 rfl rfl (y_storeB0 rfl rfl rfl rfl ty31 rfl (by (repeat (first | exact Rem.head | apply Rem.tail)); done) rfl) ?_
          intro _u
          refine LW.val rfl rfl rfl (x_assign rfl rfl) ?_
          refine LW.nil (QW.thenC (CW.ret (QW.then_ret (QW.in_ret (QW.then_ret ?_)))))
          refine QW.res2 rfl (ResV.cellN rfl ty31 (by (repeat (first | exact Rem.head | apply Rem.tail)); done) (by exact rfl)) (ResV.tmp rfl) (ret_eq ((none, 0)) ?_ ?_)
          · first | rfl | (simp only []; rfl)
          · (repeat (first | exact Sub.nil | exact Sub.all | (apply Sub.cons; (focus ((repeat (first | exact Rem.head | apply Rem.tail)); done))) | (apply Sub.row; (focus ((repeat (first | exact Rem.head | apply Rem.tail)); done)); (focus (first | with_reducible rfl | assumption | omega | (simp; done) | (simp [Nat.mul_comm]; done) | (simp; omega))); (focus (first | with_reducible rfl | assumption | omega | (simp; done) | (simp [Nat.mul_comm]; done) | (simp; omega))); (focus (first | with_reducible rfl | (simp [nums]; done) | (simp [nums]; omega) | (simp; done) | (simp; omega)))) | (apply Sub.blk; (focus ((repeat (first | exact Rem.head | apply Rem.tail)); done)); (focus (first | with_reducible rfl | (simp [nums]; done) | (simp [nums]; omega) | (simp; done) | (simp; omega)))) | fail))
        · have q1 : inB car 0 ((xs.length : Int) - 1) = true := by simpa using q1
          have q0 := inB_iff.1 q1
          obtain ⟨i, rfl⟩ : ∃ i : Nat, car = i := ⟨car.toNat, by omega⟩
          have hi : i < xs.length := by omega
          obtain ⟨ad, rfl⟩ := hR.some hi
          obtain ⟨y, hy⟩ : ∃ y, xs[i] = y := ⟨_, rfl⟩
          have hyc := okAt_carpet hi (g5 i hi)
          rw [hy] at hyc
          have hb : 0 ≤ y.since ∧ y.since ≤ 4000 ∧ 0 ≤ y.made ∧ y.made ≤ 500 ∧ 0 ≤ y.rows ∧ y.rows ≤ 500 := by
            simp only [carpetOk, Bool.and_eq_true, inB_iff] at hyc; omega
          refine DW.takeG 9 rfl rfl rfl rfl (by kernel_rfl) (by kernel_rfl) (by kernel_rfl) (by kernel_rfl) (by kernel_rfl) rfl (fun _ _ _ h => h) rfl (by (repeat (first | exact Sub.nil | exact Sub.all | (apply Sub.cons; (focus ((repeat (first | exact Rem.head | apply Rem.tail)); done))) | fail))) (x_loadB0 rfl rfl ty31 (by (repeat (first | exact Rem.head | apply Rem.tail)); done) rfl) rfl ?_
          refine DW.takeG 10 rfl rfl rfl rfl (by kernel_rfl) (by kernel_rfl) (by kernel_rfl) (by kernel_rfl) (by kernel_rfl) rfl (fun _ _ _ h => h) rfl (by (repeat (first | exact Sub.nil | exact Sub.all | (apply Sub.cons; (focus ((repeat (first | exact Rem.head | apply Rem.tail)); done))) | fail))) (x_loadB0 rfl rfl ty37 (by (repeat (first | exact Rem.head | apply Rem.tail)); done) rfl) rfl ?_
          refine DW.takeG 11 rfl rfl rfl rfl (by kernel_rfl) (by kernel_rfl) (by kernel_rfl) (by kernel_rfl) (by kernel_rfl) rfl (fun _ _ _ h => h) rfl (by (repeat (first | exact Sub.nil | exact Sub.all | (apply Sub.cons; (focus ((repeat (first | exact Rem.head | apply Rem.tail)); done))) | fail))) (x_fieldAddr rfl rfl fl31_2 rfl) rfl ?_
          refine DW.takeG 12 rfl rfl rfl rfl (by kernel_rfl) (by kernel_rfl) (by kernel_rfl) (by kernel_rfl) (by kernel_rfl) rfl (fun _ _ _ h => h) rfl (by (repeat (first | exact Sub.nil | exact Sub.all | (apply Sub.cons; (focus ((repeat (first | exact Rem.head | apply Rem.tail)); done))) | fail))) (x_loadB rfl rfl ty29 (by (repeat (first | exact Rem.head | apply Rem.tail)); done) (by exact rfl)) rfl ?_
          refine DW.takeG 13 rfl rfl rfl rfl (by kernel_rfl) (by kernel_rfl) (by kernel_rfl) (by kernel_rfl) (by kernel_rfl) rfl (fun _ _ _ h => h) rfl (by (repeat (first | exact Sub.nil | exact Sub.all | (apply Sub.cons; (focus ((repeat (first | exact Rem.head | apply Rem.tail)); done))) | fail))) (x_fieldAddr rfl rfl fl37_1 rfl) rfl ?_
          refine DW.takeG 14 rfl rfl rfl rfl (by kernel_rfl) (by kernel_rfl) (by kernel_rfl) (by kernel_rfl) (by kernel_rfl) rfl (fun _ _ _ h => h) rfl (by (repeat (first | exact Sub.nil | exact Sub.all | (apply Sub.cons; (focus ((repeat (first | exact Rem.head | apply Rem.tail)); done))) | fail))) (x_loadB rfl rfl ty3 (by (repeat (first | exact Rem.head | apply Rem.tail)); done) (by exact rfl)) rfl ?_
          refine DW.takeG 15 rfl rfl rfl rfl (by kernel_rfl) (by kernel_rfl) (by kernel_rfl) (by kernel_rfl) (by kernel_rfl) rfl (fun _ _ _ h => h) rfl (by (repeat (first | exact Sub.nil | exact Sub.all | (apply Sub.cons; (focus ((repeat (first | exact Rem.head | apply Rem.tail)); done))) | fail))) (x_idxN rfl rfl rfl el29 (by omega)) rfl ?_
          refine DW.takeG 16 rfl rfl rfl rfl (by kernel_rfl) (by kernel_rfl) (by kernel_rfl) (by kernel_rfl) (by kernel_rfl) rfl (fun _ _ _ h => h) rfl (by (repeat (first | exact Sub.nil | exact Sub.all | (apply Sub.cons; (focus ((repeat (first | exact Rem.head | apply Rem.tail)); done))) | fail))) (x_loadF (y := y) hR (by simp) cpLen rfl rfl ty41 (by simp [hi, hy])) rfl ?_
          refine DW.ready [17] (by kernel_rfl) (by simp) ?_
          refine AllR.consG rfl rfl rfl rfl rfl rfl (y_call rfl rfl rfl en52 (fun w HW => canChange_ct day looms money xs (some ad) c ⟨kind, i, val⟩ y _ (hR.up HW.below) ⟨by omega, by omega⟩ ⟨by omega, by omega⟩ ⟨by omega, by omega⟩ ⟨by omega, by omega⟩)) (fun _ => by (repeat (first | exact Sub.nil | exact Sub.all | (apply Sub.cons; (focus ((repeat (first | exact Rem.head | apply Rem.tail)); done))) | fail))) rfl ?_ AllR.nil
          rintro ⟨⟩
          refine DW.takeG 18 rfl rfl rfl rfl (by kernel_rfl) (by kernel_rfl) (by kernel_rfl) (by kernel_rfl) (by kernel_rfl) rfl (fun _ _ _ h => h) rfl (by (repeat (first | exact Sub.nil | exact Sub.all | (apply Sub.cons; (focus ((repeat (first | exact Rem.head | apply Rem.tail)); done))) | fail))) (x_not rfl rfl) rfl ?_
          refine DW.take 19 rfl rfl (by kernel_rfl) (by kernel_rfl) (by kernel_rfl) (by kernel_rfl) (by kernel_rfl) rfl (fun _ _ _ h => h) rfl (by (repeat (first | exact Sub.nil | exact Sub.all | (apply Sub.cons; (focus ((repeat (first | exact Rem.head | apply Rem.tail)); done))) | fail))) (x_pickF rfl rfl rfl) rfl ?_
          refine DW.done (by kernel_rfl) ?_
          refine QW.thenC ?_
          refine CW.cond rfl (fun q2 => ?_) (fun q2 => ?_)
          · obtain ⟨rfl, rfl, rfl, rfl, rfl⟩ := no (stepR_none (by simp [cand, h1, k1, k2, q1, hi, hy, show canCh day xs ⟨kind, i, val⟩ y = false by simpa using q2]))
            refine CW.seq (CW.region ?_)
            refine LW.val rfl rfl rfl (x_build rfl rfl rfl ze31 st31 pl31 (by simp [fillL, Value.cells]; rfl)) ?_
            refine LW.op0 rfl rfl (y_storeB0 rfl rfl rfl rfl ty31 rfl (by (repeat (first | exact Rem.head | apply Rem.tail)); done) rfl) ?_
            intro _u
            refine LW.val rfl rfl rfl (x_assign rfl rfl) ?_
            refine LW.nil (QW.thenC (CW.ret (QW.then_ret (QW.in_ret (QW.then_ret ?_)))))
            refine QW.res2 rfl (ResV.cellN rfl ty31 (by (repeat (first | exact Rem.head | apply Rem.tail)); done) (by exact rfl)) (ResV.tmp rfl) (ret_eq ((none, 0)) ?_ ?_)
            · first | rfl | (simp only []; rfl)
            · (repeat (first | exact Sub.nil | exact Sub.all | (apply Sub.cons; (focus ((repeat (first | exact Rem.head | apply Rem.tail)); done))) | (apply Sub.row; (focus ((repeat (first | exact Rem.head | apply Rem.tail)); done)); (focus (first | with_reducible rfl | assumption | omega | (simp; done) | (simp [Nat.mul_comm]; done) | (simp; omega))); (focus (first | with_reducible rfl | assumption | omega | (simp; done) | (simp [Nat.mul_comm]; done) | (simp; omega))); (focus (first | with_reducible rfl | (simp [nums]; done) | (simp [nums]; omega) | (simp; done) | (simp; omega)))) | (apply Sub.blk; (focus ((repeat (first | exact Rem.head | apply Rem.tail)); done)); (focus (first | with_reducible rfl | (simp [nums]; done) | (simp [nums]; omega) | (simp; done) | (simp; omega)))) | fail))
          · have q2 : canCh day xs ⟨kind, i, val⟩ y = true := by simpa using q2
            have hc : cand day money xs ⟨kind, i, val⟩ = some (day, if kind = 7 then money + val else money, xs.set i (chC day ⟨kind, i, val⟩ y)) := by simp [cand, h1, k1, k2, q1, hi, hy, q2]
            have hm : kind = 4 → 0 ≤ y.made ∧ y.made ≤ 500 ∧ 0 ≤ val ∧ val ≤ 500 := fun e => by
              simp [validI, e, inB] at h1; omega
            refine CW.open_ (e := 41) (sz := 5) (A := A1) (m := xs.length) (c := c1) (n' := xs.length) (cs := flat cpL xs) (by (repeat (first | exact Rem.head | apply Rem.tail)); done) (by rw [flat_len cpLen]; omega) ?_
            rintro gg rfl
            refine CW.skip (QW.thenC (CW.region ?_))
            refine LW.val rfl rfl rfl (x_loadB0 rfl rfl ty37 (by (repeat (first | exact Rem.head | apply Rem.tail)); done) rfl) ?_
            refine LW.op rfl rfl rfl (y_callX [.blk b6 (shL day looms money (some ⟨gg, 0, none⟩) xs.length c1) 31, rowCp (some ⟨gg, 0, none⟩) xs.length c1 xs] [b6, gg] rfl rfl rfl en53 (fun _ h => h.front2 (by (repeat (first | exact Rem.head | apply Rem.tail)); done) (by (repeat (first | exact Rem.head | apply Rem.tail)); done)) (fun k hk => by { simp at hk; rcases hk with rfl | rfl; exact ⟨_, .head _, rfl⟩; exact ⟨_, .tail _ (.head _), rfl⟩ }) (fun w HW => change_ct day looms money xs b6 gg c1 i ⟨kind, i, val⟩ y w (if kind = 7 then IntKind.i64.wrap (money + val) else money) (chC day ⟨kind, i, val⟩ y) (HW.has (f := .blk b6 (shL day looms money (some ⟨gg, 0, none⟩) xs.length c1) 31) (by (repeat (first | exact Rem.head | apply Rem.tail)); done)) (HW.has (f := rowCp (some ⟨gg, 0, none⟩) xs.length c1 xs) (by (repeat (first | exact Rem.head | apply Rem.tail)); done)) (SH.ne HW (f := .blk b6 (shL day looms money (some ⟨gg, 0, none⟩) xs.length c1) 31) (g := rowCp (some ⟨gg, 0, none⟩) xs.length c1 xs) (by (repeat (first | exact Rem.head | apply Rem.tail)); done) (by (repeat (first | exact Rem.head | apply Rem.tail)); done) rfl rfl) hi hy rfl hm rfl rfl)) ?_
            rintro ⟨⟩
            obtain ⟨zs, hz⟩ : ∃ zs, xs.set i (chC day ⟨kind, i, val⟩ y) = zs := ⟨_, rfl⟩
            have hzl : zs.length = xs.length := by rw [← hz, List.length_set]
            obtain ⟨mw, hmw⟩ : ∃ mw, (if kind = 7 then IntKind.i64.wrap (money + val) else money) = mw := ⟨_, rfl⟩
            rw [hz] at hc
            refine LW.re (rowCp (some ⟨gg, 0, none⟩) zs.length c1 zs) (f := rowCp (some ⟨gg, 0, none⟩) xs.length c1 (xs.set i (chC day ⟨kind, i, val⟩ y))) (by (repeat (first | exact Rem.head | apply Rem.tail)); done) (by rw [hz, hzl]) ?_
            refine LW.re (.blk b6 (shL day looms mw (some ⟨gg, 0, none⟩) zs.length c1) 31) (f := .blk b6 (shL day looms (if kind = 7 then IntKind.i64.wrap (money + val) else money) (some ⟨gg, 0, none⟩) xs.length c1) 31) (by (repeat (first | exact Rem.head | apply Rem.tail)); done) (by rw [hmw, hzl]) ?_
            refine LW.nil (QW.in_normal (QW.thenC (CW.seq (CW.seq (CW.region ?_)))))
            refine LW.val rfl rfl rfl (x_loadB0 rfl rfl ty31 (by (repeat (first | exact Rem.head | apply Rem.tail)); done) rfl) ?_
            refine LW.op rfl rfl rfl (y_call rfl rfl rfl en18 (fun w HW => IsShop_ct day looms mw zs (some ⟨gg, 0, none⟩) c1 _ (SH.rdR (by (repeat (first | exact Rem.head | apply Rem.tail)); done) (by omega) HW))) ?_
            rintro ⟨⟩
            have hgm : goodSh day looms mw zs = goodSh day looms (if kind = 7 then money + val else money) zs ∧ (goodSh day looms (if kind = 7 then money + val else money) zs = true → mw = (if kind = 7 then money + val else money)) := by
              rw [← hmw]
              by_cases e : kind = 7
              · rw [if_pos e, if_pos e]
                exact good_wrapMoney g3 ⟨by simp [validI, e] at h1; exact h1, hv⟩
              · rw [if_neg e, if_neg e]; exact ⟨rfl, fun _ => rfl⟩
            refine LW.val rfl rfl rfl (x_not rfl rfl) ?_
            refine LW.nil (QW.thenC ?_)
            refine CW.cond rfl (fun h2 => ?_) (fun h2 => ?_)
            · obtain ⟨rfl, rfl, rfl, rfl, rfl⟩ := no (stepR_bad hc (by rw [← hgm.1]; simpa using h2))
              refine CW.seq (CW.region ?_)
              refine LW.val rfl rfl rfl (x_build rfl rfl rfl ze31 st31 pl31 (by simp [fillL, Value.cells]; rfl)) ?_
              refine LW.op0 rfl rfl (y_storeB0 rfl rfl rfl rfl ty31 rfl (by (repeat (first | exact Rem.head | apply Rem.tail)); done) rfl) ?_
              intro _u
              refine LW.val rfl rfl rfl (x_assign rfl rfl) ?_
              refine LW.nil (QW.thenC (CW.ret (QW.then_ret ?_)))
              refine QW.res2 rfl (ResV.cellN rfl ty31 (by (repeat (first | exact Rem.head | apply Rem.tail)); done) (by exact rfl)) (ResV.tmp rfl) (ret_eq ((none, 0)) ?_ ?_)
              · first | rfl | (simp only []; rfl)
              · (repeat (first | exact Sub.nil | exact Sub.all | (apply Sub.cons; (focus ((repeat (first | exact Rem.head | apply Rem.tail)); done))) | (apply Sub.row; (focus ((repeat (first | exact Rem.head | apply Rem.tail)); done)); (focus (first | with_reducible rfl | assumption | omega | (simp; done) | (simp [Nat.mul_comm]; done) | (simp; omega))); (focus (first | with_reducible rfl | assumption | omega | (simp; done) | (simp [Nat.mul_comm]; done) | (simp; omega))); (focus (first | with_reducible rfl | (simp [nums]; done) | (simp [nums]; omega) | (simp; done) | (simp; omega)))) | (apply Sub.blk; (focus ((repeat (first | exact Rem.head | apply Rem.tail)); done)); (focus (first | with_reducible rfl | (simp [nums]; done) | (simp [nums]; omega) | (simp; done) | (simp; omega)))) | fail))
            · have h2 : goodSh day looms (if kind = 7 then money + val else money) zs = true := by rw [← hgm.1]; simpa using h2
              obtain ⟨rfl, rfl, rfl, rfl, rfl⟩ := yes _ _ _ hc h2
              have hmm := hgm.2 h2
              refine CW.skip (QW.thenC (CW.seq (CW.region ?_)))
              refine LW.val rfl rfl rfl (x_loadB0 rfl rfl ty31 (by (repeat (first | exact Rem.head | apply Rem.tail)); done) rfl) ?_
              refine LW.op0 rfl rfl (y_storeB0 rfl rfl rfl rfl ty31 rfl (by (repeat (first | exact Rem.head | apply Rem.tail)); done) rfl) ?_
              intro _u
              refine LW.val rfl rfl rfl (x_assign rfl rfl) ?_
              refine LW.nil (QW.thenC (CW.ret ?_))
              refine QW.res2 rfl (ResV.cellN rfl ty31 (by (repeat (first | exact Rem.head | apply Rem.tail)); done) (by exact rfl)) (ResV.tmp rfl) (ret_eq ((some ⟨gg, 0, none⟩, c1)) ?_ ?_)
              · (rw [← hmm])
              · (repeat (first | exact Sub.nil | exact Sub.all | (apply Sub.cons; (focus ((repeat (first | exact Rem.head | apply Rem.tail)); done))) | (apply Sub.row; (focus ((repeat (first | exact Rem.head | apply Rem.tail)); done)); (focus (first | with_reducible rfl | assumption | omega | (simp; done) | (simp [Nat.mul_comm]; done) | (simp; omega))); (focus (first | with_reducible rfl | assumption | omega | (simp; done) | (simp [Nat.mul_comm]; done) | (simp; omega))); (focus (first | with_reducible rfl | (simp [nums]; done) | (simp [nums]; omega) | (simp; done) | (simp; omega)))) | (apply Sub.blk; (focus ((repeat (first | exact Rem.head | apply Rem.tail)); done)); (focus (first | with_reducible rfl | (simp [nums]; done) | (simp [nums]; omega) | (simp; done) | (simp; omega)))) | fail))
end Go.Proofs.Ytbgjlojnbdnoaaa
