/- The law FnEveryShop holds: called with any shop and any list of steps it returns true, and what it was handed reads as it did. No condition. -/
import Derived.Test.YtbgjlojnbdnoaaaRows
import Derived.Test.YtbgjlojnbdnoaaaLawES
import Derived.Test.YtbgjlojnbdnoaaaOpenS
namespace Go.Proofs.Ytbgjlojnbdnoaaa
open Go.ChangeShapes Go.WideShapes Go.ChangeAt Go.RowKit Go.Joins
open Go.ChangeMaps (open_string shut_string)
set_option linter.unusedVariables false
set_option linter.unusedSimpArgs false

section
variable {H : Type} {enc : TypeId × Value → H} {W : World}
theorem wf_le {z : Int} (h : (Lit.int .i64 z).wf = true) : z ≤ 9223372036854775807 := by
  simp [Lit.wf, IntKind.min, IntKind.max, IntKind.signed, IntKind.bits] at h; omega
set_option maxRecDepth 100000 in
/-- a row of carpets, read -/
theorem open_carpets {fuel : Nat} {v : Value} {x : DataW H × List MemPlace} (h : DataW.trod enc Try.prog W 0 (fun _ => true) true fuel 29 [v] = some x) (hs : ∀ n ∈ x.1.weights Try.prog 29, n ≤ reachBytes) :
    ∃ A xs c, v = .slice A xs.length c ∧ RdC W A c xs := by
  obtain ⟨A, m, c, Z, rfl, h1, h2, h3, h4⟩ := open_intRows (k := 5) (ti := 3) (by_ := 40) Try.underlying29 Try.underlying41 (by kernel_rfl) (by omega) (fun i hi => by
    match i, hi with
    | 0, _ => exact ⟨_, rfl, rfl, rfl⟩
    | 1, _ => exact ⟨_, rfl, rfl, rfl⟩
    | 2, _ => exact ⟨_, rfl, rfl, rfl⟩
    | 3, _ => exact ⟨_, rfl, rfl, rfl⟩
    | 4, _ => exact ⟨_, rfl, rfl, rfl⟩) Try.underlying3 (by kernel_rfl) (by kernel_rfl) h hs
  have hl : ((List.range m).map fun i => (⟨Z i 0, Z i 1, Z i 2, Z i 3, Z i 4⟩ : Cp)).length = m := by simp
  refine ⟨A, (List.range m).map fun i => (⟨Z i 0, Z i 1, Z i 2, Z i 3, Z i 4⟩ : Cp), c, by rw [hl], by rw [hl]; exact h1, h2, by rw [flat_len cpLen], by rw [hl]; exact h3, fun j v hj => ?_⟩
  have hj' : j < m * 5 := by
    have := (List.getElem?_eq_some_iff.1 hj).1
    rw [flat_len cpLen, hl] at this; exact this
  obtain ⟨y, hy, he⟩ := flat_idx (f := cpL) (by omega) cpLen ((List.range m).map fun i => (⟨Z i 0, Z i 1, Z i 2, Z i 3, Z i 4⟩ : Cp)) j (by rw [hl]; exact hj')
  have hjm : j / 5 < m := by omega
  have hyy : y = ⟨Z (j / 5) 0, Z (j / 5) 1, Z (j / 5) 2, Z (j / 5) 3, Z (j / 5) 4⟩ := by
    simp [hjm] at hy; exact hy.symm
  rw [he, hyy] at hj
  obtain ⟨ad, e1, e2, _⟩ := h4 (j / 5) (j % 5) hjm (Nat.mod_lt _ (by omega))
  refine ⟨ad, e1, ?_⟩
  rw [show j / 5 * 5 + j % 5 = j by omega] at e2
  rw [e2, ← hj]
  have : j % 5 = 0 ∨ j % 5 = 1 ∨ j % 5 = 2 ∨ j % 5 = 3 ∨ j % 5 = 4 := by omega
  rcases this with h | h | h | h | h <;> rw [h] <;> rfl
set_option maxRecDepth 100000 in
theorem open_shop {v : Value} {d : DataW H} {p : List MemPlace} (hv : Value.okWide Try.prog W .any 0 31 v) (h : DataW.Trod enc Try.prog W 0 (fun _ => true) true 31 v d p) (hs : ∀ n ∈ d.weights Try.prog 31, n ≤ reachBytes) :
    ∃ day looms money xs A c, v = shV day looms money A xs.length c ∧ RdC W A c xs := by
  obtain ⟨v0, v1, v2, v3, y0, y1, y2, y3, n, rfl, rfl, rfl, h0, h1, h2, h3⟩ := open_agg4 Try.underlying31 (by kernel_rfl) (by kernel_rfl) hv h
  obtain ⟨a, e0, rfl, wa⟩ := DataW.trod_int Try.underlying3 h0
  obtain ⟨b, e1, rfl, wb⟩ := DataW.trod_int Try.underlying3 h1
  obtain ⟨m, e3, rfl, wm⟩ := DataW.trod_int Try.underlying3 h3
  simp at e0 e1 e3
  subst e0 e1 e3
  obtain ⟨A, xs, c, rfl, hR⟩ := open_carpets h2 (fun n hn => hs n (weight_field (i := 2) Try.underlying31 rfl rfl hn))
  exact ⟨a, b, m, xs, A, c, rfl, hR⟩
set_option maxRecDepth 100000 in
theorem open_steps {v : Value} {d : DataW H} {p : List MemPlace} (hv : Value.okWide Try.prog W .any 0 32 v) (h : DataW.Trod enc Try.prog W 0 (fun _ => true) true 32 v d p) (hs : ∀ n ∈ d.weights Try.prog 32, n ≤ reachBytes) :
    ∃ steps B e, v = .slice B steps.length e ∧ RdS W B e steps ∧ ∀ x ∈ steps, x.val ≤ 9223372036854775807 := by
  obtain ⟨a, l, cp, rfl⟩ := okWide_slice Try.underlying32 hv
  obtain ⟨fuel, hm⟩ := h
  obtain ⟨A, m, c, Z, hve, h1, h2, h3, h4⟩ := open_intRows (x := (d, p)) (k := 3) (ti := 3) (by_ := 24) Try.underlying32 Try.underlying37 (by kernel_rfl) (by omega) (fun i hi => by
    match i, hi with
    | 0, _ => exact ⟨_, rfl, rfl, rfl⟩
    | 1, _ => exact ⟨_, rfl, rfl, rfl⟩
    | 2, _ => exact ⟨_, rfl, rfl, rfl⟩) Try.underlying3 (by kernel_rfl) (by kernel_rfl) hm hs
  have hl : ((List.range m).map fun i => (⟨Z i 0, Z i 1, Z i 2⟩ : Sp)).length = m := by simp
  refine ⟨(List.range m).map fun i => (⟨Z i 0, Z i 1, Z i 2⟩ : Sp), A, c, by rw [hl]; exact hve, ⟨by rw [hl]; exact h1, h2, by rw [flat_len spLen], by rw [hl]; exact h3, fun j v hj => ?_⟩, fun x hx => ?_⟩
  · have hj' : j < m * 3 := by
      have := (List.getElem?_eq_some_iff.1 hj).1
      rw [flat_len spLen, hl] at this; exact this
    obtain ⟨y, hy, he⟩ := flat_idx (f := spL) (by omega) spLen ((List.range m).map fun i => (⟨Z i 0, Z i 1, Z i 2⟩ : Sp)) j (by rw [hl]; exact hj')
    have hjm : j / 3 < m := by omega
    have hyy : y = ⟨Z (j / 3) 0, Z (j / 3) 1, Z (j / 3) 2⟩ := by
      simp [hjm] at hy; exact hy.symm
    rw [he, hyy] at hj
    obtain ⟨ad, e1, e2, _⟩ := h4 (j / 3) (j % 3) hjm (Nat.mod_lt _ (by omega))
    refine ⟨ad, e1, ?_⟩
    rw [show j / 3 * 3 + j % 3 = j by omega] at e2
    rw [e2, ← hj]
    have : j % 3 = 0 ∨ j % 3 = 1 ∨ j % 3 = 2 := by omega
    rcases this with h | h | h <;> rw [h] <;> rfl
  · simp only [List.mem_map, List.mem_range] at hx
    obtain ⟨i, hi, rfl⟩ := hx
    obtain ⟨_, _, _, hw⟩ := h4 i 2 hi (by omega)
    exact wf_le hw
end
theorem own : ownKnob Try.prog.godebug = none := by kernel_rfl
theorem laidOut : laidOutB Try.prog = true := by kernel_rfl
set_option maxRecDepth 100000 in
theorem liftedES (os : Os) (started : os.Started) (H : Type) (enc : TypeId × Value → H) :
    ReturnsInHanded {} Try.checked os 4 .any (Rows.fnEveryShopSpec.pre6 enc Try.prog Try.f4 Rows.fnEveryShopRow.domain false) (Rows.fnEveryShopSpec.post enc Try.prog Try.f4 false true false false) := by
  refine returnsInHanded_of_change_sized (C := Try.checked) own started (by kernel_rfl) Try.func4
    (ChangeSpec.witness6 (enc := enc) (C := Try.checked) false ⟨#[], #[.agg #[.int .i64 0, .int .i64 0, .slice none 0 0, .int .i64 0], .slice none 0 0], []⟩ 8 (by kernel_rfl) (by kernel_rfl) (by kernel_rfl) (by kernel_rfl)) ?_
  intro W base args ds gs before hval0 hW hcnd hsz0 _
  have hsz : (DataW.weightsEach Try.prog (Try.f4.params.toList ++ Rows.fnEveryShopSpec.plain.varTypes Try.prog) (ds ++ gs)).all (· ≤ reachBytes) = true := hsz0
  have hval : ∀ (j : Nat) t v, Try.f4.params[j]? = some t → args[j]? = some v → Value.okWide Try.prog W .any base t v := hval0
  have hW' := hW
  obtain ⟨p, q, hA0, hV, rfl, hfz, hnd⟩ := hW
  have hA : DataW.TrodAll enc Try.prog W 0 (fun _ => true) true Try.f4.params.toList args.toList ds p := hA0
  rw [Try.params4] at hA hval hsz
  obtain ⟨v0, vs0, d0, ds0, p0, q0, hargs, rfl, rfl, h0, r0⟩ := trodAll_cons hA
  obtain ⟨v1, vs1, d1, ds1, p1, q1, rfl, rfl, rfl, h1, r1⟩ := trodAll_cons r0
  obtain ⟨rfl, rfl, rfl⟩ := trodAll_nil r1
  obtain rfl : args = #[v0, v1] := by cases args; simp_all
  obtain ⟨rfl, rfl⟩ := trodVars_none hV
  obtain ⟨day, looms, money, xs, A, c, rfl, hR⟩ := open_shop (hval 0 31 v0 rfl rfl) h0 (fun n hn => sized_of hsz (j := 0) rfl rfl hn)
  have lt0 : ∀ x ∈ p0, x.block < W.heap.size := by obtain ⟨m, hm⟩ := h0; exact DataW.trod_lt m _ _ _ hm
  obtain ⟨steps, B, e, rfl, hS, hv⟩ := open_steps (hval 1 32 v1 rfl rfl) h1 (fun n hn => sized_of hsz (j := 1) rfl rfl hn)
  have lt1 : ∀ x ∈ p1, x.block < W.heap.size := by obtain ⟨m, hm⟩ := h1; exact DataW.trod_lt m _ _ _ hm
  clear hA0 hval0 hsz0 hsz
  refine (FnEveryShop_ct day looms money xs A c steps B e W hR hS hv).mono fun e W' ⟨_, he, hsh⟩ => ?_
  have bel := hsh.below
  subst he
  exact ⟨_, rfl, _, _, _, [], _, [], hW', trodAll_mk1 (shut_bool Try.underlying4 _), (trodAll_cons_mk (Below.trod laidOut (by kernel_rfl) (of_decide_eq_true (by kernel_rfl)) h0 bel lt0) (trodAll_cons_mk (Below.trod laidOut (by kernel_rfl) (of_decide_eq_true (by kernel_rfl)) h1 bel lt1) trodAll_mk0)), rfl, bel.frame _, fun h => by cases h⟩
theorem fnEveryShop_holds : Rows.FnEveryShopSaid :=
  OpenClaim.holds_of_wide 4 Try.f4 rfl rfl rfl rfl rfl rfl rfl ⟨rfl, rfl, rfl, rfl, rfl⟩ rfl rfl rfl rfl rfl (by kernel_rfl) Try.func4 (by kernel_rfl)
    (of_decide_eq_true (by kernel_rfl)) (by unfold Func.isWrapper; first | (rw [if_pos (by decide +kernel)]; kernel_rfl) | (rw [if_neg (by decide +kernel)]; exact ⟨rfl, rfl⟩))
    (fun os started H enc _ => liftedES os started H enc)
#print axioms fnEveryShop_holds
end Go.Proofs.Ytbgjlojnbdnoaaa
