/- Arguments taken apart: whole numbers, rows of ints, charts. -/
import Derived.Test.YtbandmcdkcfpiaaBase
import Derived.Test.YtbandmcdkcfpiaaProg
import Derived.WalkKit
import Derived.ProofKit
import Derived.OpenShut
import Derived.ShutString
import Derived.ChangeOld
import Derived.Below
import Derived.SizedLaws
import Derived.Lib.SmallJoins
namespace Go.Proofs.Ytbandmcdkcfpiaa
open Go.ChangeShapes Go.WideShapes Go.ChangeAt Go.RowKit Go.Joins
open Go.ChangeMaps (open_string shut_string)
set_option linter.unusedVariables false
set_option linter.unusedSimpArgs false

section
variable {H : Type} {P : Program} {ts : List TypeId} {ds : List (DataW H)}
theorem sized_of {t : TypeId} {d : DataW H} {j n : Nat} (h : (DataW.weightsEach P ts ds).all (· ≤ reachBytes) = true) (ht : ts[j]? = some t) (hd : ds[j]? = some d) (hn : n ∈ d.weights P t) : n ≤ reachBytes := by
  have := List.all_eq_true.1 h _ (DataW.weights_mem_each ht hd n hn)
  simpa using this
theorem weight_field {t u : TypeId} {fs : Array Field} {parts : List (DataW H)} {i n : Nat} {d : DataW H} (hu : P.underlying t = some (.struct fs)) (hf : (fs.toList.map (·.type))[i]? = some u) (hp : parts[i]? = some d) (hn : n ∈ d.weights P u) : n ∈ (DataW.agg parts).weights P t := by
  have := DataW.weights_mem_each (P := P) hf hp n hn
  simpa [DataW.weights, hu] using this
end
section
variable {H : Type} {enc : TypeId × Value → H} {W : World}
set_option maxRecDepth 100000 in
/-- a row of ints, read -/
theorem open_row {fuel : Nat} {v : Value} {x : DataW H × List MemPlace} (h : DataW.trod enc Try.prog W 0 (fun _ => true) true fuel 22 [v] = some x) (hs : ∀ n ∈ x.1.weights Try.prog 22, n ≤ reachBytes) :
    ∃ A k c, v = .slice A k.length c ∧ RdI W A c k := by
  rcases open_ints Try.underlying22 Try.underlying3 (by kernel_rfl) h with ⟨hcs, _⟩ | ⟨x0, l, c, zs, hcs, _, hl, hm, hz, hx, hcell, hwz⟩
  · simp at hcs
    subst hcs
    exact ⟨none, [], 0, rfl, RdI.nil W⟩
  · simp at hcs
    subst hcs
    simp at hz
    have hw : zs.length * 8 ≤ reachBytes := by
      have hb : Program.bytesOf Try.prog 3 = 8 := by kernel_rfl
      have h1 := hs (((lits .i64 (zs.take l) : List (DataW H)).length + (lits .i64 (zs.drop l) : List (DataW H)).length) * Program.bytesOf Try.prog 3) (by rw [hx]; simp [DataW.weights, Try.underlying22])
      rw [hb] at h1
      simp [lits] at h1
      have : min l zs.length + (zs.length - l) = zs.length := by omega
      rw [this] at h1
      exact h1
    have hr : reachBytes ≤ 140737488351232 := by decide
    have hlen : (zs.take l).length = l := by simp; omega
    refine ⟨some x0, zs.take l, c, by rw [hlen], by rw [hlen]; exact hl, by simpa [maxLen] using hm, by rw [hlen]; omega, fun i hi => ⟨x0, rfl, ?_⟩⟩
    rw [hcell i (by rw [hlen] at hi; omega)]
    simp [List.getD_eq_getElem?_getD, List.getElem?_eq_getElem (show i < zs.length by rw [hlen] at hi; omega)]
set_option maxRecDepth 100000 in
/-- a row of ints, an argument of its own -/
theorem open_rowT {v : Value} {d : DataW H} {p : List MemPlace} (hv : Value.okWide Try.prog W .any 0 22 v) (h : DataW.Trod enc Try.prog W 0 (fun _ => true) true 22 v d p) (hs : ∀ n ∈ d.weights Try.prog 22, n ≤ reachBytes) :
    ∃ A k c, v = .slice A k.length c ∧ RdI W A c k := by
  obtain ⟨a, l, cp, rfl⟩ := okWide_slice Try.underlying22 hv
  obtain ⟨m, hm⟩ := h
  exact open_row (x := (d, p)) hm hs
set_option maxRecDepth 100000 in
/-- a chart, read -/
theorem open_chart {v : Value} {d : DataW H} {p : List MemPlace} (hv : Value.okWide Try.prog W .any 0 24 v) (h : DataW.Trod enc Try.prog W 0 (fun _ => true) true 24 v d p) (hs : ∀ n ∈ d.weights Try.prog 24, n ≤ reachBytes) :
    ∃ cw ch A k c, v = .agg #[.int .i64 cw, .int .i64 ch, .slice A k.length c] ∧ RdI W A c k := by
  obtain ⟨v0, v1, v2, y0, y1, y2, n, rfl, rfl, rfl, h0, h1, h2⟩ := open_agg3 Try.underlying24 (by kernel_rfl) (by kernel_rfl) hv h
  obtain ⟨a, e0, rfl, wa⟩ := DataW.trod_int Try.underlying3 h0
  obtain ⟨b, e1, rfl, wb⟩ := DataW.trod_int Try.underlying3 h1
  simp at e0 e1
  subst e0 e1
  obtain ⟨A, k, c, rfl, hR⟩ := open_row h2 (fun n hn => hs n (weight_field (i := 2) Try.underlying24 rfl rfl hn))
  exact ⟨a, b, A, k, c, rfl, hR⟩
end
end Go.Proofs.Ytbandmcdkcfpiaa
