/- Arguments taken apart: whole numbers, rows of ints, charts. -/
import Derived.Test.YtbgjlojnbdnoaaaBase
import Derived.Test.YtbgjlojnbdnoaaaProg
import Derived.WalkKit
import Derived.ProofKit
import Derived.OpenShut
import Derived.ShutString
import Derived.ChangeOld
import Derived.Below
import Derived.SizedLaws
import Derived.Lib.SmallJoins
namespace Go.Proofs.Ytbgjlojnbdnoaaa
open Go.ChangeShapes Go.WideShapes Go.ChangeAt Go.RowKit Go.Joins
open Go.ChangeMaps (open_string shut_string)
set_option linter.unusedVariables false
set_option linter.unusedSimpArgs false

section
variable {H : Type} {P : Program} {ts : List TypeId} {ds : List (DataW H)}
theorem sized_of {t : TypeId} {d : DataW H} {j n : Nat} (h : (DataW.weightsEach P ts ds).all (· ≤ reachBytes) = true) (ht : ts[j]? = some t) (hd : ds[j]? = some d) (hn : n ∈ d.weights P t) : n ≤ reachBytes := by
  have := List.all_eq_true.1 h _ (DataW.weights_mem_each ht hd n hn)
  simpa using this
theorem weight_field {t u : TypeId} {fs : Array Field} {parts : List (DataW H)} {i n : Nat} {d : DataW H} (hu : P.underlying t = some (.struct fs)) (hf : (fs.toList.map (·.type))[i]? = some u) (hp : parts[i]? = some d) (hn : n ∈ d.weights P u) : n ∈ (DataW.agg parts).weights P t := by
  have := DataW.weights_mem_each (P := P) hf hp n hn
  simpa [DataW.weights, hu] using this
end
section
variable {H : Type} {enc : TypeId × Value → H} {W : World}
set_option maxRecDepth 100000 in
/-- a record of a log, read -/
theorem open_rec {v : Value} {d : DataW H} {p : List MemPlace} (hv : Value.okWide Try.prog W .any 0 23 v) (h : DataW.Trod enc Try.prog W 0 (fun _ => true) true 23 v d p) (hs : ∀ n ∈ d.weights Try.prog 23, n ≤ reachBytes) :
    ∃ c r : ByteArray, v = .agg #[.string c, .string r] ∧ c.size ≤ 140737488351232 ∧ r.size ≤ 140737488351232 := by
  obtain ⟨v0, v1, y0, y1, n, rfl, rfl, rfl, h0, h1⟩ := open_agg2 Try.underlying23 (by kernel_rfl) (by kernel_rfl) hv h
  obtain ⟨c, e0, rfl, wa⟩ := DataW.trod_string Try.underlying9 h0
  obtain ⟨r, e1, rfl, wb⟩ := DataW.trod_string Try.underlying9 h1
  simp at e0 e1
  subst e0 e1
  have hr : reachBytes ≤ 140737488351232 := by decide
  have z0 := hs c.data.toList.length (weight_field (i := 0) Try.underlying23 rfl rfl (by simp [DataW.weights]))
  have z1 := hs r.data.toList.length (weight_field (i := 1) Try.underlying23 rfl rfl (by simp [DataW.weights]))
  refine ⟨c, r, rfl, ?_, ?_⟩
  · have e : c.data.toList.length = c.size := by simp
    omega
  · have e : r.data.toList.length = r.size := by simp
    omega
end
end Go.Proofs.Ytbgjlojnbdnoaaa
