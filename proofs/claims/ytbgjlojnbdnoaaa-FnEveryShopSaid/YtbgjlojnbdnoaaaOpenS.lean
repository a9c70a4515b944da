/- Arguments taken apart: rows of structs of whole numbers. -/
import Derived.Test.YtbgjlojnbdnoaaaOps3
import Derived.Test.YtbgjlojnbdnoaaaProg
import Derived.WalkKit
import Derived.ProofKit
import Derived.OpenShut
import Derived.ShutString
import Derived.ChangeOld
import Derived.Below
import Derived.SizedLaws
import Derived.Lib.SmallJoins
import Derived.Deep.Slices
namespace Go.Proofs.Ytbgjlojnbdnoaaa
open Go.ChangeShapes Go.WideShapes Go.ChangeAt Go.RowKit Go.Joins
set_option linter.unusedVariables false
set_option linter.unusedSimpArgs false

section
variable {H : Type} {P : Program} {ts : List TypeId} {ds : List (DataW H)}
theorem sized_of {t : TypeId} {d : DataW H} {j n : Nat} (h : (DataW.weightsEach P ts ds).all (· ≤ reachBytes) = true) (ht : ts[j]? = some t) (hd : ds[j]? = some d) (hn : n ∈ d.weights P t) : n ≤ reachBytes := by
  have := List.all_eq_true.1 h _ (DataW.weights_mem_each ht hd n hn)
  simpa using this
theorem weight_field {t u : TypeId} {fs : Array Field} {parts : List (DataW H)} {i n : Nat} {d : DataW H} (hu : P.underlying t = some (.struct fs)) (hf : (fs.toList.map (·.type))[i]? = some u) (hp : parts[i]? = some d) (hn : n ∈ d.weights P u) : n ∈ (DataW.agg parts).weights P t := by
  have := DataW.weights_mem_each (P := P) hf hp n hn
  simpa [DataW.weights, hu] using this
end
theorem flat_idx {α : Type} {f : α → List Value} {k : Nat} (hk : 0 < k) (hf : ∀ x, (f x).length = k) (xs : List α) (j : Nat) (hj : j < xs.length * k) : ∃ x, xs[j / k]? = some x ∧ (flat f xs)[j]? = (f x)[j % k]? := by
  have hi : j / k < xs.length := Nat.div_lt_of_lt_mul (by rw [Nat.mul_comm]; exact hj)
  refine ⟨xs[j / k], by simp [hi], ?_⟩
  have := flat_get hf xs (j / k) (j % k) xs[j / k] (by simp [hi]) (Nat.mod_lt _ hk)
  rw [← this]
  congr 1
  rw [Nat.mul_comm]; exact (Nat.div_add_mod j k).symm
section
variable {H : Type} {enc : TypeId × Value → H} {P : Program} {W : World}
/-- the cells of a slice of structs of k whole numbers -/
theorem open_intRows {t e ti : TypeId} {k fuel by_ : Nat} {fs : Array Field} {v : Value} {x : DataW H × List MemPlace} (ht : P.underlying t = some (.slice e)) (he : P.underlying e = some (.struct fs)) (hk : P.cellsOf e = k) (hk0 : 0 < k) (hfs : ∀ i, i < k → ∃ f, fs[i]? = some f ∧ f.type = ti ∧ f.offset = i) (hti : P.underlying ti = some (.int .i64)) (hci : P.cellsOf ti = 1) (hby : P.bytesOf e = by_)
    (h : DataW.trod enc P W 0 (fun _ => true) true fuel t [v] = some x) (hs : ∀ n ∈ x.1.weights P t, n ≤ reachBytes) :
    ∃ (A : Option Addr) (m c : Nat) (Z : Nat → Nat → Int), v = .slice A m c ∧ m ≤ c ∧ c ≤ 9223372036854775807 ∧ m * by_ ≤ 140737488351232 ∧ ∀ i j, i < m → j < k → ∃ ad, A = some ad ∧ W.cell? (ad.add (i * k + j)) = some (.int .i64 (Z i j)) ∧ (Lit.int .i64 (Z i j)).wf = true := by
  rcases Deep.open_slice ht h with ⟨hcs, _⟩ | ⟨a, len, cap, m, n, D, Pl, hcs, _, hl, hm, hmm, hx, hall⟩
  · simp at hcs
    exact ⟨none, 0, 0, fun _ _ => 0, hcs, by omega, by omega, by simp, fun i j h => absurd h (by omega)⟩
  · simp at hcs
    simp only [if_true] at hmm
    subst hmm
    have key : ∀ i j, i < len → j < k → ∃ z, W.cell? (a.add (i * k + j)) = some (.int .i64 z) ∧ (Lit.int .i64 z).wf = true := fun i j hi hj => by
      obtain ⟨cs', h1, h2⟩ := hall i (by omega)
      rw [hk] at h1
      obtain ⟨ys, n', _, _, hlen, hys, hf⟩ := DataW.trod_struct he h2
      obtain ⟨f, hf1, hf2, hf3⟩ := hfs j hj
      have h3 := hf j f hf1
      have hjl : j < ys.length := by rw [hys]; exact (Array.getElem?_eq_some_iff.1 hf1).1
      rw [hf2, hf3, hci, List.getElem?_eq_getElem hjl] at h3
      obtain ⟨z, hz, _, hw⟩ := DataW.trod_int hti h3
      have hcj : cs'[j]? = some (.int .i64 z) := by
        have := congrArg (fun l => l[0]?) hz
        simp at this
        simpa using this
      refine ⟨z, ?_, hw⟩
      have hc := World.cells?_some h1
      obtain ⟨_, _, hc3⟩ := hc
      have := hc3 j hj
      rw [Addr.add_add, hcj] at this
      exact this
    refine ⟨some a, len, m, fun i j => if h : i < len ∧ j < k then Classical.choose (key i j h.1 h.2) else 0, hcs, hl, by simpa [maxLen] using hm, ?_, fun i j hi hj => ⟨a, rfl, ?_⟩⟩
    · have h1 := hs ((((List.range len).map D).length + ((List.range (m - len)).map fun j => D (len + j)).length) * P.bytesOf e) (by rw [hx]; simp [DataW.weights, ht])
      rw [hby] at h1
      simp at h1
      have hr : reachBytes = 140737488351232 := by decide
      rw [hr] at h1
      have : len * by_ ≤ (len + (m - len)) * by_ := Nat.mul_le_mul_right _ (by omega)
      omega
    · simp only [dif_pos (And.intro hi hj)]
      exact Classical.choose_spec (key i j hi hj)
end
end Go.Proofs.Ytbgjlojnbdnoaaa
