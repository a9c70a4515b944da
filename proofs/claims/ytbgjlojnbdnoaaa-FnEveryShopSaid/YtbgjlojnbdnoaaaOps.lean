/- Laws of the operations, over states. -/
import Derived.Test.YtbgjlojnbdnoaaaSep
import Derived.Shelf.Abstract
namespace Go.Proofs.Ytbgjlojnbdnoaaa
open Go.RowKit
set_option linter.unusedVariables false
set_option linter.unusedSimpArgs false
set_option linter.unusedSectionVars false

section
variable {P : Program} {Q : Exit → Act → World → Prop} {n : Nat} {S : Slots} {w0 : World} {X : List Nat} {L l : List Fct} {ops : Array Oper} {rest : List Oper} {o : Oper}

/-! ### values -/
theorem x_move {x : Operand} {v : Value} (ho : o.op = .move x) (hx : evS S x = some v) : OpV P o S w0 X L v := fun n a w hs hw => by simp [execOp, ho, hs.eval hx]
theorem x_assign {x : Operand} {v : Value} (ho : o.op = .assign x) (hx : evS S x = some v) : OpV P o S w0 X L v := fun n a w hs hw => by simp [execOp, ho, hs.eval hx]
theorem x_nilCheck {x : Operand} {ad : Addr} (ho : o.op = .nilCheck x) (hx : evS S x = some (.pointer (some ad))) : OpV P o S w0 X L (.pointer (some ad)) := fun n a w hs hw => by simp [execOp, ho, hs.eval hx]
theorem x_int {op : BinOp} {t yt : TypeId} {x y : Operand} {k : IntKind} {a b : Int} {v : Value} (ho : o.op = .binOp op t x y yt) (hx : evS S x = some (.int k a)) (hy : evS S y = some (.int k b)) (hr : ∀ w, (binOp op t (.int k a) (.int k b)).run P w = .ok v w) : OpV P o S w0 X L v := fun n a w hs hw => by
  simp [execOp, ho, hs.eval hx, hs.eval hy, eqGuard_at_int, hr]
theorem x_int' {op : BinOp} {t yt : TypeId} {x y : Operand} {k k' : IntKind} {a b : Int} {v : Value} (ho : o.op = .binOp op t x y yt) (hx : evS S x = some (.int k a)) (hy : evS S y = some (.int k' b)) (hr : ∀ w, (binOp op t (.int k a) (.int k' b)).run P w = .ok v w) : OpV P o S w0 X L v := fun n a w hs hw => by
  simp [execOp, ho, hs.eval hx, hs.eval hy, eqGuard_at_int, hr]
section
variable {t yt : TypeId} {x y : Operand} {a b : Int} {k : IntKind}
theorem x_lss (ho : o.op = .binOp .lss t x y yt) (hx : evS S x = some (.int k a)) (hy : evS S y = some (.int k b)) : OpV P o S w0 X L (.bool (decide (a < b))) := x_int ho hx hy (fun w => by rw [binOp_lss]; rfl)
theorem x_leq (ho : o.op = .binOp .leq t x y yt) (hx : evS S x = some (.int k a)) (hy : evS S y = some (.int k b)) : OpV P o S w0 X L (.bool (decide (a ≤ b))) := x_int ho hx hy (fun w => by rw [binOp_leq]; rfl)
theorem x_gtr (ho : o.op = .binOp .gtr t x y yt) (hx : evS S x = some (.int k a)) (hy : evS S y = some (.int k b)) : OpV P o S w0 X L (.bool (decide (b < a))) := x_int ho hx hy (fun w => by rw [binOp_gtr]; rfl)
theorem x_geq (ho : o.op = .binOp .geq t x y yt) (hx : evS S x = some (.int k a)) (hy : evS S y = some (.int k b)) : OpV P o S w0 X L (.bool (decide (b ≤ a))) := x_int ho hx hy (fun w => by rw [binOp_geq]; rfl)
theorem x_eql (ho : o.op = .binOp .eql t x y yt) (hx : evS S x = some (.int k a)) (hy : evS S y = some (.int k b)) : OpV P o S w0 X L (.bool (decide (a = b))) := x_int ho hx hy (fun w => by rw [binOp_eql]; rfl)
theorem x_neq (ho : o.op = .binOp .neq t x y yt) (hx : evS S x = some (.int k a)) (hy : evS S y = some (.int k b)) : OpV P o S w0 X L (.bool (!decide (a = b))) := x_int ho hx hy (fun w => by rw [binOp_neq]; rfl)
theorem x_add (ho : o.op = .binOp .add t x y yt) (hx : evS S x = some (.int .i64 a)) (hy : evS S y = some (.int .i64 b)) (h : -9223372036854775808 ≤ a + b ∧ a + b ≤ 9223372036854775807) : OpV P o S w0 X L (.int .i64 (a + b)) :=
  x_int ho hx hy (fun w => by rw [binOp_add]; simp [Op.intArith, IntWalk.i64_in _ h])
theorem x_sub (ho : o.op = .binOp .sub t x y yt) (hx : evS S x = some (.int .i64 a)) (hy : evS S y = some (.int .i64 b)) (h : -9223372036854775808 ≤ a - b ∧ a - b ≤ 9223372036854775807) : OpV P o S w0 X L (.int .i64 (a - b)) :=
  x_int ho hx hy (fun w => by rw [binOp_sub]; simp [Op.intArith, IntWalk.i64_in _ h])
theorem x_mul (ho : o.op = .binOp .mul t x y yt) (hx : evS S x = some (.int .i64 a)) (hy : evS S y = some (.int .i64 b)) (h : -9223372036854775808 ≤ a * b ∧ a * b ≤ 9223372036854775807) : OpV P o S w0 X L (.int .i64 (a * b)) :=
  x_int ho hx hy (fun w => by rw [binOp_mul]; simp [Op.intArith, IntWalk.i64_in _ h])
theorem x_quo (ho : o.op = .binOp .quo t x y yt) (hx : evS S x = some (.int .i64 a)) (hy : evS S y = some (.int .i64 b)) (h : 0 ≤ a ∧ a ≤ 9223372036854775807 ∧ 0 < b) : OpV P o S w0 X L (.int .i64 (a / b)) :=
  x_int ho hx hy (fun w => by
    have h1 : 0 ≤ a / b := Int.ediv_nonneg h.1 (by omega)
    have h2 : a / b ≤ a := Int.ediv_le_self b h.1
    rw [binOp_quo]; simp [Op.intDiv, show b ≠ 0 by omega, Int.tdiv_eq_ediv_of_nonneg h.1, IntWalk.i64_in _ (show -9223372036854775808 ≤ a / b ∧ a / b ≤ 9223372036854775807 by omega)])
theorem x_rem (ho : o.op = .binOp .rem t x y yt) (hx : evS S x = some (.int .i64 a)) (hy : evS S y = some (.int .i64 b)) (h : 0 ≤ a ∧ a ≤ 9223372036854775807 ∧ 0 < b) : OpV P o S w0 X L (.int .i64 (a % b)) :=
  x_int ho hx hy (fun w => by
    have h1 : 0 ≤ a % b := Int.emod_nonneg a (by omega)
    have h2 : a % b ≤ a := by have h3 := Int.mul_ediv_add_emod a b; have h4 : 0 ≤ b * (a / b) := Int.mul_nonneg (by omega) (Int.ediv_nonneg h.1 (by omega)); omega
    rw [binOp_rem]; simp [Op.intDiv, show b ≠ 0 by omega, Int.tmod_eq_emod_of_nonneg h.1])
end
theorem x_not {x : Operand} {t : TypeId} {b : Bool} (ho : o.op = .unOp .not t x) (hx : evS S x = some (.bool b)) : OpV P o S w0 X L (.bool (!b)) := fun n a w hs hw => by simp [execOp, ho, hs.eval hx, Op.unary]
theorem x_neg {x : Operand} {t : TypeId} {b : Int} (ho : o.op = .unOp .neg t x) (hx : evS S x = some (.int .i64 b)) (h : -9223372036854775808 ≤ -b ∧ -b ≤ 9223372036854775807) : OpV P o S w0 X L (.int .i64 (-b)) := fun n a w hs hw => by
  simp [execOp, ho, hs.eval hx, Op.unary, Op.intArith, IntWalk.i64_in _ h]
theorem x_eqlB {t yt : TypeId} {x y : Operand} {a b : Bool} (ho : o.op = .binOp .eql t x y yt) (hx : evS S x = some (.bool a)) (hy : evS S y = some (.bool b)) (ht : P.underlying t = some .bool) : OpV P o S w0 X L (.bool (a == b)) := fun n a' w hs hw => by
  simp [execOp, ho, hs.eval hx, hs.eval hy, eqGuard_at_bool, run_eql_bool w t a b ht]
theorem x_neqB {t yt : TypeId} {x y : Operand} {a b : Bool} (ho : o.op = .binOp .neq t x y yt) (hx : evS S x = some (.bool a)) (hy : evS S y = some (.bool b)) (ht : P.underlying t = some .bool) : OpV P o S w0 X L (.bool (!(a == b))) := fun n a' w hs hw => by
  simp [execOp, ho, hs.eval hx, hs.eval hy, eqGuard_at_bool, run_neq_bool w t a b ht]
theorem evals {n : Nat} {S : Slots} {a : Act} (hs : Sl n S a) : ∀ (cl : List Operand) (vs : List Value), evL S cl = some vs → cl.map a.eval = vs
  | [], vs, h => by simp [evL] at h; subst h; rfl
  | x :: r, vs, h => by
    unfold evL at h
    split at h
    · rename_i v u hv hu
      have h := Option.some.inj h
      subst h
      simp [hs.eval hv, evals hs r u hu]
    · cases h
theorem evalP {n : Nat} {S : Slots} {a : Act} (hs : Sl n S a) : ∀ (pl : List (Nat × Operand)) (vs : List (Nat × Value)), evP S pl = some vs → pl.map (fun p => (p.1, a.eval p.2)) = vs
  | [], vs, h => by simp [evP] at h; subst h; rfl
  | (i, x) :: r, vs, h => by
    unfold evP at h
    split at h
    · rename_i v u hv hu
      have h := Option.some.inj h
      subst h
      simp [hs.eval hv, evalP hs r u hu]
    · cases h
theorem x_func {fn : Fn} {cap : Array Operand} {vs : List Value} {cl : List Operand} (ho : o.op = .makeFunc fn #[] cap) (hc : cap = cl.toArray) (ha : evL S cl = some vs) : OpV P o S w0 X L (.func fn #[] vs.toArray) := fun n a w hs hw => by
  simp [execOp, ho, hc, Instr.makeFunc, evals hs cl vs ha]
theorem x_extract {x : Operand} {i : Nat} {vs : List Value} {v : Value} (ho : o.op = .extract x i) (hx : evS S x = some (.tuple vs.toArray)) (hv : vs[i]? = some v) : OpV P o S w0 X L v := fun n a w hs hw => by
  simp [execOp, ho, hs.eval hx, Instr.extract, hv]
theorem x_len {t ty : TypeId} {x : Operand} {A : Option Addr} {m c : Nat} (ho : o.op = .call { callee := .builtin .len, args := #[x], argTypes := #[t] }) (hx : evS S x = some (.slice A m c)) (ht : P.underlying t = some (.slice (P.elem t))) : OpV P o S w0 X L (.int .i64 m) := fun n a w hs hw => by
  simp [execOp, ho, resolve, invoke, builtin, hs.eval hx, run_len_slice w t o.type A m c ht, goInt]
theorem x_lenStr {t : TypeId} {x : Operand} {s : ByteArray} (ho : o.op = .call { callee := .builtin .len, args := #[x], argTypes := #[t] }) (hx : evS S x = some (.string s)) (ht : P.underlying t = some .string) : OpV P o S w0 X L (.int .i64 s.size) := fun n a w hs hw => by
  simp [execOp, ho, resolve, invoke, builtin, hs.eval hx, Builtin.len_, run_underlying ht, goInt]
theorem x_max {ts : Array TypeId} {x y : Operand} {a b : Int} {k : IntKind} (ho : o.op = .call { callee := .builtin .max, args := #[x, y], argTypes := ts }) (hx : evS S x = some (.int k a)) (hy : evS S y = some (.int k b)) : OpV P o S w0 X L (.int k (max a b)) := fun n a' w hs hw => by
  simp [execOp, ho, resolve, invoke, builtin, hs.eval hx, hs.eval hy, run_max_int2]
  omega
theorem x_min {ts : Array TypeId} {x y : Operand} {a b : Int} {k : IntKind} (ho : o.op = .call { callee := .builtin .min, args := #[x, y], argTypes := ts }) (hx : evS S x = some (.int k a)) (hy : evS S y = some (.int k b)) : OpV P o S w0 X L (.int k (min a b)) := fun n a' w hs hw => by
  simp [execOp, ho, resolve, invoke, builtin, hs.eval hx, hs.eval hy, run_min_int2]
  omega

/-! ### cells -/
/-- of a type: none: one cell; some k: a struct or an array of k cells -/
def tyS (P : Program) (t : TypeId) : Option (Option Nat) :=
  match P.underlying t, P.info? t with
  | some (.struct _), some i => some (some i.size)
  | some (.array _ _), some i => some (some i.size)
  | some _, some i => if i.size = 1 then some none else none
  | _, _ => none
def zeroS (P : Program) (t : TypeId) : Option (List Value) := match P.info? t with
  | some i => i.zero.map (·.cells.toList)
  | none => none
/-- the place of a field, in cells -/
def fldS (P : Program) (t : TypeId) (f : Nat) : Option Nat :=
  match P.underlying t with
  | some (.struct fs) => match fs[f]? with
    | some x => if P.cellsOf x.type = 0 then none else if (P.info? x.type).isSome then some x.offset else none
    | none => none
  | _ => none
/-- a part of an aggregate: where it lies, and what it is -/
def partS (P : Program) (t : TypeId) (f : Nat) : Option (Nat × Option Nat) :=
  match P.underlying t with
  | some (.struct fs) => match fs[f]? with
    | some x => (tyS P x.type).map fun k => (x.offset, k)
    | none => none
  | _ => none
/-- a slice type's element: its type, its cells -/
def elS (P : Program) (t : TypeId) : Option (TypeId × Nat) :=
  match P.underlying t with
  | some (.slice e) => (P.info? e).map fun i => (e, i.size)
  | _ => none
theorem run_isAgg1 {t : TypeId} (h : tyS P t = some none) (w : World) : (isAgg t).run P w = .ok false w ∧ (sizeOf t).run P w = .ok 1 w := by
  unfold tyS at h
  cases hu : P.underlying t with
  | none => rw [hu] at h; cases h
  | some d =>
    cases hi : P.info? t with
    | none => rw [hu, hi] at h; cases d <;> cases h
    | some i =>
      rw [hu, hi] at h
      have h1 : i.size = 1 := by clear hu; cases d <;> simp at h <;> first | exact h | skip
      refine ⟨run_isAgg_plain hu (by cases d <;> first | rfl | (simp at h)) w, by simp [sizeOf, typeInfo, hi, h1]⟩
theorem run_isAggN {t : TypeId} {k : Nat} (h : tyS P t = some (some k)) (w : World) : (isAgg t).run P w = .ok true w ∧ (sizeOf t).run P w = .ok k w := by
  unfold tyS at h
  split at h
  · rename_i fs i hu hi
    simp at h; subst h
    exact ⟨by simp [isAgg, run_underlying hu], by simp [sizeOf, typeInfo, hi]⟩
  · rename_i m e i hu hi
    simp at h; subst h
    exact ⟨by simp [isAgg, run_underlying hu], by simp [sizeOf, typeInfo, hi]⟩
  · split at h <;> cases h
  · cases h
theorem addr_add (b i j : Nat) : (⟨b, i, none⟩ : Addr).add j = ⟨b, i + j, none⟩ := Addr.add_lit b i j

theorem x_load1 {t : TypeId} {x : Operand} {ad : Addr} {v : Value} (ho : o.op = .load t x) (hx : evS S x = some (.pointer (some ad))) (ht : tyS P t = some none) (hc : ∀ w, SH w0 X w L → w.cell? ad = some v) : OpV P o S w0 X L v := fun n a w hs hw => by
  simp [execOp, ho, hs.eval hx, Instr.loadAt, Instr.sureAddr, loadVar, (run_isAgg1 ht w).1, hc w hw]
theorem x_loadN {t : TypeId} {x : Operand} {ad : Addr} {k : Nat} {vs : List Value} (ho : o.op = .load t x) (hx : evS S x = some (.pointer (some ad))) (ht : tyS P t = some (some k)) (hk : vs.length = k) (hc : ∀ w, SH w0 X w L → ∀ j v, vs[j]? = some v → w.cell? (ad.add j) = some v) : OpV P o S w0 X L (.agg vs.toArray) := fun n a w hs hw => by
  subst hk
  simp [execOp, ho, hs.eval hx, Instr.loadAt, Instr.sureAddr, loadVar, (run_isAggN ht w).1, (run_isAggN ht w).2, run_loadCells_list (P := P) w ad vs (hc w hw)]
theorem blk_get {w : World} {b i : Nat} {cs : List Value} {e : TypeId} {v : Value} (hr : Rem L (.blk b cs e) l) (hv : cs[i]? = some v) (hw : SH w0 X w L) : w.cell? ⟨b, i, none⟩ = some v := by
  have h := hw.has hr
  have h : w.heap[b]? = some (.cells cs.toArray e (0, 0)) := h
  simp [World.cell?, h, hv]
theorem x_loadB {t e : TypeId} {x : Operand} {b i : Nat} {cs : List Value} {v : Value} (ho : o.op = .load t x) (hx : evS S x = some (.pointer (some ⟨b, i, none⟩))) (ht : tyS P t = some none) (hr : Rem L (.blk b cs e) l) (hv : cs[i]? = some v) : OpV P o S w0 X L v :=
  x_load1 ho hx ht fun w hw => blk_get hr hv hw
theorem x_loadBN {t e : TypeId} {x : Operand} {b i k : Nat} {cs vs : List Value} (ho : o.op = .load t x) (hx : evS S x = some (.pointer (some ⟨b, i, none⟩))) (ht : tyS P t = some (some k)) (hr : Rem L (.blk b cs e) l) (hv : (cs.drop i).take k = vs) (hk : vs.length = k) : OpV P o S w0 X L (.agg vs.toArray) :=
  x_loadN ho hx ht hk fun w hw j v hj => by
    rw [addr_add]
    refine blk_get hr ?_ hw
    subst hv
    rw [List.getElem?_take] at hj
    split at hj
    · simpa using hj
    · cases hj
theorem x_field1 {t : TypeId} {x : Operand} {f off : Nat} {cs : List Value} {v : Value} (ho : o.op = .field t x f) (hx : evS S x = some (.agg cs.toArray)) (ht : partS P t f = some (off, none)) (hv : cs[off]? = some v) : OpV P o S w0 X L v := fun n a w hs hw => by
  unfold partS at ht
  split at ht <;> try cases ht
  rename_i fs hu
  split at ht <;> try cases ht
  rename_i fd hf
  simp at ht
  obtain ⟨h1, rfl⟩ := ht
  simp [execOp, ho, hs.eval hx, Instr.field, run_underlying hu, hf, part, asAgg, (run_isAgg1 h1 w).1, hv]
theorem x_fieldN {t : TypeId} {x : Operand} {f off k : Nat} {cs vs : List Value} (ho : o.op = .field t x f) (hx : evS S x = some (.agg cs.toArray)) (ht : partS P t f = some (off, some k)) (hv : (cs.drop off).take k = vs) : OpV P o S w0 X L (.agg vs.toArray) := fun n a w hs hw => by
  unfold partS at ht
  split at ht <;> try cases ht
  rename_i fs hu
  split at ht <;> try cases ht
  rename_i fd hf
  simp at ht
  obtain ⟨h1, rfl⟩ := ht
  subst hv
  simp [execOp, ho, hs.eval hx, Instr.field, run_underlying hu, hf, part, asAgg, (run_isAggN h1 w).1, (run_isAggN h1 w).2, List.take_drop]
theorem x_fieldAddr {t : TypeId} {x : Operand} {f off b i j : Nat} (ho : o.op = .fieldAddr t x f) (hx : evS S x = some (.pointer (some ⟨b, i, none⟩))) (ht : fldS P t f = some off) (hj : i + off = j) : OpV P o S w0 X L (.pointer (some ⟨b, j, none⟩)) := fun n a w hs hw => by
  unfold fldS at ht
  split at ht <;> try cases ht
  rename_i fs hu
  split at ht <;> try cases ht
  rename_i fd hf
  split at ht <;> try cases ht
  rename_i hz
  split at ht <;> try cases ht
  rename_i hi
  obtain ⟨inf, hi⟩ := Option.isSome_iff_exists.1 hi
  have hz' : inf.size ≠ 0 := by simpa [Program.cellsOf, hi] using hz
  subst hj
  simp [execOp, ho, hs.eval hx, Instr.fieldAt, run_underlying hu, hf, Instr.sureAddr, fieldPlace, sizeOf, typeInfo, hi, hz', addr_add]
theorem x_fieldAddrG {t : TypeId} {x : Operand} {f off : Nat} {ad : Addr} (ho : o.op = .fieldAddr t x f) (hx : evS S x = some (.pointer (some ad))) (ht : fldS P t f = some off) : OpV P o S w0 X L (.pointer (some (ad.add off))) := fun n a w hs hw => by
  unfold fldS at ht
  split at ht <;> try cases ht
  rename_i fs hu
  split at ht <;> try cases ht
  rename_i fd hf
  split at ht <;> try cases ht
  rename_i hz
  split at ht <;> try cases ht
  rename_i hi
  obtain ⟨inf, hi⟩ := Option.isSome_iff_exists.1 hi
  have hz' : inf.size ≠ 0 := by simpa [Program.cellsOf, hi] using hz
  simp [execOp, ho, hs.eval hx, Instr.fieldAt, run_underlying hu, hf, Instr.sureAddr, fieldPlace, sizeOf, typeInfo, hi, hz']
theorem x_idx {t e : TypeId} {x y : Operand} {ad : Addr} {m c sz : Nat} {i : Int} {k : IntKind} (ho : o.op = .indexAddr t x y) (hx : evS S x = some (.slice (some ad) m c)) (hy : evS S y = some (.int k i)) (ht : elS P t = some (e, sz)) (h : 0 ≤ i ∧ i < m) : OpV P o S w0 X L (.pointer (some (ad.add (i.toNat * sz)))) := fun n a w hs hw => by
  unfold elS at ht
  split at ht <;> try cases ht
  rename_i e' hu
  cases hi : P.info? e' with
  | none => rw [hi] at ht; cases ht
  | some inf =>
    rw [hi] at ht
    simp at ht
    obtain ⟨rfl, rfl⟩ := ht
    simp [execOp, ho, hs.eval hx, hs.eval hy, Instr.indexAt, run_underlying hu, asIntOf, h, sizeOf, typeInfo, hi]
/-- an index that is a Nat, an element of one cell -/
theorem x_idx1 {t e : TypeId} {x y : Operand} {ad : Addr} {m c : Nat} {i : Nat} {k : IntKind} (ho : o.op = .indexAddr t x y) (hx : evS S x = some (.slice (some ad) m c)) (hy : evS S y = some (.int k (i : Nat))) (ht : elS P t = some (e, 1)) (h : i < m) : OpV P o S w0 X L (.pointer (some (ad.add i))) := by
  have := x_idx (P := P) (w0 := w0) (X := X) (L := L) ho hx hy ht ⟨by omega, by omega⟩
  simpa using this

/-! ### what makes or turns memory -/
theorem SH.alloc {w : World} (h : SH w0 X w L) (cs : List Value) (t : TypeId) : SH w0 X (w.alloc (.cells cs.toArray t)) (.blk w.heap.size cs t :: L) := by
  refine SH.call (N := [.blk w.heap.size cs t]) h ⟨rfl, rfl, rfl, by simp, fun k hk _ => Below.heap_alloc _ _ _ hk, fun f hf => ?_, fun f hf k hk => ?_, by simp⟩
  · simp at hf; subst hf; exact heap_alloc_new _ _
  · simp at hf; subst hf; exact .inl (Nat.le_of_eq (Option.some.inj hk))
/-- 'v' is laid into a new block -/
theorem y_box {t : TypeId} {x : Operand} {v : Value} {cs : List Value} (ho : o.op = .box t x) (hx : evS S x = some v) (hc : v.cells = cs.toArray) : OpW P o S w0 X L (fun b : Nat => .pointer (some ⟨b, 0, none⟩)) (fun b => .blk b cs t :: L) := by
  intro n a w K Q hs hw hk
  have := hk w.heap.size _ (hw.alloc cs t)
  unfold Oper.wp
  simp [execOp, ho, hs.eval hx, Instr.box, newVar, newRow, newObj, hc, Oper.upon]
  exact this
theorem y_alloc {t : TypeId} {cs : List Value} (ho : o.op = .alloc t) (hz : zeroS P t = some cs) : OpW P o S w0 X L (fun b : Nat => .pointer (some ⟨b, 0, none⟩)) (fun b => .blk b cs t :: L) := by
  intro n a w K Q hs hw hk
  have := hk w.heap.size _ (hw.alloc cs t)
  unfold zeroS at hz
  cases hi : P.info? t with
  | none => rw [hi] at hz; cases hz
  | some inf =>
    rw [hi] at hz
    cases hv : inf.zero with
    | none => simp [hv] at hz
    | some z =>
      simp [hv] at hz
      have hz' : z.cells = cs.toArray := by rw [← hz]
      unfold Oper.wp
      simp [execOp, ho, Instr.alloc, zeroValue, typeInfo, hi, hv, newVar, newRow, newObj, hz', Oper.upon]
      exact this
theorem SH.put {w : World} {b i : Nat} {cs vs : List Value} {e : TypeId} (h : SH w0 X w L) (hr : Rem L (.blk b cs e) l) (hf : i + vs.length ≤ cs.length) :
    SH w0 X (w.setRow b (cs.take i ++ vs ++ cs.drop (i + vs.length)).toArray) (.blk b (cs.take i ++ vs ++ cs.drop (i + vs.length)) e :: l) := by
  have h1 := h.front hr
  have hb : w.heap[b]? = some (.cells cs.toArray e (0, 0)) := h.has hr
  refine SH.step (F := [.blk b cs e]) (X' := [b]) (N := [.blk b (cs.take i ++ vs ++ cs.drop (i + vs.length)) e]) h1 (fun k hk => ⟨_, .head _, ?_⟩) ⟨rfl, rfl, rfl, by simp [World.setRow], fun k hk hx => setRow_other w b k _ (fun e => hx (by simp [e])), fun f hf => ?_, fun f hf k hk => ?_, by simp⟩
  · simp at hk; subst hk; rfl
  · rw [List.mem_singleton] at hf; subst hf; exact setRow_heap w b _ _ _ _ hb
  · simp at hf; subst hf; exact .inr (by have := Option.some.inj hk; simp [this])
theorem storeVar_run {w : World} {b i k : Nat} {cs vs : List Value} {t e : TypeId} {v : Value} (hv : v.cells = vs.toArray) (h1 : vs.all Value.oneCell' = true) (ht : (sizeOf t).run P w = .ok k w) (hk : vs.length = k) (hb : w.heap[b]? = some (.cells cs.toArray e (0, 0))) (hf : i + vs.length ≤ cs.length) :
    (storeVar t ⟨b, i, none⟩ v).run P w = .ok () (w.setRow b (cs.take i ++ vs ++ cs.drop (i + vs.length)).toArray) := by
  subst hk
  have := run_storeCells_at P b i e vs 0 cs.toArray w hb (by simpa using hf) (by simpa using h1)
  simp only [Nat.add_zero] at this
  simp [storeVar, hv, ht, this]
theorem y_storeB {t e : TypeId} {x y : Operand} {b i : Nat} {cs cs' : List Value} {v : Value} (ho : o.op = .store t x y) (hx : evS S x = some (.pointer (some ⟨b, i, none⟩))) (hy : evS S y = some v) (hc : v.cells = #[v]) (h1 : v.oneCell' = true) (ht : tyS P t = some none) (hr : Rem L (.blk b cs e) l) (hf : Nat.blt i cs.length = true) (he : cs.set i v = cs') :
    OpW P o S w0 X L (fun _ : Unit => undef) (fun _ => .blk b cs' e :: l) := by
  intro n a w K Q hs hw hk
  have hf' : i < cs.length := by simpa [Nat.blt_eq] using hf
  have hb : w.heap[b]? = some (.cells cs.toArray e (0, 0)) := hw.has hr
  have h2 := hw.put hr (vs := [v]) (i := i) (by simp; omega)
  have h3 := storeVar_run (P := P) (vs := [v]) hc (by simp [h1]) (run_isAgg1 ht w).2 rfl hb (i := i) (by simp; omega)
  have e1 : cs.take i ++ [v] ++ cs.drop (i + [v].length) = cs' := by
    rw [← he, List.set_eq_take_append_cons_drop, if_pos hf']; simp
  rw [e1] at h2 h3
  have := hk () _ h2
  unfold Oper.wp
  simp [execOp, ho, hs.eval hx, hs.eval hy, Instr.storeAt, Instr.sureAddr, h3, Oper.upon]
  exact this
theorem y_storeBN {t e : TypeId} {x y : Operand} {b i k : Nat} {cs vs cs' : List Value} (ho : o.op = .store t x y) (hx : evS S x = some (.pointer (some ⟨b, i, none⟩))) (hy : evS S y = some (.agg vs.toArray)) (h1 : vs.all Value.oneCell' = true) (ht : tyS P t = some (some k)) (hk : vs.length = k) (hr : Rem L (.blk b cs e) l) (hf : Nat.ble (i + k) cs.length = true) (he : cs.take i ++ vs ++ cs.drop (i + k) = cs') :
    OpW P o S w0 X L (fun _ : Unit => undef) (fun _ => .blk b cs' e :: l) := by
  intro n a w K Q hs hw hkk
  subst hk
  have hf' : i + vs.length ≤ cs.length := by simpa [Nat.ble_eq] using hf
  have hb : w.heap[b]? = some (.cells cs.toArray e (0, 0)) := hw.has hr
  have h2 := hw.put hr hf'
  have h3 := storeVar_run (P := P) (v := .agg vs.toArray) (vs := vs) rfl h1 (run_isAggN ht w).2 rfl hb hf'
  rw [he] at h2 h3
  have := hkk () _ h2
  unfold Oper.wp
  simp [execOp, ho, hs.eval hx, hs.eval hy, Instr.storeAt, Instr.sureAddr, h3, Oper.upon]
  exact this

/-! ### calls -/
/-- a call of a function, by its contract -/
theorem y_call {α : Type} {V : α → Value} {N : α → List Fct} {g : Nat} {args : Array Operand} {ats : Array TypeId} {cl : List Operand} {vs : List Value} (ho : o.op = .call { callee := .value (.func g), args := args, argTypes := ats }) (hl : args = cl.toArray) (ha : evL S cl = some vs) (eg : Enters P g)
    (hc : ∀ w, SH w0 X w L → Calls P g vs.toArray w fun e w' => ∃ p, e = .returned (V p) ∧ SH w [] w' (N p)) : OpW P o S w0 X L V (fun p => N p ++ L) := by
  intro n a w K Q hs hw hk
  subst hl
  have e1 : Array.map a.eval cl.toArray = vs.toArray := by simp [evals hs cl vs ha]
  unfold Oper.wp
  have hr : (execOp a.eval o).run P w = .ok (.enter g vs.toArray) w := by
    simp only [execOp, ho, resolve, e1]
    simp [Act.eval, Deferred.ofValue, invoke]
    exact eg _ _
  rw [hr]
  refine (hc w hw).mono fun e w' h => ?_
  obtain ⟨p, rfl, h⟩ := h
  exact hk p _ (hw.call h)
/-- .. of a function value -/
theorem y_callV {α : Type} {V : α → Value} {N : α → List Fct} {g : Nat} {f : Operand} {args : Array Operand} {ats : Array TypeId} {cl : List Operand} {vs : List Value} {cap : Array Value} (ho : o.op = .call { callee := .value f, args := args, argTypes := ats }) (hf : evS S f = some (.func (.func g) #[] cap)) (hl : args = cl.toArray) (ha : evL S cl = some vs) (eg : Enters P g)
    (hc : ∀ w, SH w0 X w L → Calls P g (vs.toArray ++ cap) w fun e w' => ∃ p, e = .returned (V p) ∧ SH w [] w' (N p)) : OpW P o S w0 X L V (fun p => N p ++ L) := by
  intro n a w K Q hs hw hk
  subst hl
  have e1 : Array.map a.eval cl.toArray = vs.toArray := by simp [evals hs cl vs ha]
  unfold Oper.wp
  have hr : (execOp a.eval o).run P w = .ok (.enter g (vs.toArray ++ cap)) w := by
    simp only [execOp, ho, resolve, e1]
    rw [hs.eval hf]
    simp [Deferred.ofValue, invoke]
    exact eg _ _
  rw [hr]
  refine (hc w hw).mono fun e w' h => ?_
  obtain ⟨p, rfl, h⟩ := h
  exact hk p _ (hw.call h)
/-- .. that may turn the blocks X', each of a fact among F -/
theorem y_callX {α : Type} {V : α → Value} {N : α → List Fct} {g : Nat} {args : Array Operand} {ats : Array TypeId} {cl : List Operand} {vs : List Value} (F : List Fct) (X' : List Nat) {L1 : List Fct} (ho : o.op = .call { callee := .value (.func g), args := args, argTypes := ats }) (hl : args = cl.toArray) (ha : evL S cl = some vs) (eg : Enters P g)
    (hp : ∀ w, SH w0 X w L → SH w0 X w (F ++ L1)) (hX : ∀ k ∈ X', ∃ f ∈ F, f.foot = some k)
    (hc : ∀ w, SH w0 X w L → Calls P g vs.toArray w fun e w' => ∃ p, e = .returned (V p) ∧ SH w X' w' (N p)) : OpW P o S w0 X L V (fun p => N p ++ L1) := by
  intro n a w K Q hs hw hk
  subst hl
  have e1 : Array.map a.eval cl.toArray = vs.toArray := by simp [evals hs cl vs ha]
  unfold Oper.wp
  have hr : (execOp a.eval o).run P w = .ok (.enter g vs.toArray) w := by
    simp only [execOp, ho, resolve, e1]
    simp [Act.eval, Deferred.ofValue, invoke]
    exact eg _ _
  rw [hr]
  refine (hc w hw).mono fun e w' h => ?_
  obtain ⟨p, rfl, h⟩ := h
  exact hk p _ (SH.step (hp w hw) hX h)

/-! ### in and out -/
def slotsOf : Nat → List Value → Slots
  | _, [] => []
  | i, v :: r => (i, v) :: slotsOf (i + 1) r
theorem slotsOf_get : ∀ (vs : List Value) (j i : Nat) (v : Value), getS (slotsOf j vs) i = some v → j ≤ i ∧ vs[i - j]? = some v
  | [], j, i, v, h => by cases h
  | u :: r, j, i, v, h => by
    simp only [slotsOf, getS] at h
    cases hb : Nat.beq j i with
    | true =>
      have : j = i := Nat.eq_of_beq_eq_true hb
      subst this
      rw [hb] at h
      have h : u = v := Option.some.inj h
      subst h
      simp
    | false =>
      rw [hb] at h
      have := slotsOf_get r (j + 1) i v h
      refine ⟨by omega, ?_⟩
      rw [show i - j = (i - (j + 1)) + 1 by omega, List.getElem?_cons_succ]
      exact this.2
theorem enterX {g : Nat} {fn : Func} {c : Code} {args : Array Value} {w : World} {R : Ending → World → Prop} {vs : List Value} {nt : Nat} (X : List Nat) (L : List Fct) (hf : P.funcs[g]? = some fn) (hb : fn.body = some c) (ha : args = vs.toArray) (hn : fn.ntmps = nt) (hl : Nat.ble vs.length nt = true)
    (hL : SH w X w L) (h : CW P c (bodyPost P fn R) nt (slotsOf 0 vs) w X L) : Calls P g args w R := by
  subst hn
  subst ha
  have hl' : vs.length ≤ fn.ntmps := by simpa [Nat.ble_eq] using hl
  refine calls_of_wp hf hb (h _ w ⟨by simp; omega, rfl, fun i v hv => ?_⟩ hL)
  have := (slotsOf_get vs 0 i v hv).2
  simp only [Nat.sub_zero] at this
  have hlt : i < vs.length := (List.getElem?_eq_some_iff.1 this).1
  have : vs[i] = v := (List.getElem?_eq_some_iff.1 this).2
  rw [Array.getD_eq_getD_getElem?, Array.getElem?_append, if_pos (by simpa using hlt)]
  simp [hlt, this]
theorem enter {g : Nat} {fn : Func} {c : Code} {args : Array Value} {w : World} {R : Ending → World → Prop} {vs : List Value} {nt : Nat} (hf : P.funcs[g]? = some fn) (hb : fn.body = some c) (ha : args = vs.toArray) (hn : fn.ntmps = nt) (hl : Nat.ble vs.length nt = true)
    (h : CW P c (bodyPost P fn R) nt (slotsOf 0 vs) w [] []) : Calls P g args w R := enterX [] [] hf hb ha hn hl (SH.refl w []) h
/-- what a result variable holds -/
def ResV (P : Program) (S : Slots) (w0 : World) (X : List Nat) (L : List Fct) : ResultVar → Value → Prop
  | .tmp t, v => getS S t = some v
  | .cell b t, v => ∃ ad, getS S b = some (.pointer (some ad)) ∧ ∀ w, SH w0 X w L → (loadVar t ad).run P w = .ok v w
theorem ResV.tmp {t : Nat} {v : Value} (h : getS S t = some v) : ResV P S w0 X L (.tmp t) v := h
theorem ResV.cell1 {t b i : Nat} {ty e : TypeId} {cs : List Value} {v : Value} (h : getS S t = some (.pointer (some ⟨b, i, none⟩))) (ht : tyS P ty = some none) (hr : Rem L (.blk b cs e) l) (hv : cs[i]? = some v) : ResV P S w0 X L (.cell t ty) v :=
  ⟨_, h, fun w hw => by simp [loadVar, (run_isAgg1 ht w).1, blk_get hr hv hw]⟩
theorem ResV.cellN {t b k : Nat} {ty e : TypeId} {cs : List Value} (h : getS S t = some (.pointer (some ⟨b, 0, none⟩))) (ht : tyS P ty = some (some k)) (hr : Rem L (.blk b cs e) l) (hk : cs.length = k) : ResV P S w0 X L (.cell t ty) (.agg cs.toArray) :=
  ⟨_, h, fun w hw => by
    subst hk
    simp [loadVar, (run_isAggN ht w).1, (run_isAggN ht w).2, run_loadCells_list (P := P) w ⟨b, 0, none⟩ cs (fun j v hj => by rw [addr_add, Nat.zero_add]; exact blk_get hr hj hw)]⟩
section
variable {fn : Func} {R : Ending → World → Prop}
/-- what a result variable gives -/
def readV (tmps : Array Value) : ResultVar → Sem Value
  | .tmp t => pure (tmps.getD t undef)
  | .cell a t => do loadVar t (← asAddr (tmps.getD a undef))
theorem results_eq (fn : Func) (tmps : Array Value) : results fn tmps = (do
    let vs ← fn.results.mapM (readV tmps)
    pure (if h : vs.size = 1 then vs[0] else .tuple vs)) := by
  unfold results
  congr 1
theorem ResV.run {r : ResultVar} {v : Value} {a : Act} {w : World} (h : ResV P S w0 X L r v) (hs : Sl n S a) (hw : SH w0 X w L) : (readV a.tmps r).run P w = .ok v w := by
  cases r with
  | tmp t =>
    have h : getS S t = some v := h
    have := hs.get t v h
    simp only [readV, this]; rfl
  | cell b t =>
    obtain ⟨ad, h1, h2⟩ := h
    have := hs.get b _ h1
    simp only [readV, this, asAddr]
    exact h2 w hw
theorem QW.res1 {r : ResultVar} {v : Value} (hres : fn.results = #[r]) (h1 : ResV P S w0 X L r v) (h : ∀ w, SH w0 X w L → R (.returned v) w) : QW (bodyPost P fn R .ret) n S w0 X L := fun a w hs hw => by
  refine ⟨hs.defers, v, ?_, h w hw⟩
  rw [results_eq, hres]
  simp [h1.run hs hw]
theorem QW.res2 {r1 r2 : ResultVar} {v1 v2 : Value} (hres : fn.results = #[r1, r2]) (h1 : ResV P S w0 X L r1 v1) (h2 : ResV P S w0 X L r2 v2) (h : ∀ w, SH w0 X w L → R (.returned (.tuple #[v1, v2])) w) : QW (bodyPost P fn R .ret) n S w0 X L := fun a w hs hw => by
  refine ⟨hs.defers, _, ?_, h w hw⟩
  rw [results_eq, hres]
  simp [h1.run hs hw, h2.run hs hw]
theorem QW.res3 {r1 r2 r3 : ResultVar} {v1 v2 v3 : Value} (hres : fn.results = #[r1, r2, r3]) (h1 : ResV P S w0 X L r1 v1) (h2 : ResV P S w0 X L r2 v2) (h3 : ResV P S w0 X L r3 v3) (h : ∀ w, SH w0 X w L → R (.returned (.tuple #[v1, v2, v3])) w) : QW (bodyPost P fn R .ret) n S w0 X L := fun a w hs hw => by
  refine ⟨hs.defers, _, ?_, h w hw⟩
  rw [results_eq, hres]
  simp [h1.run hs hw, h2.run hs hw, h3.run hs hw]
theorem QW.res0 (hres : fn.results = #[]) (h : ∀ w, SH w0 X w L → R (.returned (.tuple #[])) w) : QW (bodyPost P fn R .ret) n S w0 X L := fun a w hs hw => ⟨hs.defers, _, by simp [results, hres], h w hw⟩
theorem QW.end_ (h : QW (bodyPost P fn R .ret) n S w0 X L) : QW (bodyPost P fn R .normal) n S w0 X L := h
end
/-- what a call gives: V p, and the facts N p -/
def Ret {α : Type} (V : α → Value) (N : α → List Fct) (w : World) (e : Ending) (w' : World) : Prop := ∃ p, e = .returned (V p) ∧ SH w [] w' (N p)
theorem ret_mk {α : Type} {V : α → Value} {N : α → List Fct} (p : α) (hl : Sub L (N p)) : ∀ w, SH w0 [] w L → ∃ p', Ending.returned (V p) = .returned (V p') ∧ SH w0 [] w (N p') := fun w hw => ⟨p, rfl, hw.sub hl⟩
theorem ret_eq {α : Type} {V : α → Value} {N : α → List Fct} {v : Value} (p : α) (hv : v = V p) (hl : Sub L (N p)) : ∀ w, SH w0 X w L → ∃ p', Ending.returned v = .returned (V p') ∧ SH w0 X w (N p') := fun w hw => ⟨p, by rw [hv], hw.sub hl⟩
end
end Go.Proofs.Ytbgjlojnbdnoaaa
