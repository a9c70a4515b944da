/- append of one number to a row of the call's own: as a step of a list of operations, and of a region that draws. -/
import Derived.Test.YtbandmcdkcfpiaaOwn
namespace Go.Proofs.Ytbandmcdkcfpiaa
open Go.RowKit Go.Proofs.YtbandmcdkcfpiaaW.PrintWords
set_option linter.unusedVariables false
set_option linter.unusedSimpArgs false

theorem app_num {ops : Array Oper} {rest : List Oper} {o : Oper} {a : Act} {Q : Exit → Act → World → Prop} {w0 W : World} (base : Nat) (hgd : o.guard = none) (s x : Operand)
    (ho : o.op = .call { callee := .builtin .append, args := #[s, x], argTypes := #[22, 22] })
    (v : Value) (xs : List Int) (y : Int) (hs : a.eval s = v) (hx : a.eval x = .slice (some ⟨W.heap.size, 0, none⟩) 1 1)
    (HO : OwnI W base v xs) (HB : Below base w0 W) (hbase : base ≤ W.heap.size) (hl : xs.length < 17592186043904)
    (h : ∀ v1 w1, OwnI w1 base v1 (xs ++ [y]) → Below base w0 w1 → W.grownBy w1 v.ownBlock → wpList Try.prog ops Q rest (a.put o.dst v1) w1) :
    wpList Try.prog ops Q (o :: rest) a (W.alloc (.cells #[.int .i64 y] 3)) :=
  print_append_num base hgd s x 22 3 .i64 8 ho Try.underlying22 infoInt (by decide) v xs y hs hx HO.1 HB hbase (by omega)
    fun v1 w1 hown hB hg _ => h v1 w1 ⟨hown, by simp; omega⟩ hB hg

theorem step_app {ops : Array Oper} {o : Oper} {a : Act} {Q : Exit → Act → World → Prop} {K : Act → World → Prop} {w0 W : World} (base : Nat) (hw : Region.wanted o (yielded ops a.tmps) = true) (s x : Operand)
    (ho : o.op = .call { callee := .builtin .append, args := #[s, x], argTypes := #[22, 22] })
    (v : Value) (xs : List Int) (y : Int) (hs : a.eval s = v) (hx : a.eval x = .slice (some ⟨W.heap.size, 0, none⟩) 1 1)
    (HO : OwnI W base v xs) (HB : Below base w0 W) (hbase : base ≤ W.heap.size) (hl : xs.length < 17592186043904)
    (h : ∀ v1 w1, OwnI w1 base v1 (xs ++ [y]) → Below base w0 w1 → W.grownBy w1 v.ownBlock → K (a.put o.dst v1) w1) :
    if Region.wanted o (yielded ops a.tmps) = true then Oper.wp Try.prog o a (W.alloc (.cells #[.int .i64 y] 3)) K Q else K (a.put o.dst undef) (W.alloc (.cells #[.int .i64 y] 3)) :=
  step_append_cells base hw s x 22 3 (.int .i64 0) 1 8 ho Try.underlying22 infoInt rfl (by decide) (by decide) v xs.length (nums .i64 xs) [.int .i64 y] hs hx rfl (by simp [Value.oneCell']) HO.1 HB hbase (by omega)
    fun v1 w1 hown hB hg _ => h v1 w1 ⟨by simpa [nums] using hown, by simp; omega⟩ hB hg
end Go.Proofs.Ytbandmcdkcfpiaa
