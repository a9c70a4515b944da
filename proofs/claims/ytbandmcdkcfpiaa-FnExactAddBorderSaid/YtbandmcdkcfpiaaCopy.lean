/- The builtin copy into a row of the call's own, as a step of a region that draws its order. -/
import Derived.Test.YtbandmcdkcfpiaaOwn
import Derived.Laws.CopyOwn
import Derived.Deep.RegionLaw
namespace Go.Proofs.Ytbandmcdkcfpiaa
open Go.RowKit Go.Proofs.YtbandmcdkcfpiaaW.PrintWords
set_option linter.unusedVariables false
set_option linter.unusedSimpArgs false

theorem keep_of {w w' : World} {g : Nat} (h : w.drew.grownBy w' (some g)) : ∀ (b : Nat), g ≠ b → ∀ {x : Obj}, w.heap[b]? = some x → w'.heap[b]? = some x :=
  fun b hne x hb => (h.block b (blk_lt (blk_drew hb)) (fun e => hne (by injection e with e; exact e.symm))).trans hb
theorem step_copy_int {P : Program} {ops : Array Oper} {o : Oper} {a : Act} {w : World} {K : Act → World → Prop} {Q : Exit → Act → World → Prop} {E : Prop} (hgd : o.guard = none) (d s : Operand) (dT sT : TypeId)
    (ho : o.op = .call { callee := .builtin .copy, args := #[d, s], argTypes := #[dT, sT] }) (hu : P.underlying dT = some (.slice 3)) (hsz : (P.info? 3).map (·.size) = some 1)
    (g off dLen dCap : Nat) (ad : Addr) (sLen sCap : Nat) (hd : a.eval d = .slice (some ⟨g, off, none⟩) dLen dCap) (hs : a.eval s = .slice (some ad) sLen sCap)
    (xs cs : List Int) (n c base : Nat) (HO : OwnI w base (.slice (some ⟨g, 0, none⟩) n c) xs) (hn : cs.length = Nat.min sLen dLen)
    (hsrc : ∀ (j : Nat) (h : j < cs.length), w.cell? (ad.add j) = some (.int .i64 cs[j])) (hfit : off + cs.length ≤ xs.length)
    (h : ∀ w', OwnI w' base (.slice (some ⟨g, 0, none⟩) n c) (splice xs off cs) → w.grownBy w' (some g) → K (a.put o.dst (goInt cs.length)) w') :
    if Region.wanted o (yielded ops a.tmps) = true then Oper.wp P o a w K Q else E := by
  have hw : Region.wanted o (yielded ops a.tmps) = true := by simp [Region.wanted, hgd]
  rw [if_pos hw]
  obtain rfl := HO.n_eq
  obtain ⟨hO, hl⟩ := HO
  rcases hO.2 with ⟨e, _⟩ | ⟨g', cap, cur, e, hb, hh, hlc, hm, hcs, hpre⟩
  · cases e
  · injection e with e1 e2 e3
    injection e1 with e1
    injection e1 with e1
    subst e1 e3
    have hcl : cur.toList.length = c := by simpa using hcs
    have hrun := run_copy_row (P := P) w dT sT o.type 3 g off dLen dCap ad sLen sCap cur 3 (nums .i64 cs) hu hsz hh (by rw [nums_length]; exact hn)
      (fun j v hv => by
        have hj : j < cs.length := by
          have := (List.getElem?_eq_some_iff.1 hv).1
          rwa [nums_length] at this
        rw [hsrc j hj]
        simpa [nums, hj] using hv) (by rw [nums_length]; omega) (by simp [nums, Value.oneCell'])
    unfold Oper.wp
    simp only [nums_length] at hrun
    simp [execOp, ho, resolve, invoke, builtin, hd, hs, hrun, Result.andThen]
    refine h _ ⟨⟨?_, .inr ⟨g, c, _, by rw [length_splice _ _ _ hfit], hb, setRow_heap w g _ _ _ _ hh, ?_, hm, ?_, ?_⟩⟩, ?_⟩ ⟨rfl, rfl, rfl, by simp [World.setRow], fun k _ hk => setRow_other w g k _ (fun e => hk (by rw [e]))⟩
    · rw [nums_length, length_splice _ _ _ hfit]; simp
    · rw [length_splice _ _ _ hfit]; exact hlc
    · simp [nums_length]; omega
    · have e4 : cur.toList = nums .i64 xs ++ cur.toList.drop xs.length := by
        have := List.take_append_drop (xs.length * 1) cur.toList
        rw [hpre, Nat.mul_one] at this
        exact this.symm
      have hx : (nums .i64 xs).length = xs.length := nums_length _ _
      generalize cur.toList.drop xs.length = rest at e4
      have e5 : cur.toList.take off ++ (nums .i64 cs ++ cur.toList.drop (off + cs.length)) = nums .i64 (splice xs off cs) ++ rest := by
        rw [e4, List.take_append_of_le_length (by rw [hx]; omega), List.drop_append_of_le_length (by rw [hx]; omega)]
        simp [splice, nums]
      have e6 : (splice xs off cs).length * 1 = (nums .i64 (splice xs off cs)).length := by rw [nums_length]; omega
      show List.take _ (cur.toList.take off ++ (nums .i64 cs ++ cur.toList.drop (off + cs.length))) = _
      rw [e5, e6]
      simp
    · rw [length_splice _ _ _ hfit]; exact hl
end Go.Proofs.Ytbandmcdkcfpiaa
