/- Contracts on charts, in the form of states. -/
import Derived.Test.YtbandmcdkcfpiaaMakeC
import Derived.Test.YtbandmcdkcfpiaaChart3
import Derived.Test.YtbandmcdkcfpiaaConvC
namespace Go.Proofs.Ytbandmcdkcfpiaa
open Go.RowKit Go.Proofs.YtbandmcdkcfpiaaW.PrintWords
set_option linter.unusedVariables false
set_option linter.unusedSimpArgs false
abbrev chA (cw ch : Int) (A : Option Addr) (m c : Nat) : Value := .agg #[.int .i64 cw, .int .i64 ch, .slice A m c]
section
variable {P : Program} {g : Nat} {args : Array Value} {w w' w0 : World} {X : List Nat} {L l r : List Fct}
theorem ret_c {cw ch : Int} {k : List Int} {m : Nat} (hm : k.length = m) (h : Calls P g args w (RetC w cw ch k)) : Calls P g args w (Ret (chV cw ch m) (fun p => [rowI p.1 m p.2 k]) w) := by
  subst hm; exact h.mono fun e w' ⟨A, c, h1, h2, h3⟩ => ⟨(A, c), h1, SH.ofOwnI h2 h3⟩
/-- marks in a row that is there -/
theorem ret_mark {A : Option Addr} {m c : Nat} {ys : List Int} {v : Value} {base : Nat} (hm : ys.length = m) (hA : ∀ ad, A = some ad → ad.off = 0 ∧ ad.spot = none) (h : Calls P g args w fun e w' => e = .returned v ∧ OwnI w' base (.slice A m c) ys ∧ Marked w w' base A) :
    Calls P g args w fun e w' => ∃ p : Unit, e = .returned ((fun _ => v) p) ∧ SH w (Value.slice A m c).ownBlock.toList w' ((fun _ => [rowI A m c ys]) p) := by
  subst hm
  refine h.mono fun e w' ⟨h1, h2, h3⟩ => ⟨(), h1, h3.below.os, h3.below.tape, h3.below.output, h3.below.size, fun k hk hx => ?_, fun f hf => ?_, fun f hf k hk => ?_, by simp⟩
  · have hx' : w.heap[k]? = some w.heap[k] := Array.getElem?_eq_getElem hk
    rw [hx', h3.keep k _ (fun e => hx (by rw [e]; simp [Value.ownBlock])) hx']
  · rw [List.mem_singleton] at hf; subst hf; exact ownsRow_zero h2.1
  · rw [List.mem_singleton] at hf; subst hf; exact .inr (by have hk : (Value.slice A ys.length c).ownBlock = some k := hk; rw [hk]; simp)
theorem SH.ownI {A : Option Addr} {m c : Nat} {xs : List Int} (hr : Rem L (rowI A m c xs) l) (hl : xs.length ≤ 17592186043904) (hw : SH w0 X w L) : OwnI w 0 (.slice A m c) xs := by
  have h : w.ownsRow 0 3 1 (.slice A m c) m (nums .i64 xs) := hw.has hr
  have hm : m = xs.length := by have := h.1; simp [nums] at this; exact this.symm
  subst hm
  exact ⟨h, hl⟩
theorem own_at0 {base : Nat} {A : Option Addr} {m c : Nat} {xs : List Int} (h : OwnI w base (.slice A m c) xs) : ∀ ad, A = some ad → ad.off = 0 ∧ ad.spot = none := by
  intro ad e
  rcases h.1.2 with ⟨h2, _⟩ | ⟨g, cap, cur, h2, _⟩
  · injection h2 with h3; rw [h3] at e; cases e
  · injection h2 with h3; rw [h3] at e; cases e; exact ⟨rfl, rfl⟩
end
theorem IsChart_ct (cw ch : Int) (k : List Int) (A : Option Addr) (m c : Nat) (w : World) (hm : k.length = m) (hR : RdI w A c k) : Calls Try.prog 102 #[chA cw ch A m c] w (Ret (fun _ : Unit => .bool (goodB cw ch k)) (fun _ => []) w) := by subst hm; exact ret_b (IsChart_any cw ch k A c w hR)
theorem l2Good_ct (cw ch : Int) (k : List Int) (A : Option Addr) (m c : Nat) (w : World) (hm : k.length = m) (hR : RdI w A c k) : Calls Try.prog 119 #[chA cw ch A m c] w (Ret (fun _ : Unit => .bool (goodB cw ch k)) (fun _ => []) w) := by subst hm; exact ret_b (l2Good_any cw ch k A c w hR)
theorem copied_ct (cw ch : Int) (k : List Int) (A : Option Addr) (m c : Nat) (w : World) (hm : k.length = m) (hR : RdI w A c k) : Calls Try.prog 157 #[chA cw ch A m c] w (Ret (chV cw ch m) (fun p => [rowI p.1 m p.2 k]) w) := ret_c hm (by subst hm; exact copied_any cw ch k A c w hR)
theorem l2Own_ct (cw ch : Int) (k : List Int) (A : Option Addr) (m c : Nat) (w : World) (hm : k.length = m) (hR : RdI w A c k) : Calls Try.prog 154 #[chA cw ch A m c] w (Ret (chV cw ch m) (fun p => [rowI p.1 m p.2 k]) w) := ret_c hm (by subst hm; exact l2Own_any cw ch k A c w hR)
theorem szChart_ct (cw ch : Int) (k : List Int) (A : Option Addr) (m c : Nat) (w : World) (hm : k.length = m) (left : Int) (hn : m ≤ 17592186043904) (h0 : -1 ≤ left) (h1 : left ≤ 1048576) : Calls Try.prog 13 #[chA cw ch A m c, .int .i64 left] w (Ret (fun _ : Unit => .int .i64 (szN m left)) (fun _ => []) w) := ret_b (szChart_any cw ch m left A c w hn h0 h1)
theorem toChart_ct (cw ch : Int) (k : List Int) (A : Option Addr) (m c : Nat) (w : World) (hm : k.length = m) (hR : RdI w A c k) : Calls Try.prog 15 #[chA cw ch A m c] w (Ret (chV cw ch m) (fun p => [rowI p.1 m p.2 k]) w) := ret_c hm (by subst hm; exact toChart_any cw ch k A c w hR)
theorem eqChart_ct (cw ch : Int) (k : List Int) (A : Option Addr) (m c : Nat) (w : World) (hm : k.length = m) (B : Option Addr) (d : Nat) (hR : RdI w A c k) (hR' : RdI w B d k) : Calls Try.prog 17 #[chA cw ch A m c, chA cw ch B m d] w (Ret (fun _ : Unit => .bool true) (fun _ => []) w) := by subst hm; exact ret_b (eqChart_same cw ch k A B c d w hR hR')
theorem markChart_ct (cw ch : Int) (k : List Int) (A : Option Addr) (m c : Nat) (w : World) (hm : k.length = m) (n : Nat) (hn : n ≤ 17592186043904) (hO : OwnI w 0 (.slice A m c) k) : Calls Try.prog 18 #[chA cw ch A m c, .int .i64 n] w fun e w' => ∃ p : Unit, e = .returned ((fun _ => .int .i64 ((n + m : Nat) : Int)) p) ∧ SH w (Value.slice A m c).ownBlock.toList w' ((fun _ => [rowI A m c (marks n m)]) p) :=
  ret_mark (base := 0) (ys := marks n m) (by simp [marks]) (own_at0 hO) (by subst hm; exact markChart_any cw ch k n 0 A c w hO hn (Nat.zero_le _))
theorem heldChart_ct (cw ch : Int) (A : Option Addr) (m c n : Nat) (w : World) (hn : n ≤ 17592186043904) (hR : RdI w A c (marks n m)) : Calls Try.prog 19 #[chA cw ch A m c, .int .i64 n] w (Ret (fun _ : Unit => .int .i64 ((n + m : Nat) : Int)) (fun _ => []) w) := ret_b (heldChart_any cw ch m n A c w hR hn)
theorem isSide_ct (n : Int) (w : World) : Calls Try.prog 138 #[.int .i64 n] w (Ret (fun _ : Unit => .bool (sideB n)) (fun _ => []) w) := ret_q (isSide_any n w)
theorem l2Side_ct (n : Int) (w : World) : Calls Try.prog 142 #[.int .i64 n] w (Ret (fun _ : Unit => .bool (sideB n)) (fun _ => []) w) := ret_q (l2Side_any n w)
end Go.Proofs.Ytbandmcdkcfpiaa
