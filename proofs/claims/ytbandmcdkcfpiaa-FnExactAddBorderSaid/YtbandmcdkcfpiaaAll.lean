/- slices.IndexFunc, slices.ContainsFunc, areAll over ints. -/
import Derived.Test.YtbandmcdkcfpiaaNum
namespace Go.Proofs.Ytbandmcdkcfpiaa
open Go.RowKit Go.Proofs.YtbandmcdkcfpiaaW.PrintWords
set_option linter.unusedVariables false
set_option linter.unusedSimpArgs false

set_option maxHeartbeats 400000 in
theorem IndexFunc_int (g : Nat) (lb : Array Value) (p : Int → Bool) (A : Option Addr) (c : Nat) (xs : List Int) (w : World)
    (eg : ∀ args w, (callFunc g args).run Try.prog w = .ok (.enter g args) w)
    (hp : ∀ (x : Int) (W : World), Below w.heap.size w W → Calls Try.prog g (#[.int .i64 x] ++ lb) W fun e W' => e = .returned (.bool (p x)) ∧ W = W')
    (hc : RdI w A c xs) :
    Calls Try.prog 229 #[.slice A xs.length c, .func (.func g) #[] lb] w fun e w' => e = .returned (.int .i64 (idxF p xs)) ∧ w = w' := by
  have hbig : xs.length ≤ 17592186043904 := hc.len
  have hc := hc.at_
  have HC := Lib.hid (hc); clear hc
  have HP := Lib.hid (hp); clear hp
  go_enter Try.func229, Try.ntmps229
  go_wp2
  go_loopg [5, 8] xs.length (fun gg _ s8 wr => ∃ kk : Nat, kk ≤ xs.length ∧ xs.length - kk ≤ gg ∧ s8 = .int .i64 kk ∧ w = wr ∧ Hid (∀ j (h : j < xs.length), j < kk → p xs[j] = false))
  case atStart => exact ⟨0, Nat.zero_le _, by omega, rfl, rfl, (fun j h hj => absurd hj (Nat.not_lt_zero _))⟩
  case round =>
    obtain ⟨kk, hkk, hg, rfl, rfl, A⟩ := hrel
    by_cases hlt : kk < xs.length
    · have hltz : (kk : Int) < (xs.length : Int) := by omega
      obtain ⟨ad, rfl, hcell⟩ := HC.out kk hlt
      have hcall := fun W hb => HP.out xs[kk] W hb
      cases hq : p xs[kk] with
      | true =>
        rw [hq] at hcall
        have F := Lib.hid (idxF_hit p xs kk hlt hq A.out)
        clear hq
        go_wp2_with (go_at_fn g; refine (hcall _ (Below.refl _ _)).mono ?_; rintro e w' ⟨rfl, rfl⟩)
        go_ret
        exact ⟨by rw [F.out]; rfl, rfl⟩
      | false =>
        rw [hq] at hcall
        have F := Lib.hid (hq)
        clear hq
        go_wp2_with (go_at_fn g; refine (hcall _ (Below.refl _ _)).mono ?_; rintro e w' ⟨rfl, rfl⟩)
        go_roundg (xs.length - (kk + 1))
        case measure => omega
        case rel =>
          refine ⟨kk + 1, by omega, by omega, by go_num, rfl, fun j h hj => ?_⟩
          by_cases e : j = kk
          · subst e; exact F.out
          · exact A.out j h (by omega)
    · have hltz : ¬ (kk : Int) < (xs.length : Int) := by omega
      have : kk = xs.length := by omega
      subst this
      have F := Lib.hid (idxF_miss p xs (fun j h => A.out j h h))
      go_wp2
      go_ret
      exact ⟨by rw [F.out]; rfl, rfl⟩

set_option maxHeartbeats 400000 in
theorem ContainsFunc_int (g : Nat) (lb : Array Value) (p : Int → Bool) (A : Option Addr) (c : Nat) (xs : List Int) (w : World)
    (eg : ∀ args w, (callFunc g args).run Try.prog w = .ok (.enter g args) w)
    (hp : ∀ (x : Int) (W : World), Below w.heap.size w W → Calls Try.prog g (#[.int .i64 x] ++ lb) W fun e W' => e = .returned (.bool (p x)) ∧ W = W')
    (hc : RdI w A c xs) :
    Calls Try.prog 213 #[.slice A xs.length c, .func (.func g) #[] lb] w fun e w' => e = .returned (.bool (anyF p xs)) ∧ w = w' := by
  have F := Lib.hid (idxF_nonneg p xs)
  have H := Lib.hid (IndexFunc_int g lb p A c xs w eg hp hc)
  clear hp hc eg
  go_enter Try.func213, Try.ntmps213
  go_wp2_with (go_at_call 229; refine H.out.mono ?_; rintro e w' ⟨rfl, rfl⟩)
  go_ret
  exact ⟨by rw [← F.out]; rfl, rfl⟩

set_option maxHeartbeats 400000 in
theorem areAll1_int (g : Nat) (lb : Array Value) (r : Bool) (B : Nat) (x : Int) (w : World)
    (eg : ∀ args w, (callFunc g args).run Try.prog w = .ok (.enter g args) w)
    (hB : w.cell? ⟨B, 0, none⟩ = some (.func (.func g) #[] lb))
    (hp : Calls Try.prog g (#[.int .i64 x] ++ lb) w fun e W' => e = .returned (.bool r) ∧ w = W') :
    Calls Try.prog 214 #[.int .i64 x, .pointer (some ⟨B, 0, none⟩)] w fun e w' => e = .returned (.bool (!r)) ∧ w = w' := by
  have H := Lib.hid (hp)
  clear hp
  go_enter Try.func214, Try.ntmps214
  go_wp2_with (go_at_fn g; refine H.out.mono ?_; rintro e w' ⟨rfl, rfl⟩)
  go_ret
  exact ⟨rfl, rfl⟩

theorem eg_areAll1 : ∀ args w, (callFunc 214 args).run Try.prog w = .ok (.enter 214 args) w := enters_of Try.func214 (by kernel_rfl) rfl

set_option maxHeartbeats 400000 in
theorem areAll_int (g : Nat) (lb : Array Value) (p : Int → Bool) (A : Option Addr) (c : Nat) (xs : List Int) (w : World)
    (eg : ∀ args w, (callFunc g args).run Try.prog w = .ok (.enter g args) w)
    (hp : ∀ (x : Int) (W : World), Below w.heap.size w W → Calls Try.prog g (#[.int .i64 x] ++ lb) W fun e W' => e = .returned (.bool (p x)) ∧ W = W')
    (hc : RdI w A c xs) :
    Calls Try.prog 163 #[.slice A xs.length c, .func (.func g) #[] lb] w fun e w' => e = .returned (.bool (allF p xs)) ∧ Below w.heap.size w w' := by
  have hmf : ∀ (fn : Fn) (first cap : Array Value) (w : World), (Instr.makeFunc fn first cap).run Try.prog w = .ok (.func fn first cap) w := fun _ _ _ _ => rfl
  have H := Lib.hid (ContainsFunc_int 214 #[.pointer (some ⟨w.heap.size, 0, none⟩)] (fun x => !p x) A c xs (w.alloc (.cells #[.func (.func g) #[] lb] 102)) eg_areAll1
    (fun x W hb => areAll1_int g lb (p x) w.heap.size x W eg ((hb.cell (p := ⟨w.heap.size, 0, none⟩) (by simp)).trans (by simp)) (hp x W (((Below.refl _ w).alloc (Nat.le_refl _) _).trans (hb.mono (by simp)))))
    (hc.up (below_alloc (Below.refl _ w) _)))
  have F := Lib.hid (anyF_not p xs)
  clear hp hc eg
  go_enter Try.func163, Try.ntmps163
  go_wp2_with (go_at_call 213; refine H.out.mono ?_; rintro e w' ⟨rfl, rfl⟩)
  go_ret
  exact ⟨by rw [F.out]; simp, (Below.refl _ _).alloc (Nat.le_refl _) _⟩
end Go.Proofs.Ytbandmcdkcfpiaa
