/- Texts: plain texts, valid records. -/
import Derived.Test.YtbgjlojnbdnoaaaNum
import Derived.Test.YtbgjlojnbdnoaaaShelf
namespace Go.Proofs.Ytbgjlojnbdnoaaa
open Go.RowKit Go.Proofs.YtbgjlojnbdnoaaaW.PrintWords
set_option linter.unusedVariables false
set_option linter.unusedSimpArgs false

def plainB (b : UInt8) : Bool := decide ((32:Int) ≤ b.toNat) && (decide ((b.toNat:Int) ≤ 126) && ((b.toNat:Int) != 35))

set_option maxHeartbeats 400000 in
theorem isPlain1_any (b : UInt8) (w : World) : Calls Try.prog 48 #[.int .u8 b.toNat] w fun e w' => e = .returned (.bool (plainB b)) ∧ w = w' := by
  go_enter Try.func48, Try.ntmps48
  go_wp2
  all_goals go_ret
  all_goals refine ⟨?_, rfl⟩
  all_goals (simp_all [plainB] <;> omega)

/-- A slice of bytes that reads as xs. -/
def RdB (w : World) (A : Option Addr) (xs : List UInt8) : Prop := xs.length ≤ 9223372036854775807 ∧ ∀ (i : Nat) (h : i < xs.length), ∃ ad, A = some ad ∧ w.cell? (ad.add i) = some (.int .u8 xs[i].toNat)

set_option maxHeartbeats 400000 in
theorem IndexFunc_bytes (g : Nat) (lb : Array Value) (p : UInt8 → Bool) (A : Option Addr) (c : Nat) (xs : List UInt8) (w : World)
    (eg : ∀ args w, (callFunc g args).run Try.prog w = .ok (.enter g args) w)
    (hp : ∀ (x : UInt8) (W : World), Below w.heap.size w W → Calls Try.prog g (#[.int .u8 x.toNat] ++ lb) W fun e W' => e = .returned (.bool (p x)) ∧ W = W')
    (hc : RdB w A xs) :
    Calls Try.prog 65 #[.slice A xs.length c, .func (.func g) #[] lb] w fun e w' => e = .returned (.int .i64 (idxF p xs)) ∧ w = w' := by
  obtain ⟨hbig, hc⟩ := hc
  have HC := Lib.hid (hc); clear hc
  have HP := Lib.hid (hp); clear hp
  go_enter Try.func65, Try.ntmps65
  go_wp2
  go_loopg [5, 8] xs.length (fun gg _ s8 wr => ∃ kk : Nat, kk ≤ xs.length ∧ xs.length - kk ≤ gg ∧ s8 = .int .i64 kk ∧ w = wr ∧ Hid (∀ j (h : j < xs.length), j < kk → p xs[j] = false))
  case atStart => exact ⟨0, Nat.zero_le _, by omega, rfl, rfl, (fun j h hj => absurd hj (Nat.not_lt_zero _))⟩
  case round =>
    obtain ⟨kk, hkk, hg, rfl, rfl, A⟩ := hrel
    by_cases hlt : kk < xs.length
    · have hltz : (kk : Int) < (xs.length : Int) := by omega
      obtain ⟨ad, rfl, hcell⟩ := HC.out kk hlt
      have hcall := fun W hb => HP.out xs[kk] W hb
      cases hq : p xs[kk] with
      | true =>
        rw [hq] at hcall
        have F := Lib.hid (idxF_hit p xs kk hlt hq A.out)
        clear hq
        go_wp2_with (go_at_fn g; refine (hcall _ (Below.refl _ _)).mono ?_; rintro e w' ⟨rfl, rfl⟩)
        go_ret
        exact ⟨by rw [F.out]; rfl, rfl⟩
      | false =>
        rw [hq] at hcall
        have F := Lib.hid (hq)
        clear hq
        go_wp2_with (go_at_fn g; refine (hcall _ (Below.refl _ _)).mono ?_; rintro e w' ⟨rfl, rfl⟩)
        go_roundg (xs.length - (kk + 1))
        case measure => omega
        case rel =>
          refine ⟨kk + 1, by omega, by omega, by go_num, rfl, fun j h hj => ?_⟩
          by_cases e : j = kk
          · subst e; exact F.out
          · exact A.out j h (by omega)
    · have hltz : ¬ (kk : Int) < (xs.length : Int) := by omega
      have : kk = xs.length := by omega
      subst this
      have F := Lib.hid (idxF_miss p xs (fun j h => A.out j h h))
      go_wp2
      go_ret
      exact ⟨by rw [F.out]; rfl, rfl⟩

set_option maxHeartbeats 400000 in
theorem ContainsFunc_bytes (g : Nat) (lb : Array Value) (p : UInt8 → Bool) (A : Option Addr) (c : Nat) (xs : List UInt8) (w : World)
    (eg : ∀ args w, (callFunc g args).run Try.prog w = .ok (.enter g args) w)
    (hp : ∀ (x : UInt8) (W : World), Below w.heap.size w W → Calls Try.prog g (#[.int .u8 x.toNat] ++ lb) W fun e W' => e = .returned (.bool (p x)) ∧ W = W')
    (hc : RdB w A xs) :
    Calls Try.prog 62 #[.slice A xs.length c, .func (.func g) #[] lb] w fun e w' => e = .returned (.bool (anyF p xs)) ∧ w = w' := by
  have F := Lib.hid (idxF_nonneg p xs)
  have H := Lib.hid (IndexFunc_bytes g lb p A c xs w eg hp hc)
  clear hp hc eg
  go_enter Try.func62, Try.ntmps62
  go_wp2_with (go_at_call 65; refine H.out.mono ?_; rintro e w' ⟨rfl, rfl⟩)
  go_ret
  exact ⟨by rw [← F.out]; rfl, rfl⟩

set_option maxHeartbeats 400000 in
theorem areAll1_bytes (g : Nat) (lb : Array Value) (r : Bool) (B : Nat) (x : UInt8) (w : World)
    (eg : ∀ args w, (callFunc g args).run Try.prog w = .ok (.enter g args) w)
    (hB : w.cell? ⟨B, 0, none⟩ = some (.func (.func g) #[] lb))
    (hp : Calls Try.prog g (#[.int .u8 x.toNat] ++ lb) w fun e W' => e = .returned (.bool r) ∧ w = W') :
    Calls Try.prog 63 #[.int .u8 x.toNat, .pointer (some ⟨B, 0, none⟩)] w fun e w' => e = .returned (.bool (!r)) ∧ w = w' := by
  have H := Lib.hid (hp)
  clear hp
  go_enter Try.func63, Try.ntmps63
  go_wp2_with (go_at_fn g; refine H.out.mono ?_; rintro e w' ⟨rfl, rfl⟩)
  go_ret
  exact ⟨rfl, rfl⟩


theorem eg_areAll1b : ∀ args w, (callFunc 63 args).run Try.prog w = .ok (.enter 63 args) w := enters_of Try.func63 (by kernel_rfl) rfl
theorem eg_isPlain1 : ∀ args w, (callFunc 48 args).run Try.prog w = .ok (.enter 48 args) w := enters_of Try.func48 (by kernel_rfl) rfl

set_option maxHeartbeats 400000 in
theorem areAll_bytes (g : Nat) (lb : Array Value) (p : UInt8 → Bool) (A : Option Addr) (c : Nat) (xs : List UInt8) (w : World)
    (eg : ∀ args w, (callFunc g args).run Try.prog w = .ok (.enter g args) w)
    (hp : ∀ (x : UInt8) (W : World), Below w.heap.size w W → Calls Try.prog g (#[.int .u8 x.toNat] ++ lb) W fun e W' => e = .returned (.bool (p x)) ∧ W = W')
    (hc : RdB w A xs) :
    Calls Try.prog 47 #[.slice A xs.length c, .func (.func g) #[] lb] w fun e w' => e = .returned (.bool (allF p xs)) ∧ Below w.heap.size w w' := by
  have hmf : ∀ (fn : Fn) (first cap : Array Value) (w : World), (Instr.makeFunc fn first cap).run Try.prog w = .ok (.func fn first cap) w := fun _ _ _ _ => rfl
  have H := Lib.hid (ContainsFunc_bytes 63 #[.pointer (some ⟨w.heap.size, 0, none⟩)] (fun x => !p x) A c xs (w.alloc (.cells #[.func (.func g) #[] lb] 75)) eg_areAll1b
    (fun x W hb => areAll1_bytes g lb (p x) w.heap.size x W eg ((hb.cell (p := ⟨w.heap.size, 0, none⟩) (by simp)).trans (by simp)) (hp x W (((Below.refl _ w).alloc (Nat.le_refl _) _).trans (hb.mono (by simp)))))
    ⟨hc.1, fun i h => by
      obtain ⟨ad, e, h1⟩ := hc.2 i h
      exact ⟨ad, e, pw_cell_below (below_alloc (Below.refl _ w) _) h1⟩⟩)
  have F := Lib.hid (anyF_not p xs)
  clear hp hc eg
  go_enter Try.func47, Try.ntmps47
  go_wp2_with (go_at_call 62; refine H.out.mono ?_; rintro e w' ⟨rfl, rfl⟩)
  go_ret
  exact ⟨by rw [F.out]; simp, (Below.refl _ _).alloc (Nat.le_refl _) _⟩


def allP (s : ByteArray) : Bool := allF plainB s.data.toList
def standsB (s : ByteArray) (c : UInt8) : Bool := s.data.toList.any (· == c)

theorem take_snoc (s : ByteArray) (k : Nat) (h : k < s.size) : s.data.toList.take (k + 1) = s.data.toList.take k ++ [s[k]] := by
  rw [List.take_succ_eq_append_getElem (by simpa using h)]; rfl

theorem below_bytes (w : World) (e : TypeId) (s : ByteArray) : Below w.heap.size w (Lib.bytesWorld w e s) := by
  refine ⟨rfl, rfl, rfl, ?_, fun k hk => Lib.bytesWorld_at_old w e s k hk⟩
  rw [Lib.bytesWorld_size]; omega

set_option maxHeartbeats 400000 in
theorem isPlain_any (s : ByteArray) (w : World) (hs : s.size ≤ 9223372036854775807) : Calls Try.prog 27 #[.string s] w fun e w' => e = .returned (.bool (allP s)) ∧ Below w.heap.size w w' := by
  have kc := fun w : World => Lib.run_convert_string_bytes (P := Try.prog) w 9 43 5 s Try.underlying9 Try.underlying43 Try.underlying5
  have H := Lib.hid (areAll_bytes 48 #[] plainB (some ⟨w.heap.size, 0, none⟩) (grownCap w s.size 0 5) s.data.toList (Lib.bytesWorld w 5 s) eg_isPlain1 (fun x W _ => isPlain1_any x W) ⟨by simpa using hs, fun i h => ⟨_, rfl, by
    have h1 := Lib.bytesWorld_cell w 5 s i (by simpa using h)
    rw [add_plain]
    simpa [List.getD_eq_getElem?_getD, List.getElem?_eq_getElem h] using h1⟩⟩)
  have hl : s.data.toList.length = s.size := by simp
  go_enter Try.func27, Try.ntmps27
  go_wp2_with (go_at_call 47; have H' := H.out; rw [hl] at H'; refine H'.mono ?_; rintro e w' ⟨rfl, hb⟩)
  go_ret
  exact ⟨rfl, below_then (below_bytes w 5 s) (below_bytes w 5 s).size hb⟩

set_option maxHeartbeats 400000 in
theorem l1Stands_any (s : ByteArray) (c : UInt8) (w : World) (hs : s.size ≤ 9223372036854775807) : Calls Try.prog 46 #[.string s, .int .u8 c.toNat] w fun e w' => e = .returned (.bool (standsB s c)) ∧ w = w' := by
  go_enter Try.func46, Try.ntmps46
  go_wp2
  go_loop [5] (fun i => ∃ k : Nat, k ≤ s.size ∧ i = .int .i64 k ∧ Hid ((s.data.toList.take k).any (· == c) = false)) (fun i => s.size - (intOf i).toNat)
  case atStart => exact ⟨0, Nat.zero_le _, rfl, by simp [Hid]⟩
  case round =>
    obtain ⟨k, hk, rfl, HA⟩ := hrel
    by_cases hlt : k < s.size
    · have hts := Lib.hid (take_snoc s k hlt)
      by_cases hq : s[k] = c
      · have F := Lib.hid (show standsB s c = true from List.any_eq_true.2 ⟨s[k], by rw [ByteArray.getElem_eq_getElem_data]; simp, by simp [hq]⟩)
        have hq' : ((s[k].toNat : Int) == (c.toNat : Int)) = true := by rw [hq]; simp
        clear hq
        go_wp2
        go_ret
        exact ⟨by rw [F.out]; rfl, rfl⟩
      · have hq' : ((s[k].toNat : Int) == (c.toNat : Int)) = false := by
          rw [beq_eq_false_iff_ne]; intro h; exact hq (UInt8.toNat_inj.1 (by omega))
        have F := Lib.hid hq
        clear hq
        go_wp2
        go_round
        case rel => exact ⟨k + 1, by omega, by go_num, by show _ = _; rw [hts.out, List.any_append, HA.out]; simp [F.out]⟩
        case measure => simp [intOf]; omega
    · have hk' : k = s.size := by omega
      have F := Lib.hid (show standsB s c = false from by unfold standsB; rw [← HA.out, hk', List.take_of_length_le (by simp)])
      clear hk'
      go_wp2
      go_ret
      exact ⟨by rw [F.out]; rfl, rfl⟩

theorem plainB_in (b : UInt8) : plainB b = (inB b.toNat 32 126 && !((b.toNat : Int) == 35)) := by
  unfold plainB inB bne; cases decide ((32:Int) ≤ b.toNat) <;> simp

set_option maxHeartbeats 400000 in
theorem l27Plain_any (s : ByteArray) (m : Int) (w : World) (hs : s.size ≤ 9223372036854775807) : Calls Try.prog 45 #[.string s, .int .i64 m] w fun e w' => e = .returned (.bool (allP s && decide ((s.size : Int) ≤ m))) ∧ w = w' := by
  go_enter Try.func45, Try.ntmps45
  go_wp2
  go_loop [5] (fun i => ∃ k : Nat, k ≤ s.size ∧ i = .int .i64 k ∧ Hid ((s.data.toList.take k).all plainB = true)) (fun i => s.size - (intOf i).toNat)
  case atStart => exact ⟨0, Nat.zero_le _, rfl, by simp [Hid]⟩
  case round =>
    obtain ⟨k, hk, rfl, HA⟩ := hrel
    by_cases hlt : k < s.size
    · have hts := Lib.hid (take_snoc s k hlt)
      have hlt' := s[k].toNat_lt
      cases hq : plainB s[k] with
      | false =>
        have F := Lib.hid (show (allP s && decide ((s.size : Int) ≤ m)) = false from by
          have : allP s = false := List.all_eq_false.2 ⟨s[k], by rw [ByteArray.getElem_eq_getElem_data]; simp, by simp [hq]⟩
          simp [this])
        rw [plainB_in] at hq
        cases h1 : inB s[k].toNat 32 126 with
        | false =>
          clear hq
          go_wp2_with (go_at_call 44; refine (l1In_any _ _ _ _).mono ?_; rw [h1]; rintro e w' ⟨rfl, rfl⟩)
          go_ret
          exact ⟨by rw [F.out]; rfl, rfl⟩
        | true =>
          have h2 : ((s[k].toNat : Int) == 35) = true := by rw [h1] at hq; simpa using hq
          clear hq
          go_wp2_with (go_at_call 44; refine (l1In_any _ _ _ _).mono ?_; rw [h1]; rintro e w' ⟨rfl, rfl⟩)
          go_ret
          exact ⟨by rw [F.out]; rfl, rfl⟩
      | true =>
        have G := Lib.hid hq
        rw [plainB_in] at hq
        have h1 : inB s[k].toNat 32 126 = true := (Bool.and_eq_true_iff.1 hq).1
        have h2 : ((s[k].toNat : Int) == 35) = false := by simpa using (Bool.and_eq_true_iff.1 hq).2
        clear hq
        go_wp2_with (go_at_call 44; refine (l1In_any _ _ _ _).mono ?_; rw [h1]; rintro e w' ⟨rfl, rfl⟩)
        go_round
        case rel => exact ⟨k + 1, by omega, by go_num, by show _ = _; rw [hts.out, List.all_append, HA.out]; simp [G.out]⟩
        case measure => simp [intOf]; omega
    · have hk' : k = s.size := by omega
      have F := Lib.hid (show allP s = true from by unfold allP allF; rw [← HA.out, hk', List.take_of_length_le (by simp)])
      clear hk'
      go_wp2
      go_ret
      exact ⟨by rw [F.out]; rfl, rfl⟩

/-- a record is valid -/
def recB (c r : ByteArray) : Bool := inB c.size 1 160 && (allP c && (!standsB c 64 && (decide ((r.size : Int) ≤ 200) && allP r)))

theorem size_len (c : ByteArray) : c.size = c.toList.length := by
  rw [ByteArray.toList_eq]; simp
theorem indexByte_any (l : List UInt8) (c : UInt8) : decide (0 ≤ Lib.indexByte l c) = l.any (· == c) := by
  induction l with
  | nil => rfl
  | cons b l ih =>
    unfold Lib.indexByte
    rw [List.any_cons, ← ih]
    have h := Lib.indexByte_ge l c
    generalize Lib.indexByte l c = x at *
    by_cases hb : (b == c) = true
    · simp [hb]
    · rw [if_neg hb]
      have hb' : (b == c) = false := by simpa using hb
      rw [hb', Bool.false_or]
      by_cases hx : (x == -1) = true
      · rw [if_pos hx]; have : x = -1 := by simpa using hx
        subst this; rfl
      · rw [if_neg hx]
        have : x ≠ -1 := by simpa using hx
        apply Bool.eq_iff_iff.2
        simp only [decide_eq_true_eq]; omega
theorem indexByte_stands (s : ByteArray) (c : UInt8) : decide (0 ≤ Lib.indexByte s.data.toList c) = standsB s c := indexByte_any _ _

set_option maxHeartbeats 800000 in
theorem l27Good_any (c r : ByteArray) (w : World) (hc : c.size ≤ 9223372036854775807) (hr : r.size ≤ 9223372036854775807) :
    Calls Try.prog 25 #[.agg #[.string c, .string r]] w fun e w' => e = .returned (.bool (recB c r)) ∧ Below w.heap.size w w' := by
  have F := Lib.hid (show recB c r = (!c.toList.isEmpty && ((allP c && decide ((c.size : Int) ≤ 160)) && (!standsB c 64 && (allP r && decide ((r.size : Int) ≤ 200))))) from by
    have h1 : inB c.size 1 160 = (!c.toList.isEmpty && decide ((c.size : Int) ≤ 160)) := by
      unfold inB
      have : decide ((1:Int) ≤ c.size) = !c.toList.isEmpty := by
        rw [size_len]; cases c.toList with
        | nil => rfl
        | cons a l => simp; omega
      rw [this]
    unfold recB
    rw [h1, Bool.and_comm (decide ((r.size : Int) ≤ 200))]
    cases c.toList.isEmpty <;> cases allP c <;> simp)
  generalize hA : (allP c && decide ((c.size : Int) ≤ 160)) = b1 at *
  generalize hB : (allP r && decide ((r.size : Int) ≤ 200)) = b2 at *
  generalize hC : standsB c 64 = b3 at *
  have HA := Lib.hid hA; clear hA
  have HB := Lib.hid hB; clear hB
  have HC := Lib.hid hC; clear hC
  go_enter Try.func25, Try.ntmps25
  go_wp2_with (first | (go_at_call 45; refine (l27Plain_any _ _ _ (by first | exact hc | exact hr)).mono ?_; rw [HA.out]; rintro e w' ⟨rfl, rfl⟩) | (go_at_call 45; refine (l27Plain_any _ _ _ (by first | exact hc | exact hr)).mono ?_; rw [HB.out]; rintro e w' ⟨rfl, rfl⟩) | (go_at_call 46; refine (l1Stands_any _ 64 _ (by first | exact hc | exact hr)).mono ?_; rw [HC.out]; rintro e w' ⟨rfl, rfl⟩))
  all_goals go_ret
  all_goals refine ⟨?_, (Below.refl _ _).alloc (Nat.le_refl _) _⟩
  all_goals (rw [F.out]; first | rfl | (simp_all; done))

set_option maxHeartbeats 800000 in
theorem spec_IsValidRecord_any (c r : ByteArray) (w : World) (hc : c.size ≤ 9223372036854775807) (hr : r.size ≤ 9223372036854775807) :
    Calls Try.prog 7 #[.agg #[.string c, .string r]] w fun e w' => e = .returned (.bool (recB c r)) ∧ Below w.heap.size w w' := by
  go_enter Try.func7, Try.ntmps7
  go_wp2_with (go_at_call 25; refine (l27Good_any c r _ hc hr).mono ?_; rintro e w' ⟨rfl, hb⟩)
  go_ret
  exact ⟨rfl, below_then ((Below.refl _ _).alloc (Nat.le_refl _) _) (by simp) hb⟩

set_option maxHeartbeats 800000 in
theorem impl_IsValidRecord_any (c r : ByteArray) (w : World) (hc : c.size ≤ 9223372036854775807) (hr : r.size ≤ 9223372036854775807) :
    Calls Try.prog 9 #[.agg #[.string c, .string r]] w fun e w' => e = .returned (.bool (recB c r)) ∧ Below w.heap.size w w' := by
  have F := Lib.hid (show recB c r = (inB c.size 1 160 && (allP c && (!standsB c 64 && (decide ((r.size : Int) ≤ 200) && allP r)))) from rfl)
  generalize hA : inB c.size 1 160 = b1 at *
  generalize hB : allP c = b2 at *
  generalize hC : standsB c 64 = b3 at *
  generalize hD : allP r = b4 at *
  have HA := Lib.hid hA; clear hA
  have HB := Lib.hid hB; clear hB
  have HC := Lib.hid hC; clear hC
  have HD := Lib.hid hD; clear hD
  have HB0 := Lib.hid (Below.refl w.heap.size w)
  go_enter Try.func9, Try.ntmps9
  go_wp2_with (first
    | (go_at_call 26; refine (in_any _ _ _ _).mono ?_; rw [HA.out]; rintro e w' ⟨rfl, rfl⟩)
    | (go_at_call 27; refine (isPlain_any c _ hc).mono ?_; rw [HB.out]; rintro e w1 ⟨rfl, hb⟩; obtain ⟨hq1, hq2⟩ := bcell hb; have HB1 := Lib.hid (below_then (HB0.out.alloc (Nat.le_refl _) _) (by simp) hb))
    | (go_at_call 27; refine (isPlain_any r _ hr).mono ?_; rw [HD.out]; rintro e w2 ⟨rfl, hb2⟩)
    | (go_at_call 28; refine (Try.strings_Contains_one _ _ _).mono ?_; rw [indexByte_stands, HC.out]; rintro e w' ⟨rfl, rfl⟩))
  all_goals go_ret
  all_goals refine ⟨?_, ?_⟩
  all_goals first
    | exact HB1.out
    | exact below_up HB1.out hb2
    | exact below_alloc (Below.refl _ w) _
    | (rw [F.out]; simp [*]; done)
    | (rw [F.out]; simp [*]; omega)
end Go.Proofs.Ytbgjlojnbdnoaaa
