/-
  THE WALKS of layer 23 (backoff).
-/
import Derived.Test.YtdoofpanbcaigaaHalf
import Derived.Test.YtdoofpanbcaigaaPlainBackoff
namespace Go.Proofs.Ytdoofpanbcaigaa
open Go.RowKit

set_option maxRecDepth 100000 in
set_option maxHeartbeats 1000000 in
/-- backoff.Delay. -/
theorem delay_any (x0 x1 x2 x3 x4 x5 x6 x7 x8 x9 x10 x11 x12 : Value) (base cap J n : Int) (hn : n ≤ 9223372036854775807) (w : World) :
    Calls Try.prog 39 #[.agg #[x0, x1, x2, x3, x4, x5, x6, x7, x8, x9, x10, x11, x12, .int .i64 base, .int .i64 cap, .int .i64 J], .int .i64 n] w fun e w' => e = .returned (.int .i64 (Plain.delay base cap n)) ∧ Below w.heap.size w w' := by
  by_cases c : n < 1
  · have E : Hid (0 = Plain.delay base cap n) := Lib.hid (by unfold Plain.delay; rw [if_pos c])
    go_enter Try.func39, Try.ntmps39
    go_wp2
    go_ret
    exact ⟨ret_int E.out, (Below.refl _ _).alloc (Nat.le_refl _) _⟩
  · have E : Hid (min (Plain.fit cap) (Plain.sTwice base (n - 1)) = Plain.delay base cap n) := Lib.hid (by unfold Plain.delay; rw [if_neg c])
    have b0 : -9223372036854775808 ≤ n - 1 := by omega
    have b1 : n - 1 ≤ 9223372036854775807 := by omega
    go_enter Try.func39, Try.ntmps39
    go_wp2
    go_quiet ((first
      | (go_at_call 24; exact Calls.quiet_of_same ((fit_any _ _).mono fun _ _ h => ⟨h.1, h.2.symm⟩))
      | (go_at_call 32; exact Calls.quiet_of_same ((twice_any _ _ b0 b1 _).mono fun _ _ h => ⟨h.1, h.2.symm⟩))))
    go_wp2
    go_ret
    exact ⟨ret_int E.out, below_drewN ((Below.refl _ _).alloc (Nat.le_refl _) _) _⟩

set_option maxRecDepth 100000 in
set_option maxHeartbeats 1000000 in
/-- doormanref23.Delay. -/
theorem rdelay_any (x0 x1 x2 x3 x4 x5 x6 x7 x8 x9 x10 x11 x12 : Value) (base cap J n : Int) (hn : n ≤ 9223372036854775807) (w : World) :
    Calls Try.prog 40 #[.agg #[x0, x1, x2, x3, x4, x5, x6, x7, x8, x9, x10, x11, x12, .int .i64 base, .int .i64 cap, .int .i64 J], .int .i64 n] w fun e w' => e = .returned (.int .i64 (Plain.delay base cap n)) ∧ Below w.heap.size w w' := by
  by_cases c : n < 1
  · have E : Hid (0 = Plain.delay base cap n) := Lib.hid (by unfold Plain.delay; rw [if_pos c])
    go_enter Try.func40, Try.ntmps40
    go_wp2
    go_ret
    exact ⟨ret_int E.out, (Below.refl _ _).alloc (Nat.le_refl _) _⟩
  · have E : Hid (min (Plain.fit cap) (Plain.sTwice base (n - 1)) = Plain.delay base cap n) := Lib.hid (by unfold Plain.delay; rw [if_neg c])
    by_cases c2 : Plain.fit cap < Plain.sTwice base (n - 1)
    · go_enter Try.func40, Try.ntmps40
      go_wp2_with (first
        | (go_at_call 25; refine (rfit_any _ _).mono ?_; rintro e w' ⟨rfl, rfl⟩)
        | (go_at_call 33; refine (rtwice_any _ _ _).mono ?_; rintro e w' ⟨rfl, rfl⟩))
      go_ret
      exact ⟨ret_int (by rw [← E.out]; omega), (Below.refl _ _).alloc (Nat.le_refl _) _⟩
    · go_enter Try.func40, Try.ntmps40
      go_wp2_with (first
        | (go_at_call 25; refine (rfit_any _ _).mono ?_; rintro e w' ⟨rfl, rfl⟩)
        | (go_at_call 33; refine (rtwice_any _ _ _).mono ?_; rintro e w' ⟨rfl, rfl⟩))
      go_ret
      exact ⟨ret_int (by rw [← E.out]; omega), (Below.refl _ _).alloc (Nat.le_refl _) _⟩

set_option maxRecDepth 100000 in
set_option maxHeartbeats 1000000 in
/-- backoff.Jitter. -/
theorem jitter_any (x0 x1 x2 x3 x4 x5 x6 x7 x8 x9 x10 x11 x12 : Value) (base cap J j : Int) (hJ : J ≤ 9223372036854775807) (w : World) :
    Calls Try.prog 41 #[.agg #[x0, x1, x2, x3, x4, x5, x6, x7, x8, x9, x10, x11, x12, .int .i64 base, .int .i64 cap, .int .i64 J], .int .i64 j] w fun e w' => e = .returned (.int .i64 (Plain.jitter J j)) ∧ Below w.heap.size w w' := by
  by_cases c : J < 1
  · have E : Hid (0 = Plain.jitter J j) := Lib.hid (by unfold Plain.jitter; rw [if_pos c])
    go_enter Try.func41, Try.ntmps41
    go_wp2
    go_ret
    exact ⟨ret_int E.out, (Below.refl _ _).alloc (Nat.le_refl _) _⟩
  · have hJ0 : J ≠ 0 := by omega
    have l1 := Int.lt_tmod_of_pos j (show 0 < J by omega)
    have l2 := Int.tmod_lt_of_pos j (show 0 < J by omega)
    by_cases j0 : 0 ≤ j
    · have m0 := Int.emod_nonneg j hJ0
      have m1 := Int.emod_lt_of_pos j (show 0 < J by omega)
      have E : Hid (j % J = Plain.jitter J j) := Lib.hid (by unfold Plain.jitter; rw [if_neg c])
      clear l1 l2
      go_enter Try.func41, Try.ntmps41
      go_wp2
      go_ret
      exact ⟨ret_int E.out, (Below.refl _ _).alloc (Nat.le_refl _) _⟩
    · by_cases d : j.tmod J < 0
      · have E := Lib.hid (Plain.jitter_neg c d)
        go_enter Try.func41, Try.ntmps41
        go_wp2
        go_ret
        exact ⟨ret_int E.out, (Below.refl _ _).alloc (Nat.le_refl _) _⟩
      · have E := Lib.hid (Plain.jitter_pos c d)
        go_enter Try.func41, Try.ntmps41
        go_wp2
        go_ret
        exact ⟨ret_int E.out, (Below.refl _ _).alloc (Nat.le_refl _) _⟩

set_option maxRecDepth 100000 in
set_option maxHeartbeats 1000000 in
/-- doormanref23.Jitter. -/
theorem rjitter_any (x0 x1 x2 x3 x4 x5 x6 x7 x8 x9 x10 x11 x12 : Value) (base cap J j : Int) (hJ : J ≤ 9223372036854775807) (w : World) :
    Calls Try.prog 42 #[.agg #[x0, x1, x2, x3, x4, x5, x6, x7, x8, x9, x10, x11, x12, .int .i64 base, .int .i64 cap, .int .i64 J], .int .i64 j] w fun e w' => e = .returned (.int .i64 (Plain.jitter J j)) ∧ Below w.heap.size w w' := by
  by_cases c : J < 1
  · have E : Hid (0 = Plain.jitter J j) := Lib.hid (by unfold Plain.jitter; rw [if_pos c])
    go_enter Try.func42, Try.ntmps42
    go_wp2
    go_ret
    exact ⟨ret_int E.out, (Below.refl _ _).alloc (Nat.le_refl _) _⟩
  · have hJ0 : J ≠ 0 := by omega
    have l1 := Int.lt_tmod_of_pos j (show 0 < J by omega)
    have l2 := Int.tmod_lt_of_pos j (show 0 < J by omega)
    by_cases j0 : 0 ≤ j
    · have m0 := Int.emod_nonneg j hJ0
      have m1 := Int.emod_lt_of_pos j (show 0 < J by omega)
      have E : Hid (j % J = Plain.jitter J j) := Lib.hid (by unfold Plain.jitter; rw [if_neg c])
      clear l1 l2
      go_enter Try.func42, Try.ntmps42
      go_wp2
      go_ret
      exact ⟨ret_int E.out, (Below.refl _ _).alloc (Nat.le_refl _) _⟩
    · by_cases d : j.tmod J < 0
      · have E := Lib.hid (Plain.jitter_neg c d)
        go_enter Try.func42, Try.ntmps42
        go_wp2
        go_ret
        exact ⟨ret_int E.out, (Below.refl _ _).alloc (Nat.le_refl _) _⟩
      · have E := Lib.hid (Plain.jitter_pos c d)
        go_enter Try.func42, Try.ntmps42
        go_wp2
        go_ret
        exact ⟨ret_int E.out, (Below.refl _ _).alloc (Nat.le_refl _) _⟩

end Go.Proofs.Ytdoofpanbcaigaa
