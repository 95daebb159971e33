/-
  THE WALKS of layer 1 (sat): the program's and the reference's sums, differences, products and doublings, each by what it computes.
-/
import Derived.Test.YtdoofpanbcaigaaRows
import Derived.Test.YtdoofpanbcaigaaPlain
import Derived.WalkKit
import Derived.WalkSpells
import Derived.WalkLawsBesides
import Derived.Lib.Hide
namespace Go.Proofs.Ytdoofpanbcaigaa
open Go.RowKit

theorem ret_int {k : IntKind} {a b : Int} (h : a = b) : Ending.returned (.int k a) = .returned (.int k b) := by rw [h]
theorem ret_bool {a b : Bool} (h : a = b) : Ending.returned (.bool a) = .returned (.bool b) := by rw [h]

/-- What 'open_int' hands over of an int. -/
theorem i64_of_wf {x : Int} (h : (Lit.int .i64 x).wf = true) : -9223372036854775808 ≤ x ∧ x ≤ 9223372036854775807 := by
  simp [Lit.wf, IntKind.min, IntKind.max, IntKind.signed, IntKind.bits] at h
  exact ⟨by omega, by omega⟩

set_option maxHeartbeats 400000 in
/-- sat.Fit. -/
theorem fit_any (n : Int) (w : World) : Calls Try.prog 24 #[.int .i64 n] w fun e w' => e = .returned (.int .i64 (Plain.fit n)) ∧ w = w' := by
  go_enter Try.func24, Try.ntmps24
  go_wp2
  all_goals (go_ret; exact ⟨ret_int (by unfold Plain.fit; split at * <;> omega), rfl⟩)

set_option maxHeartbeats 400000 in
/-- doormanref01.Fit. -/
theorem rfit_any (n : Int) (w : World) : Calls Try.prog 25 #[.int .i64 n] w fun e w' => e = .returned (.int .i64 (Plain.fit n)) ∧ w = w' := by
  go_enter Try.func25, Try.ntmps25
  go_wp2
  all_goals (go_ret; exact ⟨ret_int (by unfold Plain.fit; omega), rfl⟩)

set_option maxHeartbeats 400000 in
/-- sat.Add. -/
theorem add_any (a b : Int) (w : World) : Calls Try.prog 26 #[.int .i64 a, .int .i64 b] w fun e w' => e = .returned (.int .i64 (Plain.sAdd a b)) ∧ w = w' := by
  have a0 := Plain.fit_lo a; have a1 := Plain.fit_hi a; have b0 := Plain.fit_lo b; have b1 := Plain.fit_hi b
  go_enter Try.func26, Try.ntmps26
  go_wp2_with (go_at_call 24; refine (fit_any _ _).mono ?_; rintro e w' ⟨rfl, rfl⟩)
  go_ret
  exact ⟨rfl, rfl⟩

set_option maxHeartbeats 400000 in
/-- doormanref01.Add. -/
theorem radd_any (a b : Int) (w : World) : Calls Try.prog 27 #[.int .i64 a, .int .i64 b] w fun e w' => e = .returned (.int .i64 (Plain.sAdd a b)) ∧ w = w' := by
  have a0 := Plain.fit_lo a; have a1 := Plain.fit_hi a; have b0 := Plain.fit_lo b; have b1 := Plain.fit_hi b
  go_enter Try.func27, Try.ntmps27
  go_wp2_with (go_at_call 25; refine (rfit_any _ _).mono ?_; rintro e w' ⟨rfl, rfl⟩)
  go_ret
  exact ⟨rfl, rfl⟩

set_option maxHeartbeats 400000 in
/-- sat.Sub. -/
theorem sub_any (a b : Int) (w : World) : Calls Try.prog 28 #[.int .i64 a, .int .i64 b] w fun e w' => e = .returned (.int .i64 (Plain.sSub a b)) ∧ w = w' := by
  have a0 := Plain.fit_lo a; have a1 := Plain.fit_hi a; have b0 := Plain.fit_lo b; have b1 := Plain.fit_hi b
  go_enter Try.func28, Try.ntmps28
  go_wp2_with (go_at_call 24; refine (fit_any _ _).mono ?_; rintro e w' ⟨rfl, rfl⟩)
  go_ret
  exact ⟨rfl, rfl⟩

set_option maxHeartbeats 400000 in
/-- doormanref01.Sub. -/
theorem rsub_any (a b : Int) (w : World) : Calls Try.prog 29 #[.int .i64 a, .int .i64 b] w fun e w' => e = .returned (.int .i64 (Plain.sSub a b)) ∧ w = w' := by
  have a0 := Plain.fit_lo a; have a1 := Plain.fit_hi a; have b0 := Plain.fit_lo b; have b1 := Plain.fit_hi b
  go_enter Try.func29, Try.ntmps29
  go_wp2_with (go_at_call 25; refine (rfit_any _ _).mono ?_; rintro e w' ⟨rfl, rfl⟩)
  go_ret
  exact ⟨rfl, rfl⟩

set_option maxHeartbeats 400000 in
/-- sat.Mul. -/
theorem mul_any (a b : Int) (w : World) : Calls Try.prog 30 #[.int .i64 a, .int .i64 b] w fun e w' => e = .returned (.int .i64 (Plain.sMul a b)) ∧ w = w' := by
  have a0 := Plain.fit_lo a; have a1 := Plain.fit_hi a; have b0 := Plain.fit_lo b; have b1 := Plain.fit_hi b
  by_cases h0 : 0 < Plain.fit a
  · by_cases h1 : 1099511627776 / Plain.fit a < Plain.fit b
    · have E := Lib.hid (Plain.mul_over h0 h1)
      go_enter Try.func30, Try.ntmps30
      go_wp2_with (go_at_call 24; refine (fit_any _ _).mono ?_; rintro e w' ⟨rfl, rfl⟩)
      go_ret
      exact ⟨ret_int E.out.symm, rfl⟩
    · obtain ⟨p0, p1⟩ := Plain.mul_under h0 b0 (Int.not_lt.1 h1)
      have E := Lib.hid (Plain.fit_in p0 p1)
      go_enter Try.func30, Try.ntmps30
      go_wp2_with (go_at_call 24; refine (fit_any _ _).mono ?_; rintro e w' ⟨rfl, rfl⟩)
      go_ret
      exact ⟨ret_int E.out.symm, rfl⟩
  · have hz : Plain.fit a = 0 := by omega
    have E : Hid (0 = Plain.sMul a b) := Lib.hid (by unfold Plain.sMul; rw [hz, Int.zero_mul]; rfl)
    have Z := Lib.hid hz
    clear hz
    have p0 : 0 ≤ Plain.fit a * Plain.fit b := by rw [Z.out, Int.zero_mul]; exact Int.le_refl 0
    have p1 : Plain.fit a * Plain.fit b ≤ 0 := by rw [Z.out, Int.zero_mul]; exact Int.le_refl 0
    go_enter Try.func30, Try.ntmps30
    go_wp2_with (go_at_call 24; refine (fit_any _ _).mono ?_; rintro e w' ⟨rfl, rfl⟩)
    go_ret
    exact ⟨ret_int (by rw [← E.out]; omega), rfl⟩

set_option maxHeartbeats 400000 in
/-- doormanref01.Mul. -/
theorem rmul_any (a b : Int) (w : World) : Calls Try.prog 31 #[.int .i64 a, .int .i64 b] w fun e w' => e = .returned (.int .i64 (Plain.sMul a b)) ∧ w = w' := by
  have a0 := Plain.fit_lo a; have a1 := Plain.fit_hi a; have b0 := Plain.fit_lo b; have b1 := Plain.fit_hi b
  obtain ⟨s1, s2⟩ := Plain.taken_start (Plain.fit a) (Plain.fit b) b0 b1
  have S1 := Lib.hid s1; have S2 := Lib.hid s2
  clear s1 s2
  go_enter Try.func31, Try.ntmps31
  go_wp2_with (go_at_call 25; refine (rfit_any _ _).mono ?_; rintro e w' ⟨rfl, rfl⟩)
  go_loop [1, 5, 6] (fun vb vn vi => ∃ k : Nat, k ≤ 41 ∧ vb = .int .i64 (Plain.left (Plain.fit b) k) ∧ vn = .int .i64 (Plain.taken (Plain.fit a) (Plain.fit b) k) ∧ vi = .int .i64 (Plain.bitOf k)) (fun _ _ i => (intOf i).toNat)
  case atStart => exact ⟨41, Nat.le_refl _, by rw [S2.out], by rw [S1.out], rfl⟩
  case round =>
    obtain ⟨k, hk, rfl, rfl, rfl⟩ := hrel
    cases k with
    | zero =>
      have z0 : Plain.bitOf 0 ≤ 0 := by rw [Plain.bitOf_zero]; exact Int.le_refl 0
      go_wp2
      go_ret
      exact ⟨ret_int (Plain.taken_all _ _), rfl⟩
    | succ k =>
      have z0 := Plain.bitOf_pos k
      have z1 := Plain.bitOf_hi (k + 1) hk
      have l0 := Plain.left_lo (Plain.fit b) (k + 1)
      have l1 := Plain.left_hi (Plain.fit b) (k + 1) hk
      have Hh := Lib.hid (Plain.bitOf_half k)
      by_cases hb : Plain.left (Plain.fit b) (k + 1) < Plain.bitOf (k + 1)
      · have E1 := Lib.hid (Plain.lt_bit hb).1
        have E2 := Lib.hid (Plain.taken_no a0 b0 hb)
        go_wp2_with (go_at_call 27; refine (radd_any _ _ _).mono ?_; rintro e w' ⟨rfl, rfl⟩)
        go_round
        case rel => exact ⟨k, by omega, by rw [E1.out], by rw [E2.out], by rw [Hh.out]⟩
        case measure => simp [intOf]; omega
      · have hb' : Plain.bitOf (k + 1) ≤ Plain.left (Plain.fit b) (k + 1) := Int.not_lt.1 hb
        have E1 := Lib.hid (Plain.ge_bit hb').1
        have E2 := Lib.hid (Plain.taken_yes a0 b0 hb')
        have E3 := Lib.hid (Plain.fit_fit a)
        go_wp2_with (go_at_call 27; refine (radd_any _ _ _).mono ?_; rintro e w' ⟨rfl, rfl⟩)
        go_round
        case rel => exact ⟨k, by omega, by rw [E1.out], by rw [E2.out], by rw [Hh.out]⟩
        case measure => simp [intOf]; omega

theorem dbl_at_top {n : Nat} {x : Int} (h0 : 1099511627776 ≤ x) (h1 : x ≤ 1099511627776) : Plain.dbl n x = x := by
  rw [Int.le_antisymm h1 h0]; exact Plain.dbl_top _
theorem dbl_at_zero {n : Nat} {x : Int} (h0 : 0 ≤ x) (h1 : x ≤ 0) : Plain.dbl n x = x := by
  rw [Int.le_antisymm h1 h0]; exact Plain.dbl_zero _

set_option maxHeartbeats 400000 in
/-- sat.Twice. -/
theorem twice_any (a k : Int) (hk0 : -9223372036854775808 ≤ k) (hk1 : k ≤ 9223372036854775807) (w : World) : Calls Try.prog 32 #[.int .i64 a, .int .i64 k] w fun e w' => e = .returned (.int .i64 (Plain.sTwice a k)) ∧ w = w' := by
  have a0 := Plain.fit_lo a; have a1 := Plain.fit_hi a
  go_enter Try.func32, Try.ntmps32
  go_wp2_with (go_at_call 24; refine (fit_any _ _).mono ?_; rintro e w' ⟨rfl, rfl⟩)
  go_loop [0, 1] (fun va vk => ∃ x m : Int, 0 ≤ x ∧ x ≤ 1099511627776 ∧ -9223372036854775808 ≤ m ∧ m ≤ 9223372036854775807 ∧ va = .int .i64 x ∧ vk = .int .i64 m ∧ Hid (Plain.dbl m.toNat x = Plain.sTwice a k)) (fun _ k => (intOf k).toNat)
  case atStart => exact ⟨_, _, a0, a1, hk0, hk1, rfl, rfl, Lib.hid rfl⟩
  case round =>
    obtain ⟨x, m, x0, x1, m0, m1, rfl, rfl, HE⟩ := hrel
    by_cases h1 : 0 < m
    · by_cases h2 : 0 < x
      · by_cases h3 : x < 1099511627776
        · have E : Hid (Plain.dbl (m - 1).toNat (Plain.fit (2 * x)) = Plain.dbl m.toNat x) := by
            obtain ⟨n, rfl⟩ : ∃ n : Nat, m = (n : Int) + 1 := ⟨(m - 1).toNat, by omega⟩
            refine Lib.hid ?_
            rw [show ((n : Int) + 1 - 1).toNat = n from by omega, show ((n : Int) + 1).toNat = n + 1 from by omega]
            rfl
          have f0 := Plain.fit_lo (2 * x); have f1 := Plain.fit_hi (2 * x)
          go_wp2_with (go_at_call 24; refine (fit_any _ _).mono ?_; rintro e w' ⟨rfl, rfl⟩)
          go_round
          case rel => exact ⟨_, _, f0, f1, by omega, by omega, rfl, rfl, Lib.hid (E.out.trans HE.out)⟩
          case measure => simp [intOf]; omega
        · have E : Hid (x = Plain.sTwice a k) := Lib.hid (by rw [← HE.out]; exact (dbl_at_top (by omega) x1).symm)
          go_wp2
          go_ret
          exact ⟨ret_int E.out, rfl⟩
      · have E : Hid (x = Plain.sTwice a k) := Lib.hid (by rw [← HE.out]; exact (dbl_at_zero x0 (by omega)).symm)
        go_wp2
        go_ret
        exact ⟨ret_int E.out, rfl⟩
    · have E : Hid (x = Plain.sTwice a k) := Lib.hid (by rw [← HE.out, show m.toNat = 0 from by omega]; rfl)
      go_wp2
      go_ret
      exact ⟨ret_int E.out, rfl⟩

set_option maxHeartbeats 400000 in
/-- doormanref01.Twice. -/
theorem rtwice_any (a k : Int) (w : World) : Calls Try.prog 33 #[.int .i64 a, .int .i64 k] w fun e w' => e = .returned (.int .i64 (Plain.sTwice a k)) ∧ w = w' := by
  have a0 := Plain.fit_lo a; have a1 := Plain.fit_hi a
  go_enter Try.func33, Try.ntmps33
  go_wp2_with (go_at_call 25; refine (rfit_any _ _).mono ?_; rintro e w' ⟨rfl, rfl⟩)
  go_loop [0, 5] (fun va vi => ∃ n : Nat, n ≤ 41 ∧ (n : Int) ≤ max k 0 ∧ va = .int .i64 (Plain.dbl n (Plain.fit a)) ∧ vi = .int .i64 n) (fun _ i => 41 - (intOf i).toNat)
  case atStart => exact ⟨0, by omega, by omega, rfl, rfl⟩
  case round =>
    obtain ⟨n, hn, hnk, rfl, rfl⟩ := hrel
    have x0 := Plain.dbl_lo n _ a0; have x1 := Plain.dbl_hi n _ a1
    by_cases h1 : (n : Int) < k
    · by_cases h2 : n < 41
      · have E : Hid (Plain.sAdd (Plain.dbl n (Plain.fit a)) (Plain.dbl n (Plain.fit a)) = Plain.dbl (n + 1) (Plain.fit a)) :=
          Lib.hid (by rw [Plain.dbl_snoc]; unfold Plain.sAdd; rw [Plain.fit_in x0 x1]; congr 1; omega)
        go_wp2_with (go_at_call 27; refine (radd_any _ _ _).mono ?_; rintro e w' ⟨rfl, rfl⟩)
        go_round
        case rel => exact ⟨n + 1, by omega, by omega, by rw [E.out], by go_num⟩
        case measure => simp [intOf]; omega
      · have E : Hid (Plain.dbl n (Plain.fit a) = Plain.sTwice a k) := Lib.hid (by
          unfold Plain.sTwice
          rw [Plain.dbl_41 k.toNat (by omega) _ a0 a1, show n = 41 from by omega])
        go_wp2
        go_ret
        exact ⟨ret_int E.out, rfl⟩
    · have E : Hid (Plain.dbl n (Plain.fit a) = Plain.sTwice a k) := Lib.hid (by
        unfold Plain.sTwice
        rw [show k.toNat = n from by omega])
      go_wp2
      go_ret
      exact ⟨ret_int E.out, rfl⟩

theorem awake_nums : Plain.sSub 3 5 = 0 ∧ Plain.sTwice 3 2 = 12 ∧ Plain.sAdd 1 1099511627776 = 1099511627776 ∧ Plain.sMul 6 7 = 42 := by
  refine ⟨by decide, ?_, by decide, by decide⟩
  decide

set_option maxHeartbeats 400000 in
/-- doormanlaw01.awake. -/
theorem awake01_any (w : World) : Calls Try.prog 34 #[] w fun e w' => e = .returned (.bool true) ∧ w = w' := by
  obtain ⟨e1, e2, e3, e4⟩ := awake_nums
  go_enter Try.func34, Try.ntmps34
  go_wp2_with (first
    | (go_at_call 28; refine (sub_any _ _ _).mono ?_; rw [e1]; rintro e w' ⟨rfl, rfl⟩)
    | (go_at_call 32; refine (twice_any _ _ (by omega) (by omega) _).mono ?_; rw [e2]; rintro e w' ⟨rfl, rfl⟩)
    | (go_at_call 26; refine (add_any _ _ _).mono ?_; rw [e3]; rintro e w' ⟨rfl, rfl⟩)
    | (go_at_call 30; refine (mul_any _ _ _).mono ?_; rw [e4]; rintro e w' ⟨rfl, rfl⟩))
  go_ret
  exact ⟨rfl, rfl⟩
end Go.Proofs.Ytdoofpanbcaigaa
