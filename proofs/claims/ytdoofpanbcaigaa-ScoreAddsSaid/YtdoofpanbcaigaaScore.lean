/-
  THE WALKS of layer 16 (score).
-/
import Derived.Test.YtdoofpanbcaigaaHalf
import Derived.Test.YtdoofpanbcaigaaPlainScore
namespace Go.Proofs.Ytdoofpanbcaigaa
open Go.RowKit

set_option maxHeartbeats 400000 in
/-- score.Penalty. -/
theorem penalty_any (k : Int) (w : World) : Calls Try.prog 51 #[.int .i64 k] w fun e w' => e = .returned (.int .i64 (Plain.penalty k)) ∧ Below w.heap.size w w' := by
  by_cases c0 : k < 0
  · have E : Hid (0 = Plain.penalty k) := Lib.hid (by unfold Plain.penalty; repeat (rw [if_neg (by omega)]))
    go_enter Try.func51, Try.ntmps51
    go_wp2
    go_ret
    exact ⟨ret_int E.out, (Below.refl _ _).alloc (Nat.le_refl _) _⟩
  · by_cases c1 : 6 ≤ k
    · have E : Hid (0 = Plain.penalty k) := Lib.hid (by unfold Plain.penalty; repeat (rw [if_neg (by omega)]))
      go_enter Try.func51, Try.ntmps51
      go_wp2
      go_ret
      exact ⟨ret_int E.out, (Below.refl _ _).alloc (Nat.le_refl _) _⟩
    · have h : k = 0 ∨ k = 1 ∨ k = 2 ∨ k = 3 ∨ k = 4 ∨ k = 5 := by omega
      clear c0 c1
      rcases h with rfl | rfl | rfl | rfl | rfl | rfl
      all_goals
        go_enter Try.func51, Try.ntmps51
        go_wp2
        go_ret
        exact ⟨ret_int (by decide), (Below.refl _ _).alloc (Nat.le_refl _) _⟩

set_option maxHeartbeats 400000 in
/-- doormanref16.Penalty. -/
theorem rpenalty_any (k : Int) (w : World) : Calls Try.prog 52 #[.int .i64 k] w fun e w' => e = .returned (.int .i64 (Plain.penalty k)) ∧ w = w' := by
  by_cases h : k = 1 ∨ k = 2 ∨ k = 3 ∨ k = 4 ∨ k = 5
  · rcases h with rfl | rfl | rfl | rfl | rfl
    all_goals
      go_enter Try.func52, Try.ntmps52
      go_wp2
      go_ret
      exact ⟨ret_int (by decide), rfl⟩
  · have E : Hid (0 = Plain.penalty k) := Lib.hid (by unfold Plain.penalty; repeat (rw [if_neg (by omega)]))
    have e1 : (k == 1) = false := by simp; omega
    have e2 : (k == 2) = false := by simp; omega
    have e3 : (k == 3) = false := by simp; omega
    have e4 : (k == 4) = false := by simp; omega
    have e5 : (k == 5) = false := by simp; omega
    clear h
    go_enter Try.func52, Try.ntmps52
    go_wp2
    go_ret
    exact ⟨ret_int E.out, rfl⟩

set_option maxHeartbeats 400000 in
/-- score.Whole. -/
theorem whole_any (p t : Int) (hp0 : -9223372036854775808 ≤ p) (hp1 : p ≤ 9223372036854775807) (w : World) : Calls Try.prog 57 #[.agg #[.int .i64 p, .int .i64 t]] w fun e w' => e = .returned (.int .i64 (Plain.whole p)) ∧ Below w.heap.size w w' := by
  have m0 : 0 ≤ max p 0 := by omega
  have m1 : max p 0 ≤ 9223372036854775807 := by omega
  go_enter Try.func57, Try.ntmps57
  go_wp2
  go_ret
  exact ⟨rfl, (Below.refl _ _).alloc (Nat.le_refl _) _⟩

set_option maxHeartbeats 400000 in
/-- doormanref16.Whole. -/
theorem rwhole_any (p t : Int) (hp0 : -9223372036854775808 ≤ p) (hp1 : p ≤ 9223372036854775807) (w : World) : Calls Try.prog 58 #[.agg #[.int .i64 p, .int .i64 t]] w fun e w' => e = .returned (.int .i64 (Plain.whole p)) ∧ Below w.heap.size w w' := by
  by_cases c : p < 0
  · have E : Hid (0 = Plain.whole p) := Lib.hid (by unfold Plain.whole; omega)
    go_enter Try.func58, Try.ntmps58
    go_wp2
    go_ret
    exact ⟨ret_int E.out, (Below.refl _ _).alloc (Nat.le_refl _) _⟩
  · have E : Hid (p / 65536 = Plain.whole p) := Lib.hid (by unfold Plain.whole; omega)
    go_enter Try.func58, Try.ntmps58
    go_wp2
    go_ret
    exact ⟨ret_int E.out, (Below.refl _ _).alloc (Nat.le_refl _) _⟩

set_option maxHeartbeats 400000 in
/-- score.Reached. -/
theorem reached_any (p t l : Int) (w : World) : Calls Try.prog 55 #[.agg #[.int .i64 p, .int .i64 t], .int .i64 l] w fun e w' => e = .returned (.bool (Plain.reached p l)) ∧ Below w.heap.size w w' := by
  go_enter Try.func55, Try.ntmps55
  go_wp2
  go_ret
  exact ⟨rfl, (Below.refl _ _).alloc (Nat.le_refl _) _⟩

set_option maxHeartbeats 400000 in
/-- doormanref16.Reached. -/
theorem rreached_any (p t l : Int) (hp0 : -9223372036854775808 ≤ p) (hp1 : p ≤ 9223372036854775807) (w : World) : Calls Try.prog 56 #[.agg #[.int .i64 p, .int .i64 t], .int .i64 l] w fun e w' => e = .returned (.bool (Plain.reached p l)) ∧ Below w.heap.size w w' := by
  have E := Lib.hid (Plain.reached_whole p l)
  rcases (show l < 1 ∨ (1 ≤ l ∧ l ≤ 16777216) ∨ 16777216 < l by omega) with c | ⟨c, d⟩ | c
  · have L : Hid (Plain.limitOf l = 1) := Lib.hid (by unfold Plain.limitOf; omega)
    go_enter Try.func56, Try.ntmps56
    go_wp2_with (go_at_call 58; refine (rwhole_any _ _ hp0 hp1 _).mono ?_; rintro e w1 ⟨rfl, hb⟩)
    go_ret
    exact ⟨ret_bool (by rw [E.out, L.out]), ((Below.refl _ _).alloc (Nat.le_refl _) _).trans (hb.mono (by simp))⟩
  · have L : Hid (Plain.limitOf l = l) := Lib.hid (by unfold Plain.limitOf; omega)
    go_enter Try.func56, Try.ntmps56
    go_wp2_with (go_at_call 58; refine (rwhole_any _ _ hp0 hp1 _).mono ?_; rintro e w1 ⟨rfl, hb⟩)
    go_ret
    exact ⟨ret_bool (by rw [E.out, L.out]), ((Below.refl _ _).alloc (Nat.le_refl _) _).trans (hb.mono (by simp))⟩
  · have L : Hid (Plain.limitOf l = 16777216) := Lib.hid (by unfold Plain.limitOf; omega)
    go_enter Try.func56, Try.ntmps56
    go_wp2_with (go_at_call 58; refine (rwhole_any _ _ hp0 hp1 _).mono ?_; rintro e w1 ⟨rfl, hb⟩)
    go_ret
    exact ⟨ret_bool (by rw [E.out, L.out]), ((Below.refl _ _).alloc (Nat.le_refl _) _).trans (hb.mono (by simp))⟩

end Go.Proofs.Ytdoofpanbcaigaa
