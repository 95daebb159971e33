/-
  THE WALKS of entries (layer 25): Right by the document, New, Due, Fly, Good, Down, State.
-/
import Derived.Test.YtdoofpanbcaigaaEntry2
namespace Go.Proofs.Ytdoofpanbcaigaa
open Go.RowKit
set_option linter.unusedVariables false
attribute [local go_sem] lt2 lt3

set_option maxHeartbeats 4000000 in
/-- doormanref25.Right. -/
theorem reright_any (v6 : Bool) (hi lo port st fl nx : Int) (h0 : 0 ≤ lo) (h1 : lo < 18446744073709551616) (w : World) : Calls Try.prog 70 #[.agg #[.bool v6, .int .u64 hi, .int .u64 lo, .int .i64 port, .int .i64 st, .int .i64 fl, .int .i64 nx]] w fun e w' => e = .returned (.bool (entryOk v6 hi lo port st fl nx)) ∧ Below w.heap.size w w' := by
  have E : Hid (entryOk v6 hi lo port st fl nx = (endOk v6 hi lo port && (decide (1 ≤ st) && decide (st ≤ 3) && (decide (0 ≤ fl) && decide (fl ≤ 1000)) && decide (nx = Plain.fit nx)))) := Lib.hid rfl
  have N : Hid (decide (nx = Plain.fit nx) = (decide (0 ≤ nx) && decide (nx ≤ 1099511627776))) := Lib.hid (by rw [Bool.eq_iff_iff]; simp only [decide_eq_true_eq, Bool.and_eq_true]; unfold Plain.fit; omega)
  go_enter Try.func70, Try.ntmps70
  go_wp2_with fail
  refine (rend_any _ _ _ _ h0 h1 _).mono ?_; rintro e w1 ⟨rfl, hb⟩
  obtain ⟨k0, f0, hz⟩ := boxes1 hb
  have c4 : w1.cell? ⟨w.heap.size, 4, none⟩ = some (.int .i64 st) := k0 4 _ rfl
  have c5 : w1.cell? ⟨w.heap.size, 5, none⟩ = some (.int .i64 fl) := k0 5 _ rfl
  have c6 : w1.cell? ⟨w.heap.size, 6, none⟩ = some (.int .i64 nx) := k0 6 _ rfl
  have HB : Hid (Below w.heap.size w w1) := Lib.hid (((Below.refl _ _).alloc (Nat.le_refl _) _).trans (hb.mono (by simp)))
  clear hb k0 f0
  generalize endOk v6 hi lo port = A at *
  cases A
  all_goals go_wp2
  all_goals go_ret
  all_goals exact ⟨ret_bool (by rw [E.out, N.out, Bool.eq_iff_iff]; simp_all <;> omega), HB.out⟩

set_option maxHeartbeats 1000000 in
/-- entry.New. -/
theorem enew_any (v6 : Bool) (hi lo port n : Int) (w : World) : Calls Try.prog 71 #[.agg #[.bool v6, .int .u64 hi, .int .u64 lo, .int .i64 port], .int .i64 n] w fun e w' => e = .returned (.agg #[.bool v6, .int .u64 hi, .int .u64 lo, .int .i64 port, .int .i64 1, .int .i64 0, .int .i64 (Plain.fit n)]) ∧ Below w.heap.size w w' := by
  go_enter Try.func71, Try.ntmps71
  go_wp2_with fail
  go_region_with (first | (go_at_call 24; refine (fit_any _ _).mono ?_; rintro e w' ⟨rfl, rfl⟩))
  all_goals go_wp2
  all_goals exact bodyPost_ret (v := .agg #[.bool v6, .int .u64 hi, .int .u64 lo, .int .i64 port, .int .i64 1, .int .i64 0, .int .i64 (Plain.fit n)]) (by simp [results, Try.results71, go_sem]) rfl ⟨rfl, by repeat' (first | (with_reducible exact Below.refl _ _) | (with_reducible apply Below.drew) | (with_reducible refine Below.alloc ?_ ?_ _) | (with_reducible refine Below.setCell ?_ ?_ _) | (with_reducible exact Nat.le_refl _) | (simp; done))⟩

set_option maxHeartbeats 1000000 in
/-- doormanref25.New. -/
theorem renew_any (v6 : Bool) (hi lo port n : Int) (w : World) : Calls Try.prog 72 #[.agg #[.bool v6, .int .u64 hi, .int .u64 lo, .int .i64 port], .int .i64 n] w fun e w' => e = .returned (.agg #[.bool v6, .int .u64 hi, .int .u64 lo, .int .i64 port, .int .i64 1, .int .i64 0, .int .i64 (Plain.fit n)]) ∧ Below w.heap.size w w' := by
  go_enter Try.func72, Try.ntmps72
  go_wp2_with fail
  go_region_with (first | (go_at_call 25; refine (rfit_any _ _).mono ?_; rintro e w' ⟨rfl, rfl⟩))
  all_goals go_wp2
  all_goals exact bodyPost_ret (v := .agg #[.bool v6, .int .u64 hi, .int .u64 lo, .int .i64 port, .int .i64 1, .int .i64 0, .int .i64 (Plain.fit n)]) (by simp [results, Try.results72, go_sem]) rfl ⟨rfl, by repeat' (first | (with_reducible exact Below.refl _ _) | (with_reducible apply Below.drew) | (with_reducible refine Below.alloc ?_ ?_ _) | (with_reducible refine Below.setCell ?_ ?_ _) | (with_reducible exact Nat.le_refl _) | (simp; done))⟩

/-- May an end be dialled, by its entry? -/
def due (st nx n : Int) : Bool := decide (st = 1) && decide (nx ≤ n)

set_option maxHeartbeats 1000000 in
/-- entry.Due. -/
theorem edue_any (v6 : Bool) (hi lo port st fl nx : Int) (n : Int) (w : World) : Calls Try.prog 73 #[.agg #[.bool v6, .int .u64 hi, .int .u64 lo, .int .i64 port, .int .i64 st, .int .i64 fl, .int .i64 nx], .int .i64 n] w fun e w' => e = .returned (.bool (due st nx n)) ∧ Below w.heap.size w w' := by
  by_cases c : st = 1
  · subst c
    have D : Hid (due 1 nx n = decide (nx ≤ n)) := Lib.hid (by simp [due])
    go_enter Try.func73, Try.ntmps73
    go_wp2
    go_ret
    exact ⟨ret_bool D.out.symm, (Below.refl _ _).alloc (Nat.le_refl _) _⟩
  · have D : Hid (due st nx n = false) := Lib.hid (by simp [due, c])
    have c2 : (st == 1) = false := by simp; omega
    clear c
    go_enter Try.func73, Try.ntmps73
    go_wp2
    go_ret
    exact ⟨ret_bool D.out.symm, (Below.refl _ _).alloc (Nat.le_refl _) _⟩

set_option maxHeartbeats 1000000 in
/-- doormanref25.Due. -/
theorem redue_any (v6 : Bool) (hi lo port st fl nx : Int) (n : Int) (w : World) : Calls Try.prog 74 #[.agg #[.bool v6, .int .u64 hi, .int .u64 lo, .int .i64 port, .int .i64 st, .int .i64 fl, .int .i64 nx], .int .i64 n] w fun e w' => e = .returned (.bool (due st nx n)) ∧ Below w.heap.size w w' := by
  by_cases c : st = 1
  · subst c
    have D : Hid (due 1 nx n = decide (nx ≤ n)) := Lib.hid (by simp [due])
    go_enter Try.func74, Try.ntmps74
    go_wp2
    go_ret
    exact ⟨ret_bool D.out.symm, (Below.refl _ _).alloc (Nat.le_refl _) _⟩
  · have D : Hid (due st nx n = false) := Lib.hid (by simp [due, c])
    have c2 : (st == 1) = false := by simp; omega
    clear c
    go_enter Try.func74, Try.ntmps74
    go_wp2
    go_ret
    exact ⟨ret_bool D.out.symm, (Below.refl _ _).alloc (Nat.le_refl _) _⟩

set_option maxHeartbeats 1000000 in
/-- entry.Fly. -/
theorem efly_any (v6 : Bool) (hi lo port st fl nx : Int) (w : World) : Calls Try.prog 75 #[.agg #[.bool v6, .int .u64 hi, .int .u64 lo, .int .i64 port, .int .i64 st, .int .i64 fl, .int .i64 nx]] w fun e w' => e = .returned (.agg #[.bool v6, .int .u64 hi, .int .u64 lo, .int .i64 port, .int .i64 2, .int .i64 fl, .int .i64 nx]) ∧ Below w.heap.size w w' := by
  go_enter Try.func75, Try.ntmps75
  go_wp2
  exact bodyPost_ret (v := .agg #[.bool v6, .int .u64 hi, .int .u64 lo, .int .i64 port, .int .i64 2, .int .i64 fl, .int .i64 nx]) (by simp [results, Try.results75, go_sem]) rfl ⟨rfl, by repeat' (first | (with_reducible exact Below.refl _ _) | (with_reducible apply Below.drew) | (with_reducible refine Below.alloc ?_ ?_ _) | (with_reducible refine Below.setCell ?_ ?_ _) | (with_reducible exact Nat.le_refl _) | (simp; done))⟩

set_option maxHeartbeats 1000000 in
/-- entry.Good. -/
theorem egood_any (v6 : Bool) (hi lo port st fl nx : Int) (w : World) : Calls Try.prog 79 #[.agg #[.bool v6, .int .u64 hi, .int .u64 lo, .int .i64 port, .int .i64 st, .int .i64 fl, .int .i64 nx]] w fun e w' => e = .returned (.agg #[.bool v6, .int .u64 hi, .int .u64 lo, .int .i64 port, .int .i64 3, .int .i64 0, .int .i64 nx]) ∧ Below w.heap.size w w' := by
  go_enter Try.func79, Try.ntmps79
  go_wp2
  exact bodyPost_ret (v := .agg #[.bool v6, .int .u64 hi, .int .u64 lo, .int .i64 port, .int .i64 3, .int .i64 0, .int .i64 nx]) (by simp [results, Try.results79, go_sem]) rfl ⟨rfl, by repeat' (first | (with_reducible exact Below.refl _ _) | (with_reducible apply Below.drew) | (with_reducible refine Below.alloc ?_ ?_ _) | (with_reducible refine Below.setCell ?_ ?_ _) | (with_reducible exact Nat.le_refl _) | (simp; done))⟩

set_option maxHeartbeats 1000000 in
/-- doormanref25.Good. -/
theorem regood_any (v6 : Bool) (hi lo port st fl nx : Int) (w : World) : Calls Try.prog 80 #[.agg #[.bool v6, .int .u64 hi, .int .u64 lo, .int .i64 port, .int .i64 st, .int .i64 fl, .int .i64 nx]] w fun e w' => e = .returned (.agg #[.bool v6, .int .u64 hi, .int .u64 lo, .int .i64 port, .int .i64 3, .int .i64 0, .int .i64 nx]) ∧ Below w.heap.size w w' := by
  go_enter Try.func80, Try.ntmps80
  go_wp2
  exact bodyPost_ret (v := .agg #[.bool v6, .int .u64 hi, .int .u64 lo, .int .i64 port, .int .i64 3, .int .i64 0, .int .i64 nx]) (by simp [results, Try.results80, go_sem]) rfl ⟨rfl, by repeat' (first | (with_reducible exact Below.refl _ _) | (with_reducible apply Below.drew) | (with_reducible refine Below.alloc ?_ ?_ _) | (with_reducible refine Below.setCell ?_ ?_ _) | (with_reducible exact Nat.le_refl _) | (simp; done))⟩

set_option maxHeartbeats 1000000 in
/-- entry.Down. -/
theorem edown_any (v6 : Bool) (hi lo port st fl nx : Int) (w : World) : Calls Try.prog 81 #[.agg #[.bool v6, .int .u64 hi, .int .u64 lo, .int .i64 port, .int .i64 st, .int .i64 fl, .int .i64 nx]] w fun e w' => e = .returned (.agg #[.bool v6, .int .u64 hi, .int .u64 lo, .int .i64 port, .int .i64 1, .int .i64 fl, .int .i64 nx]) ∧ Below w.heap.size w w' := by
  go_enter Try.func81, Try.ntmps81
  go_wp2
  exact bodyPost_ret (v := .agg #[.bool v6, .int .u64 hi, .int .u64 lo, .int .i64 port, .int .i64 1, .int .i64 fl, .int .i64 nx]) (by simp [results, Try.results81, go_sem]) rfl ⟨rfl, by repeat' (first | (with_reducible exact Below.refl _ _) | (with_reducible apply Below.drew) | (with_reducible refine Below.alloc ?_ ?_ _) | (with_reducible refine Below.setCell ?_ ?_ _) | (with_reducible exact Nat.le_refl _) | (simp; done))⟩

set_option maxHeartbeats 1000000 in
/-- doormanref25.State. -/
theorem restate_any (v6 : Bool) (hi lo port st fl nx : Int) (s : Int) (w : World) : Calls Try.prog 76 #[.agg #[.bool v6, .int .u64 hi, .int .u64 lo, .int .i64 port, .int .i64 st, .int .i64 fl, .int .i64 nx], .int .i64 s] w fun e w' => e = .returned (.agg #[.bool v6, .int .u64 hi, .int .u64 lo, .int .i64 port, .int .i64 s, .int .i64 fl, .int .i64 nx]) ∧ Below w.heap.size w w' := by
  go_enter Try.func76, Try.ntmps76
  go_wp2
  exact bodyPost_ret (v := .agg #[.bool v6, .int .u64 hi, .int .u64 lo, .int .i64 port, .int .i64 s, .int .i64 fl, .int .i64 nx]) (by simp [results, Try.results76, go_sem]) rfl ⟨rfl, by repeat' (first | (with_reducible exact Below.refl _ _) | (with_reducible apply Below.drew) | (with_reducible refine Below.alloc ?_ ?_ _) | (with_reducible refine Below.setCell ?_ ?_ _) | (with_reducible exact Nat.le_refl _) | (simp; done))⟩

end Go.Proofs.Ytdoofpanbcaigaa
