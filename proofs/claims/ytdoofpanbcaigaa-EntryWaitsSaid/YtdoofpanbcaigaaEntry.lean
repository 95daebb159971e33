/-
  THE WALKS of addresses and ends (layers 6 and 9), as far as entries reach them.
-/
import Derived.Test.YtdoofpanbcaigaaHalf
import Derived.Laws.BitsAllLaws
namespace Go.Proofs.Ytdoofpanbcaigaa
open Go.RowKit
set_option linter.unusedVariables false
theorem lt2 (n : Nat) : n < n + 1 + 1 := by omega
theorem lt3 (n : Nat) : n < n + 1 + 1 + 1 := by omega
attribute [local go_sem] lt2 lt3

theorem and_low (x : Int) (h0 : 0 ≤ x) (h1 : x < 18446744073709551616) : bits .and .u64 x 4294967295 = x % 4294967296 := by
  rw [u64_and x 4294967295 h0 h1 (by decide) (by decide), show (4294967295 : Int).toNat = 2 ^ 32 - 1 from by decide, Nat.and_two_pow_sub_one_eq_mod]
  omega
theorem u32_in (x : Int) (h0 : 0 ≤ x) (h1 : x < 4294967296) : IntKind.u32.wrap x = x := by
  simp [IntKind.wrap, IntKind.bits, IntKind.signed]; omega

set_option maxHeartbeats 400000 in
/-- addr.V4. -/
theorem v4_any (n : Int) (h0 : 0 ≤ n) (h1 : n < 4294967296) (w : World) : Calls Try.prog 93 #[.int .u32 n] w fun e w' => e = .returned (.agg #[.bool false, .int .u64 0, .int .u64 n]) ∧ Below w.heap.size w w' := by
  go_enter Try.func93, Try.ntmps93
  go_wp2
  exact bodyPost_ret (v := .agg #[.bool false, .int .u64 0, .int .u64 n]) (by simp [results, Try.results93, go_sem]) rfl ⟨rfl, (Below.refl _ _).alloc (Nat.le_refl _) _⟩

/-- Does an address of IPv6 stand for one of IPv4? -/
def mapped (hi lo : Int) : Bool := decide (hi = 0 ∧ lo / 4294967296 = 65535)

set_option maxHeartbeats 400000 in
/-- addr.V6, of one that stands for itself. -/
theorem v6_any (hi lo : Int) (h0 : 0 ≤ lo) (h1 : lo < 18446744073709551616) (hm : mapped hi lo = false) (w : World) : Calls Try.prog 92 #[.int .u64 hi, .int .u64 lo] w fun e w' => e = .returned (.agg #[.bool true, .int .u64 hi, .int .u64 lo]) ∧ Below w.heap.size w w' := by
  have hm' : ¬ (hi = 0 ∧ lo / 4294967296 = 65535) := of_decide_eq_false hm
  clear hm
  by_cases c : hi = 0
  · subst c
    have c2 : (lo / 4294967296 == 65535) = false := by simp; omega
    clear hm'
    go_enter Try.func92, Try.ntmps92
    go_wp2
    exact bodyPost_ret (v := .agg #[.bool true, .int .u64 0, .int .u64 lo]) (by simp [results, Try.results92, go_sem]) rfl ⟨rfl, (Below.refl _ _).alloc (Nat.le_refl _) _⟩
  · have c2 : (hi == 0) = false := by simp; omega
    clear hm' c
    go_enter Try.func92, Try.ntmps92
    go_wp2
    exact bodyPost_ret (v := .agg #[.bool true, .int .u64 hi, .int .u64 lo]) (by simp [results, Try.results92, go_sem]) rfl ⟨rfl, (Below.refl _ _).alloc (Nat.le_refl _) _⟩

set_option maxHeartbeats 400000 in
/-- addr.V6, of one that stands for one of IPv4. -/
theorem v6_mapped (hi lo : Int) (h0 : 0 ≤ lo) (h1 : lo < 18446744073709551616) (hm : mapped hi lo = true) (w : World) : Calls Try.prog 92 #[.int .u64 hi, .int .u64 lo] w fun e w' => e = .returned (.agg #[.bool false, .int .u64 0, .int .u64 (lo % 4294967296)]) ∧ Below w.heap.size w w' := by
  obtain ⟨rfl, c2⟩ : hi = 0 ∧ lo / 4294967296 = 65535 := of_decide_eq_true hm
  clear hm
  have e1 := and_low lo h0 h1
  have e2 : IntKind.u32.wrap (lo % 4294967296) = lo % 4294967296 := u32_in _ (by omega) (by omega)
  go_enter Try.func92, Try.ntmps92
  go_wp2_with fail
  refine (v4_any _ (by omega) (by omega) _).mono ?_; rintro e w1 ⟨rfl, hb⟩
  obtain ⟨k0, f0, hz⟩ := boxes1 hb
  have d0 : w1.cell? ⟨w.heap.size, 0, none⟩ = some (.bool false) := k0 0 _ rfl
  have d1 : w1.cell? ⟨w.heap.size, 1, none⟩ = some (.int .u64 0) := k0 1 _ rfl
  have d2 : w1.cell? ⟨w.heap.size, 2, none⟩ = some (.int .u64 0) := k0 2 _ rfl
  have HB : Hid (Below w.heap.size w w1) := Lib.hid (((Below.refl _ _).alloc (Nat.le_refl _) _).trans (hb.mono (by simp)))
  clear hb k0
  go_wp2
  exact bodyPost_ret (v := .agg #[.bool false, .int .u64 0, .int .u64 (lo % 4294967296)]) (by simp [results, Try.results92, go_sem, d0, d1, d2]) rfl ⟨rfl, ((HB.out.setCell (Nat.le_refl _) _).setCell (Nat.le_refl _) _).setCell (Nat.le_refl _) _⟩

/-- May an address be? -/
def addrOk (v6 : Bool) (hi lo : Int) : Bool := if v6 then !mapped hi lo else decide (hi = 0 ∧ lo < 4294967296)

set_option maxHeartbeats 1000000 in
/-- doormanref06.Right. -/
theorem raddr_any (v6 : Bool) (hi lo : Int) (h0 : 0 ≤ lo) (h1 : lo < 18446744073709551616) (w : World) : Calls Try.prog 91 #[.agg #[.bool v6, .int .u64 hi, .int .u64 lo]] w fun e w' => e = .returned (.bool (addrOk v6 hi lo)) ∧ Below w.heap.size w w' := by
  cases v6 with
  | false =>
    by_cases c : hi = 0
    · subst c
      have E : Hid (decide (lo < 4294967296) = addrOk false 0 lo) := Lib.hid (by simp [addrOk])
      go_enter Try.func91, Try.ntmps91
      go_wp2
      go_ret
      exact ⟨ret_bool E.out, (Below.refl _ _).alloc (Nat.le_refl _) _⟩
    · have c2 : (hi == 0) = false := by simp; omega
      have E : Hid (false = addrOk false hi lo) := Lib.hid (by simp [addrOk, c])
      clear c
      go_enter Try.func91, Try.ntmps91
      go_wp2
      go_ret
      exact ⟨ret_bool E.out, (Below.refl _ _).alloc (Nat.le_refl _) _⟩
  | true =>
    by_cases c : hi = 0
    · subst c
      have E : Hid ((lo / 4294967296 != 65535) = addrOk true 0 lo) := Lib.hid (by rw [Bool.eq_iff_iff]; simp [addrOk, mapped])
      go_enter Try.func91, Try.ntmps91
      go_wp2

      go_ret
      exact ⟨ret_bool E.out, (Below.refl _ _).alloc (Nat.le_refl _) _⟩
    · have c2 : (hi == 0) = false := by simp; omega
      have c3 : (hi != 0) = true := by simp; omega
      have E : Hid (true = addrOk true hi lo) := Lib.hid (by simp [addrOk, mapped, c])
      clear c
      go_enter Try.func91, Try.ntmps91
      go_wp2
      go_ret
      exact ⟨ret_bool E.out, (Below.refl _ _).alloc (Nat.le_refl _) _⟩

/-- An address's box holds what it held, and nothing old has turned. -/
theorem held3 {B0 : Nat} {w W W' : World} {a b c : Value} (h : W.cell? ⟨B0, 0, none⟩ = some a ∧ W.cell? ⟨B0, 1, none⟩ = some b ∧ W.cell? ⟨B0, 2, none⟩ = some c ∧ B0 < W.heap.size ∧ Below w.heap.size w W) (hb : Below W.heap.size W W') :
    W'.cell? ⟨B0, 0, none⟩ = some a ∧ W'.cell? ⟨B0, 1, none⟩ = some b ∧ W'.cell? ⟨B0, 2, none⟩ = some c ∧ B0 < W'.heap.size ∧ Below w.heap.size w W' := by
  obtain ⟨h1, h2, h3, h5, h7⟩ := h
  have hz := hb.size
  exact ⟨(hb.cell (p := ⟨B0, 0, none⟩) h5).trans h1, (hb.cell (p := ⟨B0, 1, none⟩) h5).trans h2, (hb.cell (p := ⟨B0, 2, none⟩) h5).trans h3, by omega, h7.trans (hb.mono h7.size)⟩
theorem held3_below {B0 : Nat} {w W : World} {a b c : Value} (h : W.cell? ⟨B0, 0, none⟩ = some a ∧ W.cell? ⟨B0, 1, none⟩ = some b ∧ W.cell? ⟨B0, 2, none⟩ = some c ∧ B0 < W.heap.size ∧ Below w.heap.size w W) : Below w.heap.size w W := h.2.2.2.2

set_option maxHeartbeats 2000000 in
/-- addr.Right. -/
theorem addr_any (v6 : Bool) (hi lo : Int) (h0 : 0 ≤ lo) (h1 : lo < 18446744073709551616) (w : World) : Calls Try.prog 90 #[.agg #[.bool v6, .int .u64 hi, .int .u64 lo]] w fun e w' => e = .returned (.bool (addrOk v6 hi lo)) ∧ Below w.heap.size w w' := by
  cases v6 with
  | false =>
    have e1 := and_low lo h0 h1
    have e2 : IntKind.u32.wrap (lo % 4294967296) = lo % 4294967296 := u32_in _ (by omega) (by omega)
    by_cases c : hi = 0
    · subst c
      by_cases d : lo < 4294967296
      · have E : Hid (true = addrOk false 0 lo) := Lib.hid (by simp [addrOk, d])
        have e3 : (lo % 4294967296 == lo) = true := by simp; omega
        have e4 : (lo == lo % 4294967296) = true := by simp; omega
        go_enter Try.func90, Try.ntmps90
        go_wp2
        go_region_held3 (fun w' => w'.cell? ⟨w.heap.size, 0, none⟩ = some (.bool false) ∧ w'.cell? ⟨w.heap.size, 1, none⟩ = some (.int .u64 0) ∧ w'.cell? ⟨w.heap.size, 2, none⟩ = some (.int .u64 lo) ∧ w.heap.size < w'.heap.size ∧ Below w.heap.size w w')
          (first | assumption | exact held3 (by assumption) (by assumption) | exact ⟨by simp [go_sem], by simp [go_sem], by simp [go_sem], by simp, ((Below.refl _ _).alloc (Nat.le_refl _) _).drew⟩)
          ((go_at_call 93; refine (v4_any _ (by omega) (by omega) _).mono ?_; rintro e w' ⟨rfl, hb'⟩))
        all_goals go_wp2
        all_goals go_ret
        all_goals exact ⟨ret_bool E.out, held3_below (by assumption)⟩
      · have E : Hid (false = addrOk false 0 lo) := Lib.hid (by simp [addrOk, d])
        have e3 : (lo % 4294967296 == lo) = false := by simp; omega
        have e4 : (lo == lo % 4294967296) = false := by simp; omega
        go_enter Try.func90, Try.ntmps90
        go_wp2
        go_region_held3 (fun w' => w'.cell? ⟨w.heap.size, 0, none⟩ = some (.bool false) ∧ w'.cell? ⟨w.heap.size, 1, none⟩ = some (.int .u64 0) ∧ w'.cell? ⟨w.heap.size, 2, none⟩ = some (.int .u64 lo) ∧ w.heap.size < w'.heap.size ∧ Below w.heap.size w w')
          (first | assumption | exact held3 (by assumption) (by assumption) | exact ⟨by simp [go_sem], by simp [go_sem], by simp [go_sem], by simp, ((Below.refl _ _).alloc (Nat.le_refl _) _).drew⟩)
          ((go_at_call 93; refine (v4_any _ (by omega) (by omega) _).mono ?_; rintro e w' ⟨rfl, hb'⟩))
        all_goals go_wp2
        all_goals go_ret
        all_goals exact ⟨ret_bool E.out, held3_below (by assumption)⟩
    · have c2 : (hi == 0) = false := by simp; omega
      have c3 : ((0 : Int) == hi) = false := by simp; omega
      have E : Hid (false = addrOk false hi lo) := Lib.hid (by simp [addrOk, c])
      clear c
      go_enter Try.func90, Try.ntmps90
      go_wp2
      go_region_held3 (fun w' => w'.cell? ⟨w.heap.size, 0, none⟩ = some (.bool false) ∧ w'.cell? ⟨w.heap.size, 1, none⟩ = some (.int .u64 hi) ∧ w'.cell? ⟨w.heap.size, 2, none⟩ = some (.int .u64 lo) ∧ w.heap.size < w'.heap.size ∧ Below w.heap.size w w')
        (first | assumption | exact held3 (by assumption) (by assumption) | exact ⟨by simp [go_sem], by simp [go_sem], by simp [go_sem], by simp, ((Below.refl _ _).alloc (Nat.le_refl _) _).drew⟩)
        ((go_at_call 93; refine (v4_any _ (by omega) (by omega) _).mono ?_; rintro e w' ⟨rfl, hb'⟩))
      all_goals go_wp2
      all_goals go_ret
      all_goals exact ⟨ret_bool E.out, held3_below (by assumption)⟩
  | true =>
    by_cases m : mapped hi lo = true
    · have E : Hid (false = addrOk true hi lo) := Lib.hid (by simp [addrOk, m])
      have M := Lib.hid m
      clear m
      go_enter Try.func90, Try.ntmps90
      go_wp2
      go_region_held3 (fun w' => w'.cell? ⟨w.heap.size, 0, none⟩ = some (.bool true) ∧ w'.cell? ⟨w.heap.size, 1, none⟩ = some (.int .u64 hi) ∧ w'.cell? ⟨w.heap.size, 2, none⟩ = some (.int .u64 lo) ∧ w.heap.size < w'.heap.size ∧ Below w.heap.size w w')
        (first | assumption | exact held3 (by assumption) (by assumption) | exact ⟨by simp [go_sem], by simp [go_sem], by simp [go_sem], by simp, ((Below.refl _ _).alloc (Nat.le_refl _) _).drew⟩)
        ((go_at_call 92; refine (v6_mapped _ _ h0 h1 M.out _).mono ?_; rintro e w' ⟨rfl, hb'⟩))
      all_goals go_wp2
      all_goals go_ret
      all_goals exact ⟨ret_bool E.out, held3_below (by assumption)⟩
    · have m : mapped hi lo = false := by simpa using m
      have E : Hid (true = addrOk true hi lo) := Lib.hid (by simp [addrOk, m])
      have M := Lib.hid m
      clear m
      go_enter Try.func90, Try.ntmps90
      go_wp2
      go_region_held3 (fun w' => w'.cell? ⟨w.heap.size, 0, none⟩ = some (.bool true) ∧ w'.cell? ⟨w.heap.size, 1, none⟩ = some (.int .u64 hi) ∧ w'.cell? ⟨w.heap.size, 2, none⟩ = some (.int .u64 lo) ∧ w.heap.size < w'.heap.size ∧ Below w.heap.size w w')
        (first | assumption | exact held3 (by assumption) (by assumption) | exact ⟨by simp [go_sem], by simp [go_sem], by simp [go_sem], by simp, ((Below.refl _ _).alloc (Nat.le_refl _) _).drew⟩)
        ((go_at_call 92; refine (v6_any _ _ h0 h1 M.out _).mono ?_; rintro e w' ⟨rfl, hb'⟩))
      all_goals go_wp2
      all_goals go_ret
      all_goals exact ⟨ret_bool E.out, held3_below (by assumption)⟩
end Go.Proofs.Ytdoofpanbcaigaa
