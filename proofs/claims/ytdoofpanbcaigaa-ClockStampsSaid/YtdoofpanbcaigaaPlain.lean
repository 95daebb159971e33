/-
  THE PLAIN LAWS of ticks that never run over: no Go in sight. Integers brought within [0, 2^40]; sums, differences, products, doublings, halvings.
-/
namespace Go.Proofs.Ytdoofpanbcaigaa.Plain

/-- A number brought within bounds. -/
def fit (n : Int) : Int := min (max n 0) 1099511627776
def sAdd (a b : Int) : Int := fit (fit a + fit b)
def sSub (a b : Int) : Int := fit (fit a - fit b)
def sMul (a b : Int) : Int := fit (fit a * fit b)
/-- Doubled n times. -/
def dbl : Nat → Int → Int
  | 0, a => a
  | n + 1, a => dbl n (fit (2 * a))
def sTwice (a k : Int) : Int := dbl k.toNat (fit a)

theorem fit_lo (n : Int) : 0 ≤ fit n := by unfold fit; omega
theorem fit_hi (n : Int) : fit n ≤ 1099511627776 := by unfold fit; omega
theorem fit_in {n : Int} (h0 : 0 ≤ n) (h1 : n ≤ 1099511627776) : fit n = n := by unfold fit; omega
theorem fit_fit (n : Int) : fit (fit n) = fit n := fit_in (fit_lo n) (fit_hi n)
theorem fit_mono {a b : Int} (h : a ≤ b) : fit a ≤ fit b := by unfold fit; omega

theorem sAdd_comm (a b : Int) : sAdd a b = sAdd b a := by unfold sAdd; rw [Int.add_comm]
theorem sAdd_assoc (a b c : Int) : sAdd (sAdd a b) c = sAdd a (sAdd b c) := by unfold sAdd fit; omega
theorem sMul_comm (a b : Int) : sMul a b = sMul b a := by unfold sMul; rw [Int.mul_comm]

theorem fit_big {n : Int} (h : 1099511627776 ≤ n) : fit n = 1099511627776 := by unfold fit; omega
/-- A product with a number that was brought within bounds, of non-negative ones, is that of the whole number. -/
theorem fit_mul_fit (x C : Int) (hx : 0 ≤ x) (hC : 0 ≤ C) : fit (fit x * C) = fit (x * C) := by
  by_cases h : x ≤ 1099511627776
  · rw [fit_in hx h]
  · have h' : 1099511627776 ≤ x := by omega
    rw [fit_big h']
    by_cases hc : C = 0
    · subst hc; simp
    · have hc1 : 1 ≤ C := by omega
      have e1 : 1099511627776 * 1 ≤ 1099511627776 * C := Int.mul_le_mul_of_nonneg_left hc1 (by omega)
      have e2 : 1099511627776 * C ≤ x * C := Int.mul_le_mul_of_nonneg_right h' hC
      rw [fit_big (by omega), fit_big (by omega)]
theorem mul_fit_fit (x C : Int) (hx : 0 ≤ x) (hC : 0 ≤ C) : fit (C * fit x) = fit (C * x) := by
  rw [Int.mul_comm, fit_mul_fit x C hx hC, Int.mul_comm]
theorem sMul_assoc (a b c : Int) : sMul (sMul a b) c = sMul a (sMul b c) := by
  unfold sMul
  rw [fit_fit, fit_fit, fit_mul_fit _ _ (Int.mul_nonneg (fit_lo a) (fit_lo b)) (fit_lo c), mul_fit_fit _ _ (Int.mul_nonneg (fit_lo b) (fit_lo c)) (fit_lo a), Int.mul_assoc]
theorem fit_add_fit (x y : Int) (hx : 0 ≤ x) (hy : 0 ≤ y) : fit (fit x + fit y) = fit (x + y) := by unfold fit; omega
theorem sMul_sAdd (a b c : Int) : sMul a (sAdd b c) = sAdd (sMul a b) (sMul a c) := by
  unfold sMul sAdd
  rw [fit_fit, fit_fit, fit_fit, mul_fit_fit _ _ (Int.add_nonneg (fit_lo b) (fit_lo c)) (fit_lo a), fit_add_fit _ _ (Int.mul_nonneg (fit_lo a) (fit_lo b)) (Int.mul_nonneg (fit_lo a) (fit_lo c)), Int.mul_add]

theorem sAdd_mono {a b : Int} (c : Int) (h : a ≤ b) : sAdd a c ≤ sAdd b c := by unfold sAdd fit; omega
theorem sSub_mono {a b : Int} (c : Int) (h : a ≤ b) : sSub a c ≤ sSub b c := by unfold sSub fit; omega
theorem sSub_anti {a b : Int} (c : Int) (h : a ≤ b) : sSub c b ≤ sSub c a := by unfold sSub fit; omega
theorem sMul_mono {a b : Int} (c : Int) (h : a ≤ b) : sMul a c ≤ sMul b c :=
  fit_mono (Int.mul_le_mul_of_nonneg_right (fit_mono h) (fit_lo c))

theorem dbl_lo (n : Nat) : ∀ a, 0 ≤ a → 0 ≤ dbl n a := by
  induction n with
  | zero => intro a h; exact h
  | succ n ih => intro a _; exact ih _ (fit_lo _)
theorem dbl_hi (n : Nat) : ∀ a, a ≤ 1099511627776 → dbl n a ≤ 1099511627776 := by
  induction n with
  | zero => intro a h; exact h
  | succ n ih => intro a _; exact ih _ (fit_hi _)
theorem dbl_mono (n : Nat) : ∀ a b, a ≤ b → dbl n a ≤ dbl n b := by
  induction n with
  | zero => intro a b h; exact h
  | succ n ih => intro a b h; exact ih _ _ (fit_mono (by omega))
theorem dbl_zero (n : Nat) : dbl n 0 = 0 := by
  induction n with
  | zero => rfl
  | succ n ih => exact ih
theorem dbl_top (n : Nat) : dbl n 1099511627776 = 1099511627776 := by
  induction n with
  | zero => rfl
  | succ n ih => exact ih
/-- One doubling at the end. -/
theorem dbl_snoc (n : Nat) : ∀ a, dbl (n + 1) a = fit (2 * dbl n a) := by
  induction n with
  | zero => intro a; rfl
  | succ n ih => intro a; exact ih (fit (2 * a))
theorem dbl_grows (n : Nat) (a : Int) (h0 : 0 ≤ a) (h1 : a ≤ 1099511627776) : dbl n a ≤ dbl (n + 1) a := by
  rw [dbl_snoc]
  have := dbl_lo n a h0; have := dbl_hi n a h1
  unfold fit; omega
theorem dbl_le {n m : Nat} (h : n ≤ m) (a : Int) (h0 : 0 ≤ a) (h1 : a ≤ 1099511627776) : dbl n a ≤ dbl m a := by
  induction h with
  | refl => exact Int.le_refl _
  | step _ ih => exact Int.le_trans ih (dbl_grows _ a h0 h1)
/-- Behind forty-one doublings nothing changes. -/
theorem dbl_pow (n : Nat) : ∀ a : Int, 0 ≤ a → a ≤ 1099511627776 → dbl n a = fit (a * 2 ^ n) := by
  induction n with
  | zero => intro a h0 h1; simp [dbl, fit_in h0 h1]
  | succ n ih =>
    intro a h0 h1
    show dbl n (fit (2 * a)) = _
    rw [ih _ (fit_lo _) (fit_hi _), fit_mul_fit _ _ (by omega) (Int.le_of_lt (Int.pow_pos (by decide))), Int.pow_succ]
    congr 1
    rw [Int.mul_comm 2 a, Int.mul_assoc, Int.mul_comm 2 (2 ^ n)]
theorem dbl_41 (n : Nat) (h : 41 ≤ n) (a : Int) (h0 : 0 ≤ a) (h1 : a ≤ 1099511627776) : dbl n a = dbl 41 a := by
  by_cases hz : a = 0
  · subst hz; rw [dbl_zero, dbl_zero]
  · have h41 : dbl 41 a = 1099511627776 := by
      rw [dbl_pow 41 a h0 h1]
      exact fit_big (by omega)
    have hle := dbl_le h a h0 h1
    have := dbl_hi n a h1
    omega
theorem sTwice_monoA {a b : Int} (k : Int) (h : a ≤ b) : sTwice a k ≤ sTwice b k := dbl_mono _ _ _ (fit_mono h)
theorem sTwice_monoK (a : Int) {k m : Int} (h : k ≤ m) : sTwice a k ≤ sTwice a m := dbl_le (by omega) _ (fit_lo a) (fit_hi a)
theorem sTwice_lo (a k : Int) : 0 ≤ sTwice a k := dbl_lo _ _ (fit_lo a)
theorem sTwice_hi (a k : Int) : sTwice a k ≤ 1099511627776 := dbl_hi _ _ (fit_hi a)

/-- Bit by bit, from the highest one on: the bits of b that were taken, times a. 'half of 2^k' is the bit: at k = 0 it is none. -/
def bitOf (k : Nat) : Int := (2 : Int) ^ k / 2
theorem bitOf_zero : bitOf 0 = 0 := by decide
theorem bitOf_succ (k : Nat) : bitOf (k + 1) = 2 ^ k := by unfold bitOf; rw [Int.pow_succ]; omega
theorem bitOf_half (k : Nat) : bitOf (k + 1) / 2 = bitOf k := by rw [bitOf_succ]; rfl
theorem bitOf_pos (k : Nat) : 0 < bitOf (k + 1) := by rw [bitOf_succ]; exact Int.pow_pos (by decide)
theorem bitOf_lo (k : Nat) : 0 ≤ bitOf k := by cases k with
  | zero => exact Int.le_refl 0
  | succ k => exact Int.le_of_lt (bitOf_pos k)
theorem pow_le_pow {k m : Nat} (h : k ≤ m) : (2 : Int) ^ k ≤ 2 ^ m := by
  induction h with
  | refl => exact Int.le_refl _
  | step _ ih => rename_i m _; have : (0 : Int) < 2 ^ m := Int.pow_pos (by decide); rw [Int.pow_succ]; omega
theorem bitOf_hi (k : Nat) (h : k ≤ 41) : bitOf k ≤ 1099511627776 := by
  cases k with
  | zero => decide
  | succ k => rw [bitOf_succ]; have := @pow_le_pow k 40 (by omega); omega
/-- What has been gathered when the bits from k on are taken: n, and what is left of b. -/
def taken (A B : Int) (k : Nat) : Int := fit (A * (B / 2 ^ k))
def left (B : Int) (k : Nat) : Int := B % 2 ^ k
theorem taken_lo (A B : Int) (k : Nat) : 0 ≤ taken A B k := fit_lo _
theorem taken_hi (A B : Int) (k : Nat) : taken A B k ≤ 1099511627776 := fit_hi _
theorem left_lo (B : Int) (k : Nat) : 0 ≤ left B k := Int.emod_nonneg _ (by have : (0 : Int) < 2 ^ k := Int.pow_pos (by decide); omega)
theorem left_lt (B : Int) (k : Nat) : left B k < 2 ^ k := Int.emod_lt_of_pos _ (Int.pow_pos (by decide))
theorem left_hi (B : Int) (k : Nat) (h : k ≤ 41) : left B k < 2199023255552 := by
  have := left_lt B k; have := @pow_le_pow k 41 h; omega
theorem div_pow_succ (B : Int) (k : Nat) : B / 2 ^ k = 2 * (B / 2 ^ (k + 1)) + left B (k + 1) / 2 ^ k := by
  have h2 : (0 : Int) < 2 ^ k := Int.pow_pos (by decide)
  have e := Int.mul_ediv_add_emod B (2 ^ (k + 1))
  have : B = left B (k + 1) + 2 ^ k * (2 * (B / 2 ^ (k + 1))) := by
    unfold left
    rw [Int.pow_succ] at e ⊢
    rw [← Int.mul_assoc]; omega
  conv => lhs; rw [this]
  rw [Int.add_mul_ediv_left _ _ (by omega)]; omega
theorem mod_pow_succ (B : Int) (k : Nat) : B % 2 ^ k = left B (k + 1) % 2 ^ k := by
  unfold left
  exact (Int.emod_emod_of_dvd B ⟨2, by rw [Int.pow_succ]⟩).symm
theorem lt_bit {B : Int} {k : Nat} (h : left B (k + 1) < bitOf (k + 1)) : left B (k + 1) = left B k ∧ B / 2 ^ k = 2 * (B / 2 ^ (k + 1)) := by
  rw [bitOf_succ] at h
  have h0 := left_lo B (k + 1)
  refine ⟨?_, ?_⟩
  · have := mod_pow_succ B k; rw [Int.emod_eq_of_lt h0 h] at this; exact this.symm
  · rw [div_pow_succ B k, Int.ediv_eq_zero_of_lt h0 h]; omega
theorem ge_bit {B : Int} {k : Nat} (h : bitOf (k + 1) ≤ left B (k + 1)) : left B (k + 1) - bitOf (k + 1) = left B k ∧ B / 2 ^ k = 2 * (B / 2 ^ (k + 1)) + 1 := by
  rw [bitOf_succ] at h ⊢
  have h2 : (0 : Int) < 2 ^ k := Int.pow_pos (by decide)
  have h1 := left_lt B (k + 1)
  rw [Int.pow_succ] at h1
  have e : left B (k + 1) / 2 ^ k = 1 := by
    have : left B (k + 1) = (left B (k + 1) - 2 ^ k) + 2 ^ k * 1 := by omega
    rw [this, Int.add_mul_ediv_left _ _ (by omega), Int.ediv_eq_zero_of_lt (by omega) (by omega)]; rfl
  refine ⟨?_, ?_⟩
  · have := mod_pow_succ B k
    have e2 := Int.mul_ediv_add_emod (left B (k + 1)) (2 ^ k)
    rw [e] at e2
    unfold left at *
    omega
  · rw [div_pow_succ B k, e]
theorem taken_no {A B : Int} {k : Nat} (hA : 0 ≤ A) (hB : 0 ≤ B) (h : left B (k + 1) < bitOf (k + 1)) : sAdd (taken A B (k + 1)) (taken A B (k + 1)) = taken A B k := by
  have hq : 0 ≤ B / 2 ^ (k + 1) := Int.ediv_nonneg hB (Int.le_of_lt (Int.pow_pos (by decide)))
  have hp := Int.mul_nonneg hA hq
  unfold sAdd taken
  rw [fit_fit, fit_add_fit _ _ hp hp, (lt_bit h).2]
  congr 1
  rw [← Int.mul_assoc, Int.mul_comm A 2, Int.mul_assoc]; omega
theorem taken_yes {A B : Int} {k : Nat} (hA : 0 ≤ A) (hB : 0 ≤ B) (h : bitOf (k + 1) ≤ left B (k + 1)) : sAdd (sAdd (taken A B (k + 1)) (taken A B (k + 1))) A = taken A B k := by
  have hq : 0 ≤ B / 2 ^ (k + 1) := Int.ediv_nonneg hB (Int.le_of_lt (Int.pow_pos (by decide)))
  have hp := Int.mul_nonneg hA hq
  have e : sAdd (taken A B (k + 1)) (taken A B (k + 1)) = fit (A * (2 * (B / 2 ^ (k + 1)))) := by
    unfold sAdd taken
    rw [fit_fit, fit_add_fit _ _ hp hp]
    congr 1
    rw [← Int.mul_assoc, Int.mul_comm A 2, Int.mul_assoc]; omega
  rw [e]
  unfold sAdd taken
  rw [fit_fit, (ge_bit h).2, fit_add_fit _ _ (Int.mul_nonneg hA (by omega)) hA, Int.mul_add, Int.mul_one]
theorem taken_all (A B : Int) : taken A B 0 = fit (A * B) := by unfold taken; rw [show (2 : Int) ^ 0 = 1 from rfl, Int.ediv_one]
theorem taken_start (A B : Int) (h0 : 0 ≤ B) (h1 : B ≤ 1099511627776) : taken A B 41 = 0 ∧ left B 41 = B := by
  refine ⟨?_, Int.emod_eq_of_lt h0 (by omega)⟩
  unfold taken
  rw [Int.ediv_eq_zero_of_lt h0 (by omega), Int.mul_zero]; rfl
/-- The product is asked by division ahead of it. -/
theorem mul_over {A B : Int} (hA : 0 < A) (h : 1099511627776 / A < B) : fit (A * B) = 1099511627776 := by
  refine fit_big ?_
  have h1 := (Int.ediv_lt_iff_lt_mul hA).1 h
  rw [Int.mul_comm] at h1; omega
theorem mul_under {A B : Int} (hA : 0 < A) (hB : 0 ≤ B) (h : B ≤ 1099511627776 / A) : 0 ≤ A * B ∧ A * B ≤ 1099511627776 := by
  have h1 := (Int.le_ediv_iff_mul_le hA).1 h
  refine ⟨Int.mul_nonneg (by omega) hB, ?_⟩
  rw [Int.mul_comm]; exact h1

end Go.Proofs.Ytdoofpanbcaigaa.Plain
