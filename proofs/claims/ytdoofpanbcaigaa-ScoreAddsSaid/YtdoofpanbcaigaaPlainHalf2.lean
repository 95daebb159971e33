/-
  THE PLAIN LAWS of points that decay, more of them: to look in between changes nothing, and points never grow by time.
-/
import Derived.Test.YtdoofpanbcaigaaPlainHalf
namespace Go.Proofs.Ytdoofpanbcaigaa.Plain
theorem decK_lo (t l n : Int) : 0 ≤ decK t l n := Int.ediv_nonneg (fit_lo _) (by have := life_lo l; omega)
theorem sSub_hi (n t : Int) : sSub n (fit t) ≤ max (fit n - fit t) 0 := by unfold sSub; rw [fit_fit]; unfold fit; omega
theorem sSub_is (n t : Int) : sSub n (fit t) = max (fit n - fit t) 0 := by
  have := fit_hi n; have := fit_lo t
  unfold sSub; rw [fit_fit]; generalize fit n = a at *; generalize fit t = b at *; unfold fit; omega
theorem decA_bounds (t l n : Int) : 0 ≤ decA t l n ∧ decA t l n ≤ 1099511627776 ∧ decA t l n ≤ max (fit n) (fit t) := by
  have hl := life_lo l; have hk := decK_lo t l n
  have h0 := fit_lo t; have h1 := fit_hi t; have hn := fit_hi n
  have e : decK t l n * life l ≤ max (fit n - fit t) 0 := by
    rw [← sSub_is]; unfold decK; exact Int.ediv_mul_le _ (by omega)
  have e0 : 0 ≤ decK t l n * life l := Int.mul_nonneg hk (by omega)
  unfold decA
  omega
theorem decP_pow (p t l n : Int) : decP p t l n = fit p / 2 ^ (decK t l n).toNat := by
  unfold decP
  by_cases h : decK t l n ≤ 41
  · rw [show min (decK t l n) 41 = decK t l n from by omega]
  · rw [show min (decK t l n) 41 = 41 from by omega, small_gone p _ (by omega), small_gone p (decK t l n).toNat (by omega)]
theorem decP_bounds (p t l n : Int) : 0 ≤ decP p t l n ∧ decP p t l n ≤ fit p := by
  unfold decP
  exact ⟨Int.ediv_nonneg (fit_lo p) (Int.le_of_lt (pow_pos _)), Int.ediv_le_self _ (fit_lo p)⟩
theorem fit_decA (t l n : Int) : fit (decA t l n) = decA t l n := by
  obtain ⟨h0, h1, _⟩ := decA_bounds t l n
  exact fit_in h0 h1
theorem fit_decP (p t l n : Int) : fit (decP p t l n) = decP p t l n := by
  obtain ⟨h0, h1⟩ := decP_bounds p t l n
  exact fit_in h0 (Int.le_trans h1 (fit_hi p))
/-- To look in between changes nothing: the half-lives add up. -/
theorem decK_add (t l : Int) {lo hi : Int} (h : lo ≤ hi) : decK t l hi = decK t l lo + decK (decA t l lo) l hi := by
  have hl := life_lo l
  have hf := fit_mono h
  have hlo := fit_lo lo
  have ht := fit_lo t
  have e2 : decK (decA t l lo) l hi = max (fit hi - (fit t + decK t l lo * life l)) 0 / life l := by
    conv => lhs; unfold decK
    rw [sSub_is, fit_decA]; rfl
  rw [e2]
  conv => lhs; unfold decK
  rw [sSub_is]
  have e1 : decK t l lo = max (fit lo - fit t) 0 / life l := by unfold decK; rw [sSub_is]
  rw [e1]
  by_cases hc : fit lo ≤ fit t
  · rw [show max (fit lo - fit t) 0 = 0 from by omega, Int.zero_ediv, Int.zero_mul, Int.add_zero, Int.zero_add]
  · have hx := Int.ediv_mul_le (fit lo - fit t) (show life l ≠ 0 by omega)
    rw [show max (fit lo - fit t) 0 = fit lo - fit t from by omega, show max (fit hi - fit t) 0 = fit hi - fit t from by omega]
    generalize (fit lo - fit t) / life l = K at *
    rw [show max (fit hi - (fit t + K * life l)) 0 = (fit hi - fit t) + life l * (-K) from by rw [Int.mul_neg, Int.mul_comm (life l)]; omega, Int.add_mul_ediv_left _ _ (by omega)]
    omega
theorem decA_eq (t l n : Int) : decA t l n = fit t + decK t l n * life l := rfl
theorem decA_twice (t l : Int) {lo hi : Int} (h : lo ≤ hi) : decA (decA t l lo) l hi = decA t l hi := by
  have e : decA (decA t l lo) l hi = decA t l lo + decK (decA t l lo) l hi * life l := by
    rw [decA_eq (decA t l lo), fit_decA]
  rw [e, decA_eq t l hi, decK_add t l h, Int.add_mul]
  have e3 := decA_eq t l lo
  generalize decA t l lo = X at *
  generalize decK X l hi * life l = Y
  omega
theorem div_pows (x : Int) (a b : Nat) : x / 2 ^ a / 2 ^ b = x / 2 ^ (a + b) := by
  rw [Int.ediv_ediv_of_nonneg (Int.le_of_lt (pow_pos a)), Int.pow_add]
theorem decP_twice (p t l : Int) {lo hi : Int} (h : lo ≤ hi) : decP (decP p t l lo) (decA t l lo) l hi = decP p t l hi := by
  rw [decP_pow (decP p t l lo), fit_decP, decP_pow p t l lo, decP_pow p t l hi, div_pows, decK_add t l h]
  congr 2
  have := decK_lo t l lo; have := decK_lo (decA t l lo) l hi
  omega
theorem decP_falls (p t l : Int) {lo hi : Int} (h : lo ≤ hi) : decP p t l hi ≤ decP p t l lo := by
  rw [← decP_twice p t l h]
  obtain ⟨_, h1⟩ := decP_bounds (decP p t l lo) (decA t l lo) l hi
  rw [fit_decP] at h1
  exact h1
end Go.Proofs.Ytdoofpanbcaigaa.Plain
