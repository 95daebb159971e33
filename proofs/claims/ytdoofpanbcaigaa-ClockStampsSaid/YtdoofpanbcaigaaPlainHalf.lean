/-
  THE PLAIN LAWS of points that decay: no Go in sight: what is left behind so many half-lives, and as of when.
-/
import Derived.Test.YtdoofpanbcaigaaPlain
namespace Go.Proofs.Ytdoofpanbcaigaa.Plain
/-- A half-life within bounds. -/
def life (l : Int) : Int := min (max l 1) 1073741824
/-- How many whole half-lives went by. -/
def decK (t l n : Int) : Int := sSub n (fit t) / life l
def decP (p t l n : Int) : Int := fit p / 2 ^ (min (decK t l n) 41).toNat
def decA (t l n : Int) : Int := fit t + decK t l n * life l

theorem life_lo (l : Int) : 1 ≤ life l := by unfold life; omega
theorem life_hi (l : Int) : life l ≤ 1073741824 := by unfold life; omega
theorem half_pow (x : Int) (j : Nat) : x / 2 ^ (j + 1) = x / 2 ^ j / 2 := by
  rw [Int.pow_succ, ← Int.ediv_ediv_of_nonneg (Int.le_of_lt (Int.pow_pos (by decide)))]
theorem pow_pos (j : Nat) : (0 : Int) < 2 ^ j := Int.pow_pos (by decide)

/-- Behind j half-lives: what points there are, and as of when. -/
def Inv (p t l n x y : Int) : Prop := ∃ j : Nat, x = fit p / 2 ^ j ∧ y = fit t + j * life l ∧ (j = 0 ∨ y ≤ fit n)
theorem inv_start (p t l n : Int) : Inv p t l n (fit p) (fit t) := ⟨0, by simp, by simp, Or.inl rfl⟩
theorem inv_bounds {p t l n x y : Int} (h : Inv p t l n x y) : 0 ≤ x ∧ x ≤ 1099511627776 ∧ 0 ≤ y ∧ y ≤ 1099511627776 := by
  obtain ⟨j, rfl, hy, hj⟩ := h
  have hp0 := fit_lo p; have hp1 := fit_hi p
  have hn1 := fit_hi n; have ht0 := fit_lo t; have ht1 := fit_hi t
  have hl := life_lo l
  have hm : 0 ≤ (j : Int) * life l := Int.mul_nonneg (by omega) (by omega)
  refine ⟨Int.ediv_nonneg hp0 (Int.le_of_lt (pow_pos j)), Int.le_trans (Int.ediv_le_self _ hp0) hp1, by omega, ?_⟩
  rcases hj with rfl | hj
  · rw [hy]; simp; omega
  · omega
theorem inv_step {p t l n x y : Int} (h : Inv p t l n x y) (hx : life l ≤ fit n - y) : Inv p t l n (x / 2) (y + life l) := by
  obtain ⟨j, rfl, rfl, _⟩ := h
  refine ⟨j + 1, (half_pow _ _).symm, ?_, Or.inr (by omega)⟩
  rw [show ((j + 1 : Nat) : Int) = (j : Int) + 1 from by omega, Int.add_mul]; omega
theorem div_at {d L : Int} {j : Nat} (hL : 1 ≤ L) (h0 : (j : Int) * L ≤ d) (h1 : d < (j : Int) * L + L) : d / L = j := by
  have e : d = (d - j * L) + L * j := by rw [Int.mul_comm L]; omega
  rw [e, Int.add_mul_ediv_left _ _ (by omega), Int.ediv_eq_zero_of_lt (by omega) (by omega)]; omega
theorem pow_le {k m : Nat} (h : k ≤ m) : (2 : Int) ^ k ≤ 2 ^ m := pow_le_pow h
theorem none_left {x : Int} {j m : Nat} (h0 : 0 ≤ x) (hz : x / 2 ^ j ≤ 0) (h : j ≤ m) : x / 2 ^ m = 0 := by
  have h1 : x < 2 ^ j := by
    have := Int.ediv_nonneg h0 (Int.le_of_lt (pow_pos j))
    have e : x / 2 ^ j = 0 := by omega
    have := Int.lt_ediv_add_one_mul_self x (pow_pos j)
    rw [e] at this; omega
  exact Int.ediv_eq_zero_of_lt h0 (by have := pow_le h; omega)
theorem small_gone (p : Int) (m : Nat) (h : 41 ≤ m) : fit p / 2 ^ m = 0 := by
  have h0 := fit_lo p; have h1 := fit_hi p
  refine Int.ediv_eq_zero_of_lt h0 ?_
  have := @pow_le 41 m h
  omega
theorem inv_end1 {p t l n x y : Int} (h : Inv p t l n x y) (hx : fit n - y < life l) : x = decP p t l n ∧ y = decA t l n := by
  obtain ⟨j, rfl, hy, hj⟩ := h
  have hl := life_lo l
  have hm : 0 ≤ (j : Int) * life l := Int.mul_nonneg (by omega) (by omega)
  have hk : decK t l n = j := by
    have hn0 := fit_lo n; have hn1 := fit_hi n; have ht0 := fit_lo t; have ht1 := fit_hi t
    unfold decK
    refine div_at hl ?_ ?_
    · rcases hj with rfl | hj
      · simp; exact fit_lo _
      · unfold sSub; rw [fit_fit, fit_in (by omega) (by omega)]; omega
    · have : sSub n (fit t) ≤ max (fit n - fit t) 0 := by unfold sSub; rw [fit_fit]; unfold fit; omega
      omega
  refine ⟨?_, by unfold decA; rw [hk]; exact hy⟩
  unfold decP
  rw [hk]
  by_cases h41 : j ≤ 41
  · rw [show (min (j : Int) 41).toNat = j from by omega]
  · rw [small_gone p j (by omega), small_gone p _ (by omega)]
theorem inv_end2 {p t l n x y : Int} (h : Inv p t l n x y) (hx : x ≤ 0) (hn : life l ≤ fit n - y) : x = decP p t l n ∧ fit n - (fit n - y) % life l = decA t l n := by
  obtain ⟨j, rfl, hy, hj⟩ := h
  have hl := life_lo l
  have hp0 := fit_lo p
  have hm : 0 ≤ (j : Int) * life l := Int.mul_nonneg (by omega) (by omega)
  have hn0 := fit_lo n; have hn1 := fit_hi n; have ht0 := fit_lo t; have ht1 := fit_hi t
  have hd : sSub n (fit t) = fit n - fit t := by unfold sSub; rw [fit_fit, fit_in (by omega) (by omega)]
  have he : fit n - y = (fit n - fit t) - life l * j := by rw [hy, Int.mul_comm (life l)]; omega
  have hmod : (fit n - y) % life l = (fit n - fit t) % life l := by
    rw [he, Int.sub_mul_emod_self_left]
  have hdm := Int.mul_ediv_add_emod (fit n - fit t) (life l)
  have hk : decK t l n = (fit n - fit t) / life l := by unfold decK; rw [hd]
  have hkj : (j : Int) ≤ decK t l n := by
    rw [hk]
    refine (Int.le_ediv_iff_mul_le (by omega)).2 ?_
    omega
  refine ⟨?_, ?_⟩
  · have hz : fit p / 2 ^ j = 0 := none_left hp0 hx (Nat.le_refl _)
    rw [hz]
    unfold decP
    by_cases h41 : j ≤ 41
    · exact (none_left hp0 hx (by omega)).symm
    · exact (small_gone p _ (by omega)).symm
  · unfold decA
    rw [hmod, hk, Int.mul_comm _ (life l)]
    omega

end Go.Proofs.Ytdoofpanbcaigaa.Plain
