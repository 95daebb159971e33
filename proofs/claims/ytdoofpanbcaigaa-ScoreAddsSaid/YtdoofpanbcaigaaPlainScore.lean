/-
  THE PLAIN LAWS of points (layer 16): no Go in sight.
-/
import Derived.Test.YtdoofpanbcaigaaPlainHalf2
namespace Go.Proofs.Ytdoofpanbcaigaa.Plain
def penalty (k : Int) : Int := if k = 1 then 1 else if k = 2 then 10 else if k = 3 then 20 else if k = 4 then 50 else if k = 5 then 100 else 0
def whole (p : Int) : Int := max p 0 / 65536
def limitOf (l : Int) : Int := min (max l 1) 16777216
def reached (p l : Int) : Bool := decide (limitOf l * 65536 ≤ p)
/-- Points, with points more, at a tick. -/
def addP (p t pts l n : Int) : Int := sAdd (decP p t l n) (sMul pts 65536)

theorem reached_whole (p l : Int) : reached p l = decide (limitOf l ≤ whole p) := by
  unfold reached whole
  have h : 1 ≤ limitOf l := by unfold limitOf; omega
  generalize limitOf l = c at *
  rw [Bool.eq_iff_iff]
  simp only [decide_eq_true_eq]
  omega
theorem sMul_one (pts : Int) : sMul pts 65536 = min (fit pts) 16777216 * 65536 := by
  have h0 := fit_lo pts; have h1 := fit_hi pts
  unfold sMul
  rw [show fit 65536 = 65536 from by decide]
  generalize fit pts = x at *
  unfold fit
  omega
theorem addP_ref (p t pts l n : Int) : fit (decP p t l n + min (fit pts) 16777216 * 65536) = addP p t pts l n := by
  unfold addP
  rw [sMul_one]
  have h0 := fit_lo pts
  have hm : fit (min (fit pts) 16777216 * 65536) = min (fit pts) 16777216 * 65536 := fit_in (by omega) (by omega)
  unfold sAdd
  rw [fit_decP, hm]
theorem addP_bounds (p t pts l n : Int) : 0 ≤ addP p t pts l n ∧ addP p t pts l n ≤ 1099511627776 := ⟨fit_lo _, fit_hi _⟩
theorem fit_addP (p t pts l n : Int) : fit (addP p t pts l n) = addP p t pts l n := fit_fit _
theorem decK_same (t l n : Int) : decK (decA t l n) l n = 0 := by
  have := decK_add t l (Int.le_refl n)
  omega
theorem decP_same (q t l n : Int) (h : fit q = q) : decP q (decA t l n) l n = q := by
  rw [decP_pow, decK_same, h]
  simp
theorem decA_same (t l n : Int) : decA (decA t l n) l n = decA t l n := decA_twice t l (Int.le_refl n)
theorem add_twice (p t a b l n : Int) : addP (addP p t a l n) (decA t l n) b l n = sAdd (sAdd (decP p t l n) (sMul a 65536)) (sMul b 65536) := by
  have e : addP (addP p t a l n) (decA t l n) b l n = sAdd (decP (addP p t a l n) (decA t l n) l n) (sMul b 65536) := rfl
  rw [e, decP_same _ _ _ _ (fit_addP p t a l n)]
  rfl
theorem add_swap (p t a b l n : Int) : addP (addP p t a l n) (decA t l n) b l n = addP (addP p t b l n) (decA t l n) a l n := by
  rw [add_twice, add_twice, sAdd_assoc, sAdd_comm (sMul a 65536), sAdd_assoc]
theorem add_sum (p t a b l n : Int) (a0 : 0 ≤ a) (a1 : a ≤ 1073741824) (b0 : 0 ≤ b) (b1 : b ≤ 1073741824) : addP (addP p t a l n) (decA t l n) b l n = addP p t (a + b) l n := by
  rw [add_twice, sAdd_assoc]
  unfold addP
  have e : sMul (a + b) 65536 = sAdd (sMul a 65536) (sMul b 65536) := by
    unfold sAdd sMul
    rw [show fit 65536 = 65536 from by decide, fit_in (show 0 ≤ a + b by omega) (by omega), fit_in a0 (by omega), fit_in b0 (by omega)]
    unfold fit
    omega
  rw [e]
theorem add_falls (p t a l : Int) {lo hi : Int} (h : lo ≤ hi) : addP p t a l hi ≤ addP p t a l lo := sAdd_mono _ (decP_falls p t l h)
theorem add_grows (p t l n : Int) {a b : Int} (h : a ≤ b) : addP p t a l n ≤ addP p t b l n := by
  unfold addP
  rw [sAdd_comm, sAdd_comm (decP p t l n)]
  exact sAdd_mono _ (sMul_mono _ h)
theorem awake16_nums : penalty 4 = 50 ∧ addP 0 0 50 10 5 = 3276800 ∧ decA 0 10 5 = 0 ∧ addP 3276800 0 50 10 5 = 6553600 ∧ reached 3276800 100 = false ∧ reached 6553600 100 = true ∧ whole 6553600 = 100 := by decide
end Go.Proofs.Ytdoofpanbcaigaa.Plain
