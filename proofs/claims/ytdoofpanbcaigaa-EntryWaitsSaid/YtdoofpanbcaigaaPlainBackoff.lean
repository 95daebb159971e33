/-
  THE PLAIN LAWS of waiting (layer 23): no Go in sight.
-/
import Derived.Test.YtdoofpanbcaigaaPlain
namespace Go.Proofs.Ytdoofpanbcaigaa.Plain
/-- How long one waits behind so many failures. -/
def delay (base cap fails : Int) : Int := if fails < 1 then 0 else min (fit cap) (sTwice base (fails - 1))
/-- The little more. -/
def jitter (J j : Int) : Int := if J < 1 then 0 else j % J
def next (base cap J fails now j : Int) : Int := sAdd (sAdd now (delay base cap fails)) (jitter J j)

theorem delay_lo (base cap fails : Int) : 0 ≤ delay base cap fails := by
  have := fit_lo cap; have := sTwice_lo base (fails - 1)
  unfold delay; split <;> omega
theorem delay_hi (base cap fails : Int) : delay base cap fails ≤ fit cap := by
  have := fit_lo cap
  unfold delay; split <;> omega
theorem delay_mono (base cap : Int) {lo hi : Int} (h : lo ≤ hi) : delay base cap lo ≤ delay base cap hi := by
  have := fit_lo cap; have := sTwice_lo base (hi - 1)
  have := sTwice_monoK base (show lo - 1 ≤ hi - 1 by omega)
  unfold delay; split <;> split <;> omega
theorem jitter_lo (J j : Int) : 0 ≤ jitter J j := by
  unfold jitter; split
  · omega
  · exact Int.emod_nonneg _ (by omega)
theorem jitter_hi (J j : Int) : jitter J j ≤ max J 0 := by
  unfold jitter; split
  · omega
  · have := Int.emod_lt_of_pos j (show 0 < J by omega); omega
/-- Go's remainder, brought up by what it was divided by. -/
theorem jitter_neg {J j : Int} (hJ : ¬ J < 1) (h : j.tmod J < 0) : j.tmod J + J = jitter J j := by
  unfold jitter
  rw [if_neg hJ]
  have h0 := Int.tmod_lt_of_pos j (show 0 < J by omega)
  have h1 := Int.lt_tmod_of_pos j (show 0 < J by omega)
  have e := Int.mul_tdiv_add_tmod j J
  have : j = (j.tmod J + J) + J * (j.tdiv J - 1) := by rw [Int.mul_sub]; omega
  conv => rhs; rw [this]
  rw [Int.add_mul_emod_self_left, Int.emod_eq_of_lt (by omega) (by omega)]
theorem jitter_pos {J j : Int} (hJ : ¬ J < 1) (h : ¬ j.tmod J < 0) : j.tmod J = jitter J j := by
  unfold jitter
  rw [if_neg hJ]
  have h0 := Int.tmod_lt_of_pos j (show 0 < J by omega)
  have e := Int.mul_tdiv_add_tmod j J
  conv => rhs; rw [← e]
  rw [Int.add_comm, Int.add_mul_emod_self_left, Int.emod_eq_of_lt (by omega) (by omega)]
theorem sAdd_mono2 {a b c d : Int} (h : a ≤ b) (h' : c ≤ d) : sAdd a c ≤ sAdd b d := by unfold sAdd fit; omega
theorem sAdd_ge {a c : Int} : fit a ≤ sAdd a c := by unfold sAdd fit; omega
theorem next_mono (base cap J now j : Int) {lo hi : Int} (h : lo ≤ hi) : next base cap J lo now j ≤ next base cap J hi now j :=
  sAdd_mono _ (sAdd_mono2 (Int.le_refl _) (delay_mono base cap h))
theorem next_ge (base cap J fails now j : Int) : fit now ≤ next base cap J fails now j := by
  have h1 := @sAdd_ge (sAdd now (delay base cap fails)) (jitter J j)
  have h2 := @sAdd_ge now (delay base cap fails)
  have h3 : fit (sAdd now (delay base cap fails)) = sAdd now (delay base cap fails) := by unfold sAdd; exact fit_fit _
  unfold next; omega
theorem next_most (base cap J fails now j : Int) : next base cap J fails now j ≤ sAdd (sAdd now cap) (max J 0) := by
  have h1 := delay_hi base cap fails
  have h2 := jitter_hi J j
  have e : sAdd now (delay base cap fails) ≤ sAdd now cap := by
    have := fit_mono h1
    rw [fit_fit] at this
    unfold sAdd
    exact fit_mono (by omega)
  exact sAdd_mono2 e h2
theorem awake23_nums : delay 2 10 1 = 2 ∧ delay 2 10 3 = 8 ∧ delay 2 10 9 = 10 ∧ next 2 10 3 2 100 (-1) = 106 := by decide
end Go.Proofs.Ytdoofpanbcaigaa.Plain
