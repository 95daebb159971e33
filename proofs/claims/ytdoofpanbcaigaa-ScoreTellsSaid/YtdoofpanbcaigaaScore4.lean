/-
  THE WALK of doormanlaw16.ScoreTells.
-/
import Derived.Test.YtdoofpanbcaigaaScore3
namespace Go.Proofs.Ytdoofpanbcaigaa
open Go.RowKit

set_option maxHeartbeats 2000000 in
/-- doormanlaw16.ScoreTells. -/
theorem scoreTells_any (p t pts l0 l1 : Int) (hp0 : -9223372036854775808 ≤ p) (hp1 : p ≤ 9223372036854775807) (w : World) :
    Calls Try.prog 13 #[.agg #[.int .i64 p, .int .i64 t], .int .i64 pts, .agg #[.int .i64 l0, .int .i64 l1]] w fun e w' => e = .returned (.bool true) ∧ Below w.heap.size w w' := by
  go_enter Try.func13, Try.ntmps13
  go_wp2
  go_region_held3 (fun w' => w'.cell? ⟨w.heap.size, 0, none⟩ = some (.int .i64 p) ∧ w'.cell? ⟨w.heap.size, 1, none⟩ = some (.int .i64 t) ∧ w'.cell? ⟨w.heap.size + 1, 0, none⟩ = some (.int .i64 l0) ∧ w'.cell? ⟨w.heap.size + 1, 1, none⟩ = some (.int .i64 l1) ∧ w.heap.size < w'.heap.size ∧ w.heap.size + 1 < w'.heap.size ∧ Below w.heap.size w w')
    (first | assumption | exact held22 (by assumption) (by assumption) | exact ⟨by simp [go_sem], by simp [go_sem], by simp [go_sem], by simp [go_sem], by simp; omega, by simp, (((Below.refl _ _).alloc (Nat.le_refl _) _).alloc (by simp) _).drew⟩)
    (first
      | (go_at_call 51; refine (penalty_any _ _).mono ?_; rintro e w' ⟨rfl, hb'⟩)
      | (go_at_call 52; refine (rpenalty_any _ _).mono ?_; rintro e w' ⟨rfl, rfl⟩)
      | (go_at_call 53; refine (sadd_any _ _ _ _ _ _).mono ?_; rintro e w' ⟨rfl, hb'⟩)
      | (go_at_call 54; refine (rsadd_any _ _ _ _ _ _).mono ?_; rintro e w' ⟨rfl, hb'⟩)
      | (go_at_call 55; refine (reached_any _ _ _ _).mono ?_; rintro e w' ⟨rfl, hb'⟩)
      | (go_at_call 56; refine (rreached_any _ _ _ hp0 hp1 _).mono ?_; rintro e w' ⟨rfl, hb'⟩)
      | (go_at_call 57; refine (whole_any _ _ hp0 hp1 _).mono ?_; rintro e w' ⟨rfl, hb'⟩)
      | (go_at_call 58; refine (rwhole_any _ _ hp0 hp1 _).mono ?_; rintro e w' ⟨rfl, hb'⟩)
      | (go_at_call 59; refine (awake16_any _).mono ?_; rintro e w' ⟨rfl, hb'⟩))
  all_goals go_wp2
  all_goals go_ret
  all_goals exact ⟨rfl, held22_below (by assumption)⟩
end Go.Proofs.Ytdoofpanbcaigaa
