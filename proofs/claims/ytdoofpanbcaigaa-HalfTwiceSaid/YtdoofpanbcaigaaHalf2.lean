/-
  THE WALK of 'doorman/doormanlaw15.HalfTwice'.
-/
import Derived.Test.YtdoofpanbcaigaaHalf
import Derived.Test.YtdoofpanbcaigaaPlainHalf2
namespace Go.Proofs.Ytdoofpanbcaigaa
open Go.RowKit

set_option maxHeartbeats 1000000 in
/-- doormanlaw15.HalfTwice. -/
theorem halfTwice_any (p t l x y : Int) (w : World) : Calls Try.prog 4 #[.agg #[.int .i64 p, .int .i64 t], .int .i64 l, .agg #[.int .i64 x, .int .i64 y]] w fun e w' => e = .returned (.bool true) ∧ Below w.heap.size w w' := by
  have hle : min x y ≤ max x y := by omega
  have e1 := Plain.decP_twice p t l hle
  have e2 := Plain.decA_twice t l hle
  have e3 := Plain.decP_falls p t l hle
  have e4 := Plain.decP_twice p t l (Int.le_refl (min x y))
  have e5 := Plain.decA_twice t l (Int.le_refl (min x y))
  go_enter Try.func4, Try.ntmps4
  go_wp2
  go_quiet (fail)
  go_wp2_with fail
  refine (hdecay_any _ _ _ _ _).mono ?_; rintro e w1 ⟨rfl, hb'⟩
  have hb := (below_drewN (Below.refl _ _) _).trans hb'
  clear hb'
  obtain ⟨k0, f0, _, _, hz⟩ := boxes2 hb
  have c0 : w1.cell? ⟨w.heap.size, 0, none⟩ = some (.int .i64 p) := k0 0 _ rfl
  have c1 : w1.cell? ⟨w.heap.size, 1, none⟩ = some (.int .i64 t) := k0 1 _ rfl
  have hz' : w.heap.size < w1.heap.size := by omega
  clear k0
  have hB : Below w.heap.size w w1 := (((Below.refl _ _).alloc (Nat.le_refl _) _).alloc (by simp) _).trans (hb.mono (by simp; omega))
  go_wp2_with fail
  go_region_held3 (fun w' => w'.cell? ⟨w.heap.size, 0, none⟩ = some (.int .i64 p) ∧ w'.cell? ⟨w.heap.size, 1, none⟩ = some (.int .i64 t) ∧ w'.cell? ⟨w1.heap.size, 0, none⟩ = some (.int .i64 (Plain.decP p t l (min x y))) ∧ w'.cell? ⟨w1.heap.size, 1, none⟩ = some (.int .i64 (Plain.decA t l (min x y))) ∧ w.heap.size < w'.heap.size ∧ w1.heap.size < w'.heap.size ∧ Below w.heap.size w w')
    (first | exact held22 (by assumption) (by assumption) | exact ⟨by simp [go_sem, c0, hz'], by simp [go_sem, c1, hz'], by simp [go_sem], by simp [go_sem], by simp; omega, by simp, (hB.alloc (by omega) _).drew⟩)
    (first
      | (go_at_call 21; refine (hdecay_any _ _ _ _ _).mono ?_; rintro e w' ⟨rfl, hb'⟩)
      | (go_at_call 22; refine (left_any _ _ _ _ _).mono ?_; rintro e w' ⟨rfl, hb'⟩)
      | (go_at_call 23; refine (awake15_any _).mono ?_; rintro e w' ⟨rfl, hb'⟩))
  all_goals go_wp2
  all_goals go_ret
  all_goals exact ⟨rfl, held22_below (by assumption)⟩
end Go.Proofs.Ytdoofpanbcaigaa
