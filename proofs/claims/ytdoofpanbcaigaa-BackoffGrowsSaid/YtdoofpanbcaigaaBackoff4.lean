/-
  THE WALK of doormanlaw23.BackoffGrows.
-/
import Derived.Test.YtdoofpanbcaigaaBackoff3
namespace Go.Proofs.Ytdoofpanbcaigaa
open Go.RowKit
attribute [local go_sem ↓] exec_load_43
attribute [local go_sem] run_loadConf isRow_new rowOf_new isRow_past rowOf_past isRow_drew rowOf_drew isRow_drewN rowOf_drewN

set_option maxRecDepth 100000 in
set_option maxHeartbeats 2000000 in
/-- doormanlaw23.BackoffGrows. -/
theorem backoffGrows_any {C : Array Value} {base cap J : Int} (h : IsConf C base cap J) (f0 f1 l0 l1 : Int) (hf0 : f0 ≤ 9223372036854775807) (hf1 : f1 ≤ 9223372036854775807) (hJ : J ≤ 9223372036854775807) (w : World) :
    Calls Try.prog 11 #[.agg C, .agg #[.int .i64 f0, .int .i64 f1], .agg #[.int .i64 l0, .int .i64 l1]] w fun e w' => e = .returned (.bool true) ∧ Below w.heap.size w w' := by
  have hle : min f0 f1 ≤ max f0 f1 := by omega
  have hlo : min f0 f1 ≤ 9223372036854775807 := by omega
  have hhi : max f0 f1 ≤ 9223372036854775807 := by omega
  have e1 := Plain.delay_mono base cap hle
  have e2 := Plain.next_ge base cap J (max f0 f1) l1 l0
  have e3 := Plain.next_most base cap J (max f0 f1) l1 l0
  have e4 := Plain.next_mono base cap J l1 l0 hle
  have H := Lib.hid h
  have hs := h.size
  have c14 := h.cap
  have c15 := h.jit
  clear h hle
  have R1 : ∀ m, isRow ((((w.alloc (.cells C 43)).alloc (.cells #[.int .i64 f0, .int .i64 f1] 28)).alloc (.cells #[.int .i64 l0, .int .i64 l1] 28)).drewN m) w.heap.size 43 16 = true := fun m => by
    rw [isRow_drewN, isRow_past _ _ _ _ _ (by simp; omega), isRow_past _ _ _ _ _ (by simp)]; exact isRow_new _ _ _ _ _ rfl hs
  have R2 : ∀ m, rowOf ((((w.alloc (.cells C 43)).alloc (.cells #[.int .i64 f0, .int .i64 f1] 28)).alloc (.cells #[.int .i64 l0, .int .i64 l1] 28)).drewN m) w.heap.size = C := fun m => by
    rw [rowOf_drewN, rowOf_past _ _ _ (by simp; omega), rowOf_past _ _ _ (by simp)]; exact rowOf_new _ _ _ _ rfl
  go_enter Try.func11, Try.ntmps11
  go_wp2
  go_quiet (fail)
  go_wp2_with fail
  refine (next_row H.out _ _ _ hhi hJ _).mono ?_; rintro e w1 ⟨rfl, hb'⟩
  have hb := (below_drewN (Below.refl _ _) _).trans hb'
  obtain ⟨r1, r2⟩ := row_below (t := 43) (n := 16) hb (g := w.heap.size) (R1 0)
  have r3 : rowOf w1 w.heap.size = C := by rw [r2]; exact R2 0
  have p0 : w1.cell? ⟨w.heap.size + 1 + 1, 0, none⟩ = some (.int .i64 l0) := (hb.cell (p := ⟨_, _, none⟩) (by simp)).trans (by simp [go_sem])
  have p1 : w1.cell? ⟨w.heap.size + 1 + 1, 1, none⟩ = some (.int .i64 l1) := (hb.cell (p := ⟨_, _, none⟩) (by simp)).trans (by simp [go_sem])
  have q14 : w1.cell? ⟨w.heap.size, 14, none⟩ = some (.int .i64 cap) := by rw [row_cell r1, r3]; exact c14
  have q15 : w1.cell? ⟨w.heap.size, 15, none⟩ = some (.int .i64 J) := by rw [row_cell r1, r3]; exact c15
  have hz : w.heap.size + 1 + 1 < w1.heap.size := by have := hb.size; simp at this; omega
  have HB : Hid (Below w.heap.size w w1) := Lib.hid ((((((Below.refl _ _).alloc (Nat.le_refl _) _).alloc (by simp) _).alloc (by simp; omega) _).trans (hb.mono (by simp; omega))))
  clear hb hb' r2 R1 R2
  go_wp2
  go_quiet ((go_at_call 27; exact Calls.quiet_of_same ((radd_any _ _ _).mono fun _ _ h => ⟨h.1, h.2.symm⟩)))
  go_wp2
  go_region_held3 (fun w' => isRow w' w.heap.size 43 16 = true ∧ rowOf w' w.heap.size = C ∧ w'.cell? ⟨w.heap.size + 1 + 1, 0, none⟩ = some (.int .i64 l0) ∧ w'.cell? ⟨w.heap.size + 1 + 1, 1, none⟩ = some (.int .i64 l1) ∧ w.heap.size + 1 + 1 < w'.heap.size ∧ Below w.heap.size w w')
    (first | assumption | exact heldRP (by assumption) (by assumption) | exact ⟨by simp [go_sem, r1], by simp [go_sem, r3], by simp [go_sem, p0], by simp [go_sem, p1], by simpa using hz, (below_drewN HB.out _).drew⟩ | exact ⟨by simp [go_sem, r1], by simp [go_sem, r3], by simp [go_sem, p0], by simp [go_sem, p1], by simpa using hz, (below_drewN HB.out _)⟩)
    (first
      | (go_at_call 39; refine (delay_row H.out _ (by assumption) _).mono ?_; rintro e w' ⟨rfl, hb'⟩)
      | (go_at_call 25; refine (rfit_any _ _).mono ?_; rintro e w' ⟨rfl, rfl⟩)
      | (go_at_call 43; refine (next_row H.out _ _ _ hlo hJ _).mono ?_; rintro e w' ⟨rfl, hb'⟩)
      | (go_at_call 45; refine (awake23_any _).mono ?_; rintro e w' ⟨rfl, hb'⟩))
  all_goals go_wp2
  all_goals go_ret
  all_goals exact ⟨rfl, heldRP_below (by assumption)⟩
end Go.Proofs.Ytdoofpanbcaigaa
