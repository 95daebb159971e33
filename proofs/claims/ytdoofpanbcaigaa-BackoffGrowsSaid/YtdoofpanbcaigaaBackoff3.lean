/-
  THE WALKS of doormanlaw23.BackoffTells and BackoffGrows.
-/
import Derived.Test.YtdoofpanbcaigaaBackoff2
namespace Go.Proofs.Ytdoofpanbcaigaa
open Go.RowKit
attribute [local go_sem ↓] exec_load_43
attribute [local go_sem] run_loadConf isRow_new rowOf_new isRow_past rowOf_past isRow_drew rowOf_drew isRow_drewN rowOf_drewN

/-- A conf's box and a pair's box hold what they held, and nothing old has turned. -/
theorem heldRP {g h : Nat} {w W W' : World} {C : Array Value} {a b : Value} (k : isRow W g 43 16 = true ∧ rowOf W g = C ∧ W.cell? ⟨h, 0, none⟩ = some a ∧ W.cell? ⟨h, 1, none⟩ = some b ∧ h < W.heap.size ∧ Below w.heap.size w W) (hb : Below W.heap.size W W') :
    isRow W' g 43 16 = true ∧ rowOf W' g = C ∧ W'.cell? ⟨h, 0, none⟩ = some a ∧ W'.cell? ⟨h, 1, none⟩ = some b ∧ h < W'.heap.size ∧ Below w.heap.size w W' := by
  obtain ⟨h1, h2, h3, h4, h5, h6⟩ := k
  obtain ⟨k1, k2⟩ := row_below hb h1
  have hz := hb.size
  exact ⟨k1, k2.trans h2, (hb.cell (p := ⟨h, 0, none⟩) h5).trans h3, (hb.cell (p := ⟨h, 1, none⟩) h5).trans h4, by omega, h6.trans (hb.mono h6.size)⟩
theorem heldRP_below {g h : Nat} {w W : World} {C : Array Value} {a b : Value} (k : isRow W g 43 16 = true ∧ rowOf W g = C ∧ W.cell? ⟨h, 0, none⟩ = some a ∧ W.cell? ⟨h, 1, none⟩ = some b ∧ h < W.heap.size ∧ Below w.heap.size w W) : Below w.heap.size w W := k.2.2.2.2.2

set_option maxHeartbeats 2000000 in
/-- doormanlaw23.BackoffTells. -/
theorem backoffTells_any {C : Array Value} {base cap J : Int} (h : IsConf C base cap J) (n l0 l1 : Int) (hn : n ≤ 9223372036854775807) (hJ : J ≤ 9223372036854775807) (w : World) :
    Calls Try.prog 10 #[.agg C, .int .i64 n, .agg #[.int .i64 l0, .int .i64 l1]] w fun e w' => e = .returned (.bool true) ∧ Below w.heap.size w w' := by
  have H := Lib.hid h
  have hs := h.size
  clear h
  go_enter Try.func10, Try.ntmps10
  go_wp2
  go_region_held3 (fun w' => isRow w' w.heap.size 43 16 = true ∧ rowOf w' w.heap.size = C ∧ w'.cell? ⟨w.heap.size + 1, 0, none⟩ = some (.int .i64 l0) ∧ w'.cell? ⟨w.heap.size + 1, 1, none⟩ = some (.int .i64 l1) ∧ w.heap.size + 1 < w'.heap.size ∧ Below w.heap.size w w')
    (first | assumption | exact heldRP (by assumption) (by assumption) | exact ⟨by simp [go_sem, hs], by simp [go_sem], by simp [go_sem], by simp [go_sem], by simp, (((Below.refl _ _).alloc (Nat.le_refl _) _).alloc (by simp) _).drew⟩)
    (first
      | (go_at_call 39; refine (delay_row H.out _ hn _).mono ?_; rintro e w' ⟨rfl, hb'⟩)
      | (go_at_call 40; refine (rdelay_row H.out _ hn _).mono ?_; rintro e w' ⟨rfl, hb'⟩)
      | (go_at_call 41; refine (jitter_row H.out _ hJ _).mono ?_; rintro e w' ⟨rfl, hb'⟩)
      | (go_at_call 42; refine (rjitter_row H.out _ hJ _).mono ?_; rintro e w' ⟨rfl, hb'⟩)
      | (go_at_call 43; refine (next_row H.out _ _ _ hn hJ _).mono ?_; rintro e w' ⟨rfl, hb'⟩)
      | (go_at_call 44; refine (rnext_row H.out _ _ _ hn hJ _).mono ?_; rintro e w' ⟨rfl, hb'⟩)
      | (go_at_call 45; refine (awake23_any _).mono ?_; rintro e w' ⟨rfl, hb'⟩))
  all_goals go_wp2
  all_goals go_ret
  all_goals exact ⟨rfl, heldRP_below (by assumption)⟩
end Go.Proofs.Ytdoofpanbcaigaa
