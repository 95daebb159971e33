/-
  OPERATIONS CLEANED: stores, swaps.
-/
import Derived.Test.YtnncjbkepakgpaaGreatA12
import Derived.Test.YtnncjbkepakgpaaGreatA07
import Derived.Deep.RegionWith
namespace Go.Proofs.YtnncjbkepakgpaaGreat
set_option linter.unusedVariables false
set_option linter.unusedSimpArgs false
set_option maxRecDepth 100000
set_option maxHeartbeats 4000000
open Go.RowKit
attribute [local go_sem ↓] exec_load_101 exec_store_101 exec_load_103 exec_store_103 exec_load_105 exec_store_105 exec_load_75 exec_store_75
attribute [local go_sem] run_load101r run_store101i run_load103r run_store103i run_load105r run_store105i run_load75r run_store75i isRng_new rngOf_new isRange_past rangeOf_past isRange_drew rangeOf_drew fits_new fits_past fits_drew setAt_new setAt_past setAt_drew putAt_whole putAt_lit extract_whole extract_lit one_int one_bool one_slice one_ptr ones_lit onesL_nil onesL_cons isRow_new rowOf_new isRow_past rowOf_past isRow_drew rowOf_drew lt2 lt3 lt4 List.take_succ_cons List.take_zero List.drop_succ_cons List.drop_zero List.cons_append List.nil_append List.length_cons List.length_nil List.size_toArray 
theorem clean_swap (n : Int) (w : World) : Calls Tryz.prog 431 #[.agg (opC (.swap n))] w fun e w' => e = .returned (.agg (opC (.swap n))) ∧ Below w.heap.size w w' := by
  unfold opC
  go_enter Tryz.func431, Tryz.ntmps431
  go_wp2
  go_region_with (first | (go_at_call 432; refine (place_inn 0 0 _).mono ?_; rintro e w1 ⟨rfl, rfl⟩))
  all_goals go_wp2
  all_goals exact bodyPost_ret (v := .agg _) (res_row (t := 105) Tryz.results431 _ _ _ rfl (by simp [go_sem]) (by simp [go_sem]) info105 agg105) rfl ⟨rfl, by repeat' (first | (with_reducible exact Below.refl _ _) | (with_reducible apply Below.drew) | (with_reducible refine Below.alloc ?_ ?_ _) | (with_reducible refine Below.setCell ?_ ?_ _) | (with_reducible exact Nat.le_refl _) | (simp; done) | (simp; omega))⟩
theorem clean_wsize (p n : Nat) (w : World) : Calls Tryz.prog 431 #[.agg (opC (.wsize p n))] w fun e w' => e = .returned (.agg (opC (.wsize p n))) ∧ Below w.heap.size w w' := by
  unfold opC
  go_enter Tryz.func431, Tryz.ntmps431
  go_wp2
  go_region_with (first | (go_at_call 432; refine (place_size p 0 _).mono ?_; rintro e w1 ⟨rfl, rfl⟩) | (go_at_call 433; refine (value_size n _).mono ?_; rintro e w1 ⟨rfl, rfl⟩))
  all_goals go_wp2
  all_goals exact bodyPost_ret (v := .agg _) (res_row (t := 105) Tryz.results431 _ _ _ rfl (by simp [go_sem]) (by simp [go_sem]) info105 agg105) rfl ⟨rfl, by repeat' (first | (with_reducible exact Below.refl _ _) | (with_reducible apply Below.drew) | (with_reducible refine Below.alloc ?_ ?_ _) | (with_reducible refine Below.setCell ?_ ?_ _) | (with_reducible exact Nat.le_refl _) | (simp; done) | (simp; omega))⟩
theorem clean_wslot (p i c : Nat) (w : World) : Calls Tryz.prog 431 #[.agg (opC (.wslot p i c))] w fun e w' => e = .returned (.agg (opC (.wslot p i c))) ∧ Below w.heap.size w w' := by
  unfold opC
  go_enter Tryz.func431, Tryz.ntmps431
  go_wp2
  go_region_with (first | (go_at_call 432; refine (place_slot p i _).mono ?_; rintro e w1 ⟨rfl, rfl⟩) | (go_at_call 433; refine (value_slot c _).mono ?_; rintro e w1 ⟨rfl, rfl⟩))
  all_goals go_wp2
  all_goals exact bodyPost_ret (v := .agg _) (res_row (t := 105) Tryz.results431 _ _ _ rfl (by simp [go_sem]) (by simp [go_sem]) info105 agg105) rfl ⟨rfl, by repeat' (first | (with_reducible exact Below.refl _ _) | (with_reducible apply Below.drew) | (with_reducible refine Below.alloc ?_ ?_ _) | (with_reducible refine Below.setCell ?_ ?_ _) | (with_reducible exact Nat.le_refl _) | (simp; done) | (simp; omega))⟩
end Go.Proofs.YtnncjbkepakgpaaGreat
