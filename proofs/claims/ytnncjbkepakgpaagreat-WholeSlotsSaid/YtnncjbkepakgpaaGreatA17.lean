/-
  THE PART THAT AN ADDRESS LIES IN.
-/
import Derived.Test.YtnncjbkepakgpaaGreatA07
import Derived.Test.YtnncjbkepakgpaaGreatA16
import Derived.Deep.RegionWith
namespace Go.Proofs.YtnncjbkepakgpaaGreat
set_option linter.unusedVariables false
set_option linter.unusedSimpArgs false
set_option maxRecDepth 100000
set_option maxHeartbeats 4000000
open Go.RowKit
attribute [local go_sem ↓] exec_load_36 exec_store_36 exec_load_203 exec_store_203
attribute [local go_sem] run_load36r run_store36i run_load203r run_store203i lt_up isRng_new rngOf_new isRange_past rangeOf_past isRange_drew rangeOf_drew fits_new fits_past fits_drew setAt_new setAt_past setAt_drew putAt_whole putAt_lit extract_whole extract_lit one_int one_bool one_slice one_ptr ones_lit onesL_nil onesL_cons isRow_new rowOf_new isRow_past rowOf_past isRow_drew rowOf_drew lt2 lt3 lt4 List.take_succ_cons List.take_zero List.drop_succ_cons List.drop_zero List.cons_append List.nil_append List.length_cons List.length_nil List.size_toArray setRow_new setRow_past own_cell own_frozen own_set own_isRange own_rangeOf own_fits setAt_row sr_sr sr_size sr_row sr_row' sr_isRow sr_isRow' sr_fits' sr_cell' sr_frozen' sr_isRange' sr_rangeOf' sr_isCells isCells_new isCells_past isCells_drew valC_size valC_ones opC_size opC_ones replyC_size and_lo wrap32_lo wrap64_lo
open Plain
theorem packPart1 {p : Prop} (h : PQ p := by
  have q0 : IntKind.u64.wrap (1431655765 * 2) = 2863311530 := by decide
  have q1 : IntKind.u64.wrap (16711935 * 256) = 4278255360 := by decide
  have q2 : IntKind.u64.wrap (252645135 * 16) = 4042322160 := by decide
  have q3 : IntKind.u64.wrap (4294967295 * 4294967296) = 18446744069414584320 := by decide
  have q4 : IntKind.u64.wrap (65535 * 65536) = 4294901760 := by decide
  have q5 : IntKind.u64.wrap (858993459 * 4) = 3435973836 := by decide
  have q6 : IntKind.u64.wrap 18446744069414584320 = 18446744069414584320 := by decide
  have q7 : IntKind.u64.wrap 2863311530 = 2863311530 := by decide
  have q8 : IntKind.u64.wrap 3435973836 = 3435973836 := by decide
  have q9 : IntKind.u64.wrap 4042322160 = 4042322160 := by decide
  have q10 : IntKind.u64.wrap 4278255360 = 4278255360 := by decide
  have q11 : IntKind.u64.wrap 4294901760 = 4294901760 := by decide
  have q12 : bits .and .u64 1073741823 3689348814741910323 = 858993459 := by decide
  have q13 : bits .and .u64 16777215 71777214294589695 = 16711935 := by decide
  have q14 : bits .and .u64 2147483647 6148914691236517205 = 1431655765 := by decide
  have q15 : bits .and .u64 268435455 1085102592571150095 = 252645135 := by decide
  have q16 : bits .and .u64 4294967295 1085102592571150095 = 252645135 := by decide
  have q17 : bits .and .u64 4294967295 281470681808895 = 65535 := by decide
  have q18 : bits .and .u64 4294967295 3689348814741910323 = 858993459 := by decide
  have q19 : bits .and .u64 4294967295 6148914691236517205 = 1431655765 := by decide
  have q20 : bits .and .u64 4294967295 71777214294589695 = 16711935 := by decide
  have q21 : bits .and .u64 65535 281470681808895 = 65535 := by decide
  have q22 : bits .or .u64 0 18446744069414584320 = 18446744069414584320 := by decide
  have q23 : bits .or .u64 1431655765 2863311530 = 4294967295 := by decide
  have q24 : bits .or .u64 16711935 4278255360 = 4294967295 := by decide
  have q25 : bits .or .u64 252645135 4042322160 = 4294967295 := by decide
  have q26 : bits .or .u64 65535 4294901760 = 4294967295 := by decide
  have q27 : bits .or .u64 858993459 3435973836 = 4294967295 := by decide
  exact pq (And.intro q0 (And.intro q1 (And.intro q2 (And.intro q3 (And.intro q4 (And.intro q5 (And.intro q6 (And.intro q7 (And.intro q8 (And.intro q9 (And.intro q10 (And.intro q11 (And.intro q12 (And.intro q13 (And.intro q14 (And.intro q15 (And.intro q16 (And.intro q17 (And.intro q18 (And.intro q19 (And.intro q20 (And.intro q21 (And.intro q22 (And.intro q23 (And.intro q24 (And.intro q25 (And.intro q26 q27)))))))))))))))))))))))))))) : p := h
theorem packPart2 {p : Prop} (h : PQ p := by
  have q0 : IntKind.u64.wrap (13107 * 4) = 52428 := by decide
  have q1 : IntKind.u64.wrap (21845 * 2) = 43690 := by decide
  have q2 : IntKind.u64.wrap (255 * 256) = 65280 := by decide
  have q3 : IntKind.u64.wrap (3855 * 16) = 61680 := by decide
  have q4 : IntKind.u64.wrap (4294901760 * 4294967296) = 18446462598732840960 := by decide
  have q5 : IntKind.u64.wrap (65535 * 65536) = 4294901760 := by decide
  have q6 : IntKind.u64.wrap 18446462598732840960 = 18446462598732840960 := by decide
  have q7 : IntKind.u64.wrap 4294901760 = 4294901760 := by decide
  have q8 : IntKind.u64.wrap 43690 = 43690 := by decide
  have q9 : IntKind.u64.wrap 52428 = 52428 := by decide
  have q10 : IntKind.u64.wrap 61680 = 61680 := by decide
  have q11 : IntKind.u64.wrap 65280 = 65280 := by decide
  have q12 : bits .and .u64 0 281470681808895 = 0 := by decide
  have q13 : bits .and .u64 16383 3689348814741910323 = 13107 := by decide
  have q14 : bits .and .u64 255 71777214294589695 = 255 := by decide
  have q15 : bits .and .u64 32767 6148914691236517205 = 21845 := by decide
  have q16 : bits .and .u64 4095 1085102592571150095 = 3855 := by decide
  have q17 : bits .and .u64 65535 1085102592571150095 = 3855 := by decide
  have q18 : bits .and .u64 65535 281470681808895 = 65535 := by decide
  have q19 : bits .and .u64 65535 3689348814741910323 = 13107 := by decide
  have q20 : bits .and .u64 65535 6148914691236517205 = 21845 := by decide
  have q21 : bits .and .u64 65535 71777214294589695 = 255 := by decide
  have q22 : bits .or .u64 0 18446462598732840960 = 18446462598732840960 := by decide
  have q23 : bits .or .u64 0 4294901760 = 4294901760 := by decide
  have q24 : bits .or .u64 13107 52428 = 65535 := by decide
  have q25 : bits .or .u64 21845 43690 = 65535 := by decide
  have q26 : bits .or .u64 255 65280 = 65535 := by decide
  have q27 : bits .or .u64 3855 61680 = 65535 := by decide
  exact pq (And.intro q0 (And.intro q1 (And.intro q2 (And.intro q3 (And.intro q4 (And.intro q5 (And.intro q6 (And.intro q7 (And.intro q8 (And.intro q9 (And.intro q10 (And.intro q11 (And.intro q12 (And.intro q13 (And.intro q14 (And.intro q15 (And.intro q16 (And.intro q17 (And.intro q18 (And.intro q19 (And.intro q20 (And.intro q21 (And.intro q22 (And.intro q23 (And.intro q24 (And.intro q25 (And.intro q26 q27)))))))))))))))))))))))))))) : p := h
theorem tailPart1 {p : Prop} (h : p := by
  refine wpQuiet_nil ?_
  intro w1 hS1
  have xxa := alk hS1.out; (try have zza := zs w.heap.size w1.heap.size)
  go_wp2
  exact bodyPost_ret (v := .agg _) (res_row (t := 34) Tryz.results231 _ _ _ rfl (by simp [go_sem, *]) (by simp [go_sem, *]) info34 agg34) rfl ⟨rfl, bk15⟩) : p := h
theorem info39 : (Tryz.prog.info? 39).map (·.size) = some 4 := by kernel_rfl
theorem agg39 (w : World) : (isAgg 39).run Tryz.prog w = .ok true w := by unfold isAgg; rw [Sem.run_bind, run_underlying Tryz.underlying39 w]; rfl
theorem revb_32 (w : World) : Calls Tryz.prog 317 #[.int .u64 4294967295] w fun e w' => e = .returned (.int .u64 18446744069414584320) ∧ w = w' := by
  obtain ⟨q0, q1, q2, q3, q4, q5, q6, q7, q8, q9, q10, q11, q12, q13, q14, q15, q16, q17, q18, q19, q20, q21, q22, q23, q24, q25, q26, q27⟩ := packPart1
  go_enter Tryz.func317, Tryz.ntmps317
  go_wp2
  go_ret
  exact ⟨rfl, rfl⟩
theorem rev_32 (w : World) : Calls Tryz.prog 299 #[.int .u64 4294967295] w fun e w' => e = .returned (.int .u64 18446744069414584320) ∧ w = w' := by
  obtain ⟨q0, q1, q2, q3, q4, q5, q6, q7, q8, q9, q10, q11, q12, q13, q14, q15, q16, q17, q18, q19, q20, q21, q22, q23, q24, q25, q26, q27⟩ := packPart1
  go_enter Tryz.func299, Tryz.ntmps299
  go_wp2_with (go_at_call 317; refine (revb_32 _).mono ?_; rintro e w' ⟨rfl, rfl⟩)
  go_ret
  exact ⟨rfl, rfl⟩
theorem top_32 (w : World) : Calls Tryz.prog 275 #[.int .i64 32] w fun e w' => e = .returned (.int .u64 18446744069414584320) ∧ w = w' := by
  have q1 : IntKind.u64.wrap 4294967296 = 4294967296 := by decide
  have q2 : IntKind.u64.wrap 4294967295 = 4294967295 := by decide
  go_enter Tryz.func275, Tryz.ntmps275
  go_wp2_with (go_at_call 299; refine (rev_32 _).mono ?_; rintro e w' ⟨rfl, rfl⟩)
  go_ret
  exact ⟨rfl, rfl⟩
theorem revb_16 (w : World) : Calls Tryz.prog 317 #[.int .u64 65535] w fun e w' => e = .returned (.int .u64 18446462598732840960) ∧ w = w' := by
  obtain ⟨q0, q1, q2, q3, q4, q5, q6, q7, q8, q9, q10, q11, q12, q13, q14, q15, q16, q17, q18, q19, q20, q21, q22, q23, q24, q25, q26, q27⟩ := packPart2
  go_enter Tryz.func317, Tryz.ntmps317
  go_wp2
  go_ret
  exact ⟨rfl, rfl⟩
theorem rev_16 (w : World) : Calls Tryz.prog 299 #[.int .u64 65535] w fun e w' => e = .returned (.int .u64 18446462598732840960) ∧ w = w' := by
  obtain ⟨q0, q1, q2, q3, q4, q5, q6, q7, q8, q9, q10, q11, q12, q13, q14, q15, q16, q17, q18, q19, q20, q21, q22, q23, q24, q25, q26, q27⟩ := packPart2
  go_enter Tryz.func299, Tryz.ntmps299
  go_wp2_with (go_at_call 317; refine (revb_16 _).mono ?_; rintro e w' ⟨rfl, rfl⟩)
  go_ret
  exact ⟨rfl, rfl⟩
theorem top_16 (w : World) : Calls Tryz.prog 275 #[.int .i64 16] w fun e w' => e = .returned (.int .u64 18446462598732840960) ∧ w = w' := by
  have q1 : IntKind.u64.wrap 65536 = 65536 := by decide
  have q2 : IntKind.u64.wrap 65535 = 65535 := by decide
  go_enter Tryz.func275, Tryz.ntmps275
  go_wp2_with (go_at_call 299; refine (rev_16 _).mono ?_; rintro e w' ⟨rfl, rfl⟩)
  go_ret
  exact ⟨rfl, rfl⟩
/-- What is left of the address in a subnet of 16 bits. -/
def grp (c : Nat) : Int := 167772160 + 65536 * (Pm.kOf c : Int)
theorem and_grp16 : ∀ k : Fin 16, bits .and .u64 (167772161 + 65536 * (k.val : Int)) 4294901760 = 167772160 + 65536 * (k.val : Int) := by decide
theorem and_grp (c : Nat) : bits .and .u64 (loOf c) 4294901760 = grp c := and_grp16 ⟨Pm.kOf c, Nat.mod_lt _ (by decide)⟩
attribute [local go_sem] and_grp
theorem bits_any (c : Nat) (w : World) : Calls Tryz.prog 179 #[.agg (#[.bool false, .int .u64 0, .int .u64 (loOf c)])] w fun e w' => e = .returned (.int .i64 32) ∧ Below w.heap.size w w' := by
  go_enter Tryz.func179, Tryz.ntmps179
  go_wp2
  go_ret
  exact ⟨rfl, bk15⟩
theorem gbits_any (c : Nat) (w : World) : Calls Tryz.prog 323 #[.agg (#[.bool false, .int .u64 0, .int .u64 (loOf c)])] w fun e w' => e = .returned (.int .i64 16) ∧ Below w.heap.size w w' := by
  go_enter Tryz.func323, Tryz.ntmps323
  go_wp2
  go_ret
  exact ⟨rfl, bk15⟩
theorem mask_32 (c : Nat) (w : World) : Calls Tryz.prog 231 #[.agg (#[.bool false, .int .u64 0, .int .u64 (loOf c)]), .int .i64 32] w fun e w' => e = .returned (.agg (#[.bool false, .int .u64 0, .int .u64 (loOf c)])) ∧ Below w.heap.size w w' := by
  go_enter Tryz.func231, Tryz.ntmps231
  go_upto_region 5 with (first | (go_at_call 177; refine (addr_right c _).mono ?_; rintro e w1 ⟨rfl, hb⟩; have hk := Keep.mk hb; have xx := alk hk.out; (try have zz := zs w.heap.size w1.heap.size); clear hb) | (go_at_call 179; refine (bits_any c _).mono ?_; rintro e w1 ⟨rfl, hb⟩; have hk := Keep.mk hb; have xx := alk hk.out; (try have zz := zs w.heap.size w1.heap.size); clear hb))
  refine region_below [0, 1, 2, 3, 4, 5, 6] [7] (by kernel_rfl) (by kernel_rfl) (fun _ _ d _ _ h => by cases d <;> exact h) ?_
  simp only [PL]
  repeat (first
    | go_big_quiet_skip
    | (go_big_quiet_want
       apply class_op
       · intro W hS
         have xx := alk hS.out; (try have zz := zs w.heap.size W.heap.size)
         go_simp
         try first
           | with_reducible rfl
           | (go_at_call 275; refine (top_32 _).mono ?_; rintro e w' ⟨rfl, rfl⟩; exact ⟨rfl, hS⟩)
       go_big_quiet_on
       try simp only [PT]))
  exact tailPart1
theorem mask_16 (c : Nat) (w : World) : Calls Tryz.prog 231 #[.agg (#[.bool false, .int .u64 0, .int .u64 (loOf c)]), .int .i64 16] w fun e w' => e = .returned (.agg (#[.bool false, .int .u64 0, .int .u64 (grp c)])) ∧ Below w.heap.size w w' := by
  go_enter Tryz.func231, Tryz.ntmps231
  go_upto_region 5 with (first | (go_at_call 177; refine (addr_right c _).mono ?_; rintro e w1 ⟨rfl, hb⟩; have hk := Keep.mk hb; have xx := alk hk.out; (try have zz := zs w.heap.size w1.heap.size); clear hb) | (go_at_call 179; refine (bits_any c _).mono ?_; rintro e w1 ⟨rfl, hb⟩; have hk := Keep.mk hb; have xx := alk hk.out; (try have zz := zs w.heap.size w1.heap.size); clear hb))
  refine region_below [0, 1, 2, 3, 4, 5, 6] [7] (by kernel_rfl) (by kernel_rfl) (fun _ _ d _ _ h => by cases d <;> exact h) ?_
  simp only [PL]
  repeat (first
    | go_big_quiet_skip
    | (go_big_quiet_want
       apply class_op
       · intro W hS
         have xx := alk hS.out; (try have zz := zs w.heap.size W.heap.size)
         go_simp
         try first
           | with_reducible rfl
           | (go_at_call 275; refine (top_16 _).mono ?_; rintro e w' ⟨rfl, rfl⟩; exact ⟨rfl, hS⟩)
       go_big_quiet_on
       try simp only [PT]))
  exact tailPart1
theorem make_32 (c : Nat) (w : World) : Calls Tryz.prog 173 #[.agg (#[.bool false, .int .u64 0, .int .u64 (loOf c)]), .int .i64 32] w fun e w' => e = .returned (.tuple #[.agg (#[.bool false, .int .u64 0, .int .u64 (loOf c), .int .i64 32]), .bool true]) ∧ Below w.heap.size w w' := by
  go_enter Tryz.func173, Tryz.ntmps173
  go_wp2_with (first | (go_at_call 177; refine (addr_right c _).mono ?_; rintro e w1 ⟨rfl, hb⟩; have hk := Keep.mk hb; have xx := alk hk.out; (try have zz := zs w.heap.size w1.heap.size); clear hb) | (go_at_call 179; refine (bits_any c _).mono ?_; rintro e w1 ⟨rfl, hb⟩; have hk := Keep.mk hb; have xx := alk hk.out; (try have zz := zs w.heap.size w1.heap.size); clear hb) | (go_at_call 231; refine (mask_32 c _).mono ?_; rintro e w1 ⟨rfl, hb⟩; have hk := Keep.mk hb; have xx := alk hk.out; (try have zz := zs w.heap.size w1.heap.size); clear hb))
  exact bodyPost_ret (v := .tuple #[.agg _, _]) (res_row2 (t := 39) Tryz.results173 _ _ _ rfl (by simp [go_sem, *]) (by simp [go_sem, *]) info39 agg39) rfl ⟨rfl, bk15⟩
theorem full_any (c : Nat) (w : World) : Calls Tryz.prog 126 #[.agg (#[.bool false, .int .u64 0, .int .u64 (loOf c)])] w fun e w' => e = .returned (.agg (#[.bool false, .int .u64 0, .int .u64 (loOf c), .int .i64 32])) ∧ Below w.heap.size w w' := by
  go_enter Tryz.func126, Tryz.ntmps126
  go_wp2
  go_region_with (first | (go_at_call 179; refine (bits_any c _).mono ?_; rintro e w1 ⟨rfl, hb⟩; have hk := Keep.mk hb; have xx := alk hk.out; (try have zz := zs w.heap.size w1.heap.size); clear hb) | (go_at_call 173; refine (make_32 c _).mono ?_; rintro e w1 ⟨rfl, hb⟩; have hk := Keep.mk hb; have xx := alk hk.out; (try have zz := zs w.heap.size w1.heap.size); clear hb))
  all_goals go_wp2
  all_goals exact bodyPost_ret (v := .agg _) (res_row (t := 39) Tryz.results126 _ _ _ rfl (by simp [go_sem, *]) (by simp [go_sem, *]) info39 agg39) rfl ⟨rfl, bk15⟩
theorem make_16 (c : Nat) (w : World) : Calls Tryz.prog 173 #[.agg (#[.bool false, .int .u64 0, .int .u64 (loOf c)]), .int .i64 16] w fun e w' => e = .returned (.tuple #[.agg (#[.bool false, .int .u64 0, .int .u64 (grp c), .int .i64 16]), .bool true]) ∧ Below w.heap.size w w' := by
  go_enter Tryz.func173, Tryz.ntmps173
  go_wp2_with (first | (go_at_call 177; refine (addr_right c _).mono ?_; rintro e w1 ⟨rfl, hb⟩; have hk := Keep.mk hb; have xx := alk hk.out; (try have zz := zs w.heap.size w1.heap.size); clear hb) | (go_at_call 179; refine (bits_any c _).mono ?_; rintro e w1 ⟨rfl, hb⟩; have hk := Keep.mk hb; have xx := alk hk.out; (try have zz := zs w.heap.size w1.heap.size); clear hb) | (go_at_call 231; refine (mask_16 c _).mono ?_; rintro e w1 ⟨rfl, hb⟩; have hk := Keep.mk hb; have xx := alk hk.out; (try have zz := zs w.heap.size w1.heap.size); clear hb))
  exact bodyPost_ret (v := .tuple #[.agg _, _]) (res_row2 (t := 39) Tryz.results173 _ _ _ rfl (by simp [go_sem, *]) (by simp [go_sem, *]) info39 agg39) rfl ⟨rfl, bk15⟩
theorem group_any (c : Nat) (w : World) : Calls Tryz.prog 305 #[.agg (#[.bool false, .int .u64 0, .int .u64 (loOf c)])] w fun e w' => e = .returned (.agg (#[.bool false, .int .u64 0, .int .u64 (grp c), .int .i64 16])) ∧ Below w.heap.size w w' := by
  go_enter Tryz.func305, Tryz.ntmps305
  go_wp2
  go_region_with (first | (go_at_call 323; refine (gbits_any c _).mono ?_; rintro e w1 ⟨rfl, hb⟩; have hk := Keep.mk hb; have xx := alk hk.out; (try have zz := zs w.heap.size w1.heap.size); clear hb) | (go_at_call 173; refine (make_16 c _).mono ?_; rintro e w1 ⟨rfl, hb⟩; have hk := Keep.mk hb; have xx := alk hk.out; (try have zz := zs w.heap.size w1.heap.size); clear hb))
  all_goals go_wp2
  all_goals exact bodyPost_ret (v := .agg _) (res_row (t := 39) Tryz.results305 _ _ _ rfl (by simp [go_sem, *]) (by simp [go_sem, *]) info39 agg39) rfl ⟨rfl, bk15⟩
end Go.Proofs.YtnncjbkepakgpaaGreat
