/-
  MEMORY: DO.
-/
import Derived.Test.YtnncjbkepakgpaaGreatA07
import Derived.Test.YtnncjbkepakgpaaGreatA12
import Derived.Test.YtnncjbkepakgpaaGreatA26
import Derived.Test.YtnncjbkepakgpaaGreatA30
import Derived.Test.YtnncjbkepakgpaaGreatA31
import Derived.Test.YtnncjbkepakgpaaGreatA14
namespace Go.Proofs.YtnncjbkepakgpaaGreat
set_option linter.unusedVariables false
set_option linter.unusedSimpArgs false
set_option maxRecDepth 100000
set_option maxHeartbeats 2000000
open Go.RowKit
attribute [local go_sem ↓] exec_load_47 exec_store_47 exec_load_186 exec_store_186 exec_load_105 exec_store_105 exec_load_103 exec_store_103 exec_load_101 exec_store_101
attribute [local go_sem] run_load47r run_store47i run_load186r run_store186i run_load105r run_store105i run_load103r run_store103i run_load101r run_store101i lt_up isRng_new rngOf_new isRange_past rangeOf_past isRange_drew rangeOf_drew fits_new fits_past fits_drew setAt_new setAt_past setAt_drew putAt_whole putAt_lit extract_whole extract_lit one_int one_bool one_slice one_ptr ones_lit onesL_nil onesL_cons isRow_new rowOf_new isRow_past rowOf_past isRow_drew rowOf_drew lt2 lt3 lt4 List.take_succ_cons List.take_zero List.drop_succ_cons List.drop_zero List.cons_append List.nil_append List.length_cons List.length_nil List.size_toArray setRow_new setRow_past own_cell own_frozen own_set own_isRange own_rangeOf own_fits setAt_row sr_sr sr_size sr_row sr_row' sr_isRow sr_isRow' sr_fits' sr_cell' sr_frozen' sr_isRange' sr_rangeOf' sr_isCells isCells_new isCells_past isCells_drew valC_size valC_ones opC_size opC_ones replyC_size srs_isRange srs_rangeOf srs_fits srs_cell srs_frozen
attribute [local go_sem high] drew_size4
attribute [local simp high] drew_size4
theorem packDo1 {p : Prop} (h : PQ p := by
  have bCg1 := isCells_row bRg1
  have bLg1 : (w.heap.size + 1) < ((w2.alloc (.cells (#[.int .i64 by', .slice a' m' c']) 186))).heap.size := bk1
  have bRg2 : isRow (w2.alloc (.cells (#[.int .i64 by', .slice a' m' c']) 186)) (w.heap.size + 1 + 1) 3 1 = true := by go_simp
  have bVg2 : rowOf (w2.alloc (.cells (#[.int .i64 by', .slice a' m' c']) 186)) (w.heap.size + 1 + 1) = #[.int .i64 who] := by go_simp
  have bCg2 := isCells_row bRg2
  have bLg2 : (w.heap.size + 1 + 1) < ((w2.alloc (.cells (#[.int .i64 by', .slice a' m' c']) 186))).heap.size := bk1
  have bRg3 : isRow (w2.alloc (.cells (#[.int .i64 by', .slice a' m' c']) 186)) (w.heap.size + 1 + 1 + 1) 47 6 = true := by go_simp
  have bVg3 : rowOf (w2.alloc (.cells (#[.int .i64 by', .slice a' m' c']) 186)) (w.heap.size + 1 + 1 + 1) = #[.int .i64 0, .int .i64 0, .slice none 0 0, .slice none 0 0, .slice none 0 0, .slice none 0 0] := by go_simp
  have bCg3 := isCells_row bRg3
  have bLg3 : (w.heap.size + 1 + 1 + 1) < ((w2.alloc (.cells (#[.int .i64 by', .slice a' m' c']) 186))).heap.size := bk1
  have bRg4 : isRow (w2.alloc (.cells (#[.int .i64 by', .slice a' m' c']) 186)) (w.heap.size + 1 + 1 + 1 + 1) 103 13 = true := by go_simp
  have bVg4 : rowOf (w2.alloc (.cells (#[.int .i64 by', .slice a' m' c']) 186)) (w.heap.size + 1 + 1 + 1 + 1) = #[.int .i64 0, .bool false, .int .u64 0, .int .u64 0, .int .i64 0, .bool false, .int .i64 0, .int .i64 0, .int .i64 0, .int .i64 0, .int .i64 0, .slice none 0 0, .slice none 0 0] := by go_simp
  have bCg4 := isCells_row bRg4
  have bLg4 : (w.heap.size + 1 + 1 + 1 + 1) < ((w2.alloc (.cells (#[.int .i64 by', .slice a' m' c']) 186))).heap.size := bk1
  have bw8 : Below w.heap.size w (w2.alloc (.cells (#[.int .i64 by', .slice a' m' c']) 186)) := bk0
  exact pq (And.intro bCg1 (And.intro bLg1 (And.intro bRg2 (And.intro bVg2 (And.intro bCg2 (And.intro bLg2 (And.intro bRg3 (And.intro bVg3 (And.intro bCg3 (And.intro bLg3 (And.intro bRg4 (And.intro bVg4 (And.intro bCg4 (And.intro bLg4 bw8))))))))))))))) : p := h
theorem packDo2 {p : Prop} (h : PQ p := by
  have bCb1 := isCells_row bRb1
  have bLb1 : (w.heap.size + 1) < (w2).heap.size := bk1
  have bRb2 : isRow w2 (w.heap.size + 1 + 1) 3 1 = true := by go_simp
  have bVb2 : rowOf w2 (w.heap.size + 1 + 1) = #[.int .i64 who] := by go_simp
  have bCb2 := isCells_row bRb2
  have bLb2 : (w.heap.size + 1 + 1) < (w2).heap.size := bk1
  have bRb3 : isRow w2 (w.heap.size + 1 + 1 + 1) 47 6 = true := by go_simp
  have bVb3 : rowOf w2 (w.heap.size + 1 + 1 + 1) = #[.int .i64 0, .int .i64 0, .slice none 0 0, .slice none 0 0, .slice none 0 0, .slice none 0 0] := by go_simp
  have bCb3 := isCells_row bRb3
  have bLb3 : (w.heap.size + 1 + 1 + 1) < (w2).heap.size := bk1
  have bRb4 : isRow w2 (w.heap.size + 1 + 1 + 1 + 1) 103 13 = true := by go_simp
  have bVb4 : rowOf w2 (w.heap.size + 1 + 1 + 1 + 1) = #[.int .i64 0, .bool false, .int .u64 0, .int .u64 0, .int .i64 0, .bool false, .int .i64 0, .int .i64 0, .int .i64 0, .int .i64 0, .int .i64 0, .slice none 0 0, .slice none 0 0] := by go_simp
  have bCb4 := isCells_row bRb4
  have bLb4 : (w.heap.size + 1 + 1 + 1 + 1) < (w2).heap.size := bk1
  exact pq (And.intro bCb1 (And.intro bLb1 (And.intro bRb2 (And.intro bVb2 (And.intro bCb2 (And.intro bLb2 (And.intro bRb3 (And.intro bVb3 (And.intro bCb3 (And.intro bLb3 (And.intro bRb4 (And.intro bVb4 (And.intro bCb4 bLb4)))))))))))))) : p := h
theorem packDo3 {p : Prop} (h : PQ p := by
  have bC1 := isCells_row bR1
  have bL1 : (w.heap.size + 1) < (w1).heap.size := bk1
  have bR2 : isRow w1 (w.heap.size + 1 + 1) 3 1 = true := by go_simp
  have bV2 : rowOf w1 (w.heap.size + 1 + 1) = #[.int .i64 who] := by go_simp
  have bC2 := isCells_row bR2
  have bL2 : (w.heap.size + 1 + 1) < (w1).heap.size := bk1
  have bR3 : isRow w1 (w.heap.size + 1 + 1 + 1) 47 6 = true := by go_simp
  have bV3 : rowOf w1 (w.heap.size + 1 + 1 + 1) = #[.int .i64 0, .int .i64 0, .slice none 0 0, .slice none 0 0, .slice none 0 0, .slice none 0 0] := by go_simp
  have bC3 := isCells_row bR3
  have bL3 : (w.heap.size + 1 + 1 + 1) < (w1).heap.size := bk1
  have bR4 : isRow w1 (w.heap.size + 1 + 1 + 1 + 1) 103 13 = true := by go_simp
  have bV4 : rowOf w1 (w.heap.size + 1 + 1 + 1 + 1) = #[.int .i64 0, .bool false, .int .u64 0, .int .u64 0, .int .i64 0, .bool false, .int .i64 0, .int .i64 0, .int .i64 0, .int .i64 0, .int .i64 0, .slice none 0 0, .slice none 0 0] := by go_simp
  have bC4 := isCells_row bR4
  have bL4 : (w.heap.size + 1 + 1 + 1 + 1) < (w1).heap.size := bk1
  exact pq (And.intro bC1 (And.intro bL1 (And.intro bR2 (And.intro bV2 (And.intro bC2 (And.intro bL2 (And.intro bR3 (And.intro bV3 (And.intro bC3 (And.intro bL3 (And.intro bR4 (And.intro bV4 (And.intro bC4 bL4)))))))))))))) : p := h
theorem packDo4 {p : Prop} (h : PQ p := by
  have ne1 : ¬ (w.heap.size + 1 = w.heap.size) := by omega
  have en1 : ¬ (w.heap.size = w.heap.size + 1) := by omega
  have ne2 : ¬ (w.heap.size + 1 + 1 = w.heap.size) := by omega
  have en2 : ¬ (w.heap.size = w.heap.size + 1 + 1) := by omega
  have ne3 : ¬ (w.heap.size + 1 + 1 + 1 = w.heap.size) := by omega
  have en3 : ¬ (w.heap.size = w.heap.size + 1 + 1 + 1) := by omega
  have ne4 : ¬ (w.heap.size + 1 + 1 + 1 + 1 = w.heap.size) := by omega
  have en4 : ¬ (w.heap.size = w.heap.size + 1 + 1 + 1 + 1) := by omega
  have ne5 : ¬ (w.heap.size + 1 + 1 + 1 + 1 + 1 = w.heap.size) := by omega
  have en5 : ¬ (w.heap.size = w.heap.size + 1 + 1 + 1 + 1 + 1) := by omega
  exact pq (And.intro ne1 (And.intro en1 (And.intro ne2 (And.intro en2 (And.intro ne3 (And.intro en3 (And.intro ne4 (And.intro en4 (And.intro ne5 en5)))))))))) : p := h
theorem packDo5 {p : Prop} (h : PQ p := by
  have c3R : isRow w4 (w.heap.size + 1 + 1 + 1) 47 6 = true := (x1d _ _ _ bLg3).trans bRg3
  have c3V : rowOf w4 (w.heap.size + 1 + 1 + 1) = #[.int .i64 0, .int .i64 0, .slice none 0 0, .slice none 0 0, .slice none 0 0, .slice none 0 0] := (x2d _ bLg3).trans bVg3
  have c3C := isCells_row c3R
  have c4R : isRow w4 (w.heap.size + 1 + 1 + 1 + 1) 103 13 = true := (x1d _ _ _ bLg4).trans bRg4
  have c4V : rowOf w4 (w.heap.size + 1 + 1 + 1 + 1) = #[.int .i64 0, .bool false, .int .u64 0, .int .u64 0, .int .i64 0, .bool false, .int .i64 0, .int .i64 0, .int .i64 0, .int .i64 0, .int .i64 0, .slice none 0 0, .slice none 0 0] := (x2d _ bLg4).trans bVg4
  have c4C := isCells_row c4R
  exact pq (And.intro c3R (And.intro c3V (And.intro c3C (And.intro c4R (And.intro c4V c4C)))))) : p := h
theorem packDo6 {p : Prop} (h : PQ p := by
  have bRg0 : isRow (w2.alloc (.cells (#[.int .i64 by', .slice a' m' c']) 186)) (w.heap.size) 47 6 = true := by go_simp
  have bVg0 : rowOf (w2.alloc (.cells (#[.int .i64 by', .slice a' m' c']) 186)) (w.heap.size) = #[.int .i64 inn, .int .i64 0, .slice none 0 0, .slice none 0 0, .slice aS S cS, .slice aL CL.length cL] := by go_simp
  have bCg0 := isCells_row bRg0
  have bLg0 : (w.heap.size) < ((w2.alloc (.cells (#[.int .i64 by', .slice a' m' c']) 186))).heap.size := bk1
  have bRg1 : isRow (w2.alloc (.cells (#[.int .i64 by', .slice a' m' c']) 186)) (w.heap.size + 1) 105 21 = true := by go_simp
  exact pq (And.intro bRg0 (And.intro bVg0 (And.intro bCg0 (And.intro bLg0 bRg1))))) : p := h
theorem packDo7 {p : Prop} (h : PQ p := by
  have bRb0 : isRow w2 (w.heap.size) 47 6 = true := by go_simp
  have bVb0 : rowOf w2 (w.heap.size) = #[.int .i64 inn, .int .i64 0, .slice none 0 0, .slice none 0 0, .slice aS S cS, .slice aL CL.length cL] := by go_simp
  have bCb0 := isCells_row bRb0
  have bLb0 : (w.heap.size) < (w2).heap.size := bk1
  have bRb1 : isRow w2 (w.heap.size + 1) 105 21 = true := by go_simp
  exact pq (And.intro bRb0 (And.intro bVb0 (And.intro bCb0 (And.intro bLb0 bRb1))))) : p := h
theorem packDo8 {p : Prop} (h : PQ p := by
  have bR0 : isRow w1 (w.heap.size) 47 6 = true := by go_simp
  have bV0 : rowOf w1 (w.heap.size) = #[.int .i64 inn, .int .i64 0, .slice none 0 0, .slice none 0 0, .slice aS S cS, .slice aL CL.length cL] := by go_simp
  have bC0 := isCells_row bR0
  have bL0 : (w.heap.size) < (w1).heap.size := bk1
  have bR1 : isRow w1 (w.heap.size + 1) 105 21 = true := by go_simp
  exact pq (And.intro bR0 (And.intro bV0 (And.intro bC0 (And.intro bL0 bR1))))) : p := h
theorem packDo9 {p : Prop} (h : PQ p := by
  have HL := Lib.hid (fun (W : World) (b : Below w.heap.size w W) => lock_law inn aS S cS 0 _ CL _ hk W (H.out.below b))
  exact pq (HL)) : p := h
theorem packDo10 {p : Prop} (h : PQ p := by
  have bCc1 := isCells_row bRc1
  have bLc1 : (w.heap.size + 1) < (w3).heap.size := bk1
  have bRc2 : isRow w3 (w.heap.size + 1 + 1) 3 1 = true := by go_simp
  have bVc2 : rowOf w3 (w.heap.size + 1 + 1) = #[.int .i64 who] := by go_simp
  have bCc2 := isCells_row bRc2
  have bLc2 : (w.heap.size + 1 + 1) < (w3).heap.size := bk1
  have bRc3 : isRow w3 (w.heap.size + 1 + 1 + 1) 47 6 = true := by go_simp
  have bVc3 : rowOf w3 (w.heap.size + 1 + 1 + 1) = #[.int .i64 0, .int .i64 0, .slice none 0 0, .slice none 0 0, .slice none 0 0, .slice none 0 0] := by go_simp
  have bCc3 := isCells_row bRc3
  have bLc3 : (w.heap.size + 1 + 1 + 1) < (w3).heap.size := bk1
  have bRc4 : isRow w3 (w.heap.size + 1 + 1 + 1 + 1) 103 13 = true := by go_simp
  have bVc4 : rowOf w3 (w.heap.size + 1 + 1 + 1 + 1) = #[.int .i64 0, .bool false, .int .u64 0, .int .u64 0, .int .i64 0, .bool false, .int .i64 0, .int .i64 0, .int .i64 0, .int .i64 0, .int .i64 0, .slice none 0 0, .slice none 0 0] := by go_simp
  have bCc4 := isCells_row bRc4
  have bLc4 : (w.heap.size + 1 + 1 + 1 + 1) < (w3).heap.size := bk1
  exact pq (And.intro bCc1 (And.intro bLc1 (And.intro bRc2 (And.intro bVc2 (And.intro bCc2 (And.intro bLc2 (And.intro bRc3 (And.intro bVc3 (And.intro bCc3 (And.intro bLc3 (And.intro bRc4 (And.intro bVc4 (And.intro bCc4 bLc4)))))))))))))) : p := h
theorem packDo11 {p : Prop} (h : PQ p := by
  have hkb := Keep.mk hb
  have xxb := alk hkb.out; (try have zzb := zs w.heap.size w2.heap.size)
  exact pq (And.intro hkb xxb)) : p := h
theorem packDo12 {p : Prop} (h : PQ p := by
  have hk := Keep.mk hb
  have xx := alk hk.out; (try have zz := zs w.heap.size w1.heap.size)
  exact pq (And.intro hk xx)) : p := h
theorem packDo13 {p : Prop} (h : PQ p := by
  have c3R : isRow w5 (w.heap.size + 1 + 1 + 1) 47 6 = true := (x1d _ _ _ bLg3).trans bRg3
  have c3V : rowOf w5 (w.heap.size + 1 + 1 + 1) = #[.int .i64 0, .int .i64 0, .slice none 0 0, .slice none 0 0, .slice none 0 0, .slice none 0 0] := (x2d _ bLg3).trans bVg3
  have c3C := isCells_row c3R
  have c4R : isRow w5 (w.heap.size + 1 + 1 + 1 + 1) 103 13 = true := (x1d _ _ _ bLg4).trans bRg4
  have c4V : rowOf w5 (w.heap.size + 1 + 1 + 1 + 1) = #[.int .i64 0, .bool false, .int .u64 0, .int .u64 0, .int .i64 0, .bool false, .int .i64 0, .int .i64 0, .int .i64 0, .int .i64 0, .int .i64 0, .slice none 0 0, .slice none 0 0] := (x2d _ bLg4).trans bVg4
  have c4C := isCells_row c4R
  exact pq (And.intro c3R (And.intro c3V (And.intro c3C (And.intro c4R (And.intro c4V c4C)))))) : p := h
theorem packDo14 {p : Prop} (h : PQ p := by
  have n80 : ¬ (w2.heap.size = (w.heap.size)) := by omega
  have n81 : ¬ (w2.heap.size = (w.heap.size + 1)) := by omega
  have n82 : ¬ (w2.heap.size = (w.heap.size + 1 + 1)) := by omega
  have n83 : ¬ (w2.heap.size = (w.heap.size + 1 + 1 + 1)) := by omega
  have n84 : ¬ (w2.heap.size = (w.heap.size + 1 + 1 + 1 + 1)) := by omega
  have m80 : ¬ ((w.heap.size) = w2.heap.size) := by omega
  have m81 : ¬ ((w.heap.size + 1) = w2.heap.size) := by omega
  have m82 : ¬ ((w.heap.size + 1 + 1) = w2.heap.size) := by omega
  have m83 : ¬ ((w.heap.size + 1 + 1 + 1) = w2.heap.size) := by omega
  have m84 : ¬ ((w.heap.size + 1 + 1 + 1 + 1) = w2.heap.size) := by omega
  exact pq (And.intro n80 (And.intro n81 (And.intro n82 (And.intro n83 (And.intro n84 (And.intro m80 (And.intro m81 (And.intro m82 (And.intro m83 m84)))))))))) : p := h
theorem packDo15 {p : Prop} (h : PQ p := by
  have HL := Lib.hid (fun (W : World) (b : Below w.heap.size w W) => lock_law inn aS S cS k _ CL _ hk W (H.out.below b))
  have hwr : IntKind.i64.wrap ((who : Int) + 1) = ((who + 1 : Nat) : Int) := by rw [IntKind.wrap_i64]; omega
  exact pq (And.intro HL hwr)) : p := h
theorem packDo16 {p : Prop} (h : PQ p := by
  have bVg1 : rowOf (w2.alloc (.cells (#[.int .i64 by', .slice a' m' c']) 186)) (w.heap.size + 1) = #[.int .i64 7, .int .i64 0, .int .i64 1, .int .i64 0, .int .i64 0, .int .i64 n, .int .i64 (n + 1), .int .i64 0, .bool false, .int .u64 0, .int .u64 0, .int .i64 0, .bool false, .int .i64 0, .int .i64 0, .int .i64 0, .int .i64 0, .int .i64 0, .slice none 0 0, .slice none 0 0, .bool true] := by go_simp
  exact pq (bVg1)) : p := h
theorem packDo17 {p : Prop} (h : PQ p := by
  have bVg1 : rowOf (w2.alloc (.cells (#[.int .i64 by', .slice a' m' c']) 186)) (w.heap.size + 1) = #[.int .i64 5, .int .i64 0, .int .i64 6, .int .i64 p, .int .i64 i, .int .i64 0, .int .i64 0, .int .i64 0, .bool false, .int .u64 0, .int .u64 0, .int .i64 0, .bool false, .int .i64 0, .int .i64 0, .int .i64 0, .int .i64 0, .int .i64 0, .slice none 0 0, .slice none 0 0, .bool false] := by go_simp
  exact pq (bVg1)) : p := h
theorem packDo18 {p : Prop} (h : PQ p := by
  have bV1 : rowOf w1 (w.heap.size + 1) = #[.int .i64 7, .int .i64 0, .int .i64 1, .int .i64 0, .int .i64 0, .int .i64 n, .int .i64 (n + 1), .int .i64 0, .bool false, .int .u64 0, .int .u64 0, .int .i64 0, .bool false, .int .i64 0, .int .i64 0, .int .i64 0, .int .i64 0, .int .i64 0, .slice none 0 0, .slice none 0 0, .bool true] := by go_simp
  exact pq (bV1)) : p := h
theorem packDo19 {p : Prop} (h : PQ p := by
  have bVb1 : rowOf w2 (w.heap.size + 1) = #[.int .i64 7, .int .i64 0, .int .i64 1, .int .i64 0, .int .i64 0, .int .i64 n, .int .i64 (n + 1), .int .i64 0, .bool false, .int .u64 0, .int .u64 0, .int .i64 0, .bool false, .int .i64 0, .int .i64 0, .int .i64 0, .int .i64 0, .int .i64 0, .slice none 0 0, .slice none 0 0, .bool true] := by go_simp
  exact pq (bVb1)) : p := h
theorem packDo20 {p : Prop} (h : PQ p := by
  have bV1 : rowOf w1 (w.heap.size + 1) = #[.int .i64 5, .int .i64 0, .int .i64 6, .int .i64 p, .int .i64 i, .int .i64 0, .int .i64 0, .int .i64 0, .bool false, .int .u64 0, .int .u64 0, .int .i64 0, .bool false, .int .i64 0, .int .i64 0, .int .i64 0, .int .i64 0, .int .i64 0, .slice none 0 0, .slice none 0 0, .bool false] := by go_simp
  exact pq (bV1)) : p := h
theorem packDo21 {p : Prop} (h : PQ p := by
  have bVb1 : rowOf w2 (w.heap.size + 1) = #[.int .i64 5, .int .i64 0, .int .i64 6, .int .i64 p, .int .i64 i, .int .i64 0, .int .i64 0, .int .i64 0, .bool false, .int .u64 0, .int .u64 0, .int .i64 0, .bool false, .int .i64 0, .int .i64 0, .int .i64 0, .int .i64 0, .int .i64 0, .slice none 0 0, .slice none 0 0, .bool false] := by go_simp
  exact pq (bVb1)) : p := h
theorem packDo22 {p : Prop} (h : PQ p := by
  have hk4 := Keep.mk hb
  have b4 : Below W8.heap.size W8 w4 := ((Below.refl W8.heap.size W8).drew).trans hb
  exact pq (And.intro hk4 b4)) : p := h
theorem packDo23 {p : Prop} (h : PQ p := by
  have bRc0 : isRow w3 (w.heap.size) 47 6 = true := by go_simp
  have bVc0 : rowOf w3 (w.heap.size) = #[.int .i64 inn, .int .i64 0, .slice none 0 0, .slice none 0 0, .slice aS S cS, .slice aL CL.length cL] := by go_simp
  have bCc0 := isCells_row bRc0
  have bLc0 : (w.heap.size) < (w3).heap.size := bk1
  have bRc1 : isRow w3 (w.heap.size + 1) 105 21 = true := by go_simp
  exact pq (And.intro bRc0 (And.intro bVc0 (And.intro bCc0 (And.intro bLc0 bRc1))))) : p := h
theorem tailDo1 {p : Prop} (h : p := by
  clear hk
  unfold opC at *
  go_enter Tryz.func52, Tryz.ntmps52
  go_wp2_with fail
  refine (HM.out _ (bk0)).mono ?_
  rintro e w1 ⟨rfl, hb⟩
  obtain ⟨hk, xx⟩ := packDo12
  clear hb
  obtain ⟨bR0, bV0, bC0, bL0, bR1⟩ := packDo8
  have bV1 : rowOf w1 (w.heap.size + 1) = #[.int .i64 3, .int .i64 k, .int .i64 0, .int .i64 0, .int .i64 0, .int .i64 0, .int .i64 0, .int .i64 0, .bool false, .int .u64 0, .int .u64 0, .int .i64 0, .bool false, .int .i64 0, .int .i64 0, .int .i64 0, .int .i64 0, .int .i64 0, .slice none 0 0, .slice none 0 0, .bool m] := by go_simp
  obtain ⟨bC1, bL1, bR2, bV2, bC2, bL2, bR3, bV3, bC3, bL3, bR4, bV4, bC4, bL4⟩ := packDo3
  (try clear xx); (try clear zz)
  go_wp2_with fail
  refine (HL.out _ (bk0)).mono ?_
  rintro e w2 ⟨rfl, hb⟩
  obtain ⟨hkb, xxb⟩ := packDo11
  clear hb
  obtain ⟨bRb0, bVb0, bCb0, bLb0, bRb1⟩ := packDo7
  have bVb1 : rowOf w2 (w.heap.size + 1) = #[.int .i64 3, .int .i64 k, .int .i64 0, .int .i64 0, .int .i64 0, .int .i64 0, .int .i64 0, .int .i64 0, .bool false, .int .u64 0, .int .u64 0, .int .i64 0, .bool false, .int .i64 0, .int .i64 0, .int .i64 0, .int .i64 0, .int .i64 0, .slice none 0 0, .slice none 0 0, .bool m] := by go_simp
  obtain ⟨bCb1, bLb1, bRb2, bVb2, bCb2, bLb2, bRb3, bVb3, bCb3, bLb3, bRb4, bVb4, bCb4, bLb4⟩ := packDo2
  (try clear xxb); (try clear zzb)
  go_wp2_with fail
  refine (HK.out _ (bk0)).mono ?_
  rintro e w3 ⟨v3, rfl, hs3, hq3, hb⟩
  have hkc := Keep.mk hb
  have xxc := alk hkc.out; (try have zzc := zs w.heap.size w3.heap.size)
  clear hb
  obtain ⟨a3, c3, rfl, -⟩ := id hs3
  simp only [List.length_set] at hs3 hq3 ⊢
  have HS3 := Lib.hid hs3
  have HQ3 := Lib.hid hq3
  clear hs3 hq3
  obtain ⟨bRc0, bVc0, bCc0, bLc0, bRc1⟩ := packDo23
  have bVc1 : rowOf w3 (w.heap.size + 1) = #[.int .i64 3, .int .i64 k, .int .i64 0, .int .i64 0, .int .i64 0, .int .i64 0, .int .i64 0, .int .i64 0, .bool false, .int .u64 0, .int .u64 0, .int .i64 0, .bool false, .int .i64 0, .int .i64 0, .int .i64 0, .int .i64 0, .int .i64 0, .slice none 0 0, .slice none 0 0, .bool m] := by go_simp
  obtain ⟨bCc1, bLc1, bRc2, bVc2, bCc2, bLc2, bRc3, bVc3, bCc3, bLc3, bRc4, bVc4, bCc4, bLc4⟩ := packDo10
  (try clear xxc); (try clear zzc)
  go_wp2
  refine bodyPost_ret (v := .tuple #[.agg (#[.int .i64 inn, .int .i64 0, .slice none 0 0, .slice none 0 0, .slice aS S cS, .slice a3 CL.length c3]), .agg (#[.int .i64 0, .bool false, .int .u64 0, .int .u64 0, .int .i64 0, .bool false, .int .i64 0, .int .i64 0, .int .i64 0, .int .i64 0, .int .i64 0, .slice none 0 0, .slice none 0 0])]) (res_rows (t := 47) (t' := 103) Tryz.results52 _ _ _ _ rfl rfl ?_ ?_ info47 agg47 ?_ ?_ info103 agg103) rfl ?_
  · go_simp
  · go_simp
  · go_simp
  · (first | (go_simp; done) | (go_simp; rfl))
  exact ⟨_, rfl, (HS3.out.upto (upto_own (Upto.refl (w.heap.size + 1 + 1 + 1) _) _) (fun e => bk37)).upto (upto_own (Upto.refl (w.heap.size + 1 + 1 + 1 + 1) _) _) (fun e => bk37), (fun q hq => by have := HQ3.out q hq; simp at this; omega), bk0⟩) : p := h
theorem tailDo2 {p : Prop} (h : p := by
  rintro e w4 ⟨rfl, hb⟩
  obtain ⟨hk4, b4⟩ := packDo22
  obtain ⟨x1d, x2d, x3d, x4d, x5d, x6d, x7d, x8d, x9d, x10d, y9d⟩ := alk b4; (try have zzd := zs w.heap.size w4.heap.size)
  clear hb
  obtain ⟨c3R, c3V, c3C, c4R, c4V, c4C⟩ := packDo5
  (try clear x1d x2d x3d x4d x5d x6d x7d x8d x9d x10d y9d); (try clear zzd)
  go_wp2
  refine chain_on (bk26) ?_
  refine treeZ_one 5 (by kernel_rfl) (by kernel_rfl) ?_
  simp only [nthL]
  go_wp2_with fail
  refine chain_on (bk26) ?_
  refine treeZ_last 6 rfl (by kernel_rfl) (by kernel_rfl) ?_
  simp only [nthL]
  go_wp2_with fail
  refine chain_on trivial ?_
  refine treeZ_end (by kernel_rfl) ?_
  go_wp2
  refine bodyPost_ret (v := .tuple #[.agg (#[.int .i64 inn, .int .i64 0, .slice none 0 0, .slice none 0 0, .slice aS S cS, .slice aL CL.length cL]), .agg (#[.int .i64 0, .bool false, .int .u64 0, .int .u64 0, .int .i64 0, .bool false, .int .i64 0, .int .i64 0, .int .i64 0, .int .i64 0, .int .i64 0, .slice none 0 0, .slice none 0 0])]) (res_rows (t := 47) (t' := 103) Tryz.results52 _ _ _ _ rfl rfl ?_ ?_ info47 agg47 ?_ ?_ info103 agg103) rfl ?_
  · go_simp
  · go_simp
  · go_simp
  · (first | (go_simp; done) | (go_simp; rfl))
  exact ⟨rfl, below_setRow (below_setRow (bw8.trans (b4.mono (by have := bLg0; omega))) (by omega) _) (by omega) _⟩) : p := h
theorem do_lock (S : Nat) (h0 : 1 ≤ S) (h1 : S ≤ 8) (k : Nat) (inn : Int) (aS : Option Addr) (cS : Nat) (vL : Value) (CL : List (Array Value)) (who : Nat) (hw : who ≤ 100) (hl : CL.length ≤ 1000) (hp : k ≤ S + 1) (c' : Nat) (a' : Option Addr) (hk : CL[k]? = some #[.int .i64 (0 : Nat), .slice a' 0 c']) (w : World) (h : Sl w vL 2 CL)  : Calls Tryz.prog 52 #[.agg (#[.int .i64 inn, .int .i64 0, .slice none 0 0, .slice none 0 0, .slice aS S cS, vL]), .agg (opC (.lock k)), .int .i64 who] w fun e w' => ∃ vL', e = .returned (.tuple #[.agg (#[.int .i64 inn, .int .i64 0, .slice none 0 0, .slice none 0 0, .slice aS S cS, vL']), .agg (valC (.num 0))]) ∧ Sl w' vL' 2 (CL.set k #[.int .i64 ((who + 1 : Nat) : Int), .slice a' 0 c']) ∧ (∀ q, vL'.ownBlock = some q → w.heap.size ≤ q) ∧ Below w.heap.size w w' := by
  have H := Lib.hid h
  obtain ⟨aL, cL, rfl, -⟩ := id h
  clear h
  have HM := Lib.hid (fun (W : World) (b : Below w.heap.size w W) => may_lock_y k S h0 h1 hp inn aS cS 0 0 c' a' _ CL hk rfl rfl who W (H.out.below b))
  obtain ⟨HL, hwr⟩ := packDo15
  have HK := Lib.hid (fun (W : World) (b : Below w.heap.size w W) => locked_law inn aS S cS k _ CL (#[.int .i64 ((who + 1 : Nat) : Int), .slice a' 0 c']) rfl rfl (List.getElem?_eq_some_iff.1 hk).1 hl W (H.out.below b))
  clear hk
  unfold opC at *
  go_enter Tryz.func52, Tryz.ntmps52
  go_wp2_with fail
  refine (HM.out _ (bk0)).mono ?_
  rintro e w1 ⟨rfl, hb⟩
  obtain ⟨hk, xx⟩ := packDo12
  clear hb
  obtain ⟨bR0, bV0, bC0, bL0, bR1⟩ := packDo8
  have bV1 : rowOf w1 (w.heap.size + 1) = #[.int .i64 1, .int .i64 k, .int .i64 0, .int .i64 0, .int .i64 0, .int .i64 0, .int .i64 0, .int .i64 0, .bool false, .int .u64 0, .int .u64 0, .int .i64 0, .bool false, .int .i64 0, .int .i64 0, .int .i64 0, .int .i64 0, .int .i64 0, .slice none 0 0, .slice none 0 0, .bool false] := by go_simp
  obtain ⟨bC1, bL1, bR2, bV2, bC2, bL2, bR3, bV3, bC3, bL3, bR4, bV4, bC4, bL4⟩ := packDo3
  (try clear xx); (try clear zz)
  go_wp2_with fail
  refine (HL.out _ (bk0)).mono ?_
  rintro e w2 ⟨rfl, hb⟩
  obtain ⟨hkb, xxb⟩ := packDo11
  clear hb
  obtain ⟨bRb0, bVb0, bCb0, bLb0, bRb1⟩ := packDo7
  have bVb1 : rowOf w2 (w.heap.size + 1) = #[.int .i64 1, .int .i64 k, .int .i64 0, .int .i64 0, .int .i64 0, .int .i64 0, .int .i64 0, .int .i64 0, .bool false, .int .u64 0, .int .u64 0, .int .i64 0, .bool false, .int .i64 0, .int .i64 0, .int .i64 0, .int .i64 0, .int .i64 0, .slice none 0 0, .slice none 0 0, .bool false] := by go_simp
  obtain ⟨bCb1, bLb1, bRb2, bVb2, bCb2, bLb2, bRb3, bVb3, bCb3, bLb3, bRb4, bVb4, bCb4, bLb4⟩ := packDo2
  (try clear xxb); (try clear zzb)
  go_wp2_with fail
  refine (HK.out _ (bk0)).mono ?_
  rintro e w3 ⟨v3, rfl, hs3, hq3, hb⟩
  have hkc := Keep.mk hb
  have xxc := alk hkc.out; (try have zzc := zs w.heap.size w3.heap.size)
  clear hb
  obtain ⟨a3, c3, rfl, -⟩ := id hs3
  simp only [List.length_set] at hs3 hq3 ⊢
  have HS3 := Lib.hid hs3
  have HQ3 := Lib.hid hq3
  clear hs3 hq3
  obtain ⟨bRc0, bVc0, bCc0, bLc0, bRc1⟩ := packDo23
  have bVc1 : rowOf w3 (w.heap.size + 1) = #[.int .i64 1, .int .i64 k, .int .i64 0, .int .i64 0, .int .i64 0, .int .i64 0, .int .i64 0, .int .i64 0, .bool false, .int .u64 0, .int .u64 0, .int .i64 0, .bool false, .int .i64 0, .int .i64 0, .int .i64 0, .int .i64 0, .int .i64 0, .slice none 0 0, .slice none 0 0, .bool false] := by go_simp
  obtain ⟨bCc1, bLc1, bRc2, bVc2, bCc2, bLc2, bRc3, bVc3, bCc3, bLc3, bRc4, bVc4, bCc4, bLc4⟩ := packDo10
  (try clear xxc); (try clear zzc)
  go_wp2
  refine bodyPost_ret (v := .tuple #[.agg (#[.int .i64 inn, .int .i64 0, .slice none 0 0, .slice none 0 0, .slice aS S cS, .slice a3 CL.length c3]), .agg (#[.int .i64 0, .bool false, .int .u64 0, .int .u64 0, .int .i64 0, .bool false, .int .i64 0, .int .i64 0, .int .i64 0, .int .i64 0, .int .i64 0, .slice none 0 0, .slice none 0 0])]) (res_rows (t := 47) (t' := 103) Tryz.results52 _ _ _ _ rfl rfl ?_ ?_ info47 agg47 ?_ ?_ info103 agg103) rfl ?_
  · go_simp
  · go_simp
  · go_simp
  · (first | (go_simp; done) | (go_simp; rfl))
  exact ⟨_, rfl, (HS3.out.upto (upto_own (Upto.refl (w.heap.size + 1 + 1 + 1) _) _) (fun e => bk37)).upto (upto_own (Upto.refl (w.heap.size + 1 + 1 + 1 + 1) _) _) (fun e => bk37), (fun q hq => by have := HQ3.out q hq; simp at this; omega), bk0⟩
theorem upto_after {T : Nat} {a W w3 : World} (h : Upto T a W) (k : Below W.heap.size W w3) : Upto T a w3 :=
  ⟨k.os.trans h.os, k.tape.trans h.tape, k.output.trans h.output, Nat.le_trans h.size k.size, fun q hq hT => (k.block q (Nat.lt_of_lt_of_le hq h.size)).trans (h.block q hq hT)⟩
theorem do_free_hit (S : Nat) (h0 : 1 ≤ S) (h1 : S ≤ 8) (k : Nat) (m : Bool) (inn : Int) (aS : Option Addr) (cS : Nat) (vL : Value) (CL : List (Array Value)) (who : Nat) (hw : who ≤ 100) (hl : CL.length ≤ 1000) (hp : k ≤ S + 1) (m' c' : Nat) (a' : Option Addr) (hk : CL[k]? = some #[.int .i64 (who + 1 : Nat), .slice a' m' c']) (w : World) (h : Sl w vL 2 CL)  : Calls Tryz.prog 52 #[.agg (#[.int .i64 inn, .int .i64 0, .slice none 0 0, .slice none 0 0, .slice aS S cS, vL]), .agg (opC (.free k m)), .int .i64 who] w fun e w' => ∃ vL', e = .returned (.tuple #[.agg (#[.int .i64 inn, .int .i64 0, .slice none 0 0, .slice none 0 0, .slice aS S cS, vL']), .agg (valC (.num 0))]) ∧ Sl w' vL' 2 (CL.set k #[.int .i64 ((0 : Nat) : Int), .slice a' m' c']) ∧ (∀ q, vL'.ownBlock = some q → w.heap.size ≤ q) ∧ Below w.heap.size w w' := by
  have H := Lib.hid h
  obtain ⟨aL, cL, rfl, -⟩ := id h
  clear h
  have HM := Lib.hid (fun (W : World) (b : Below w.heap.size w W) => may_free_y k m S h0 h1 hp inn aS cS (who + 1) m' c' a' _ CL hk who W (H.out.below b))
  obtain ⟨HL, hwr⟩ := packDo15
  have HK := Lib.hid (fun (W : World) (b : Below w.heap.size w W) => locked_law inn aS S cS k _ CL (#[.int .i64 ((0 : Nat) : Int), .slice a' m' c']) rfl rfl (List.getElem?_eq_some_iff.1 hk).1 hl W (H.out.below b))
  exact tailDo1
theorem do_free_miss (S : Nat) (h0 : 1 ≤ S) (h1 : S ≤ 8) (k : Nat) (m : Bool) (inn : Int) (aS : Option Addr) (cS : Nat) (vL : Value) (CL : List (Array Value)) (who : Nat) (hw : who ≤ 100) (hl : CL.length ≤ 1000) (hp : k ≤ S + 1) (by' m' c' : Nat) (hb : ¬ by' = who + 1) (a' : Option Addr) (hk : CL[k]? = some #[.int .i64 by', .slice a' m' c']) (w : World) (h : Sl w vL 2 CL)  : Calls Tryz.prog 52 #[.agg (#[.int .i64 inn, .int .i64 0, .slice none 0 0, .slice none 0 0, .slice aS S cS, vL]), .agg (opC (.free k m)), .int .i64 who] w fun e w' => ∃ vL', e = .returned (.tuple #[.agg (#[.int .i64 inn, .int .i64 0, .slice none 0 0, .slice none 0 0, .slice aS S cS, vL']), .agg (valC (.num 0))]) ∧ Sl w' vL' 2 (CL.set k #[.int .i64 (by' : Int), .slice a' m' c']) ∧ (∀ q, vL'.ownBlock = some q → w.heap.size ≤ q) ∧ Below w.heap.size w w' := by
  have H := Lib.hid h
  obtain ⟨aL, cL, rfl, -⟩ := id h
  clear h
  have HM := Lib.hid (fun (W : World) (b : Below w.heap.size w W) => may_free_y k m S h0 h1 hp inn aS cS by' m' c' a' _ CL hk who W (H.out.below b))
  obtain ⟨HL, hwr⟩ := packDo15
  have hb2 : ¬ ((by' : Int) = ((who + 1 : Nat) : Int)) := by omega
  have hb3 : ¬ ((by' : Int) = (who : Int) + 1) := by omega
  have HK := Lib.hid (fun (W : World) (b : Below w.heap.size w W) => locked_law inn aS S cS k _ CL (#[.int .i64 (by' : Int), .slice a' m' c']) rfl rfl (List.getElem?_eq_some_iff.1 hk).1 hl W (H.out.below b))
  exact tailDo1
theorem do_bans (S : Nat) (h0 : 1 ≤ S) (h1 : S ≤ 8)  (inn : Int) (aS : Option Addr) (cS : Nat) (vL : Value) (CL : List (Array Value)) (who : Nat) (hw : who ≤ 100) (hl : CL.length ≤ 1000) (by' m' c' : Nat) (a' : Option Addr) (hk : CL[0]? = some #[.int .i64 by', .slice a' m' c']) (w : World) (h : Sl w vL 2 CL)  : Calls Tryz.prog 52 #[.agg (#[.int .i64 inn, .int .i64 0, .slice none 0 0, .slice none 0 0, .slice aS S cS, vL]), .agg (opC (.bans )), .int .i64 who] w fun e w' => e = .returned (.tuple #[.agg (#[.int .i64 inn, .int .i64 0, .slice none 0 0, .slice none 0 0, .slice aS S cS, vL]), .agg (valC (.num 0))]) ∧ Below w.heap.size w w' := by
  have H := Lib.hid h
  obtain ⟨aL, cL, rfl, -⟩ := id h
  clear h
  have HM := Lib.hid (fun (W : World) (b : Below w.heap.size w W) => may_bans_y  S h0 h1 inn aS cS by' m' c' a' _ CL hk who W (H.out.below b))
  have HL := packDo9
  clear hk
  unfold opC at *
  go_enter Tryz.func52, Tryz.ntmps52
  go_wp2_with fail
  refine (HM.out _ (bk0)).mono ?_
  rintro e w1 ⟨rfl, hb⟩
  obtain ⟨hk, xx⟩ := packDo12
  clear hb
  obtain ⟨bR0, bV0, bC0, bL0, bR1⟩ := packDo8
  have bV1 : rowOf w1 (w.heap.size + 1) = #[.int .i64 5, .int .i64 0, .int .i64 3, .int .i64 0, .int .i64 0, .int .i64 0, .int .i64 0, .int .i64 0, .bool false, .int .u64 0, .int .u64 0, .int .i64 0, .bool false, .int .i64 0, .int .i64 0, .int .i64 0, .int .i64 0, .int .i64 0, .slice none 0 0, .slice none 0 0, .bool false] := by go_simp
  obtain ⟨bC1, bL1, bR2, bV2, bC2, bL2, bR3, bV3, bC3, bL3, bR4, bV4, bC4, bL4⟩ := packDo3
  (try clear xx); (try clear zz)
  go_wp2_with fail
  refine (HL.out _ (bk0)).mono ?_
  rintro e w2 ⟨rfl, hb⟩
  obtain ⟨hkb, xxb⟩ := packDo11
  clear hb
  obtain ⟨bRb0, bVb0, bCb0, bLb0, bRb1⟩ := packDo7
  have bVb1 : rowOf w2 (w.heap.size + 1) = #[.int .i64 5, .int .i64 0, .int .i64 3, .int .i64 0, .int .i64 0, .int .i64 0, .int .i64 0, .int .i64 0, .bool false, .int .u64 0, .int .u64 0, .int .i64 0, .bool false, .int .i64 0, .int .i64 0, .int .i64 0, .int .i64 0, .int .i64 0, .slice none 0 0, .slice none 0 0, .bool false] := by go_simp
  obtain ⟨bCb1, bLb1, bRb2, bVb2, bCb2, bLb2, bRb3, bVb3, bCb3, bLb3, bRb4, bVb4, bCb4, bLb4⟩ := packDo2
  (try clear xxb); (try clear zzb)
  go_wp2_with fail
  obtain ⟨bRg0, bVg0, bCg0, bLg0, bRg1⟩ := packDo6
  have bVg1 : rowOf (w2.alloc (.cells (#[.int .i64 by', .slice a' m' c']) 186)) (w.heap.size + 1) = #[.int .i64 5, .int .i64 0, .int .i64 3, .int .i64 0, .int .i64 0, .int .i64 0, .int .i64 0, .int .i64 0, .bool false, .int .u64 0, .int .u64 0, .int .i64 0, .bool false, .int .i64 0, .int .i64 0, .int .i64 0, .int .i64 0, .int .i64 0, .slice none 0 0, .slice none 0 0, .bool false] := by go_simp
  obtain ⟨bCg1, bLg1, bRg2, bVg2, bCg2, bLg2, bRg3, bVg3, bCg3, bLg3, bRg4, bVg4, bCg4, bLg4, bw8⟩ := packDo1
  (try clear xxb); (try clear zzb)
  generalize w2.alloc (.cells (#[.int .i64 by', .slice a' m' c']) 186) = W8 at *
  obtain ⟨ne1, en1, ne2, en2, ne3, en3, ne4, en4, ne5, en5⟩ := packDo4
  refine region_treeZ 6 (by kernel_rfl) (Upto (w.heap.size + 1 + 1 + 1) W8) [0, 1, 2, 3] 3 (by kernel_rfl) (by kernel_rfl) (fun _ _ d _ _ h => by cases d <;> exact h) (Upto.refl _ _).drew ?_
  simp only [PL]
  apply reads_op
  · exact bk3
  try simp only [PT]
  apply reads_op
  · exact bk3
  try simp only [PT]
  apply reads_op
  · exact bk3
  try simp only [PT]
  apply reads_op
  · exact bk3
  try simp only [PT]
  refine reads_nil ?_
  refine treeZ_one 4 (by kernel_rfl) (by kernel_rfl) ?_
  simp only [nthL]
  go_wp2_with fail
  refine (load_bans inn (.slice aS S cS) (.slice aL CL.length cL) _ rfl rfl).mono ?_
  exact tailDo2
theorem do_inn (S : Nat) (h0 : 1 ≤ S) (h1 : S ≤ 8)  (inn : Int) (aS : Option Addr) (cS : Nat) (vL : Value) (CL : List (Array Value)) (who : Nat) (hw : who ≤ 100) (hl : CL.length ≤ 1000) (by' m' c' : Nat) (a' : Option Addr) (hk : CL[0]? = some #[.int .i64 by', .slice a' m' c']) (w : World) (h : Sl w vL 2 CL)  : Calls Tryz.prog 52 #[.agg (#[.int .i64 inn, .int .i64 0, .slice none 0 0, .slice none 0 0, .slice aS S cS, vL]), .agg (opC (.inn )), .int .i64 who] w fun e w' => e = .returned (.tuple #[.agg (#[.int .i64 inn, .int .i64 0, .slice none 0 0, .slice none 0 0, .slice aS S cS, vL]), .agg (valC (.num inn))]) ∧ Below w.heap.size w w' := by
  have H := Lib.hid h
  obtain ⟨aL, cL, rfl, -⟩ := id h
  clear h
  have HM := Lib.hid (fun (W : World) (b : Below w.heap.size w W) => may_inn_y  S h0 h1 inn aS cS by' m' c' a' _ CL hk who W (H.out.below b))
  have HL := packDo9
  clear hk
  unfold opC at *
  go_enter Tryz.func52, Tryz.ntmps52
  go_wp2_with fail
  refine (HM.out _ (bk0)).mono ?_
  rintro e w1 ⟨rfl, hb⟩
  obtain ⟨hk, xx⟩ := packDo12
  clear hb
  obtain ⟨bR0, bV0, bC0, bL0, bR1⟩ := packDo8
  have bV1 : rowOf w1 (w.heap.size + 1) = #[.int .i64 5, .int .i64 0, .int .i64 1, .int .i64 0, .int .i64 0, .int .i64 0, .int .i64 0, .int .i64 0, .bool false, .int .u64 0, .int .u64 0, .int .i64 0, .bool false, .int .i64 0, .int .i64 0, .int .i64 0, .int .i64 0, .int .i64 0, .slice none 0 0, .slice none 0 0, .bool false] := by go_simp
  obtain ⟨bC1, bL1, bR2, bV2, bC2, bL2, bR3, bV3, bC3, bL3, bR4, bV4, bC4, bL4⟩ := packDo3
  (try clear xx); (try clear zz)
  go_wp2_with fail
  refine (HL.out _ (bk0)).mono ?_
  rintro e w2 ⟨rfl, hb⟩
  obtain ⟨hkb, xxb⟩ := packDo11
  clear hb
  obtain ⟨bRb0, bVb0, bCb0, bLb0, bRb1⟩ := packDo7
  have bVb1 : rowOf w2 (w.heap.size + 1) = #[.int .i64 5, .int .i64 0, .int .i64 1, .int .i64 0, .int .i64 0, .int .i64 0, .int .i64 0, .int .i64 0, .bool false, .int .u64 0, .int .u64 0, .int .i64 0, .bool false, .int .i64 0, .int .i64 0, .int .i64 0, .int .i64 0, .int .i64 0, .slice none 0 0, .slice none 0 0, .bool false] := by go_simp
  obtain ⟨bCb1, bLb1, bRb2, bVb2, bCb2, bLb2, bRb3, bVb3, bCb3, bLb3, bRb4, bVb4, bCb4, bLb4⟩ := packDo2
  (try clear xxb); (try clear zzb)
  go_wp2_with fail
  obtain ⟨bRg0, bVg0, bCg0, bLg0, bRg1⟩ := packDo6
  have bVg1 : rowOf (w2.alloc (.cells (#[.int .i64 by', .slice a' m' c']) 186)) (w.heap.size + 1) = #[.int .i64 5, .int .i64 0, .int .i64 1, .int .i64 0, .int .i64 0, .int .i64 0, .int .i64 0, .int .i64 0, .bool false, .int .u64 0, .int .u64 0, .int .i64 0, .bool false, .int .i64 0, .int .i64 0, .int .i64 0, .int .i64 0, .int .i64 0, .slice none 0 0, .slice none 0 0, .bool false] := by go_simp
  obtain ⟨bCg1, bLg1, bRg2, bVg2, bCg2, bLg2, bRg3, bVg3, bCg3, bLg3, bRg4, bVg4, bCg4, bLg4, bw8⟩ := packDo1
  (try clear xxb); (try clear zzb)
  generalize w2.alloc (.cells (#[.int .i64 by', .slice a' m' c']) 186) = W8 at *
  obtain ⟨ne1, en1, ne2, en2, ne3, en3, ne4, en4, ne5, en5⟩ := packDo4
  refine region_treeZ 6 (by kernel_rfl) (Upto (w.heap.size + 1 + 1 + 1) W8) [0, 1, 2, 3] 3 (by kernel_rfl) (by kernel_rfl) (fun _ _ d _ _ h => by cases d <;> exact h) (Upto.refl _ _).drew ?_
  simp only [PL]
  apply reads_op
  · exact bk3
  try simp only [PT]
  apply reads_op
  · exact bk3
  try simp only [PT]
  apply reads_op
  · exact bk3
  try simp only [PT]
  apply reads_op
  · exact bk3
  try simp only [PT]
  refine reads_nil ?_
  refine treeZ_one 4 (by kernel_rfl) (by kernel_rfl) ?_
  simp only [nthL]
  go_wp2_with fail
  refine (load_inn inn (.slice aS S cS) (.slice aL CL.length cL) _ rfl rfl).mono ?_
  rintro e w4 ⟨rfl, hb⟩
  obtain ⟨hk4, b4⟩ := packDo22
  obtain ⟨x1d, x2d, x3d, x4d, x5d, x6d, x7d, x8d, x9d, x10d, y9d⟩ := alk b4; (try have zzd := zs w.heap.size w4.heap.size)
  clear hb
  obtain ⟨c3R, c3V, c3C, c4R, c4V, c4C⟩ := packDo5
  (try clear x1d x2d x3d x4d x5d x6d x7d x8d x9d x10d y9d); (try clear zzd)
  go_wp2
  refine chain_on (bk26) ?_
  refine treeZ_one 5 (by kernel_rfl) (by kernel_rfl) ?_
  simp only [nthL]
  go_wp2_with fail
  refine chain_on (bk26) ?_
  refine treeZ_last 6 rfl (by kernel_rfl) (by kernel_rfl) ?_
  simp only [nthL]
  go_wp2_with fail
  refine chain_on trivial ?_
  refine treeZ_end (by kernel_rfl) ?_
  go_wp2
  refine bodyPost_ret (v := .tuple #[.agg (#[.int .i64 inn, .int .i64 0, .slice none 0 0, .slice none 0 0, .slice aS S cS, .slice aL CL.length cL]), .agg (#[.int .i64 inn, .bool false, .int .u64 0, .int .u64 0, .int .i64 0, .bool false, .int .i64 0, .int .i64 0, .int .i64 0, .int .i64 0, .int .i64 0, .slice none 0 0, .slice none 0 0])]) (res_rows (t := 47) (t' := 103) Tryz.results52 _ _ _ _ rfl rfl ?_ ?_ info47 agg47 ?_ ?_ info103 agg103) rfl ?_
  · go_simp
  · go_simp
  · go_simp
  · (first | (go_simp; done) | (go_simp; rfl))
  exact ⟨rfl, below_setRow (below_setRow (bw8.trans (b4.mono (by have := bLg0; omega))) (by omega) _) (by omega) _⟩
theorem do_size (S : Nat) (h0 : 1 ≤ S) (h1 : S ≤ 8) (p n : Nat) (vs : Value) (CS : List (Array Value)) (inn : Int) (aS : Option Addr) (cS : Nat) (vL : Value) (CL : List (Array Value)) (who : Nat) (hw : who ≤ 100) (hl : CL.length ≤ 1000) (hp : p < S) (hpc : CS[p]? = some #[.int .i64 n, vs]) (by' m' c' : Nat) (a' : Option Addr) (hk : CL[0]? = some #[.int .i64 by', .slice a' m' c']) (w : World) (h : Sl w vL 2 CL) (h2 : Sl w (.slice aS S cS) 2 CS) : Calls Tryz.prog 52 #[.agg (#[.int .i64 inn, .int .i64 0, .slice none 0 0, .slice none 0 0, .slice aS S cS, vL]), .agg (opC (.size p)), .int .i64 who] w fun e w' => e = .returned (.tuple #[.agg (#[.int .i64 inn, .int .i64 0, .slice none 0 0, .slice none 0 0, .slice aS S cS, vL]), .agg (valC (.num n))]) ∧ Below w.heap.size w w' := by
  have H := Lib.hid h
  obtain ⟨aL, cL, rfl, -⟩ := id h
  clear h
  have HM := Lib.hid (fun (W : World) (b : Below w.heap.size w W) => may_size_y p S h0 h1 hp inn aS cS by' m' c' a' _ CL hk who W (H.out.below b))
  have HL := packDo9
  have HS2 := Lib.hid h2
  clear hk
  unfold opC at *
  go_enter Tryz.func52, Tryz.ntmps52
  go_wp2_with fail
  refine (HM.out _ (bk0)).mono ?_
  rintro e w1 ⟨rfl, hb⟩
  obtain ⟨hk, xx⟩ := packDo12
  clear hb
  obtain ⟨bR0, bV0, bC0, bL0, bR1⟩ := packDo8
  have bV1 : rowOf w1 (w.heap.size + 1) = #[.int .i64 5, .int .i64 0, .int .i64 5, .int .i64 p, .int .i64 0, .int .i64 0, .int .i64 0, .int .i64 0, .bool false, .int .u64 0, .int .u64 0, .int .i64 0, .bool false, .int .i64 0, .int .i64 0, .int .i64 0, .int .i64 0, .int .i64 0, .slice none 0 0, .slice none 0 0, .bool false] := by go_simp
  obtain ⟨bC1, bL1, bR2, bV2, bC2, bL2, bR3, bV3, bC3, bL3, bR4, bV4, bC4, bL4⟩ := packDo3
  (try clear xx); (try clear zz)
  go_wp2_with fail
  refine (HL.out _ (bk0)).mono ?_
  rintro e w2 ⟨rfl, hb⟩
  obtain ⟨hkb, xxb⟩ := packDo11
  clear hb
  obtain ⟨bRb0, bVb0, bCb0, bLb0, bRb1⟩ := packDo7
  have bVb1 : rowOf w2 (w.heap.size + 1) = #[.int .i64 5, .int .i64 0, .int .i64 5, .int .i64 p, .int .i64 0, .int .i64 0, .int .i64 0, .int .i64 0, .bool false, .int .u64 0, .int .u64 0, .int .i64 0, .bool false, .int .i64 0, .int .i64 0, .int .i64 0, .int .i64 0, .int .i64 0, .slice none 0 0, .slice none 0 0, .bool false] := by go_simp
  obtain ⟨bCb1, bLb1, bRb2, bVb2, bCb2, bLb2, bRb3, bVb3, bCb3, bLb3, bRb4, bVb4, bCb4, bLb4⟩ := packDo2
  (try clear xxb); (try clear zzb)
  go_wp2_with fail
  obtain ⟨bRg0, bVg0, bCg0, bLg0, bRg1⟩ := packDo6
  have bVg1 : rowOf (w2.alloc (.cells (#[.int .i64 by', .slice a' m' c']) 186)) (w.heap.size + 1) = #[.int .i64 5, .int .i64 0, .int .i64 5, .int .i64 p, .int .i64 0, .int .i64 0, .int .i64 0, .int .i64 0, .bool false, .int .u64 0, .int .u64 0, .int .i64 0, .bool false, .int .i64 0, .int .i64 0, .int .i64 0, .int .i64 0, .int .i64 0, .slice none 0 0, .slice none 0 0, .bool false] := by go_simp
  obtain ⟨bCg1, bLg1, bRg2, bVg2, bCg2, bLg2, bRg3, bVg3, bCg3, bLg3, bRg4, bVg4, bCg4, bLg4, bw8⟩ := packDo1
  (try clear xxb); (try clear zzb)
  generalize w2.alloc (.cells (#[.int .i64 by', .slice a' m' c']) 186) = W8 at *
  obtain ⟨ne1, en1, ne2, en2, ne3, en3, ne4, en4, ne5, en5⟩ := packDo4
  refine region_treeZ 6 (by kernel_rfl) (Upto (w.heap.size + 1 + 1 + 1) W8) [0, 1, 2, 3] 3 (by kernel_rfl) (by kernel_rfl) (fun _ _ d _ _ h => by cases d <;> exact h) (Upto.refl _ _).drew ?_
  simp only [PL]
  apply reads_op
  · exact bk3
  try simp only [PT]
  apply reads_op
  · exact bk3
  try simp only [PT]
  apply reads_op
  · exact bk3
  try simp only [PT]
  apply reads_op
  · exact bk3
  try simp only [PT]
  refine reads_nil ?_
  refine treeZ_one 4 (by kernel_rfl) (by kernel_rfl) ?_
  simp only [nthL]
  go_wp2_with fail
  refine (load_size inn (.slice aS S cS) (.slice aL CL.length cL) vs p n CS hpc W8.drew (show Sl W8.drew _ _ _ from (HS2.out.below bw8).same (Nat.le_refl _) fun _ _ _ => rfl) rfl).mono ?_
  rintro e w4 ⟨rfl, hb⟩
  obtain ⟨hk4, b4⟩ := packDo22
  obtain ⟨x1d, x2d, x3d, x4d, x5d, x6d, x7d, x8d, x9d, x10d, y9d⟩ := alk b4; (try have zzd := zs w.heap.size w4.heap.size)
  clear hb
  obtain ⟨c3R, c3V, c3C, c4R, c4V, c4C⟩ := packDo5
  (try clear x1d x2d x3d x4d x5d x6d x7d x8d x9d x10d y9d); (try clear zzd)
  go_wp2
  refine chain_on (bk26) ?_
  refine treeZ_one 5 (by kernel_rfl) (by kernel_rfl) ?_
  simp only [nthL]
  go_wp2_with fail
  refine chain_on (bk26) ?_
  refine treeZ_last 6 rfl (by kernel_rfl) (by kernel_rfl) ?_
  simp only [nthL]
  go_wp2_with fail
  refine chain_on trivial ?_
  refine treeZ_end (by kernel_rfl) ?_
  go_wp2
  refine bodyPost_ret (v := .tuple #[.agg (#[.int .i64 inn, .int .i64 0, .slice none 0 0, .slice none 0 0, .slice aS S cS, .slice aL CL.length cL]), .agg (#[.int .i64 n, .bool false, .int .u64 0, .int .u64 0, .int .i64 0, .bool false, .int .i64 0, .int .i64 0, .int .i64 0, .int .i64 0, .int .i64 0, .slice none 0 0, .slice none 0 0])]) (res_rows (t := 47) (t' := 103) Tryz.results52 _ _ _ _ rfl rfl ?_ ?_ info47 agg47 ?_ ?_ info103 agg103) rfl ?_
  · go_simp
  · go_simp
  · go_simp
  · (first | (go_simp; done) | (go_simp; rfl))
  exact ⟨rfl, below_setRow (below_setRow (bw8.trans (b4.mono (by have := bLg0; omega))) (by omega) _) (by omega) _⟩
theorem do_slot_some (S : Nat) (h0 : 1 ≤ S) (h1 : S ≤ 8) (p n : Nat) (vs : Value) (CS : List (Array Value)) (i c : Nat) (l : List Nat) (inn : Int) (aS : Option Addr) (cS : Nat) (vL : Value) (CL : List (Array Value)) (who : Nat) (hw : who ≤ 100) (hl : CL.length ≤ 1000) (hp : p < S) (hpc : CS[p]? = some #[.int .i64 n, vs]) (hi : l[i]? = some c) (by' m' c' : Nat) (a' : Option Addr) (hk : CL[0]? = some #[.int .i64 by', .slice a' m' c']) (w : World) (h : Sl w vL 2 CL) (h2 : Sl w (.slice aS S cS) 2 CS) (h3 : Sl w vs 10 (l.map peerC)) : Calls Tryz.prog 52 #[.agg (#[.int .i64 inn, .int .i64 0, .slice none 0 0, .slice none 0 0, .slice aS S cS, vL]), .agg (opC (.slot p i)), .int .i64 who] w fun e w' => e = .returned (.tuple #[.agg (#[.int .i64 inn, .int .i64 0, .slice none 0 0, .slice none 0 0, .slice aS S cS, vL]), .agg (valC (.who c))]) ∧ Below w.heap.size w w' := by
  have H := Lib.hid h
  obtain ⟨aL, cL, rfl, -⟩ := id h
  clear h
  have HM := Lib.hid (fun (W : World) (b : Below w.heap.size w W) => may_slot_y p i S h0 h1 hp inn aS cS by' m' c' a' _ CL hk who W (H.out.below b))
  have HL := packDo9
  have HS2 := Lib.hid h2
  have HS3 := Lib.hid h3
  clear hk
  unfold opC at *
  go_enter Tryz.func52, Tryz.ntmps52
  go_wp2_with fail
  refine (HM.out _ (bk0)).mono ?_
  rintro e w1 ⟨rfl, hb⟩
  obtain ⟨hk, xx⟩ := packDo12
  clear hb
  obtain ⟨bR0, bV0, bC0, bL0, bR1⟩ := packDo8
  have bV1 := packDo20
  obtain ⟨bC1, bL1, bR2, bV2, bC2, bL2, bR3, bV3, bC3, bL3, bR4, bV4, bC4, bL4⟩ := packDo3
  (try clear xx); (try clear zz)
  go_wp2_with fail
  refine (HL.out _ (bk0)).mono ?_
  rintro e w2 ⟨rfl, hb⟩
  obtain ⟨hkb, xxb⟩ := packDo11
  clear hb
  obtain ⟨bRb0, bVb0, bCb0, bLb0, bRb1⟩ := packDo7
  have bVb1 := packDo21
  obtain ⟨bCb1, bLb1, bRb2, bVb2, bCb2, bLb2, bRb3, bVb3, bCb3, bLb3, bRb4, bVb4, bCb4, bLb4⟩ := packDo2
  (try clear xxb); (try clear zzb)
  go_wp2_with fail
  obtain ⟨bRg0, bVg0, bCg0, bLg0, bRg1⟩ := packDo6
  have bVg1 := packDo17
  obtain ⟨bCg1, bLg1, bRg2, bVg2, bCg2, bLg2, bRg3, bVg3, bCg3, bLg3, bRg4, bVg4, bCg4, bLg4, bw8⟩ := packDo1
  (try clear xxb); (try clear zzb)
  generalize w2.alloc (.cells (#[.int .i64 by', .slice a' m' c']) 186) = W8 at *
  obtain ⟨ne1, en1, ne2, en2, ne3, en3, ne4, en4, ne5, en5⟩ := packDo4
  refine region_treeZ 6 (by kernel_rfl) (Upto (w.heap.size + 1 + 1 + 1) W8) [0, 1, 2, 3] 3 (by kernel_rfl) (by kernel_rfl) (fun _ _ d _ _ h => by cases d <;> exact h) (Upto.refl _ _).drew ?_
  simp only [PL]
  apply reads_op
  · exact bk3
  try simp only [PT]
  apply reads_op
  · exact bk3
  try simp only [PT]
  apply reads_op
  · exact bk3
  try simp only [PT]
  apply reads_op
  · exact bk3
  try simp only [PT]
  refine reads_nil ?_
  refine treeZ_one 4 (by kernel_rfl) (by kernel_rfl) ?_
  simp only [nthL]
  go_wp2_with fail
  refine (load_slot_some inn (.slice aS S cS) (.slice aL CL.length cL) vs p n i CS (l.map peerC) c (by rw [List.getElem?_map, hi]; rfl) hpc W8.drew (show Sl W8.drew _ _ _ from (HS2.out.below bw8).same (Nat.le_refl _) fun _ _ _ => rfl) (show Sl W8.drew _ _ _ from (HS3.out.below bw8).same (Nat.le_refl _) fun _ _ _ => rfl) rfl).mono ?_
  rintro e w4 ⟨rfl, hb⟩
  obtain ⟨hk4, b4⟩ := packDo22
  obtain ⟨x1d, x2d, x3d, x4d, x5d, x6d, x7d, x8d, x9d, x10d, y9d⟩ := alk b4; (try have zzd := zs w.heap.size w4.heap.size)
  clear hb
  obtain ⟨c3R, c3V, c3C, c4R, c4V, c4C⟩ := packDo5
  (try clear x1d x2d x3d x4d x5d x6d x7d x8d x9d x10d y9d); (try clear zzd)
  go_wp2
  refine chain_on (bk26) ?_
  refine treeZ_one 5 (by kernel_rfl) (by kernel_rfl) ?_
  simp only [nthL]
  go_wp2_with fail
  refine chain_on (bk26) ?_
  refine treeZ_last 6 rfl (by kernel_rfl) (by kernel_rfl) ?_
  simp only [nthL]
  go_wp2_with fail
  refine chain_on trivial ?_
  refine treeZ_end (by kernel_rfl) ?_
  go_wp2
  refine bodyPost_ret (v := .tuple #[.agg (#[.int .i64 inn, .int .i64 0, .slice none 0 0, .slice none 0 0, .slice aS S cS, .slice aL CL.length cL]), .agg (#[.int .i64 0, .bool false, .int .u64 0, .int .u64 (loOf c), .int .i64 80, .bool true, .int .i64 (Pm.tOf c), .int .i64 0, .int .i64 (Pm.tOf c), .int .i64 0, .int .i64 0, .slice none 0 0, .slice none 0 0])]) (res_rows (t := 47) (t' := 103) Tryz.results52 _ _ _ _ rfl rfl ?_ ?_ info47 agg47 ?_ ?_ info103 agg103) rfl ?_
  · go_simp
  · go_simp
  · go_simp
  · (first | (go_simp; done) | (go_simp; rfl))
  exact ⟨rfl, below_setRow (below_setRow (bw8.trans (b4.mono (by have := bLg0; omega))) (by omega) _) (by omega) _⟩
theorem do_slot_none (S : Nat) (h0 : 1 ≤ S) (h1 : S ≤ 8) (p n : Nat) (vs : Value) (CS : List (Array Value)) (i : Nat) (l : List Nat) (inn : Int) (aS : Option Addr) (cS : Nat) (vL : Value) (CL : List (Array Value)) (who : Nat) (hw : who ≤ 100) (hl : CL.length ≤ 1000) (hp : p < S) (hpc : CS[p]? = some #[.int .i64 n, vs]) (hi : l.length ≤ i) (by' m' c' : Nat) (a' : Option Addr) (hk : CL[0]? = some #[.int .i64 by', .slice a' m' c']) (w : World) (h : Sl w vL 2 CL) (h2 : Sl w (.slice aS S cS) 2 CS) (h3 : Sl w vs 10 (l.map peerC)) : Calls Tryz.prog 52 #[.agg (#[.int .i64 inn, .int .i64 0, .slice none 0 0, .slice none 0 0, .slice aS S cS, vL]), .agg (opC (.slot p i)), .int .i64 who] w fun e w' => e = .returned (.tuple #[.agg (#[.int .i64 inn, .int .i64 0, .slice none 0 0, .slice none 0 0, .slice aS S cS, vL]), .agg (valC (.num 0))]) ∧ Below w.heap.size w w' := by
  have H := Lib.hid h
  obtain ⟨aL, cL, rfl, -⟩ := id h
  clear h
  have HM := Lib.hid (fun (W : World) (b : Below w.heap.size w W) => may_slot_y p i S h0 h1 hp inn aS cS by' m' c' a' _ CL hk who W (H.out.below b))
  have HL := packDo9
  have HS2 := Lib.hid h2
  have HS3 := Lib.hid h3
  clear hk
  unfold opC at *
  go_enter Tryz.func52, Tryz.ntmps52
  go_wp2_with fail
  refine (HM.out _ (bk0)).mono ?_
  rintro e w1 ⟨rfl, hb⟩
  obtain ⟨hk, xx⟩ := packDo12
  clear hb
  obtain ⟨bR0, bV0, bC0, bL0, bR1⟩ := packDo8
  have bV1 := packDo20
  obtain ⟨bC1, bL1, bR2, bV2, bC2, bL2, bR3, bV3, bC3, bL3, bR4, bV4, bC4, bL4⟩ := packDo3
  (try clear xx); (try clear zz)
  go_wp2_with fail
  refine (HL.out _ (bk0)).mono ?_
  rintro e w2 ⟨rfl, hb⟩
  obtain ⟨hkb, xxb⟩ := packDo11
  clear hb
  obtain ⟨bRb0, bVb0, bCb0, bLb0, bRb1⟩ := packDo7
  have bVb1 := packDo21
  obtain ⟨bCb1, bLb1, bRb2, bVb2, bCb2, bLb2, bRb3, bVb3, bCb3, bLb3, bRb4, bVb4, bCb4, bLb4⟩ := packDo2
  (try clear xxb); (try clear zzb)
  go_wp2_with fail
  obtain ⟨bRg0, bVg0, bCg0, bLg0, bRg1⟩ := packDo6
  have bVg1 := packDo17
  obtain ⟨bCg1, bLg1, bRg2, bVg2, bCg2, bLg2, bRg3, bVg3, bCg3, bLg3, bRg4, bVg4, bCg4, bLg4, bw8⟩ := packDo1
  (try clear xxb); (try clear zzb)
  generalize w2.alloc (.cells (#[.int .i64 by', .slice a' m' c']) 186) = W8 at *
  obtain ⟨ne1, en1, ne2, en2, ne3, en3, ne4, en4, ne5, en5⟩ := packDo4
  refine region_treeZ 6 (by kernel_rfl) (Upto (w.heap.size + 1 + 1 + 1) W8) [0, 1, 2, 3] 3 (by kernel_rfl) (by kernel_rfl) (fun _ _ d _ _ h => by cases d <;> exact h) (Upto.refl _ _).drew ?_
  simp only [PL]
  apply reads_op
  · exact bk3
  try simp only [PT]
  apply reads_op
  · exact bk3
  try simp only [PT]
  apply reads_op
  · exact bk3
  try simp only [PT]
  apply reads_op
  · exact bk3
  try simp only [PT]
  refine reads_nil ?_
  refine treeZ_one 4 (by kernel_rfl) (by kernel_rfl) ?_
  simp only [nthL]
  go_wp2_with fail
  refine (load_slot_none inn (.slice aS S cS) (.slice aL CL.length cL) vs p n i CS (l.map peerC) (by simpa using hi) hpc W8.drew (show Sl W8.drew _ _ _ from (HS2.out.below bw8).same (Nat.le_refl _) fun _ _ _ => rfl) (show Sl W8.drew _ _ _ from (HS3.out.below bw8).same (Nat.le_refl _) fun _ _ _ => rfl) rfl).mono ?_
  exact tailDo2
theorem do_swap_hit (S : Nat) (h0 : 1 ≤ S) (h1 : S ≤ 8) (n : Int) (inn : Int) (aS : Option Addr) (cS : Nat) (vL : Value) (CL : List (Array Value)) (who : Nat) (hw : who ≤ 100) (hl : CL.length ≤ 1000) (hn : inn = n) (by' m' c' : Nat) (a' : Option Addr) (hk : CL[0]? = some #[.int .i64 by', .slice a' m' c']) (w : World) (h : Sl w vL 2 CL)  : Calls Tryz.prog 52 #[.agg (#[.int .i64 inn, .int .i64 0, .slice none 0 0, .slice none 0 0, .slice aS S cS, vL]), .agg (opC (.swap n)), .int .i64 who] w fun e w' => e = .returned (.tuple #[.agg (#[.int .i64 (n + 1), .int .i64 0, .slice none 0 0, .slice none 0 0, .slice aS S cS, vL]), .agg (valC (.num 1))]) ∧ Below w.heap.size w w' := by
  have H := Lib.hid h
  obtain ⟨aL, cL, rfl, -⟩ := id h
  clear h
  have HM := Lib.hid (fun (W : World) (b : Below w.heap.size w W) => may_swap_y n S h0 h1 inn aS cS by' m' c' a' _ CL hk who W (H.out.below b))
  have HL := packDo9
  have HW := Lib.hid (fun (W : World) => swap_hit n inn hn (.slice aS S cS) (.slice aL CL.length cL) rfl rfl W)
  clear hn
  clear hk
  unfold opC at *
  go_enter Tryz.func52, Tryz.ntmps52
  go_wp2_with fail
  refine (HM.out _ (bk0)).mono ?_
  rintro e w1 ⟨rfl, hb⟩
  obtain ⟨hk, xx⟩ := packDo12
  clear hb
  obtain ⟨bR0, bV0, bC0, bL0, bR1⟩ := packDo8
  have bV1 := packDo18
  obtain ⟨bC1, bL1, bR2, bV2, bC2, bL2, bR3, bV3, bC3, bL3, bR4, bV4, bC4, bL4⟩ := packDo3
  (try clear xx); (try clear zz)
  go_wp2_with fail
  refine (HL.out _ (bk0)).mono ?_
  rintro e w2 ⟨rfl, hb⟩
  obtain ⟨hkb, xxb⟩ := packDo11
  clear hb
  obtain ⟨bRb0, bVb0, bCb0, bLb0, bRb1⟩ := packDo7
  have bVb1 := packDo19
  obtain ⟨bCb1, bLb1, bRb2, bVb2, bCb2, bLb2, bRb3, bVb3, bCb3, bLb3, bRb4, bVb4, bCb4, bLb4⟩ := packDo2
  (try clear xxb); (try clear zzb)
  go_wp2_with fail
  obtain ⟨bRg0, bVg0, bCg0, bLg0, bRg1⟩ := packDo6
  have bVg1 := packDo16
  obtain ⟨bCg1, bLg1, bRg2, bVg2, bCg2, bLg2, bRg3, bVg3, bCg3, bLg3, bRg4, bVg4, bCg4, bLg4, bw8⟩ := packDo1
  (try clear xxb); (try clear zzb)
  generalize w2.alloc (.cells (#[.int .i64 by', .slice a' m' c']) 186) = W8 at *
  refine (HW.out _).mono ?_
  rintro e w4 ⟨rfl, hb⟩
  have hk4 := Keep.mk hb
  obtain ⟨x1d, x2d, x3d, x4d, x5d, x6d, x7d, x8d, x9d, x10d, y9d⟩ := alk hk4.out; (try have zzd := zs w.heap.size w4.heap.size)
  clear hb
  obtain ⟨c3R, c3V, c3C, c4R, c4V, c4C⟩ := packDo5
  (try clear x1d x2d x3d x4d x5d x6d x7d x8d x9d x10d y9d); (try clear zzd)
  obtain ⟨ne1, en1, ne2, en2, ne3, en3, ne4, en4, ne5, en5⟩ := packDo4
  go_wp2
  refine bodyPost_ret (v := .tuple #[.agg (#[.int .i64 (n + 1), .int .i64 0, .slice none 0 0, .slice none 0 0, .slice aS S cS, .slice aL CL.length cL]), .agg (#[.int .i64 1, .bool false, .int .u64 0, .int .u64 0, .int .i64 0, .bool false, .int .i64 0, .int .i64 0, .int .i64 0, .int .i64 0, .int .i64 0, .slice none 0 0, .slice none 0 0])]) (res_rows (t := 47) (t' := 103) Tryz.results52 _ _ _ _ rfl rfl ?_ ?_ info47 agg47 ?_ ?_ info103 agg103) rfl ?_
  · go_simp
  · go_simp
  · go_simp
  · (first | (go_simp; done) | (go_simp; rfl))
  exact ⟨rfl, below_setRow (below_setRow (bw8.trans (hk4.out.mono (by have := bLg0; omega))) (by omega) _) (by omega) _⟩
theorem do_swap_miss (S : Nat) (h0 : 1 ≤ S) (h1 : S ≤ 8) (n : Int) (inn : Int) (aS : Option Addr) (cS : Nat) (vL : Value) (CL : List (Array Value)) (who : Nat) (hw : who ≤ 100) (hl : CL.length ≤ 1000) (hn : ¬ (inn = n)) (by' m' c' : Nat) (a' : Option Addr) (hk : CL[0]? = some #[.int .i64 by', .slice a' m' c']) (w : World) (h : Sl w vL 2 CL)  : Calls Tryz.prog 52 #[.agg (#[.int .i64 inn, .int .i64 0, .slice none 0 0, .slice none 0 0, .slice aS S cS, vL]), .agg (opC (.swap n)), .int .i64 who] w fun e w' => e = .returned (.tuple #[.agg (#[.int .i64 inn, .int .i64 0, .slice none 0 0, .slice none 0 0, .slice aS S cS, vL]), .agg (valC (.num 0))]) ∧ Below w.heap.size w w' := by
  have H := Lib.hid h
  obtain ⟨aL, cL, rfl, -⟩ := id h
  clear h
  have HM := Lib.hid (fun (W : World) (b : Below w.heap.size w W) => may_swap_y n S h0 h1 inn aS cS by' m' c' a' _ CL hk who W (H.out.below b))
  have HL := packDo9
  have HW := Lib.hid (fun (W : World) => swap_miss n inn hn (.slice aS S cS) (.slice aL CL.length cL) rfl rfl W)
  clear hn
  clear hk
  unfold opC at *
  go_enter Tryz.func52, Tryz.ntmps52
  go_wp2_with fail
  refine (HM.out _ (bk0)).mono ?_
  rintro e w1 ⟨rfl, hb⟩
  obtain ⟨hk, xx⟩ := packDo12
  clear hb
  obtain ⟨bR0, bV0, bC0, bL0, bR1⟩ := packDo8
  have bV1 := packDo18
  obtain ⟨bC1, bL1, bR2, bV2, bC2, bL2, bR3, bV3, bC3, bL3, bR4, bV4, bC4, bL4⟩ := packDo3
  (try clear xx); (try clear zz)
  go_wp2_with fail
  refine (HL.out _ (bk0)).mono ?_
  rintro e w2 ⟨rfl, hb⟩
  obtain ⟨hkb, xxb⟩ := packDo11
  clear hb
  obtain ⟨bRb0, bVb0, bCb0, bLb0, bRb1⟩ := packDo7
  have bVb1 := packDo19
  obtain ⟨bCb1, bLb1, bRb2, bVb2, bCb2, bLb2, bRb3, bVb3, bCb3, bLb3, bRb4, bVb4, bCb4, bLb4⟩ := packDo2
  (try clear xxb); (try clear zzb)
  go_wp2_with fail
  obtain ⟨bRg0, bVg0, bCg0, bLg0, bRg1⟩ := packDo6
  have bVg1 := packDo16
  obtain ⟨bCg1, bLg1, bRg2, bVg2, bCg2, bLg2, bRg3, bVg3, bCg3, bLg3, bRg4, bVg4, bCg4, bLg4, bw8⟩ := packDo1
  (try clear xxb); (try clear zzb)
  generalize w2.alloc (.cells (#[.int .i64 by', .slice a' m' c']) 186) = W8 at *
  refine (HW.out _).mono ?_
  rintro e w4 ⟨rfl, hb⟩
  have hk4 := Keep.mk hb
  obtain ⟨x1d, x2d, x3d, x4d, x5d, x6d, x7d, x8d, x9d, x10d, y9d⟩ := alk hk4.out; (try have zzd := zs w.heap.size w4.heap.size)
  clear hb
  obtain ⟨c3R, c3V, c3C, c4R, c4V, c4C⟩ := packDo5
  (try clear x1d x2d x3d x4d x5d x6d x7d x8d x9d x10d y9d); (try clear zzd)
  obtain ⟨ne1, en1, ne2, en2, ne3, en3, ne4, en4, ne5, en5⟩ := packDo4
  go_wp2
  refine bodyPost_ret (v := .tuple #[.agg (#[.int .i64 inn, .int .i64 0, .slice none 0 0, .slice none 0 0, .slice aS S cS, .slice aL CL.length cL]), .agg (#[.int .i64 0, .bool false, .int .u64 0, .int .u64 0, .int .i64 0, .bool false, .int .i64 0, .int .i64 0, .int .i64 0, .int .i64 0, .int .i64 0, .slice none 0 0, .slice none 0 0])]) (res_rows (t := 47) (t' := 103) Tryz.results52 _ _ _ _ rfl rfl ?_ ?_ info47 agg47 ?_ ?_ info103 agg103) rfl ?_
  · go_simp
  · go_simp
  · go_simp
  · (first | (go_simp; done) | (go_simp; rfl))
  exact ⟨rfl, below_setRow (below_setRow (bw8.trans (hk4.out.mono (by have := bLg0; omega))) (by omega) _) (by omega) _⟩
theorem do_wsize (S : Nat) (h0 : 1 ≤ S) (h1 : S ≤ 8) (p n m : Nat) (vs : Value) (CS : List (Array Value)) (inn : Int) (aS : Option Addr) (cS : Nat) (vL : Value) (CL : List (Array Value)) (who : Nat) (hw : who ≤ 100) (hl : CL.length ≤ 1000) (hp : p < S) (hv : vs.oneCell' = true) (hlS : CS.length ≤ 1000) (hpc : CS[p]? = some #[.int .i64 m, vs]) (by' m' c' : Nat) (a' : Option Addr) (hk : CL[0]? = some #[.int .i64 by', .slice a' m' c']) (w : World) (h : Sl w vL 2 CL) (h2 : Sl w (.slice aS S cS) 2 CS) : Calls Tryz.prog 52 #[.agg (#[.int .i64 inn, .int .i64 0, .slice none 0 0, .slice none 0 0, .slice aS S cS, vL]), .agg (opC (.wsize p n)), .int .i64 who] w fun e w' => ∃ v', e = .returned (.tuple #[.agg (#[.int .i64 inn, .int .i64 0, .slice none 0 0, .slice none 0 0, v', vL]), .agg (valC (.num 0))]) ∧ Sl w' v' 2 (CS.set p #[.int .i64 n, vs]) ∧ (∀ q, v'.ownBlock = some q → w.heap.size ≤ q) ∧ Below w.heap.size w w' := by
  have H := Lib.hid h
  obtain ⟨aL, cL, rfl, -⟩ := id h
  clear h
  have HM := Lib.hid (fun (W : World) (b : Below w.heap.size w W) => may_wsize_y p n S h0 h1 hp inn aS cS by' m' c' a' _ CL hk who W (H.out.below b))
  have HL := packDo9
  have HS2 := Lib.hid h2
  have hSl : S = CS.length := by obtain ⟨_, _, e, _⟩ := h2; cases e; rfl
  have HSl := Lib.hid hSl
  clear hSl
  clear hk
  unfold opC at *
  go_enter Tryz.func52, Tryz.ntmps52
  go_wp2_with fail
  refine (HM.out _ (bk0)).mono ?_
  rintro e w1 ⟨rfl, hb⟩
  obtain ⟨hk, xx⟩ := packDo12
  clear hb
  obtain ⟨bR0, bV0, bC0, bL0, bR1⟩ := packDo8
  have bV1 : rowOf w1 (w.heap.size + 1) = #[.int .i64 6, .int .i64 0, .int .i64 5, .int .i64 p, .int .i64 0, .int .i64 0, .int .i64 0, .int .i64 n, .bool false, .int .u64 0, .int .u64 0, .int .i64 0, .bool false, .int .i64 0, .int .i64 0, .int .i64 0, .int .i64 0, .int .i64 0, .slice none 0 0, .slice none 0 0, .bool false] := by go_simp
  obtain ⟨bC1, bL1, bR2, bV2, bC2, bL2, bR3, bV3, bC3, bL3, bR4, bV4, bC4, bL4⟩ := packDo3
  (try clear xx); (try clear zz)
  go_wp2_with fail
  refine (HL.out _ (bk0)).mono ?_
  rintro e w2 ⟨rfl, hb⟩
  obtain ⟨hkb, xxb⟩ := packDo11
  clear hb
  obtain ⟨bRb0, bVb0, bCb0, bLb0, bRb1⟩ := packDo7
  have bVb1 : rowOf w2 (w.heap.size + 1) = #[.int .i64 6, .int .i64 0, .int .i64 5, .int .i64 p, .int .i64 0, .int .i64 0, .int .i64 0, .int .i64 n, .bool false, .int .u64 0, .int .u64 0, .int .i64 0, .bool false, .int .i64 0, .int .i64 0, .int .i64 0, .int .i64 0, .int .i64 0, .slice none 0 0, .slice none 0 0, .bool false] := by go_simp
  obtain ⟨bCb1, bLb1, bRb2, bVb2, bCb2, bLb2, bRb3, bVb3, bCb3, bLb3, bRb4, bVb4, bCb4, bLb4⟩ := packDo2
  (try clear xxb); (try clear zzb)
  go_wp2_with fail
  obtain ⟨bRg0, bVg0, bCg0, bLg0, bRg1⟩ := packDo6
  have bVg1 : rowOf (w2.alloc (.cells (#[.int .i64 by', .slice a' m' c']) 186)) (w.heap.size + 1) = #[.int .i64 6, .int .i64 0, .int .i64 5, .int .i64 p, .int .i64 0, .int .i64 0, .int .i64 0, .int .i64 n, .bool false, .int .u64 0, .int .u64 0, .int .i64 0, .bool false, .int .i64 0, .int .i64 0, .int .i64 0, .int .i64 0, .int .i64 0, .slice none 0 0, .slice none 0 0, .bool false] := by go_simp
  obtain ⟨bCg1, bLg1, bRg2, bVg2, bCg2, bLg2, bRg3, bVg3, bCg3, bLg3, bRg4, bVg4, bCg4, bLg4, bw8⟩ := packDo1
  (try clear xxb); (try clear zzb)
  generalize w2.alloc (.cells (#[.int .i64 by', .slice a' m' c']) 186) = W8 at *
  refine (store_wsize inn aL CL.length cL (.slice aS S cS) vs hv p n m CS hpc hlS _ (HS2.out.below bw8)).mono ?_
  rintro e w4 ⟨v4, rfl, hs4, hq4, hb⟩
  have hk4 := Keep.mk hb
  obtain ⟨x1d, x2d, x3d, x4d, x5d, x6d, x7d, x8d, x9d, x10d, y9d⟩ := alk hk4.out; (try have zzd := zs w.heap.size w4.heap.size)
  clear hb
  obtain ⟨a4, c4, rfl, -⟩ := id hs4
  simp only [List.length_set, ← HSl.out] at hs4 hq4 ⊢
  have HS4 := Lib.hid hs4
  have HQ4 := Lib.hid hq4
  clear hs4 hq4
  obtain ⟨c3R, c3V, c3C, c4R, c4V, c4C⟩ := packDo5
  (try clear x1d x2d x3d x4d x5d x6d x7d x8d x9d x10d y9d); (try clear zzd)
  obtain ⟨ne1, en1, ne2, en2, ne3, en3, ne4, en4, ne5, en5⟩ := packDo4
  go_wp2
  refine bodyPost_ret (v := .tuple #[.agg (#[.int .i64 inn, .int .i64 0, .slice none 0 0, .slice none 0 0, .slice a4 S c4, .slice aL CL.length cL]), .agg (#[.int .i64 0, .bool false, .int .u64 0, .int .u64 0, .int .i64 0, .bool false, .int .i64 0, .int .i64 0, .int .i64 0, .int .i64 0, .int .i64 0, .slice none 0 0, .slice none 0 0])]) (res_rows (t := 47) (t' := 103) Tryz.results52 _ _ _ _ rfl rfl ?_ ?_ info47 agg47 ?_ ?_ info103 agg103) rfl ?_
  · go_simp
  · go_simp
  · go_simp
  · (first | (go_simp; done) | (go_simp; rfl))
  exact ⟨_, rfl, (HS4.out.upto (upto_own (Upto.refl (w.heap.size + 1 + 1 + 1) _) _) (fun e => bk51)).upto (upto_own (Upto.refl (w.heap.size + 1 + 1 + 1 + 1) _) _) (fun e => bk51), (fun q hq => by have := HQ4.out q hq; (try simp at this); have := bLg0; omega), below_setRow (below_setRow (bw8.trans (hk4.out.mono (by have := bLg0; omega))) (by omega) _) (by omega) _⟩
theorem do_wslot (S : Nat) (h0 : 1 ≤ S) (h1 : S ≤ 8) (p m c : Nat) (l : List Nat) (vs : Value) (CS : List (Array Value)) (inn : Int) (aS : Option Addr) (cS : Nat) (vL : Value) (CL : List (Array Value)) (who : Nat) (hw : who ≤ 100) (hl : CL.length ≤ 1000) (hp : p < S) (hlS : CS.length ≤ 1000) (hll : l.length ≤ 900) (hpc : CS[p]? = some #[.int .i64 m, vs]) (by' m' c' : Nat) (a' : Option Addr) (hk : CL[0]? = some #[.int .i64 by', .slice a' m' c']) (w : World) (h : Sl w vL 2 CL) (h2 : Sl w (.slice aS S cS) 2 CS) (h3 : Sl w vs 10 (l.map peerC)) : Calls Tryz.prog 52 #[.agg (#[.int .i64 inn, .int .i64 0, .slice none 0 0, .slice none 0 0, .slice aS S cS, vL]), .agg (opC (.wslot p l.length c)), .int .i64 who] w fun e w' => ∃ v' v'', e = .returned (.tuple #[.agg (#[.int .i64 inn, .int .i64 0, .slice none 0 0, .slice none 0 0, v', vL]), .agg (valC (.num 0))]) ∧ Sl w' v' 2 (CS.set p #[.int .i64 m, v'']) ∧ Sl w' v'' 10 ((l ++ [c]).map peerC) ∧ (∀ q, v'.ownBlock = some q → w.heap.size ≤ q) ∧ (∀ q, v''.ownBlock = some q → w.heap.size ≤ q) ∧ Below w.heap.size w w' := by
  have H := Lib.hid h
  obtain ⟨aL, cL, rfl, -⟩ := id h
  clear h
  have HM := Lib.hid (fun (W : World) (b : Below w.heap.size w W) => may_wslot_y p l.length c S h0 h1 hp inn aS cS by' m' c' a' _ CL hk who W (H.out.below b))
  have HL := packDo9
  have HS2 := Lib.hid h2
  have HS3 := Lib.hid h3
  have hSl : S = CS.length := by obtain ⟨_, _, e, _⟩ := h2; cases e; rfl
  have HSl := Lib.hid hSl
  clear hSl
  clear hk
  unfold opC at *
  go_enter Tryz.func52, Tryz.ntmps52
  go_wp2_with fail
  refine (HM.out _ (bk0)).mono ?_
  rintro e w1 ⟨rfl, hb⟩
  obtain ⟨hk, xx⟩ := packDo12
  clear hb
  obtain ⟨bR0, bV0, bC0, bL0, bR1⟩ := packDo8
  have bV1 : rowOf w1 (w.heap.size + 1) = #[.int .i64 6, .int .i64 0, .int .i64 6, .int .i64 p, .int .i64 l.length, .int .i64 0, .int .i64 0, .int .i64 0, .bool false, .int .u64 0, .int .u64 (loOf c), .int .i64 80, .bool true, .int .i64 (Pm.tOf c), .int .i64 0, .int .i64 (Pm.tOf c), .int .i64 0, .int .i64 0, .slice none 0 0, .slice none 0 0, .bool false] := by go_simp
  obtain ⟨bC1, bL1, bR2, bV2, bC2, bL2, bR3, bV3, bC3, bL3, bR4, bV4, bC4, bL4⟩ := packDo3
  (try clear xx); (try clear zz)
  go_wp2_with fail
  refine (HL.out _ (bk0)).mono ?_
  rintro e w2 ⟨rfl, hb⟩
  obtain ⟨hkb, xxb⟩ := packDo11
  clear hb
  obtain ⟨bRb0, bVb0, bCb0, bLb0, bRb1⟩ := packDo7
  have bVb1 : rowOf w2 (w.heap.size + 1) = #[.int .i64 6, .int .i64 0, .int .i64 6, .int .i64 p, .int .i64 l.length, .int .i64 0, .int .i64 0, .int .i64 0, .bool false, .int .u64 0, .int .u64 (loOf c), .int .i64 80, .bool true, .int .i64 (Pm.tOf c), .int .i64 0, .int .i64 (Pm.tOf c), .int .i64 0, .int .i64 0, .slice none 0 0, .slice none 0 0, .bool false] := by go_simp
  obtain ⟨bCb1, bLb1, bRb2, bVb2, bCb2, bLb2, bRb3, bVb3, bCb3, bLb3, bRb4, bVb4, bCb4, bLb4⟩ := packDo2
  (try clear xxb); (try clear zzb)
  go_wp2_with fail
  obtain ⟨bRg0, bVg0, bCg0, bLg0, bRg1⟩ := packDo6
  have bVg1 : rowOf (w2.alloc (.cells (#[.int .i64 by', .slice a' m' c']) 186)) (w.heap.size + 1) = #[.int .i64 6, .int .i64 0, .int .i64 6, .int .i64 p, .int .i64 l.length, .int .i64 0, .int .i64 0, .int .i64 0, .bool false, .int .u64 0, .int .u64 (loOf c), .int .i64 80, .bool true, .int .i64 (Pm.tOf c), .int .i64 0, .int .i64 (Pm.tOf c), .int .i64 0, .int .i64 0, .slice none 0 0, .slice none 0 0, .bool false] := by go_simp
  obtain ⟨bCg1, bLg1, bRg2, bVg2, bCg2, bLg2, bRg3, bVg3, bCg3, bLg3, bRg4, bVg4, bCg4, bLg4, bw8⟩ := packDo1
  (try clear xxb); (try clear zzb)
  generalize w2.alloc (.cells (#[.int .i64 by', .slice a' m' c']) 186) = W8 at *
  refine (store_wslot inn aL CL.length cL (.slice aS S cS) vs p c m l CS hpc hlS hll _ (HS2.out.below bw8) (HS3.out.below bw8)).mono ?_
  rintro e w4 ⟨v4, v5, rfl, hs4, hs5, hq4, hq5, hb⟩
  have hk4 := Keep.mk hb
  obtain ⟨x1d, x2d, x3d, x4d, x5d, x6d, x7d, x8d, x9d, x10d, y9d⟩ := alk hk4.out; (try have zzd := zs w.heap.size w4.heap.size)
  clear hb
  obtain ⟨a4, c4, rfl, -⟩ := id hs4
  simp only [List.length_set, ← HSl.out] at hs4 hq4 ⊢
  have HS4 := Lib.hid hs4
  have HQ4 := Lib.hid hq4
  have HS5 := Lib.hid hs5
  have HQ5 := Lib.hid hq5
  clear hs4 hq4 hs5 hq5
  obtain ⟨c3R, c3V, c3C, c4R, c4V, c4C⟩ := packDo5
  (try clear x1d x2d x3d x4d x5d x6d x7d x8d x9d x10d y9d); (try clear zzd)
  obtain ⟨ne1, en1, ne2, en2, ne3, en3, ne4, en4, ne5, en5⟩ := packDo4
  go_wp2
  refine bodyPost_ret (v := .tuple #[.agg (#[.int .i64 inn, .int .i64 0, .slice none 0 0, .slice none 0 0, .slice a4 S c4, .slice aL CL.length cL]), .agg (#[.int .i64 0, .bool false, .int .u64 0, .int .u64 0, .int .i64 0, .bool false, .int .i64 0, .int .i64 0, .int .i64 0, .int .i64 0, .int .i64 0, .slice none 0 0, .slice none 0 0])]) (res_rows (t := 47) (t' := 103) Tryz.results52 _ _ _ _ rfl rfl ?_ ?_ info47 agg47 ?_ ?_ info103 agg103) rfl ?_
  · go_simp
  · go_simp
  · go_simp
  · (first | (go_simp; done) | (go_simp; rfl))
  exact ⟨_, v5, rfl, (HS4.out.upto (upto_own (Upto.refl (w.heap.size + 1 + 1 + 1) _) _) (fun e => bk51)).upto (upto_own (Upto.refl (w.heap.size + 1 + 1 + 1 + 1) _) _) (fun e => bk51), (HS5.out.upto (upto_own (Upto.refl (w.heap.size + 1 + 1 + 1) _) _) (fun e => by have := HQ5.out _ e; (try simp at this); omega)).upto (upto_own (Upto.refl (w.heap.size + 1 + 1 + 1 + 1) _) _) (fun e => by have := HQ5.out _ e; (try simp at this); omega), (fun q hq => by have := HQ4.out q hq; (try simp at this); have := bLg0; omega), (fun q hq => by have := HQ5.out q hq; (try simp at this); have := bLg0; omega), below_setRow (below_setRow (bw8.trans (hk4.out.mono (by have := bLg0; omega))) (by omega) _) (by omega) _⟩
theorem do_share (S : Nat) (h0 : 1 ≤ S) (h1 : S ≤ 8)  (inn : Int) (aS : Option Addr) (cS : Nat) (vL : Value) (CL : List (Array Value)) (who : Nat) (hw : who ≤ 100) (hl : CL.length ≤ 1000) (l : List Nat) (c' : Nat) (a' : Option Addr) (hs : l.Pairwise (· ≤ ·)) (hll : l.length ≤ 90000) (hk : CL[0]? = some #[.int .i64 (0 : Nat), .slice a' l.length c']) (w : World) (h : Sl w vL 2 CL) (hv : Sl w (.slice a' l.length c') 1 (l.map shC)) : Calls Tryz.prog 52 #[.agg (#[.int .i64 inn, .int .i64 0, .slice none 0 0, .slice none 0 0, .slice aS S cS, vL]), .agg (opC (.share )), .int .i64 who] w fun e w' => ∃ (vL' : Value) (l' : List Nat) (v' : Value), e = .returned (.tuple #[.agg (#[.int .i64 inn, .int .i64 0, .slice none 0 0, .slice none 0 0, .slice aS S cS, vL']), .agg (valC (.num 0))]) ∧ Sl w' vL' 2 (CL.set 0 #[.int .i64 (0 : Nat), v']) ∧ Sl w' v' 1 (l'.map shC) ∧ l'.Pairwise (· ≤ ·) ∧ l'.length ≤ l.length + 1 ∧ (∀ q, vL'.ownBlock = some q → w.heap.size ≤ q) ∧ (∀ q, v'.ownBlock = some q → (Value.slice a' l.length c').ownBlock = some q ∨ w.heap.size ≤ q) ∧ Below w.heap.size w w' := by
  have H := Lib.hid h
  obtain ⟨aL, cL, rfl, -⟩ := id h
  clear h
  have HV := Lib.hid hv
  have HVA := Lib.hid (fun q (hq : (Value.slice a' l.length c').ownBlock = some q) => hv.lt hq)
  have h0l : 0 < CL.length := (List.getElem?_eq_some_iff.1 hk).1
  clear hv
  have HM := Lib.hid (fun (W : World) (b : Below w.heap.size w W) => may_share_y  S h0 h1 inn aS cS 0 l.length c' a' _ CL hk rfl who W (H.out.below b))
  have HL := packDo9
  clear hk
  unfold opC at *
  go_enter Tryz.func52, Tryz.ntmps52
  go_wp2_with fail
  refine (HM.out _ (bk0)).mono ?_
  rintro e w1 ⟨rfl, hb⟩
  obtain ⟨hk, xx⟩ := packDo12
  clear hb
  obtain ⟨bR0, bV0, bC0, bL0, bR1⟩ := packDo8
  have bV1 : rowOf w1 (w.heap.size + 1) = #[.int .i64 2, .int .i64 0, .int .i64 0, .int .i64 0, .int .i64 0, .int .i64 0, .int .i64 0, .int .i64 0, .bool false, .int .u64 0, .int .u64 0, .int .i64 0, .bool false, .int .i64 0, .int .i64 0, .int .i64 0, .int .i64 0, .int .i64 0, .slice none 0 0, .slice none 0 0, .bool false] := by go_simp
  obtain ⟨bC1, bL1, bR2, bV2, bC2, bL2, bR3, bV3, bC3, bL3, bR4, bV4, bC4, bL4⟩ := packDo3
  (try clear xx); (try clear zz)
  go_wp2_with fail
  refine (HL.out _ (bk0)).mono ?_
  rintro e w2 ⟨rfl, hb⟩
  obtain ⟨hkb, xxb⟩ := packDo11
  clear hb
  obtain ⟨bRb0, bVb0, bCb0, bLb0, bRb1⟩ := packDo7
  have bVb1 : rowOf w2 (w.heap.size + 1) = #[.int .i64 2, .int .i64 0, .int .i64 0, .int .i64 0, .int .i64 0, .int .i64 0, .int .i64 0, .int .i64 0, .bool false, .int .u64 0, .int .u64 0, .int .i64 0, .bool false, .int .i64 0, .int .i64 0, .int .i64 0, .int .i64 0, .int .i64 0, .slice none 0 0, .slice none 0 0, .bool false] := by go_simp
  obtain ⟨bCb1, bLb1, bRb2, bVb2, bCb2, bLb2, bRb3, bVb3, bCb3, bLb3, bRb4, bVb4, bCb4, bLb4⟩ := packDo2
  (try clear xxb); (try clear zzb)
  go_wp2_with fail
  have bRg0 : isRow (w2.alloc (.cells (#[.int .i64 ((0 : Nat) : Int), .slice a' l.length c']) 186)) (w.heap.size) 47 6 = true := by go_simp
  have bVg0 : rowOf (w2.alloc (.cells (#[.int .i64 ((0 : Nat) : Int), .slice a' l.length c']) 186)) (w.heap.size) = #[.int .i64 inn, .int .i64 0, .slice none 0 0, .slice none 0 0, .slice aS S cS, .slice aL CL.length cL] := by go_simp
  have bCg0 := isCells_row bRg0
  have bLg0 : (w.heap.size) < ((w2.alloc (.cells (#[.int .i64 ((0 : Nat) : Int), .slice a' l.length c']) 186))).heap.size := bk1
  have bRg1 : isRow (w2.alloc (.cells (#[.int .i64 ((0 : Nat) : Int), .slice a' l.length c']) 186)) (w.heap.size + 1) 105 21 = true := by go_simp
  have bVg1 : rowOf (w2.alloc (.cells (#[.int .i64 ((0 : Nat) : Int), .slice a' l.length c']) 186)) (w.heap.size + 1) = #[.int .i64 2, .int .i64 0, .int .i64 0, .int .i64 0, .int .i64 0, .int .i64 0, .int .i64 0, .int .i64 0, .bool false, .int .u64 0, .int .u64 0, .int .i64 0, .bool false, .int .i64 0, .int .i64 0, .int .i64 0, .int .i64 0, .int .i64 0, .slice none 0 0, .slice none 0 0, .bool false] := by go_simp
  have bCg1 := isCells_row bRg1
  have bLg1 : (w.heap.size + 1) < ((w2.alloc (.cells (#[.int .i64 ((0 : Nat) : Int), .slice a' l.length c']) 186))).heap.size := bk1
  have bRg2 : isRow (w2.alloc (.cells (#[.int .i64 ((0 : Nat) : Int), .slice a' l.length c']) 186)) (w.heap.size + 1 + 1) 3 1 = true := by go_simp
  have bVg2 : rowOf (w2.alloc (.cells (#[.int .i64 ((0 : Nat) : Int), .slice a' l.length c']) 186)) (w.heap.size + 1 + 1) = #[.int .i64 who] := by go_simp
  have bCg2 := isCells_row bRg2
  have bLg2 : (w.heap.size + 1 + 1) < ((w2.alloc (.cells (#[.int .i64 ((0 : Nat) : Int), .slice a' l.length c']) 186))).heap.size := bk1
  have bRg3 : isRow (w2.alloc (.cells (#[.int .i64 ((0 : Nat) : Int), .slice a' l.length c']) 186)) (w.heap.size + 1 + 1 + 1) 47 6 = true := by go_simp
  have bVg3 : rowOf (w2.alloc (.cells (#[.int .i64 ((0 : Nat) : Int), .slice a' l.length c']) 186)) (w.heap.size + 1 + 1 + 1) = #[.int .i64 0, .int .i64 0, .slice none 0 0, .slice none 0 0, .slice none 0 0, .slice none 0 0] := by go_simp
  have bCg3 := isCells_row bRg3
  have bLg3 : (w.heap.size + 1 + 1 + 1) < ((w2.alloc (.cells (#[.int .i64 ((0 : Nat) : Int), .slice a' l.length c']) 186))).heap.size := bk1
  have bRg4 : isRow (w2.alloc (.cells (#[.int .i64 ((0 : Nat) : Int), .slice a' l.length c']) 186)) (w.heap.size + 1 + 1 + 1 + 1) 103 13 = true := by go_simp
  have bVg4 : rowOf (w2.alloc (.cells (#[.int .i64 ((0 : Nat) : Int), .slice a' l.length c']) 186)) (w.heap.size + 1 + 1 + 1 + 1) = #[.int .i64 0, .bool false, .int .u64 0, .int .u64 0, .int .i64 0, .bool false, .int .i64 0, .int .i64 0, .int .i64 0, .int .i64 0, .int .i64 0, .slice none 0 0, .slice none 0 0] := by go_simp
  have bCg4 := isCells_row bRg4
  have bLg4 : (w.heap.size + 1 + 1 + 1 + 1) < ((w2.alloc (.cells (#[.int .i64 ((0 : Nat) : Int), .slice a' l.length c']) 186))).heap.size := bk1
  have bw8 : Below w.heap.size w (w2.alloc (.cells (#[.int .i64 ((0 : Nat) : Int), .slice a' l.length c']) 186)) := bk0
  have t8R : isRow (w2.alloc (.cells (#[.int .i64 ((0 : Nat) : Int), .slice a' l.length c']) 186)) w2.heap.size 186 2 = true := by go_simp
  have t8V : rowOf (w2.alloc (.cells (#[.int .i64 ((0 : Nat) : Int), .slice a' l.length c']) 186)) w2.heap.size = #[.int .i64 ((0 : Nat) : Int), .slice a' l.length c'] := by go_simp
  have t8C := isCells_row t8R
  have t8L : w2.heap.size < (w2.alloc (.cells (#[.int .i64 ((0 : Nat) : Int), .slice a' l.length c']) 186)).heap.size := by first | (simp; done) | (simp; omega)
  have cw8 : (w2.alloc (.cells (#[.int .i64 ((0 : Nat) : Int), .slice a' l.length c']) 186)).cell? ⟨(w.heap.size + 1 + 1), 0, none⟩ = some (.int .i64 who) := by go_simp
  obtain ⟨n80, n81, n82, n83, n84, m80, m81, m82, m83, m84⟩ := packDo14
  (try clear xxb); (try clear zzb)
  generalize (w2.alloc (.cells (#[.int .i64 ((0 : Nat) : Int), .slice a' l.length c']) 186)) = W8 at *
  obtain ⟨ne1, en1, ne2, en2, ne3, en3, ne4, en4, ne5, en5⟩ := packDo4
  refine region_treeZ 13 (by kernel_rfl) (Upto (w.heap.size + 1 + 1 + 1) W8) [0, 1, 2, 3, 4, 5, 6, 7, 11] 5 (by kernel_rfl) (by kernel_rfl) (fun _ _ d _ _ h => by cases d <;> exact h) (Upto.refl _ _).drew ?_
  simp only [PL]
  apply reads_op
  · exact bk3
  try simp only [PT]
  apply reads_op
  · exact bk3
  try simp only [PT]
  apply reads_op
  · exact bk3
  try simp only [PT]
  apply reads_op
  · exact bk3
  try simp only [PT]
  apply reads_op
  · exact bk3
  try simp only [PT]
  apply reads_op
  · exact bk3
  try simp only [PT]
  apply reads_op
  · exact bk3
  try simp only [PT]
  apply reads_op
  · exact bk3
  try simp only [PT]
  apply reads_op
  · exact bk3
  try simp only [PT]
  refine reads_nil ?_
  refine treeZ_one 8 (by kernel_rfl) (by kernel_rfl) ?_
  simp only [nthL]
  go_wp2_with fail
  refine (shared_law l who hs hll _ _ (show Sl W8.drew _ _ _ from (HV.out.below bw8).same (Nat.le_refl _) fun _ _ _ => rfl)).mono ?_
  rintro e w4 ⟨l', v', rfl, hsv, hp', hln', hq', hb⟩
  obtain ⟨hk4, b4⟩ := packDo22
  have sz4 := b4.size
  have HSV := Lib.hid hsv
  have HQV := Lib.hid (show ∀ q, v'.ownBlock = some q → (Value.slice a' l.length c').ownBlock = some q ∨ W8.heap.size ≤ q from hq')
  obtain ⟨av, cv, rfl, -⟩ := id hsv
  simp only [List.length_map] at HSV HQV ⊢
  clear hb hsv hq'
  go_wp2
  refine chain_on (bk52) ?_
  refine treeZ_reads (by kernel_rfl) [9] 3 rfl (by kernel_rfl) (fun _ _ d _ _ h => by cases d <;> exact h) (bk52) ?_
  simp only [PL]
  apply reads_op
  · exact bk3
  try simp only [PT]
  refine reads_nil ?_
  refine treeZ_one 10 (by kernel_rfl) (by kernel_rfl) ?_
  simp only [nthL]
  go_wp2_with fail
  refine (locked_law inn aS S cS 0 _ CL (#[.int .i64 ((0 : Nat) : Int), .slice av l'.length cv]) rfl rfl h0l hl w4 (H.out.below (bw8.trans (b4.mono bw8.size)))).mono ?_
  rintro e w5 ⟨v5, rfl, hs5, hq5, hb⟩
  obtain ⟨a5, c5, rfl, -⟩ := id hs5
  simp only [List.length_set] at hs5 hq5 ⊢
  have HS5 := Lib.hid hs5
  have HQ5 := Lib.hid hq5
  have hk5 := Keep.mk hb
  have b5 : Below W8.heap.size W8 w5 := b4.trans (hb.mono sz4)
  clear hb hs5 hq5
  obtain ⟨x1d, x2d, x3d, x4d, x5d, x6d, x7d, x8d, x9d, x10d, y9d⟩ := alk b5; (try have zzd := zs w.heap.size w5.heap.size)
  obtain ⟨c3R, c3V, c3C, c4R, c4V, c4C⟩ := packDo13
  (try clear x1d x2d x3d x4d x5d x6d x7d x8d x9d x10d y9d); (try clear zzd)
  go_wp2
  refine chain_on (bk52) ?_
  refine treeZ_one 12 (by kernel_rfl) (by kernel_rfl) ?_
  simp only [nthL]
  go_wp2_with fail
  refine chain_on (bk52) ?_
  refine treeZ_last 13 rfl (by kernel_rfl) (by kernel_rfl) ?_
  simp only [nthL]
  go_wp2_with fail
  refine chain_on trivial ?_
  refine treeZ_end (by kernel_rfl) ?_
  go_wp2
  refine bodyPost_ret (v := .tuple #[.agg (#[.int .i64 inn, .int .i64 0, .slice none 0 0, .slice none 0 0, .slice aS S cS, .slice a5 CL.length c5]), .agg (#[.int .i64 0, .bool false, .int .u64 0, .int .u64 0, .int .i64 0, .bool false, .int .i64 0, .int .i64 0, .int .i64 0, .int .i64 0, .int .i64 0, .slice none 0 0, .slice none 0 0])]) (res_rows (t := 47) (t' := 103) Tryz.results52 _ _ _ _ rfl rfl ?_ ?_ info47 agg47 ?_ ?_ info103 agg103) rfl ?_
  · go_simp
  · go_simp
  · go_simp
  · (first | (go_simp; done) | (go_simp; rfl))
  exact ⟨_, l', _, rfl, (HS5.out.upto (upto_own (Upto.refl (w.heap.size + 1 + 1 + 1) _) _) (fun e => by have := HQ5.out _ e; omega)).upto (upto_own (Upto.refl (w.heap.size + 1 + 1 + 1 + 1) _) _) (fun e => by have := HQ5.out _ e; omega), ((HSV.out.below hk5.out).upto (upto_own (Upto.refl (w.heap.size + 1 + 1 + 1) _) _) (fun e => by rcases HQV.out _ e with h | h; (have := HVA.out _ h; omega); omega)).upto (upto_own (Upto.refl (w.heap.size + 1 + 1 + 1 + 1) _) _) (fun e => by rcases HQV.out _ e with h | h; (have := HVA.out _ h; omega); omega), hp', hln', (fun q hq => by have := HQ5.out q hq; have := bLg0; omega), (fun q hq => by rcases HQV.out q hq with h | h; exact .inl h; exact .inr (by have := bLg0; omega)), below_setRow (below_setRow (bw8.trans (b5.mono bw8.size)) (by omega) _) (by omega) _⟩
theorem do_drop (S : Nat) (h0 : 1 ≤ S) (h1 : S ≤ 8)  (inn : Int) (aS : Option Addr) (cS : Nat) (vL : Value) (CL : List (Array Value)) (who : Nat) (hw : who ≤ 100) (hl : CL.length ≤ 1000) (by' : Nat) (l : List Nat) (c' : Nat) (a' : Option Addr) (hs : l.Pairwise (· ≤ ·)) (hll : l.length ≤ 90000) (hk : CL[0]? = some #[.int .i64 by', .slice a' l.length c']) (w : World) (h : Sl w vL 2 CL) (hv : Sl w (.slice a' l.length c') 1 (l.map shC)) : Calls Tryz.prog 52 #[.agg (#[.int .i64 inn, .int .i64 0, .slice none 0 0, .slice none 0 0, .slice aS S cS, vL]), .agg (opC (.drop )), .int .i64 who] w fun e w' => ∃ (vL' : Value) (l' : List Nat) (v' : Value), e = .returned (.tuple #[.agg (#[.int .i64 inn, .int .i64 0, .slice none 0 0, .slice none 0 0, .slice aS S cS, vL']), .agg (valC (.num 0))]) ∧ Sl w' vL' 2 (CL.set 0 #[.int .i64 (by' : Nat), v']) ∧ Sl w' v' 1 (l'.map shC) ∧ l'.Pairwise (· ≤ ·) ∧ l'.length ≤ l.length ∧ (∀ q, vL'.ownBlock = some q → w.heap.size ≤ q) ∧ (∀ q, v'.ownBlock = some q → (Value.slice a' l.length c').ownBlock = some q ∨ w.heap.size ≤ q) ∧ Below w.heap.size w w' := by
  have H := Lib.hid h
  obtain ⟨aL, cL, rfl, -⟩ := id h
  clear h
  have HV := Lib.hid hv
  have HVA := Lib.hid (fun q (hq : (Value.slice a' l.length c').ownBlock = some q) => hv.lt hq)
  have h0l : 0 < CL.length := (List.getElem?_eq_some_iff.1 hk).1
  clear hv
  have HM := Lib.hid (fun (W : World) (b : Below w.heap.size w W) => may_drop_y  S h0 h1 inn aS cS by' l.length c' a' _ CL hk who W (H.out.below b))
  have HL := packDo9
  clear hk
  have hm := fun (fn : Fn) (first cap : Array Value) (w : World) => (rfl : (Instr.makeFunc fn first cap).run Tryz.prog w = .ok (.func fn first cap) w)
  unfold opC at *
  go_enter Tryz.func52, Tryz.ntmps52
  go_wp2_with fail
  refine (HM.out _ (bk0)).mono ?_
  rintro e w1 ⟨rfl, hb⟩
  obtain ⟨hk, xx⟩ := packDo12
  clear hb
  obtain ⟨bR0, bV0, bC0, bL0, bR1⟩ := packDo8
  have bV1 : rowOf w1 (w.heap.size + 1) = #[.int .i64 4, .int .i64 0, .int .i64 0, .int .i64 0, .int .i64 0, .int .i64 0, .int .i64 0, .int .i64 0, .bool false, .int .u64 0, .int .u64 0, .int .i64 0, .bool false, .int .i64 0, .int .i64 0, .int .i64 0, .int .i64 0, .int .i64 0, .slice none 0 0, .slice none 0 0, .bool false] := by go_simp
  obtain ⟨bC1, bL1, bR2, bV2, bC2, bL2, bR3, bV3, bC3, bL3, bR4, bV4, bC4, bL4⟩ := packDo3
  (try clear xx); (try clear zz)
  go_wp2_with fail
  refine (HL.out _ (bk0)).mono ?_
  rintro e w2 ⟨rfl, hb⟩
  obtain ⟨hkb, xxb⟩ := packDo11
  clear hb
  obtain ⟨bRb0, bVb0, bCb0, bLb0, bRb1⟩ := packDo7
  have bVb1 : rowOf w2 (w.heap.size + 1) = #[.int .i64 4, .int .i64 0, .int .i64 0, .int .i64 0, .int .i64 0, .int .i64 0, .int .i64 0, .int .i64 0, .bool false, .int .u64 0, .int .u64 0, .int .i64 0, .bool false, .int .i64 0, .int .i64 0, .int .i64 0, .int .i64 0, .int .i64 0, .slice none 0 0, .slice none 0 0, .bool false] := by go_simp
  obtain ⟨bCb1, bLb1, bRb2, bVb2, bCb2, bLb2, bRb3, bVb3, bCb3, bLb3, bRb4, bVb4, bCb4, bLb4⟩ := packDo2
  (try clear xxb); (try clear zzb)
  go_wp2_with fail
  have bRg0 : isRow (w2.alloc (.cells (#[.int .i64 by', .slice a' l.length c']) 186)) (w.heap.size) 47 6 = true := by go_simp
  have bVg0 : rowOf (w2.alloc (.cells (#[.int .i64 by', .slice a' l.length c']) 186)) (w.heap.size) = #[.int .i64 inn, .int .i64 0, .slice none 0 0, .slice none 0 0, .slice aS S cS, .slice aL CL.length cL] := by go_simp
  have bCg0 := isCells_row bRg0
  have bLg0 : (w.heap.size) < ((w2.alloc (.cells (#[.int .i64 by', .slice a' l.length c']) 186))).heap.size := bk1
  have bRg1 : isRow (w2.alloc (.cells (#[.int .i64 by', .slice a' l.length c']) 186)) (w.heap.size + 1) 105 21 = true := by go_simp
  have bVg1 : rowOf (w2.alloc (.cells (#[.int .i64 by', .slice a' l.length c']) 186)) (w.heap.size + 1) = #[.int .i64 4, .int .i64 0, .int .i64 0, .int .i64 0, .int .i64 0, .int .i64 0, .int .i64 0, .int .i64 0, .bool false, .int .u64 0, .int .u64 0, .int .i64 0, .bool false, .int .i64 0, .int .i64 0, .int .i64 0, .int .i64 0, .int .i64 0, .slice none 0 0, .slice none 0 0, .bool false] := by go_simp
  have bCg1 := isCells_row bRg1
  have bLg1 : (w.heap.size + 1) < ((w2.alloc (.cells (#[.int .i64 by', .slice a' l.length c']) 186))).heap.size := bk1
  have bRg2 : isRow (w2.alloc (.cells (#[.int .i64 by', .slice a' l.length c']) 186)) (w.heap.size + 1 + 1) 3 1 = true := by go_simp
  have bVg2 : rowOf (w2.alloc (.cells (#[.int .i64 by', .slice a' l.length c']) 186)) (w.heap.size + 1 + 1) = #[.int .i64 who] := by go_simp
  have bCg2 := isCells_row bRg2
  have bLg2 : (w.heap.size + 1 + 1) < ((w2.alloc (.cells (#[.int .i64 by', .slice a' l.length c']) 186))).heap.size := bk1
  have bRg3 : isRow (w2.alloc (.cells (#[.int .i64 by', .slice a' l.length c']) 186)) (w.heap.size + 1 + 1 + 1) 47 6 = true := by go_simp
  have bVg3 : rowOf (w2.alloc (.cells (#[.int .i64 by', .slice a' l.length c']) 186)) (w.heap.size + 1 + 1 + 1) = #[.int .i64 0, .int .i64 0, .slice none 0 0, .slice none 0 0, .slice none 0 0, .slice none 0 0] := by go_simp
  have bCg3 := isCells_row bRg3
  have bLg3 : (w.heap.size + 1 + 1 + 1) < ((w2.alloc (.cells (#[.int .i64 by', .slice a' l.length c']) 186))).heap.size := bk1
  have bRg4 : isRow (w2.alloc (.cells (#[.int .i64 by', .slice a' l.length c']) 186)) (w.heap.size + 1 + 1 + 1 + 1) 103 13 = true := by go_simp
  have bVg4 : rowOf (w2.alloc (.cells (#[.int .i64 by', .slice a' l.length c']) 186)) (w.heap.size + 1 + 1 + 1 + 1) = #[.int .i64 0, .bool false, .int .u64 0, .int .u64 0, .int .i64 0, .bool false, .int .i64 0, .int .i64 0, .int .i64 0, .int .i64 0, .int .i64 0, .slice none 0 0, .slice none 0 0] := by go_simp
  have bCg4 := isCells_row bRg4
  have bLg4 : (w.heap.size + 1 + 1 + 1 + 1) < ((w2.alloc (.cells (#[.int .i64 by', .slice a' l.length c']) 186))).heap.size := bk1
  have bw8 : Below w.heap.size w (w2.alloc (.cells (#[.int .i64 by', .slice a' l.length c']) 186)) := bk0
  have t8R : isRow (w2.alloc (.cells (#[.int .i64 by', .slice a' l.length c']) 186)) w2.heap.size 186 2 = true := by go_simp
  have t8V : rowOf (w2.alloc (.cells (#[.int .i64 by', .slice a' l.length c']) 186)) w2.heap.size = #[.int .i64 by', .slice a' l.length c'] := by go_simp
  have t8C := isCells_row t8R
  have t8L : w2.heap.size < (w2.alloc (.cells (#[.int .i64 by', .slice a' l.length c']) 186)).heap.size := by first | (simp; done) | (simp; omega)
  have cw8 : (w2.alloc (.cells (#[.int .i64 by', .slice a' l.length c']) 186)).cell? ⟨(w.heap.size + 1 + 1), 0, none⟩ = some (.int .i64 who) := by go_simp
  obtain ⟨n80, n81, n82, n83, n84, m80, m81, m82, m83, m84⟩ := packDo14
  (try clear xxb); (try clear zzb)
  generalize (w2.alloc (.cells (#[.int .i64 by', .slice a' l.length c']) 186)) = W8 at *
  obtain ⟨ne1, en1, ne2, en2, ne3, en3, ne4, en4, ne5, en5⟩ := packDo4
  refine (clone87 _ _ W8 (HV.out.below bw8) (by simp; omega)).mono ?_
  rintro e w4 ⟨v4, rfl, ho4, hb⟩
  have HO4 := Lib.hid ho4
  have b4 := Keep.mk hb
  clear hb ho4
  go_wp2_with fail
  refine (delete_law l who (w.heap.size + 1 + 1) W8.heap.size hs hll v4 w4 HO4.out (by omega) b4.out.size ((b4.out.cell (p := ⟨(w.heap.size + 1 + 1), 0, none⟩) (by show _ < W8.heap.size; omega)).trans cw8)).mono ?_
  rintro e w5 ⟨l', v', rfl, hsv, hp', hln', hq', hb⟩
  have b5 : Below W8.heap.size W8 w5 := b4.out.trans hb
  have hk5 := Keep.mk b5
  have HSV := Lib.hid hsv
  have HQV := Lib.hid hq'
  obtain ⟨av, cv, rfl, -⟩ := id hsv
  simp only [List.length_map] at HSV HQV ⊢
  clear hb hsv hq'
  obtain ⟨x1d, x2d, x3d, x4d, x5d, x6d, x7d, x8d, x9d, x10d, y9d⟩ := alk b5; (try have zzd := zs w.heap.size w5.heap.size)
  obtain ⟨c3R, c3V, c3C, c4R, c4V, c4C⟩ := packDo13
  have c0R : isRow w5 (w.heap.size) 47 6 = true := (x1d _ _ _ bLg0).trans bRg0
  have c0V : rowOf w5 (w.heap.size) = #[.int .i64 inn, .int .i64 0, .slice none 0 0, .slice none 0 0, .slice aS S cS, .slice aL CL.length cL] := (x2d _ bLg0).trans bVg0
  have c0C := isCells_row c0R
  have c1R : isRow w5 (w.heap.size + 1) 105 21 = true := (x1d _ _ _ bLg1).trans bRg1
  have c1V : rowOf w5 (w.heap.size + 1) = #[.int .i64 4, .int .i64 0, .int .i64 0, .int .i64 0, .int .i64 0, .int .i64 0, .int .i64 0, .int .i64 0, .bool false, .int .u64 0, .int .u64 0, .int .i64 0, .bool false, .int .i64 0, .int .i64 0, .int .i64 0, .int .i64 0, .int .i64 0, .slice none 0 0, .slice none 0 0, .bool false] := (x2d _ bLg1).trans bVg1
  have c1C := isCells_row c1R
  have t5R : isRow w5 w2.heap.size 186 2 = true := (x1d _ _ _ t8L).trans t8R
  have t5V : rowOf w5 w2.heap.size = #[.int .i64 by', .slice a' l.length c'] := (x2d _ t8L).trans t8V
  have t5C := isCells_row t5R
  (try clear x1d x2d x3d x4d x5d x6d x7d x8d x9d x10d y9d); (try clear zzd)
  go_wp2_with fail
  have bs5 : Below w.heap.size w (w5.setRow w2.heap.size (#[.int .i64 (by' : Int), .slice av l'.length cv])) := below_setRow (bw8.trans (b5.mono bw8.size)) (by omega) _
  refine (locked_law inn aS S cS 0 _ CL (#[.int .i64 (by' : Int), .slice av l'.length cv]) rfl rfl h0l hl _ (H.out.below bs5)).mono ?_
  rintro e w6 ⟨v6, rfl, hs6, hq6, hb⟩
  obtain ⟨a6, c6, rfl, -⟩ := id hs6
  simp only [List.length_set] at hs6 hq6 ⊢
  have HS6 := Lib.hid hs6
  have HQ6 := Lib.hid hq6
  have hk6 := Keep.mk hb
  clear hb hs6 hq6
  obtain ⟨x1f, x2f, x3f, x4f, x5f, x6f, x7f, x8f, x9f, x10f, y9f⟩ := alk hk6.out; (try have zzf := zs w.heap.size w6.heap.size)
  have d3R : isRow w6 (w.heap.size + 1 + 1 + 1) 47 6 = true := (x1f _ _ _ (by rw [sr_size]; have := b5.size; omega)).trans (by rw [sr_isRow' _ _ _ _ _ _ (by omega)]; exact c3R)
  have d3V : rowOf w6 (w.heap.size + 1 + 1 + 1) = #[.int .i64 0, .int .i64 0, .slice none 0 0, .slice none 0 0, .slice none 0 0, .slice none 0 0] := (x2f _ (by rw [sr_size]; have := b5.size; omega)).trans ((sr_row' _ _ _ _ (by omega)).trans c3V)
  have d3C := isCells_row d3R
  have d4R : isRow w6 (w.heap.size + 1 + 1 + 1 + 1) 103 13 = true := (x1f _ _ _ (by rw [sr_size]; have := b5.size; omega)).trans (by rw [sr_isRow' _ _ _ _ _ _ (by omega)]; exact c4R)
  have d4V : rowOf w6 (w.heap.size + 1 + 1 + 1 + 1) = #[.int .i64 0, .bool false, .int .u64 0, .int .u64 0, .int .i64 0, .bool false, .int .i64 0, .int .i64 0, .int .i64 0, .int .i64 0, .int .i64 0, .slice none 0 0, .slice none 0 0] := (x2f _ (by rw [sr_size]; have := b5.size; omega)).trans ((sr_row' _ _ _ _ (by omega)).trans c4V)
  have d4C := isCells_row d4R
  (try clear x1f x2f x3f x4f x5f x6f x7f x8f x9f x10f y9f); (try clear zzf)
  go_wp2
  refine bodyPost_ret (v := .tuple #[.agg (#[.int .i64 inn, .int .i64 0, .slice none 0 0, .slice none 0 0, .slice aS S cS, .slice a6 CL.length c6]), .agg (#[.int .i64 0, .bool false, .int .u64 0, .int .u64 0, .int .i64 0, .bool false, .int .i64 0, .int .i64 0, .int .i64 0, .int .i64 0, .int .i64 0, .slice none 0 0, .slice none 0 0])]) (res_rows (t := 47) (t' := 103) Tryz.results52 _ _ _ _ rfl rfl ?_ ?_ info47 agg47 ?_ ?_ info103 agg103) rfl ?_
  · go_simp
  · go_simp
  · go_simp
  · (first | (go_simp; done) | (go_simp; rfl))
  exact ⟨_, l', _, rfl, (HS6.out.upto (upto_own (Upto.refl (w.heap.size + 1 + 1 + 1) _) _) (fun e => by have := HQ6.out _ e; rw [sr_size] at this; have := b5.size; omega)).upto (upto_own (Upto.refl (w.heap.size + 1 + 1 + 1 + 1) _) _) (fun e => by have := HQ6.out _ e; rw [sr_size] at this; have := b5.size; omega), (((HSV.out.upto (upto_own (Upto.refl w2.heap.size _) _) (fun e => by have := HQV.out _ e; omega)).below hk6.out).upto (upto_own (Upto.refl (w.heap.size + 1 + 1 + 1) _) _) (fun e => by have := HQV.out _ e; omega)).upto (upto_own (Upto.refl (w.heap.size + 1 + 1 + 1 + 1) _) _) (fun e => by have := HQV.out _ e; omega), hp', hln', (fun q hq => by have := HQ6.out q hq; rw [sr_size] at this; have := b5.size; have := bLg0; omega), (fun q hq => .inr (by have := HQV.out q hq; have := bLg0; omega)), below_setRow (below_setRow (bs5.trans (hk6.out.mono (by rw [sr_size]; have := b5.size; omega))) (by omega) _) (by omega) _⟩
end Go.Proofs.YtnncjbkepakgpaaGreat
