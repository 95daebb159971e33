/-
  THE WORLD: A STEP.
-/
import Derived.Test.YtnncjbkepakgpaaGreatA07
import Derived.Test.YtnncjbkepakgpaaGreatA37
import Derived.Test.YtnncjbkepakgpaaGreatA28
namespace Go.Proofs.YtnncjbkepakgpaaGreat
set_option linter.unusedVariables false
set_option linter.unusedSimpArgs false
set_option maxRecDepth 100000
set_option maxHeartbeats 3000000
open Go.RowKit
attribute [local go_sem ↓] exec_load_47 exec_store_47 exec_load_62 exec_store_62 exec_load_51 exec_store_51 exec_load_105 exec_store_105 exec_load_29 exec_store_29 exec_load_103 exec_store_103 exec_load_107 exec_store_107
attribute [local go_sem] run_load47r run_store47i run_load62r run_store62i run_load51r run_store51i run_load105r run_store105i run_load29r run_store29i run_load103r run_store103i run_load107r run_store107i lt_up isRng_new rngOf_new isRange_past rangeOf_past isRange_drew rangeOf_drew fits_new fits_past fits_drew setAt_new setAt_past setAt_drew putAt_whole putAt_lit extract_whole extract_lit one_int one_bool one_slice one_ptr ones_lit onesL_nil onesL_cons isRow_new rowOf_new isRow_past rowOf_past isRow_drew rowOf_drew lt2 lt3 lt4 List.take_succ_cons List.take_zero List.drop_succ_cons List.drop_zero List.cons_append List.nil_append List.length_cons List.length_nil List.size_toArray setRow_new setRow_past own_cell own_frozen own_set own_isRange own_rangeOf own_fits setAt_row sr_sr sr_size sr_row sr_row' sr_isRow sr_isRow' sr_fits' sr_cell' sr_frozen' sr_isRange' sr_rangeOf' sr_isCells isCells_new isCells_past isCells_drew valC_size valC_ones opC_size opC_ones replyC_size srs_isRange srs_rangeOf srs_fits srs_cell srs_frozen
theorem packStepW1 {p : Prop} (h : PQ p := by
  have HFr := Lib.hid (show ∀ q, Reach C' q → q < w.heap.size ∨ W5.heap.size ≤ q from fun q hq => (HTA.out.2 q hq).elim (fun h => .inl (HCr.out q h)) (fun h => .inr (by omega)))
  have HFq := Lib.hid (show ∀ q, Reach C' q → R q ∨ w.heap.size ≤ q from fun q hq => (HTA.out.2 q hq).elim (fun h => .inl (H7C.out q h).1) (fun h => .inr (by have := bw5.size; omega)))
  exact pq (And.intro HFr HFq)) : p := h
theorem tailStepW1 {p : Prop} (h : p := by
  obtain ⟨aG5, cG5, ev, -⟩ := hown.sl
  simp only [List.length_append, List.length_singleton, List.length_cons, List.length_nil] at ev
  subst ev
  clear hown hbel HO5 hk5
  have xr := alike (b10)
  have bRr0 : isRow w7 ((w.heap.size)) 51 24 = true := (xr.1 _ _ _ bLp0).trans bRp0
  have bVr0 : rowOf w7 ((w.heap.size)) = #[.int .i64 most, .int .i64 4, .int .i64 S, .int .i64 64, .int .i64 64, .int .u64 1, .int .i64 1, .int .i64 1, .int .i64 1, .int .i64 64, .int .i64 100, .int .i64 100, .int .i64 1000, .int .i64 2, .int .i64 64, .int .i64 4, .int .i64 inn', .int .i64 0, .slice none 0 0, .slice none 0 0, .slice aS' CS'.length cS', .slice aL' CL'.length cL', .slice (some ⟨g4, 0, none⟩) CT.length cap4, .slice aG CG.length cG] := (xr.2.1 _ bLp0).trans bVp0
  have bCr0 := isCells_row bRr0
  have bLr0 : (w.heap.size) < (w7).heap.size := Nat.lt_of_lt_of_le bLp0 b10.size
  have bRr1 : isRow w7 ((w.heap.size + 1)) 51 24 = true := (xr.1 _ _ _ bLp1).trans bRp1
  have bVr1 : rowOf w7 ((w.heap.size + 1)) = #[.int .i64 0, .int .i64 0, .int .i64 0, .int .i64 0, .int .i64 0, .int .u64 0, .int .i64 0, .int .i64 0, .int .i64 0, .int .i64 0, .int .i64 0, .int .i64 0, .int .i64 0, .int .i64 0, .int .i64 0, .int .i64 0, .int .i64 0, .int .i64 0, .slice none 0 0, .slice none 0 0, .slice none 0 0, .slice none 0 0, .slice none 0 0, .slice none 0 0] := (xr.2.1 _ bLp1).trans bVp1
  have bCr1 := isCells_row bRr1
  have bLr1 : (w.heap.size + 1) < (w7).heap.size := Nat.lt_of_lt_of_le bLp1 b10.size
  have hk10 := Keep.mk b10
  clear xr
  go_wp2
  refine chain_on ⟨bk4⟩ ?_
  refine treeZ_reads (by kernel_rfl) [6] 1 rfl (by kernel_rfl) (fun _ _ d _ _ h => by cases d <;> exact h) ⟨bk4⟩ ?_
  simp only [PL]
  apply reads_op
  · exact bk8
  try simp only [PT]
  refine reads_nil ?_
  refine treeZ_last 7 rfl (by kernel_rfl) (by kernel_rfl) ?_
  simp only [nthL]
  go_wp2_with fail
  refine chain_on trivial ?_
  refine treeZ_end (by kernel_rfl) ?_
  have bRs0 : isRow (w7.setRow (w.heap.size) (#[.int .i64 most, .int .i64 4, .int .i64 S, .int .i64 64, .int .i64 64, .int .u64 1, .int .i64 1, .int .i64 1, .int .i64 1, .int .i64 64, .int .i64 100, .int .i64 100, .int .i64 1000, .int .i64 2, .int .i64 64, .int .i64 4, .int .i64 inn', .int .i64 0, .slice none 0 0, .slice none 0 0, .slice aS' CS'.length cS', .slice aL' CL'.length cL', .slice (some ⟨g4, 0, none⟩) CT.length cap4, .slice aG5 (CG.length + 1) cG5])) ((w.heap.size)) 51 24 = true := sr_isRow (#[.int .i64 most, .int .i64 4, .int .i64 S, .int .i64 64, .int .i64 64, .int .u64 1, .int .i64 1, .int .i64 1, .int .i64 1, .int .i64 64, .int .i64 100, .int .i64 100, .int .i64 1000, .int .i64 2, .int .i64 64, .int .i64 4, .int .i64 inn', .int .i64 0, .slice none 0 0, .slice none 0 0, .slice aS' CS'.length cS', .slice aL' CL'.length cL', .slice (some ⟨g4, 0, none⟩) CT.length cap4, .slice aG5 (CG.length + 1) cG5]) bRr0 rfl
  have bVs0 : rowOf (w7.setRow (w.heap.size) (#[.int .i64 most, .int .i64 4, .int .i64 S, .int .i64 64, .int .i64 64, .int .u64 1, .int .i64 1, .int .i64 1, .int .i64 1, .int .i64 64, .int .i64 100, .int .i64 100, .int .i64 1000, .int .i64 2, .int .i64 64, .int .i64 4, .int .i64 inn', .int .i64 0, .slice none 0 0, .slice none 0 0, .slice aS' CS'.length cS', .slice aL' CL'.length cL', .slice (some ⟨g4, 0, none⟩) CT.length cap4, .slice aG5 (CG.length + 1) cG5])) ((w.heap.size)) = (#[.int .i64 most, .int .i64 4, .int .i64 S, .int .i64 64, .int .i64 64, .int .u64 1, .int .i64 1, .int .i64 1, .int .i64 1, .int .i64 64, .int .i64 100, .int .i64 100, .int .i64 1000, .int .i64 2, .int .i64 64, .int .i64 4, .int .i64 inn', .int .i64 0, .slice none 0 0, .slice none 0 0, .slice aS' CS'.length cS', .slice aL' CL'.length cL', .slice (some ⟨g4, 0, none⟩) CT.length cap4, .slice aG5 (CG.length + 1) cG5]) := sr_row (#[.int .i64 most, .int .i64 4, .int .i64 S, .int .i64 64, .int .i64 64, .int .u64 1, .int .i64 1, .int .i64 1, .int .i64 1, .int .i64 64, .int .i64 100, .int .i64 100, .int .i64 1000, .int .i64 2, .int .i64 64, .int .i64 4, .int .i64 inn', .int .i64 0, .slice none 0 0, .slice none 0 0, .slice aS' CS'.length cS', .slice aL' CL'.length cL', .slice (some ⟨g4, 0, none⟩) CT.length cap4, .slice aG5 (CG.length + 1) cG5]) bCr0
  have bCs0 := isCells_row bRs0
  have bLs0 : (w.heap.size) < ((w7.setRow (w.heap.size) (#[.int .i64 most, .int .i64 4, .int .i64 S, .int .i64 64, .int .i64 64, .int .u64 1, .int .i64 1, .int .i64 1, .int .i64 1, .int .i64 64, .int .i64 100, .int .i64 100, .int .i64 1000, .int .i64 2, .int .i64 64, .int .i64 4, .int .i64 inn', .int .i64 0, .slice none 0 0, .slice none 0 0, .slice aS' CS'.length cS', .slice aL' CL'.length cL', .slice (some ⟨g4, 0, none⟩) CT.length cap4, .slice aG5 (CG.length + 1) cG5]))).heap.size := by rw [sr_size]; exact bLr0
  have bRs1 : isRow (w7.setRow (w.heap.size) (#[.int .i64 most, .int .i64 4, .int .i64 S, .int .i64 64, .int .i64 64, .int .u64 1, .int .i64 1, .int .i64 1, .int .i64 1, .int .i64 64, .int .i64 100, .int .i64 100, .int .i64 1000, .int .i64 2, .int .i64 64, .int .i64 4, .int .i64 inn', .int .i64 0, .slice none 0 0, .slice none 0 0, .slice aS' CS'.length cS', .slice aL' CL'.length cL', .slice (some ⟨g4, 0, none⟩) CT.length cap4, .slice aG5 (CG.length + 1) cG5])) ((w.heap.size + 1)) 51 24 = true := (sr_isRow' w7 ((w.heap.size)) ((w.heap.size + 1)) 24 51 (#[.int .i64 most, .int .i64 4, .int .i64 S, .int .i64 64, .int .i64 64, .int .u64 1, .int .i64 1, .int .i64 1, .int .i64 1, .int .i64 64, .int .i64 100, .int .i64 100, .int .i64 1000, .int .i64 2, .int .i64 64, .int .i64 4, .int .i64 inn', .int .i64 0, .slice none 0 0, .slice none 0 0, .slice aS' CS'.length cS', .slice aL' CL'.length cL', .slice (some ⟨g4, 0, none⟩) CT.length cap4, .slice aG5 (CG.length + 1) cG5]) (show (w.heap.size + 1) ≠ (w.heap.size) by omega)).trans bRr1
  have bVs1 : rowOf (w7.setRow (w.heap.size) (#[.int .i64 most, .int .i64 4, .int .i64 S, .int .i64 64, .int .i64 64, .int .u64 1, .int .i64 1, .int .i64 1, .int .i64 1, .int .i64 64, .int .i64 100, .int .i64 100, .int .i64 1000, .int .i64 2, .int .i64 64, .int .i64 4, .int .i64 inn', .int .i64 0, .slice none 0 0, .slice none 0 0, .slice aS' CS'.length cS', .slice aL' CL'.length cL', .slice (some ⟨g4, 0, none⟩) CT.length cap4, .slice aG5 (CG.length + 1) cG5])) ((w.heap.size + 1)) = #[.int .i64 0, .int .i64 0, .int .i64 0, .int .i64 0, .int .i64 0, .int .u64 0, .int .i64 0, .int .i64 0, .int .i64 0, .int .i64 0, .int .i64 0, .int .i64 0, .int .i64 0, .int .i64 0, .int .i64 0, .int .i64 0, .int .i64 0, .int .i64 0, .slice none 0 0, .slice none 0 0, .slice none 0 0, .slice none 0 0, .slice none 0 0, .slice none 0 0] := (sr_row' w7 ((w.heap.size)) ((w.heap.size + 1)) (#[.int .i64 most, .int .i64 4, .int .i64 S, .int .i64 64, .int .i64 64, .int .u64 1, .int .i64 1, .int .i64 1, .int .i64 1, .int .i64 64, .int .i64 100, .int .i64 100, .int .i64 1000, .int .i64 2, .int .i64 64, .int .i64 4, .int .i64 inn', .int .i64 0, .slice none 0 0, .slice none 0 0, .slice aS' CS'.length cS', .slice aL' CL'.length cL', .slice (some ⟨g4, 0, none⟩) CT.length cap4, .slice aG5 (CG.length + 1) cG5]) (show (w.heap.size + 1) ≠ (w.heap.size) by omega)).trans bVr1
  have bCs1 := isCells_row bRs1
  have bLs1 : (w.heap.size + 1) < ((w7.setRow (w.heap.size) (#[.int .i64 most, .int .i64 4, .int .i64 S, .int .i64 64, .int .i64 64, .int .u64 1, .int .i64 1, .int .i64 1, .int .i64 1, .int .i64 64, .int .i64 100, .int .i64 100, .int .i64 1000, .int .i64 2, .int .i64 64, .int .i64 4, .int .i64 inn', .int .i64 0, .slice none 0 0, .slice none 0 0, .slice aS' CS'.length cS', .slice aL' CL'.length cL', .slice (some ⟨g4, 0, none⟩) CT.length cap4, .slice aG5 (CG.length + 1) cG5]))).heap.size := by rw [sr_size]; exact bLr1
  have hbf := Lib.hid (show Below w.heap.size w ((w7.setRow (w.heap.size) (#[.int .i64 most, .int .i64 4, .int .i64 S, .int .i64 64, .int .i64 64, .int .u64 1, .int .i64 1, .int .i64 1, .int .i64 1, .int .i64 64, .int .i64 100, .int .i64 100, .int .i64 1000, .int .i64 2, .int .i64 64, .int .i64 4, .int .i64 inn', .int .i64 0, .slice none 0 0, .slice none 0 0, .slice aS' CS'.length cS', .slice aL' CL'.length cL', .slice (some ⟨g4, 0, none⟩) CT.length cap4, .slice aG5 (CG.length + 1) cG5])).setRow (w.heap.size + 1) (#[.int .i64 most, .int .i64 4, .int .i64 S, .int .i64 64, .int .i64 64, .int .u64 1, .int .i64 1, .int .i64 1, .int .i64 1, .int .i64 64, .int .i64 100, .int .i64 100, .int .i64 1000, .int .i64 2, .int .i64 64, .int .i64 4, .int .i64 inn', .int .i64 0, .slice none 0 0, .slice none 0 0, .slice aS' CS'.length cS', .slice aL' CL'.length cL', .slice (some ⟨g4, 0, none⟩) CT.length cap4, .slice aG5 (CG.length + 1) cG5])) from below_setRow (below_setRow (b9.trans (hk10.out.mono b9.size)) (Nat.le_refl _) _) (Nat.le_succ _) _)
  go_wp2
  refine bodyPost_ret (v := .tuple #[.agg (#[.int .i64 most, .int .i64 4, .int .i64 S, .int .i64 64, .int .i64 64, .int .u64 1, .int .i64 1, .int .i64 1, .int .i64 1, .int .i64 64, .int .i64 100, .int .i64 100, .int .i64 1000, .int .i64 2, .int .i64 64, .int .i64 4, .int .i64 inn', .int .i64 0, .slice none 0 0, .slice none 0 0, .slice aS' CS'.length cS', .slice aL' CL'.length cL', .slice (some ⟨g4, 0, none⟩) CT.length cap4, .slice aG5 (CG.length + 1) cG5]), .bool true]) (res_row2 (t := 51) Tryz.results23 _ _ _ rfl ?_ ?_ info51 agg51) rfl ?_
  · go_simp
  · go_simp
  refine ⟨_, rfl, step_close R most S who n w.heap.size W7.heap.size W9.heap.size ⟨most, S, prt S⟩ p t o inn' _ _ _ _ _ _ _ _ CT C' CG (List.toArray (Value.int .i64 who :: Value.int .i64 t.nth :: o101 :: o102 :: o103 :: o104 :: o105 :: o106 :: o107 :: o108 :: o109 :: o110 :: o111 :: o112 :: o113 :: o114 :: o115 :: o116 :: o117 :: o118 :: o119 :: o120 :: o121 :: v101 :: v102 :: v103 :: v104 :: v105 :: v106 :: v107 :: v108 :: v109 :: v110 :: v111 :: v112 :: v113 :: Value.bool lb :: [])) g4 cap4 ((w7.setRow (w.heap.size) (#[.int .i64 most, .int .i64 4, .int .i64 S, .int .i64 64, .int .i64 64, .int .u64 1, .int .i64 1, .int .i64 1, .int .i64 1, .int .i64 64, .int .i64 100, .int .i64 100, .int .i64 1000, .int .i64 2, .int .i64 64, .int .i64 4, .int .i64 inn', .int .i64 0, .slice none 0 0, .slice none 0 0, .slice aS' CS'.length cS', .slice aL' CL'.length cL', .slice (some ⟨g4, 0, none⟩) CT.length cap4, .slice aG5 (CG.length + 1) cG5])).setRow (w.heap.size + 1) (#[.int .i64 most, .int .i64 4, .int .i64 S, .int .i64 64, .int .i64 64, .int .u64 1, .int .i64 1, .int .i64 1, .int .i64 1, .int .i64 64, .int .i64 100, .int .i64 100, .int .i64 1000, .int .i64 2, .int .i64 64, .int .i64 4, .int .i64 inn', .int .i64 0, .slice none 0 0, .slice none 0 0, .slice aS' CS'.length cS', .slice aL' CL'.length cL', .slice (some ⟨g4, 0, none⟩) CT.length cap4, .slice aG5 (CG.length + 1) cG5])) Hinn.out (((HM9.out.below hk10.out).upto (upto_own (Upto.refl (w.heap.size) w7) (#[.int .i64 most, .int .i64 4, .int .i64 S, .int .i64 64, .int .i64 64, .int .u64 1, .int .i64 1, .int .i64 1, .int .i64 1, .int .i64 64, .int .i64 100, .int .i64 100, .int .i64 1000, .int .i64 2, .int .i64 64, .int .i64 4, .int .i64 inn', .int .i64 0, .slice none 0 0, .slice none 0 0, .slice aS' CS'.length cS', .slice aL' CL'.length cL', .slice (some ⟨g4, 0, none⟩) CT.length cap4, .slice aG5 (CG.length + 1) cG5])) ?_).upto (upto_own (Upto.refl (w.heap.size + 1) _) (#[.int .i64 most, .int .i64 4, .int .i64 S, .int .i64 64, .int .i64 64, .int .u64 1, .int .i64 1, .int .i64 1, .int .i64 1, .int .i64 64, .int .i64 100, .int .i64 100, .int .i64 1000, .int .i64 2, .int .i64 64, .int .i64 4, .int .i64 inn', .int .i64 0, .slice none 0 0, .slice none 0 0, .slice aS' CS'.length cS', .slice aL' CL'.length cL', .slice (some ⟨g4, 0, none⟩) CT.length cap4, .slice aG5 (CG.length + 1) cG5])) ?_) ?_ ((((HO9.out.below hk10.out).upto (upto_own (Upto.refl (w.heap.size) w7) (#[.int .i64 most, .int .i64 4, .int .i64 S, .int .i64 64, .int .i64 64, .int .u64 1, .int .i64 1, .int .i64 1, .int .i64 1, .int .i64 64, .int .i64 100, .int .i64 100, .int .i64 1000, .int .i64 2, .int .i64 64, .int .i64 4, .int .i64 inn', .int .i64 0, .slice none 0 0, .slice none 0 0, .slice aS' CS'.length cS', .slice aL' CL'.length cL', .slice (some ⟨g4, 0, none⟩) CT.length cap4, .slice aG5 (CG.length + 1) cG5])) ?_)).upto (upto_own (Upto.refl (w.heap.size + 1) _) (#[.int .i64 most, .int .i64 4, .int .i64 S, .int .i64 64, .int .i64 64, .int .u64 1, .int .i64 1, .int .i64 1, .int .i64 1, .int .i64 64, .int .i64 100, .int .i64 100, .int .i64 1000, .int .i64 2, .int .i64 64, .int .i64 4, .int .i64 inn', .int .i64 0, .slice none 0 0, .slice none 0 0, .slice aS' CS'.length cS', .slice aL' CL'.length cL', .slice (some ⟨g4, 0, none⟩) CT.length cap4, .slice aG5 (CG.length + 1) cG5])) ?_) ?_ (H3.out.mono fun _ _ x => x.below ?_) (((HT9.out.below hk10.out).upto (upto_own (Upto.refl (w.heap.size) w7) (#[.int .i64 most, .int .i64 4, .int .i64 S, .int .i64 64, .int .i64 64, .int .u64 1, .int .i64 1, .int .i64 1, .int .i64 1, .int .i64 64, .int .i64 100, .int .i64 100, .int .i64 1000, .int .i64 2, .int .i64 64, .int .i64 4, .int .i64 inn', .int .i64 0, .slice none 0 0, .slice none 0 0, .slice aS' CS'.length cS', .slice aL' CL'.length cL', .slice (some ⟨g4, 0, none⟩) CT.length cap4, .slice aG5 (CG.length + 1) cG5])) ?_).upto (upto_own (Upto.refl (w.heap.size + 1) _) (#[.int .i64 most, .int .i64 4, .int .i64 S, .int .i64 64, .int .i64 64, .int .u64 1, .int .i64 1, .int .i64 1, .int .i64 1, .int .i64 64, .int .i64 100, .int .i64 100, .int .i64 1000, .int .i64 2, .int .i64 64, .int .i64 4, .int .i64 inn', .int .i64 0, .slice none 0 0, .slice none 0 0, .slice aS' CS'.length cS', .slice aL' CL'.length cL', .slice (some ⟨g4, 0, none⟩) CT.length cap4, .slice aG5 (CG.length + 1) cG5])) ?_) (fun C hC q hq => (H7.out C hC q hq).1) HFq.out ((HO7.out.upto (upto_own (Upto.refl (w.heap.size) w7) (#[.int .i64 most, .int .i64 4, .int .i64 S, .int .i64 64, .int .i64 64, .int .u64 1, .int .i64 1, .int .i64 1, .int .i64 1, .int .i64 64, .int .i64 100, .int .i64 100, .int .i64 1000, .int .i64 2, .int .i64 64, .int .i64 4, .int .i64 inn', .int .i64 0, .slice none 0 0, .slice none 0 0, .slice aS' CS'.length cS', .slice aL' CL'.length cL', .slice (some ⟨g4, 0, none⟩) CT.length cap4, .slice aG5 (CG.length + 1) cG5])) ?_).upto (upto_own (Upto.refl (w.heap.size + 1) _) (#[.int .i64 most, .int .i64 4, .int .i64 S, .int .i64 64, .int .i64 64, .int .u64 1, .int .i64 1, .int .i64 1, .int .i64 1, .int .i64 64, .int .i64 100, .int .i64 100, .int .i64 1000, .int .i64 2, .int .i64 64, .int .i64 4, .int .i64 inn', .int .i64 0, .slice none 0 0, .slice none 0 0, .slice aS' CS'.length cS', .slice aL' CL'.length cL', .slice (some ⟨g4, 0, none⟩) CT.length cap4, .slice aG5 (CG.length + 1) cG5])) ?_) ?_ H5.out, ?_⟩
  all_goals first | exact hbf.out | omega | (rintro ⟨⟨_, h⟩ | h, _⟩ <;> omega) | (rintro q ⟨⟨h, _⟩ | h, _⟩ <;> first | exact .inl h | (right; omega)) | (intro e; have := HFr7.out _ e; omega)) : p := h
theorem drew_sizeS (w : World) : w.drew.heap.size = w.heap.size := id rfl
attribute [local go_sem high] drew_sizeS
attribute [local simp high] drew_sizeS
/-- task.Take, whether it ends the call or not. -/
theorem take_any (most S : Nat) (t : Pm.Task) (v : Pm.Val) (hS0 : 1 ≤ S) (hS1 : S ≤ 8) (hmost : most ≤ 1000) (hnth : t.nth < t.calls.length) (hgl : t.got.length ≤ 10000) (hrl : t.replies.length ≤ 10000) (hcl : t.calls.length ≤ 1000000) (hbad : Pm.turn ⟨most, S, prt S⟩ { t with got := t.got ++ [v] } ≠ .bad) (hnn : NN (t.got ++ [v])) (C : Array Value) (w : World) (ht : TaskAt w C t) :
    Calls Tryz.prog 53 #[.agg (#[.int .i64 most, .int .i64 4, .int .i64 S, .int .i64 64, .int .i64 64, .int .u64 1, .int .i64 1, .int .i64 1, .int .i64 1, .int .i64 64, .int .i64 100, .int .i64 100, .int .i64 1000, .int .i64 2, .int .i64 64, .int .i64 4]), .agg C, .agg (valC v)] w fun e w' => ∃ C' b, e = .returned (.tuple #[.agg C', .bool b]) ∧ TaskAt w' C' (Pm.take ⟨most, S, prt S⟩ t v) ∧ Fr w.heap.size C C' ∧ Below w.heap.size w w' := by
  cases hr : Pm.turn ⟨most, S, prt S⟩ { t with got := t.got ++ [v] } with
  | done b r =>
    refine (take_done most S t v hS0 hS1 hmost hnth hgl hrl hcl b r hr hnn C w ht).mono ?_
    rintro e w' ⟨C', h1, h2⟩
    exact ⟨C', true, h1, h2⟩
  | pause o =>
    refine (take_pause most S t v hS0 hS1 hmost hnth hgl hrl hcl o hr hnn C w ht).mono ?_
    rintro e w' ⟨C', h1, h2⟩
    exact ⟨C', false, h1, h2⟩
  | bad => exact absurd hr hbad
theorem op_cells (o : Pm.Op) : ∃ o101 o102 o103 o104 o105 o106 o107 o108 o109 o110 o111 o112 o113 o114 o115 o116 o117 o118 o119 o120 o121 : Value, opC o = #[o101, o102, o103, o104, o105, o106, o107, o108, o109, o110, o111, o112, o113, o114, o115, o116, o117, o118, o119, o120, o121] ∧ o101.oneCell' = true ∧ o102.oneCell' = true ∧ o103.oneCell' = true ∧ o104.oneCell' = true ∧ o105.oneCell' = true ∧ o106.oneCell' = true ∧ o107.oneCell' = true ∧ o108.oneCell' = true ∧ o109.oneCell' = true ∧ o110.oneCell' = true ∧ o111.oneCell' = true ∧ o112.oneCell' = true ∧ o113.oneCell' = true ∧ o114.oneCell' = true ∧ o115.oneCell' = true ∧ o116.oneCell' = true ∧ o117.oneCell' = true ∧ o118.oneCell' = true ∧ o119.oneCell' = true ∧ o120.oneCell' = true ∧ o121.oneCell' = true := by
  cases o <;> exact ⟨_, _, _, _, _, _, _, _, _, _, _, _, _, _, _, _, _, _, _, _, _, rfl, rfl, rfl, rfl, rfl, rfl, rfl, rfl, rfl, rfl, rfl, rfl, rfl, rfl, rfl, rfl, rfl, rfl, rfl, rfl, rfl, rfl⟩
theorem val_cells (v : Pm.Val) : ∃ v101 v102 v103 v104 v105 v106 v107 v108 v109 v110 v111 v112 v113 : Value, valC v = #[v101, v102, v103, v104, v105, v106, v107, v108, v109, v110, v111, v112, v113] ∧ v101.oneCell' = true ∧ v102.oneCell' = true ∧ v103.oneCell' = true ∧ v104.oneCell' = true ∧ v105.oneCell' = true ∧ v106.oneCell' = true ∧ v107.oneCell' = true ∧ v108.oneCell' = true ∧ v109.oneCell' = true ∧ v110.oneCell' = true ∧ v111.oneCell' = true ∧ v112.oneCell' = true ∧ v113.oneCell' = true := by
  cases v <;> exact ⟨_, _, _, _, _, _, _, _, _, _, _, _, _, rfl, rfl, rfl, rfl, rfl, rfl, rfl, rfl, rfl, rfl, rfl, rfl, rfl, rfl⟩
/-- A step's world, as its parts make it. -/
theorem step_close (R : Nat → Prop) (most S who n B0 B7 BG : Nat) (c : Pm.Cf) (p : Pm.Wd) (t : Pm.Task) (o : Pm.Op) (inn' : Int) (aS aL aG : Option Addr) (nS cS nL cL cG : Nat) (CT : List (Array Value)) (C' : Array Value) (CG : List (Array Value)) (E : Array Value) (g4 cap4 : Nat) (W : World) (hinn : (Pm.act p who o).1.inn = inn') {R2 : Nat → Prop}
    (hM : MemIn R2 W #[.int .i64 inn', .int .i64 0, .slice none 0 0, .slice none 0 0, .slice aS nS cS, .slice aL nL cL] (Pm.act p who o).1) (hR2 : ∀ q, R2 q → R q ∨ B0 ≤ q) (hO : Own W B7 62 5 (.slice (some ⟨g4, 0, none⟩) CT.length cap4) (CT.set who C')) (hB7 : B0 ≤ B7) (hE : Els TaskAt W CT p.tasks) (hT : TaskAt W C' (Pm.take c t (Pm.act p who o).2))
    (h7 : ∀ C ∈ CT, ∀ q, Reach C q → R q) (hF : ∀ q, Reach C' q → R q ∨ B0 ≤ q) (hG : Own W BG 107 37 (.slice aG (CG.length + 1) cG) (CG ++ [E])) (hBG : B0 ≤ BG) (h5 : CG.length ≤ n) :
    WldIn (fun g => R g ∨ B0 ≤ g) most S W (#[.int .i64 most, .int .i64 4, .int .i64 S, .int .i64 64, .int .i64 64, .int .u64 1, .int .i64 1, .int .i64 1, .int .i64 1, .int .i64 64, .int .i64 100, .int .i64 100, .int .i64 1000, .int .i64 2, .int .i64 64, .int .i64 4, .int .i64 inn', .int .i64 0, .slice none 0 0, .slice none 0 0, .slice aS nS cS, .slice aL nL cL, .slice (some ⟨g4, 0, none⟩) CT.length cap4, .slice aG (CG.length + 1) cG]) (Pm.stepWith c p who t o) (n + 1) := by
  subst hinn
  refine ⟨aS, aL, some ⟨g4, 0, none⟩, aG, nS, cS, nL, cL, CT.length, cap4, CG.length + 1, cG, CT.set who C', CG ++ [E], rfl, ?_, hO.sl, hE.set hT who, hG.sl, by simp; omega, fun q hq => .inr ?_, fun C hC q hq => ?_, fun q hq => .inr ?_⟩
  · exact (hM.mono hR2).tasks _
  · have := (hO.base hq).1; omega
  · rcases List.mem_or_eq_of_mem_set hC with hC | rfl
    · exact .inl (h7 C hC q hq)
    · exact hF q hq
  · have := (hG.base hq).1; omega
/-- world.Step. -/
theorem step_law (most S who : Nat) (hS0 : 1 ≤ S) (hS1 : S ≤ 8) (hmost : most ≤ 1000) (hwho : who ≤ 100) (p : Pm.Wd) (hS : p.parts.length = S) (hL : p.locks.length = S + 2) (hsh : p.sh ≤ 80000) (htl : p.tasks.length ≤ 100) (t : Pm.Task) (ht : p.tasks[who]? = some t) (hnth : t.nth < t.calls.length) (o : Pm.Op) (hp : Pm.turn ⟨most, S, prt S⟩ t = .pause o) (hnn : NN t.got) (hf : Pm.opFits S p o) (hmay : Pm.may p o = true) (hgl : t.got.length ≤ 10000) (hrl : t.replies.length ≤ 10000) (hcl : t.calls.length ≤ 1000000) (hnn' : NN (t.got ++ [(Pm.act p who o).2])) (hbad : Pm.turn ⟨most, S, prt S⟩ { t with got := t.got ++ [(Pm.act p who o).2] } ≠ .bad) (R : Nat → Prop) (X : Array Value) (n : Nat) (hn : n ≤ 50000) (w : World) (h : WldIn R most S w X p n) :
    Calls Tryz.prog 23 #[.agg X, .int .i64 who] w fun e w' => ∃ X', e = .returned (.tuple #[.agg X', .bool true]) ∧ WldIn (fun g => R g ∨ w.heap.size ≤ g) most S w' X' (Pm.stepWith ⟨most, S, prt S⟩ p who t o) (n + 1) ∧ Below w.heap.size w w' := by
  obtain ⟨aS, aL, aT, aG, nS, cS, nL, cL, nT, cT, nG, cG, CT, CG, rfl, h1, h2, h3, h4, h5, h6, h7, h8⟩ := h.cut
  clear h
  obtain ⟨C, hC, hT⟩ := h3.at ht
  have hcT := h3.1
  obtain ⟨g, o1, cL1, e1, hgw, e2, e3, e4, e5⟩ := sl_at h2 hC
  simp only [Value.slice.injEq] at e1
  obtain ⟨rfl, rfl, -⟩ := e1
  have hnG : nG = CG.length := by obtain ⟨_, _, e, _⟩ := h4; cases e; rfl
  subst hnG
  have H2 := Lib.hid h2
  have H3 := Lib.hid h3
  have H4 := Lib.hid h4
  have HCr := Lib.hid (fun q (hq : Reach C q) => hT.lt hq)
  have HN := Lib.hid (fun (W : World) (b : Below w.heap.size w W) => next_run most S who aS aL (some ⟨g, o1, none⟩) aG nS cS nL cL CT.length cT CG.length cG p.inn t hS0 hS1 hmost hnth o hp hnn p hS hL hf CT C hC W (hT.below b) (h2.below b) (h1.at.below b))
  have HD := Lib.hid (fun (W : World) (b : Below w.heap.size w W) => do_law S hS0 hS1 p who hwho hS hL hsh o hf hmay _ _ W (h1.below b))
  have H6 := Lib.hid h6
  have H7 := Lib.hid h7
  have H8 := Lib.hid h8
  clear h6 h7 h8
  have HT := Lib.hid (fun (W : World) (b : Below w.heap.size w W) => take_any most S t (Pm.act p who o).2 hS0 hS1 hmost hnth hgl hrl hcl hbad hnn' C W (hT.below b))
  have HC54 := Lib.hid (fun (W : World) (b : Below w.heap.size w W) => clone54 _ CT W (h2.below b) (by omega))
  have HC55 := Lib.hid (fun (W : World) (b : Below w.heap.size w W) => clone55 _ CG W (h4.below b) (by omega))
  have hwl : who < CT.length := (List.getElem?_eq_some_iff.1 hC).1
  have en : C = #[C[0]!, .int .i64 t.nth, C[2]!, C[3]!, .bool false] := by obtain ⟨_, _, _, rfl, _⟩ := hT; rfl
  have hcn : C[1]? = some (.int .i64 t.nth) := by rw [en]; rfl
  have n0 : ¬ ((who : Int) < 0) := by omega
  have n1 : ¬ ((who : Int) ≥ (CT.length : Int)) := by omega
  have n2 : (who : Int) < (CT.length : Int) := by omega
  have n3 : 0 ≤ (who : Int) := by omega
  obtain ⟨o101, o102, o103, o104, o105, o106, o107, o108, o109, o110, o111, o112, o113, o114, o115, o116, o117, o118, o119, o120, o121, eo, eoo101, eoo102, eoo103, eoo104, eoo105, eoo106, eoo107, eoo108, eoo109, eoo110, eoo111, eoo112, eoo113, eoo114, eoo115, eoo116, eoo117, eoo118, eoo119, eoo120, eoo121⟩ := op_cells o
  obtain ⟨v101, v102, v103, v104, v105, v106, v107, v108, v109, v110, v111, v112, v113, evl, evv101, evv102, evv103, evv104, evv105, evv106, evv107, evv108, evv109, evv110, evv111, evv112, evv113⟩ := val_cells (Pm.act p who o).2
  rw [eo, hmay] at HN
  rw [eo, evl] at HD
  rw [evl] at HT
  have hcz : CG.length ≤ 50000 := by omega
  have hST : ∀ lb : Bool, ones (List.toArray (Value.int .i64 who :: Value.int .i64 t.nth :: o101 :: o102 :: o103 :: o104 :: o105 :: o106 :: o107 :: o108 :: o109 :: o110 :: o111 :: o112 :: o113 :: o114 :: o115 :: o116 :: o117 :: o118 :: o119 :: o120 :: o121 :: v101 :: v102 :: v103 :: v104 :: v105 :: v106 :: v107 :: v108 :: v109 :: v110 :: v111 :: v112 :: v113 :: Value.bool lb :: [])) = true := fun lb => by simp only [ones_lit, onesL_cons, onesL_nil, one_int, one_bool, eoo101, eoo102, eoo103, eoo104, eoo105, eoo106, eoo107, eoo108, eoo109, eoo110, eoo111, eoo112, eoo113, eoo114, eoo115, eoo116, eoo117, eoo118, eoo119, eoo120, eoo121, evv101, evv102, evv103, evv104, evv105, evv106, evv107, evv108, evv109, evv110, evv111, evv112, evv113, Bool.and_self]
  have H5 := Lib.hid h5
  have hmC : C ∈ CT := List.mem_of_getElem? hC
  have H7C := Lib.hid (fun q (hq : Reach C q) => H7.out C hmC q hq)
  have HcT := Lib.hid hcT
  have Hcn := Lib.hid hcn
  clear en hT h1 h2 h3 h4 hC hnn hnn' hbad hf eo evl hp hmay ht hS hL hcT hcn hsh htl hgl hrl hcl h5 hn hnth hwho
  go_enter Tryz.func23, Tryz.ntmps23
  go_wp2_with fail
  have bw := ((bk5 : Below w.heap.size w ((w.alloc (.cells (#[.int .i64 most, .int .i64 4, .int .i64 S, .int .i64 64, .int .i64 64, .int .u64 1, .int .i64 1, .int .i64 1, .int .i64 1, .int .i64 64, .int .i64 100, .int .i64 100, .int .i64 1000, .int .i64 2, .int .i64 64, .int .i64 4, .int .i64 p.inn, .int .i64 0, .slice none 0 0, .slice none 0 0, .slice aS nS cS, .slice aL nL cL, .slice (some ⟨g, o1, none⟩) CT.length cT, .slice aG CG.length cG]) 51)).alloc (.cells (#[.int .i64 0, .int .i64 0, .int .i64 0, .int .i64 0, .int .i64 0, .int .u64 0, .int .i64 0, .int .i64 0, .int .i64 0, .int .i64 0, .int .i64 0, .int .i64 0, .int .i64 0, .int .i64 0, .int .i64 0, .int .i64 0, .int .i64 0, .int .i64 0, .slice none 0 0, .slice none 0 0, .slice none 0 0, .slice none 0 0, .slice none 0 0, .slice none 0 0]) 51))))
  have bRa0 : isRow ((w.alloc (.cells (#[.int .i64 most, .int .i64 4, .int .i64 S, .int .i64 64, .int .i64 64, .int .u64 1, .int .i64 1, .int .i64 1, .int .i64 1, .int .i64 64, .int .i64 100, .int .i64 100, .int .i64 1000, .int .i64 2, .int .i64 64, .int .i64 4, .int .i64 p.inn, .int .i64 0, .slice none 0 0, .slice none 0 0, .slice aS nS cS, .slice aL nL cL, .slice (some ⟨g, o1, none⟩) CT.length cT, .slice aG CG.length cG]) 51)).alloc (.cells (#[.int .i64 0, .int .i64 0, .int .i64 0, .int .i64 0, .int .i64 0, .int .u64 0, .int .i64 0, .int .i64 0, .int .i64 0, .int .i64 0, .int .i64 0, .int .i64 0, .int .i64 0, .int .i64 0, .int .i64 0, .int .i64 0, .int .i64 0, .int .i64 0, .slice none 0 0, .slice none 0 0, .slice none 0 0, .slice none 0 0, .slice none 0 0, .slice none 0 0]) 51)) (w.heap.size) 51 24 = true := by go_simp
  have bVa0 : rowOf ((w.alloc (.cells (#[.int .i64 most, .int .i64 4, .int .i64 S, .int .i64 64, .int .i64 64, .int .u64 1, .int .i64 1, .int .i64 1, .int .i64 1, .int .i64 64, .int .i64 100, .int .i64 100, .int .i64 1000, .int .i64 2, .int .i64 64, .int .i64 4, .int .i64 p.inn, .int .i64 0, .slice none 0 0, .slice none 0 0, .slice aS nS cS, .slice aL nL cL, .slice (some ⟨g, o1, none⟩) CT.length cT, .slice aG CG.length cG]) 51)).alloc (.cells (#[.int .i64 0, .int .i64 0, .int .i64 0, .int .i64 0, .int .i64 0, .int .u64 0, .int .i64 0, .int .i64 0, .int .i64 0, .int .i64 0, .int .i64 0, .int .i64 0, .int .i64 0, .int .i64 0, .int .i64 0, .int .i64 0, .int .i64 0, .int .i64 0, .slice none 0 0, .slice none 0 0, .slice none 0 0, .slice none 0 0, .slice none 0 0, .slice none 0 0]) 51)) (w.heap.size) = #[.int .i64 most, .int .i64 4, .int .i64 S, .int .i64 64, .int .i64 64, .int .u64 1, .int .i64 1, .int .i64 1, .int .i64 1, .int .i64 64, .int .i64 100, .int .i64 100, .int .i64 1000, .int .i64 2, .int .i64 64, .int .i64 4, .int .i64 p.inn, .int .i64 0, .slice none 0 0, .slice none 0 0, .slice aS nS cS, .slice aL nL cL, .slice (some ⟨g, o1, none⟩) CT.length cT, .slice aG CG.length cG] := by go_simp
  have bCa0 := isCells_row bRa0
  have bLa0 : (w.heap.size) < (((w.alloc (.cells (#[.int .i64 most, .int .i64 4, .int .i64 S, .int .i64 64, .int .i64 64, .int .u64 1, .int .i64 1, .int .i64 1, .int .i64 1, .int .i64 64, .int .i64 100, .int .i64 100, .int .i64 1000, .int .i64 2, .int .i64 64, .int .i64 4, .int .i64 p.inn, .int .i64 0, .slice none 0 0, .slice none 0 0, .slice aS nS cS, .slice aL nL cL, .slice (some ⟨g, o1, none⟩) CT.length cT, .slice aG CG.length cG]) 51)).alloc (.cells (#[.int .i64 0, .int .i64 0, .int .i64 0, .int .i64 0, .int .i64 0, .int .u64 0, .int .i64 0, .int .i64 0, .int .i64 0, .int .i64 0, .int .i64 0, .int .i64 0, .int .i64 0, .int .i64 0, .int .i64 0, .int .i64 0, .int .i64 0, .int .i64 0, .slice none 0 0, .slice none 0 0, .slice none 0 0, .slice none 0 0, .slice none 0 0, .slice none 0 0]) 51))).heap.size := bk1
  have bRa1 : isRow ((w.alloc (.cells (#[.int .i64 most, .int .i64 4, .int .i64 S, .int .i64 64, .int .i64 64, .int .u64 1, .int .i64 1, .int .i64 1, .int .i64 1, .int .i64 64, .int .i64 100, .int .i64 100, .int .i64 1000, .int .i64 2, .int .i64 64, .int .i64 4, .int .i64 p.inn, .int .i64 0, .slice none 0 0, .slice none 0 0, .slice aS nS cS, .slice aL nL cL, .slice (some ⟨g, o1, none⟩) CT.length cT, .slice aG CG.length cG]) 51)).alloc (.cells (#[.int .i64 0, .int .i64 0, .int .i64 0, .int .i64 0, .int .i64 0, .int .u64 0, .int .i64 0, .int .i64 0, .int .i64 0, .int .i64 0, .int .i64 0, .int .i64 0, .int .i64 0, .int .i64 0, .int .i64 0, .int .i64 0, .int .i64 0, .int .i64 0, .slice none 0 0, .slice none 0 0, .slice none 0 0, .slice none 0 0, .slice none 0 0, .slice none 0 0]) 51)) (w.heap.size + 1) 51 24 = true := by go_simp
  have bVa1 : rowOf ((w.alloc (.cells (#[.int .i64 most, .int .i64 4, .int .i64 S, .int .i64 64, .int .i64 64, .int .u64 1, .int .i64 1, .int .i64 1, .int .i64 1, .int .i64 64, .int .i64 100, .int .i64 100, .int .i64 1000, .int .i64 2, .int .i64 64, .int .i64 4, .int .i64 p.inn, .int .i64 0, .slice none 0 0, .slice none 0 0, .slice aS nS cS, .slice aL nL cL, .slice (some ⟨g, o1, none⟩) CT.length cT, .slice aG CG.length cG]) 51)).alloc (.cells (#[.int .i64 0, .int .i64 0, .int .i64 0, .int .i64 0, .int .i64 0, .int .u64 0, .int .i64 0, .int .i64 0, .int .i64 0, .int .i64 0, .int .i64 0, .int .i64 0, .int .i64 0, .int .i64 0, .int .i64 0, .int .i64 0, .int .i64 0, .int .i64 0, .slice none 0 0, .slice none 0 0, .slice none 0 0, .slice none 0 0, .slice none 0 0, .slice none 0 0]) 51)) (w.heap.size + 1) = #[.int .i64 0, .int .i64 0, .int .i64 0, .int .i64 0, .int .i64 0, .int .u64 0, .int .i64 0, .int .i64 0, .int .i64 0, .int .i64 0, .int .i64 0, .int .i64 0, .int .i64 0, .int .i64 0, .int .i64 0, .int .i64 0, .int .i64 0, .int .i64 0, .slice none 0 0, .slice none 0 0, .slice none 0 0, .slice none 0 0, .slice none 0 0, .slice none 0 0] := by go_simp
  have bCa1 := isCells_row bRa1
  have bLa1 : (w.heap.size + 1) < (((w.alloc (.cells (#[.int .i64 most, .int .i64 4, .int .i64 S, .int .i64 64, .int .i64 64, .int .u64 1, .int .i64 1, .int .i64 1, .int .i64 1, .int .i64 64, .int .i64 100, .int .i64 100, .int .i64 1000, .int .i64 2, .int .i64 64, .int .i64 4, .int .i64 p.inn, .int .i64 0, .slice none 0 0, .slice none 0 0, .slice aS nS cS, .slice aL nL cL, .slice (some ⟨g, o1, none⟩) CT.length cT, .slice aG CG.length cG]) 51)).alloc (.cells (#[.int .i64 0, .int .i64 0, .int .i64 0, .int .i64 0, .int .i64 0, .int .u64 0, .int .i64 0, .int .i64 0, .int .i64 0, .int .i64 0, .int .i64 0, .int .i64 0, .int .i64 0, .int .i64 0, .int .i64 0, .int .i64 0, .int .i64 0, .int .i64 0, .slice none 0 0, .slice none 0 0, .slice none 0 0, .slice none 0 0, .slice none 0 0, .slice none 0 0]) 51))).heap.size := bk1
  refine (HN.out _ bw).mono ?_
  rintro e w1 ⟨rfl, hb⟩
  have hk1 := Keep.mk hb
  have xb := alike (hk1.out)
  clear hb
  have bRb0 : isRow w1 ((w.heap.size)) 51 24 = true := (xb.1 _ _ _ bLa0).trans bRa0
  have bVb0 : rowOf w1 ((w.heap.size)) = #[.int .i64 most, .int .i64 4, .int .i64 S, .int .i64 64, .int .i64 64, .int .u64 1, .int .i64 1, .int .i64 1, .int .i64 1, .int .i64 64, .int .i64 100, .int .i64 100, .int .i64 1000, .int .i64 2, .int .i64 64, .int .i64 4, .int .i64 p.inn, .int .i64 0, .slice none 0 0, .slice none 0 0, .slice aS nS cS, .slice aL nL cL, .slice (some ⟨g, o1, none⟩) CT.length cT, .slice aG CG.length cG] := (xb.2.1 _ bLa0).trans bVa0
  have bCb0 := isCells_row bRb0
  have bLb0 : (w.heap.size) < (w1).heap.size := Nat.lt_of_lt_of_le bLa0 hk1.out.size
  have bRb1 : isRow w1 ((w.heap.size + 1)) 51 24 = true := (xb.1 _ _ _ bLa1).trans bRa1
  have bVb1 : rowOf w1 ((w.heap.size + 1)) = #[.int .i64 0, .int .i64 0, .int .i64 0, .int .i64 0, .int .i64 0, .int .u64 0, .int .i64 0, .int .i64 0, .int .i64 0, .int .i64 0, .int .i64 0, .int .i64 0, .int .i64 0, .int .i64 0, .int .i64 0, .int .i64 0, .int .i64 0, .int .i64 0, .slice none 0 0, .slice none 0 0, .slice none 0 0, .slice none 0 0, .slice none 0 0, .slice none 0 0] := (xb.2.1 _ bLa1).trans bVa1
  have bCb1 := isCells_row bRb1
  have bLb1 : (w.heap.size + 1) < (w1).heap.size := Nat.lt_of_lt_of_le bLa1 hk1.out.size
  have bw1 : Below w.heap.size w w1 := bw.trans (hk1.out.mono (by simp; omega))
  clear xb hk1 bw bRa0 bVa0 bCa0 bLa0 bRa1 bVa1 bCa1 bLa1
  go_wp2_with fail
  have bw4 : Below w.heap.size w (w1.alloc (.cells (#[o101, o102, o103, o104, o105, o106, o107, o108, o109, o110, o111, o112, o113, o114, o115, o116, o117, o118, o119, o120, o121]) 105)) := bw1.alloc (by omega) _
  have bRd0 : isRow (w1.alloc (.cells (#[o101, o102, o103, o104, o105, o106, o107, o108, o109, o110, o111, o112, o113, o114, o115, o116, o117, o118, o119, o120, o121]) 105)) ((w.heap.size)) 51 24 = true := by go_simp
  have bVd0 : rowOf (w1.alloc (.cells (#[o101, o102, o103, o104, o105, o106, o107, o108, o109, o110, o111, o112, o113, o114, o115, o116, o117, o118, o119, o120, o121]) 105)) ((w.heap.size)) = #[.int .i64 most, .int .i64 4, .int .i64 S, .int .i64 64, .int .i64 64, .int .u64 1, .int .i64 1, .int .i64 1, .int .i64 1, .int .i64 64, .int .i64 100, .int .i64 100, .int .i64 1000, .int .i64 2, .int .i64 64, .int .i64 4, .int .i64 p.inn, .int .i64 0, .slice none 0 0, .slice none 0 0, .slice aS nS cS, .slice aL nL cL, .slice (some ⟨g, o1, none⟩) CT.length cT, .slice aG CG.length cG] := by go_simp
  have bCd0 := isCells_row bRd0
  have bLd0 : (w.heap.size) < ((w1.alloc (.cells (#[o101, o102, o103, o104, o105, o106, o107, o108, o109, o110, o111, o112, o113, o114, o115, o116, o117, o118, o119, o120, o121]) 105))).heap.size := bk1
  have bRd1 : isRow (w1.alloc (.cells (#[o101, o102, o103, o104, o105, o106, o107, o108, o109, o110, o111, o112, o113, o114, o115, o116, o117, o118, o119, o120, o121]) 105)) ((w.heap.size + 1)) 51 24 = true := by go_simp
  have bVd1 : rowOf (w1.alloc (.cells (#[o101, o102, o103, o104, o105, o106, o107, o108, o109, o110, o111, o112, o113, o114, o115, o116, o117, o118, o119, o120, o121]) 105)) ((w.heap.size + 1)) = #[.int .i64 0, .int .i64 0, .int .i64 0, .int .i64 0, .int .i64 0, .int .u64 0, .int .i64 0, .int .i64 0, .int .i64 0, .int .i64 0, .int .i64 0, .int .i64 0, .int .i64 0, .int .i64 0, .int .i64 0, .int .i64 0, .int .i64 0, .int .i64 0, .slice none 0 0, .slice none 0 0, .slice none 0 0, .slice none 0 0, .slice none 0 0, .slice none 0 0] := by go_simp
  have bCd1 := isCells_row bRd1
  have bLd1 : (w.heap.size + 1) < ((w1.alloc (.cells (#[o101, o102, o103, o104, o105, o106, o107, o108, o109, o110, o111, o112, o113, o114, o115, o116, o117, o118, o119, o120, o121]) 105))).heap.size := bk1
  have bRd6 : isRow (w1.alloc (.cells (#[o101, o102, o103, o104, o105, o106, o107, o108, o109, o110, o111, o112, o113, o114, o115, o116, o117, o118, o119, o120, o121]) 105)) (w1.heap.size) 105 21 = true := by go_simp
  have bVd6 : rowOf (w1.alloc (.cells (#[o101, o102, o103, o104, o105, o106, o107, o108, o109, o110, o111, o112, o113, o114, o115, o116, o117, o118, o119, o120, o121]) 105)) (w1.heap.size) = #[o101, o102, o103, o104, o105, o106, o107, o108, o109, o110, o111, o112, o113, o114, o115, o116, o117, o118, o119, o120, o121] := by go_simp
  have bCd6 := isCells_row bRd6
  have bLd6 : w1.heap.size < ((w1.alloc (.cells (#[o101, o102, o103, o104, o105, o106, o107, o108, o109, o110, o111, o112, o113, o114, o115, o116, o117, o118, o119, o120, o121]) 105))).heap.size := bk1
  refine (HD.out _ bw4).mono ?_
  rintro e w2 ⟨M', rfl, hM, hb⟩
  have hMr := hM
  obtain ⟨vS', vL', CS', CL', lk', rfl, ⟨aS', cS', rfl, -⟩, -, ⟨aL', cL', rfl, -⟩, -⟩ := hM
  unfold memC at *
  generalize hinn : (Pm.act p who o).1.inn = inn' at *
  have Hinn := Lib.hid hinn
  clear hinn
  have HM := Lib.hid (hMr.cut.mono (R' := fun g => ((R g ∧ g < w.heap.size) ∨ w1.heap.size < g) ∧ g < w2.heap.size) (fun q hq => ⟨hq.1.imp id (fun h => by rw [World.size_alloc] at h; omega), hq.2⟩))
  have xc := alike (hb)
  have bRe0 : isRow w2 ((w.heap.size)) 51 24 = true := (xc.1 _ _ _ bLd0).trans bRd0
  have bVe0 : rowOf w2 ((w.heap.size)) = #[.int .i64 most, .int .i64 4, .int .i64 S, .int .i64 64, .int .i64 64, .int .u64 1, .int .i64 1, .int .i64 1, .int .i64 1, .int .i64 64, .int .i64 100, .int .i64 100, .int .i64 1000, .int .i64 2, .int .i64 64, .int .i64 4, .int .i64 p.inn, .int .i64 0, .slice none 0 0, .slice none 0 0, .slice aS nS cS, .slice aL nL cL, .slice (some ⟨g, o1, none⟩) CT.length cT, .slice aG CG.length cG] := (xc.2.1 _ bLd0).trans bVd0
  have bCe0 := isCells_row bRe0
  have bLe0 : (w.heap.size) < (w2).heap.size := Nat.lt_of_lt_of_le bLd0 hb.size
  have bRe1 : isRow w2 ((w.heap.size + 1)) 51 24 = true := (xc.1 _ _ _ bLd1).trans bRd1
  have bVe1 : rowOf w2 ((w.heap.size + 1)) = #[.int .i64 0, .int .i64 0, .int .i64 0, .int .i64 0, .int .i64 0, .int .u64 0, .int .i64 0, .int .i64 0, .int .i64 0, .int .i64 0, .int .i64 0, .int .i64 0, .int .i64 0, .int .i64 0, .int .i64 0, .int .i64 0, .int .i64 0, .int .i64 0, .slice none 0 0, .slice none 0 0, .slice none 0 0, .slice none 0 0, .slice none 0 0, .slice none 0 0] := (xc.2.1 _ bLd1).trans bVd1
  have bCe1 := isCells_row bRe1
  have bLe1 : (w.heap.size + 1) < (w2).heap.size := Nat.lt_of_lt_of_le bLd1 hb.size
  have bRe6 : isRow w2 (w1.heap.size) 105 21 = true := (xc.1 _ _ _ bLd6).trans bRd6
  have bVe6 : rowOf w2 (w1.heap.size) = #[o101, o102, o103, o104, o105, o106, o107, o108, o109, o110, o111, o112, o113, o114, o115, o116, o117, o118, o119, o120, o121] := (xc.2.1 _ bLd6).trans bVd6
  have bCe6 := isCells_row bRe6
  have bLe6 : w1.heap.size < (w2).heap.size := Nat.lt_of_lt_of_le bLd6 hb.size
  have bw2 : Below w.heap.size w w2 := bw4.trans (hb.mono (by have := bLd0; omega))
  have hR6 : w1.heap.size < w2.heap.size := bLe6
  have hR1 : (w.heap.size + 1) < w1.heap.size := bLb1
  clear bRb0 bVb0 bCb0 bLb0 bRb1 bVb1 bCb1 bLb1
  clear bRd0 bVd0 bCd0 bLd0 bRd1 bVd1 bCd1 bLd1 bRd6 bVd6 bCd6 bLd6
  clear xc hb hMr bw4 bw1
  generalize hw1 : w1.heap.size = r6 at *
  clear hw1
  go_wp2_with fail
  have hR8 : w2.heap.size = w2.heap.size := rfl
  obtain ⟨WG, hWG⟩ : ∃ W, (w2.alloc (.cells (#[.int .i64 inn', .int .i64 0, .slice none 0 0, .slice none 0 0, .slice aS' CS'.length cS', .slice aL' CL'.length cL']) 47)).alloc (.cells (#[v101, v102, v103, v104, v105, v106, v107, v108, v109, v110, v111, v112, v113]) 103) = W := ⟨_, rfl⟩
  have bw5 : Below w.heap.size w WG := by subst hWG; exact (bw2.alloc (by omega) _).alloc (by rw [World.size_alloc]; omega) _
  have HM5 := Lib.hid (HM.out.below (show Below w2.heap.size w2 ((w2.alloc (.cells (#[.int .i64 inn', .int .i64 0, .slice none 0 0, .slice none 0 0, .slice aS' CS'.length cS', .slice aL' CL'.length cL']) 47)).alloc (.cells (#[v101, v102, v103, v104, v105, v106, v107, v108, v109, v110, v111, v112, v113]) 103)) from ((Below.refl _ _).alloc (Nat.le_refl _) _).alloc (by rw [World.size_alloc]; omega) _))
  have hs5 : WG.heap.size = w2.heap.size + 1 + 1 := by subst hWG; rw [World.size_alloc, World.size_alloc]
  have Hs5 := Lib.hid hs5
  clear hs5
  have bRf0 : isRow WG ((w.heap.size)) 51 24 = true := by subst hWG; go_simp
  have bVf0 : rowOf WG ((w.heap.size)) = #[.int .i64 most, .int .i64 4, .int .i64 S, .int .i64 64, .int .i64 64, .int .u64 1, .int .i64 1, .int .i64 1, .int .i64 1, .int .i64 64, .int .i64 100, .int .i64 100, .int .i64 1000, .int .i64 2, .int .i64 64, .int .i64 4, .int .i64 p.inn, .int .i64 0, .slice none 0 0, .slice none 0 0, .slice aS nS cS, .slice aL nL cL, .slice (some ⟨g, o1, none⟩) CT.length cT, .slice aG CG.length cG] := by subst hWG; go_simp
  have bCf0 := isCells_row bRf0
  have bLf0 : (w.heap.size) < WG.heap.size := bk13
  have bRf1 : isRow WG ((w.heap.size + 1)) 51 24 = true := by subst hWG; go_simp
  have bVf1 : rowOf WG ((w.heap.size + 1)) = #[.int .i64 0, .int .i64 0, .int .i64 0, .int .i64 0, .int .i64 0, .int .u64 0, .int .i64 0, .int .i64 0, .int .i64 0, .int .i64 0, .int .i64 0, .int .i64 0, .int .i64 0, .int .i64 0, .int .i64 0, .int .i64 0, .int .i64 0, .int .i64 0, .slice none 0 0, .slice none 0 0, .slice none 0 0, .slice none 0 0, .slice none 0 0, .slice none 0 0] := by subst hWG; go_simp
  have bCf1 := isCells_row bRf1
  have bLf1 : (w.heap.size + 1) < WG.heap.size := bk13
  have bRf6 : isRow WG (r6) 105 21 = true := by subst hWG; go_simp
  have bVf6 : rowOf WG (r6) = #[o101, o102, o103, o104, o105, o106, o107, o108, o109, o110, o111, o112, o113, o114, o115, o116, o117, o118, o119, o120, o121] := by subst hWG; go_simp
  have bCf6 := isCells_row bRf6
  have bLf6 : r6 < WG.heap.size := bk13
  have bRf8 : isRow WG (w2.heap.size) 47 6 = true := by subst hWG; go_simp
  have bVf8 : rowOf WG (w2.heap.size) = #[.int .i64 inn', .int .i64 0, .slice none 0 0, .slice none 0 0, .slice aS' CS'.length cS', .slice aL' CL'.length cL'] := by subst hWG; go_simp
  have bCf8 := isCells_row bRf8
  have bLf8 : w2.heap.size < WG.heap.size := bk13
  have bRf9 : isRow WG (w2.heap.size + 1) 103 13 = true := by subst hWG; go_simp
  have bVf9 : rowOf WG (w2.heap.size + 1) = #[v101, v102, v103, v104, v105, v106, v107, v108, v109, v110, v111, v112, v113] := by subst hWG; go_simp
  have bCf9 := isCells_row bRf9
  have bLf9 : w2.heap.size + 1 < WG.heap.size := bk13
  have eg := bw5.size
  have hg5 : g < WG.heap.size := by subst hWG; omega
  have e2f : isRange WG ⟨g, o1 + who * 5, none⟩ 5 = true := by subst hWG; rw [(alike bw5).2.2.1 _ _ _ hgw]; exact e2
  have e3f : rangeOf WG ⟨g, o1 + who * 5, none⟩ 5 = C := by subst hWG; rw [(alike bw5).2.2.2.1 _ _ _ hgw]; exact e3
  have e4f : WG.cell? ⟨g, o1 + who * 5 + 1, none⟩ = some (.int .i64 t.nth) := by subst hWG; have := range_at e2f (show 1 < 5 by omega); rw [e3f, Hcn.out] at this; simpa [addr_add] using this
  clear e2 e3 eg HM
  clear bRe0 bVe0 bCe0 bLe0 bRe1 bVe1 bCe1 bLe1 bRe6 bVe6 bCe6 bLe6
  generalize (w2.alloc (.cells (#[.int .i64 inn', .int .i64 0, .slice none 0 0, .slice none 0 0, .slice aS' CS'.length cS', .slice aL' CL'.length cL']) 47)).alloc (.cells (#[v101, v102, v103, v104, v105, v106, v107, v108, v109, v110, v111, v112, v113]) 103) = W5 at *
  subst hWG
  have hR8 : r6 < w2.heap.size := hR6
  generalize hw2 : w2.heap.size = r8 at *
  clear hR6
  have hR9 : r8 + 1 < W5.heap.size := bLf9
  refine region_tree (Keep W5) [0, 1, 2, 3, 4, 5, 6, 7] 7 (by kernel_rfl) (by kernel_rfl) (fun _ _ d _ _ h => by cases d <;> exact h) ⟨(Below.refl _ _).drew⟩ ?_
  simp only [PL]
  apply reads_op
  · exact bk8
  try simp only [PT]
  apply reads_op
  · exact bk8
  try simp only [PT]
  apply reads_op
  · exact bk8
  try simp only [PT]
  apply reads_op
  · exact bk8
  try simp only [PT]
  apply reads_op
  · exact bk8
  try simp only [PT]
  apply reads_op
  · exact bk8
  try simp only [PT]
  apply reads_op
  · exact bk8
  try simp only [PT]
  apply reads_op
  · exact bk8
  try simp only [PT]
  refine reads_nil ?_
  refine tree_two 8 12 (by kernel_rfl) (by kernel_rfl) (by kernel_rfl) ?q8 ?q12
  case' q8 =>
    simp only [nthL]
    go_wp2_with fail
    refine (HT.out _ (bw5.trans ((bk4 : Below W5.heap.size W5 _).mono (by omega)))).mono ?_
    rintro e w3 ⟨C', lb, rfl, hTA, hFr, hb⟩
    have b3 : Below W5.heap.size W5 w3 := ((Below.refl W5.heap.size W5).drew).trans hb
    have hFr2 : Fr (W5.heap.size) C C' := hFr
    have hs3 : W5.heap.size ≤ w3.heap.size := b3.size
    have hz' : C'.size = 5 := by obtain ⟨_, _, _, rfl, _⟩ := hTA; rfl
    have ho' : ones C' = true := by obtain ⟨_, _, _, rfl, ⟨_, _, rfl, _⟩, ⟨_, _, rfl, _⟩, ⟨_, _, rfl, _⟩⟩ := hTA; rfl
    have HTA := Lib.hid (And.intro hTA hFr2)
    clear hb hTA hFr hFr2
    have xg := alike (b3)
    go_wp2
    refine chain_on ⟨bk4⟩ ?_
    refine tree_reads [9, 10, 11] 3 rfl (by kernel_rfl) (fun _ _ d _ _ h => by cases d <;> exact h) ⟨bk4⟩ ?_
    simp only [PL]
    apply reads_op
    · exact bk8
    try simp only [PT]
    apply reads_op
    · exact bk8
    try simp only [PT]
    apply reads_op
    · exact bk8
    try simp only [PT]
    refine reads_nil ?_
    refine tree_one 12 (by kernel_rfl) (by kernel_rfl) ?_
    simp only [nthL]
    go_wp2_with fail
    refine chain_on ⟨bk4⟩ ?_
    refine tree_one 13 (by kernel_rfl) (by kernel_rfl) ?_
    simp only [nthL]
    go_wp2_with fail
    refine chain_on ⟨bk4⟩ ?_
    refine tree_reads [14] 0 rfl (by kernel_rfl) (fun _ _ d _ _ h => by cases d <;> exact h) ⟨bk4⟩ ?_
    simp only [PL]
    apply reads_op
    · exact bk8
    try simp only [PT]
    refine reads_nil ?_
    refine tree_end (by kernel_rfl) ?_
    go_wp2_with fail
    have b6 : Below W5.heap.size W5 (w3.alloc (.cells C' 62)) := b3.alloc (by omega) _
    have HT6 := Lib.hid (show TaskAt (w3.alloc (.cells C' 62)) C' (Pm.take ⟨most, S, prt S⟩ t (Pm.act p who o).2) from HTA.out.1.below ((Below.refl _ _).alloc (Nat.le_refl _) _))
    obtain ⟨HFr, HFq⟩ := packStepW1
    have hR10 : W5.heap.size ≤ w3.heap.size := hs3
    have bRhr : isRow (w3.alloc (.cells C' 62)) (w3.heap.size) 62 5 = true := by go_simp
    have bVhr : rowOf (w3.alloc (.cells C' 62)) (w3.heap.size) = C' := by go_simp
    have bChr := isCells_row bRhr
    have bLhr : w3.heap.size < ((w3.alloc (.cells C' 62))).heap.size := bk1
    have e4h : (w3.alloc (.cells C' 62)).cell? ⟨g, o1 + who * 5 + 1, none⟩ = some (.int .i64 t.nth) := by have := (alike b6).2.2.2.2.2.1 g (o1 + who * 5 + 1) hg5; exact this.trans e4f
    clear xg
    generalize (w3.alloc (.cells C' 62)) = W6 at *
    generalize w3.heap.size = r10 at *
  case' q12 =>
    simp only [nthL]
    go_wp2_with fail
    refine chain_on ⟨bk4⟩ ?_
    refine tree_one 8 (by kernel_rfl) (by kernel_rfl) ?_
    simp only [nthL]
    go_wp2_with fail
    refine (HT.out _ (bw5.trans ((bk4 : Below W5.heap.size W5 _).mono (by omega)))).mono ?_
    rintro e w3 ⟨C', lb, rfl, hTA, hFr, hb⟩
    have b3 : Below W5.heap.size W5 w3 := (((Below.refl W5.heap.size W5).drew).alloc (Nat.le_refl _) _).trans (hb.mono (by simp only [drew_sizeS, World.size_alloc]; exact Nat.le_succ _))
    have hFr2 : Fr (W5.heap.size + 1) C C' := (by have := hFr; simp only [drew_sizeS, World.size_alloc] at this; exact this)
    have hs3 : W5.heap.size + 1 ≤ w3.heap.size := (by have := hb.size; simp only [drew_sizeS, World.size_alloc] at this; exact this)
    have hz' : C'.size = 5 := by obtain ⟨_, _, _, rfl, _⟩ := hTA; rfl
    have ho' : ones C' = true := by obtain ⟨_, _, _, rfl, ⟨_, _, rfl, _⟩, ⟨_, _, rfl, _⟩, ⟨_, _, rfl, _⟩⟩ := hTA; rfl
    have HTA := Lib.hid (And.intro hTA hFr2)
    have s10 : isRow w3 W5.heap.size 62 5 = true := ((alike hb).1 _ _ _ (by simp only [drew_sizeS, World.size_alloc]; exact Nat.lt_succ_self _)).trans (by go_simp)
    have s10v : rowOf w3 W5.heap.size = #[.slice none 0 0, .int .i64 0, .slice none 0 0, .slice none 0 0, .bool false] := ((alike hb).2.1 _ (by simp only [drew_sizeS, World.size_alloc]; exact Nat.lt_succ_self _)).trans (by go_simp)
    have s10c := isCells_row s10
    have s10l : W5.heap.size < w3.heap.size := hs3
    clear hb hTA hFr hFr2
    have xg := alike (b3)
    go_wp2
    refine chain_on ⟨bk4⟩ ?_
    refine tree_reads [9, 10, 11] 2 rfl (by kernel_rfl) (fun _ _ d _ _ h => by cases d <;> exact h) ⟨bk4⟩ ?_
    simp only [PL]
    apply reads_op
    · exact bk8
    try simp only [PT]
    apply reads_op
    · exact bk8
    try simp only [PT]
    apply reads_op
    · exact bk8
    try simp only [PT]
    refine reads_nil ?_
    refine tree_one 13 (by kernel_rfl) (by kernel_rfl) ?_
    simp only [nthL]
    go_wp2_with fail
    refine chain_on ⟨bk4⟩ ?_
    refine tree_reads [14] 0 rfl (by kernel_rfl) (fun _ _ d _ _ h => by cases d <;> exact h) ⟨bk4⟩ ?_
    simp only [PL]
    apply reads_op
    · exact bk8
    try simp only [PT]
    refine reads_nil ?_
    refine tree_end (by kernel_rfl) ?_
    go_wp2_with fail
    have nxz : ¬ (W5.heap.size = (w.heap.size)) := by omega
    have nzx : ¬ ((w.heap.size) = W5.heap.size) := by omega
    have nxy : ¬ (W5.heap.size = (w.heap.size + 1)) := by omega
    have nyx : ¬ ((w.heap.size + 1) = W5.heap.size) := by omega
    have nxu : ¬ (W5.heap.size = r6) := by omega
    have nux : ¬ (r6 = W5.heap.size) := by omega
    have nxv : ¬ (W5.heap.size = r8 + 1) := by omega
    have nvx : ¬ (r8 + 1 = W5.heap.size) := by omega
    have nxt : ¬ (W5.heap.size = r8) := by omega
    have ntx : ¬ (r8 = W5.heap.size) := by omega
    have b6 : Below W5.heap.size W5 (w3.setRow W5.heap.size C') := below_setRow b3 (Nat.le_refl _) _
    have HT6 := Lib.hid (show TaskAt (w3.setRow W5.heap.size C') C' (Pm.take ⟨most, S, prt S⟩ t (Pm.act p who o).2) from HTA.out.1.upto (upto_own (Upto.refl W5.heap.size _) _) (fun e => by rcases HTA.out.2 _ e with h | h; have := HCr.out _ h; have := bw5.size; omega; omega))
    obtain ⟨HFr, HFq⟩ := packStepW1
    have hR10 : W5.heap.size ≤ W5.heap.size := Nat.le_refl _
    have bRhr : isRow (w3.setRow W5.heap.size C') (W5.heap.size) 62 5 = true := by go_simp
    have bVhr : rowOf (w3.setRow W5.heap.size C') (W5.heap.size) = C' := by go_simp
    have bChr := isCells_row bRhr
    have bLhr : W5.heap.size < ((w3.setRow W5.heap.size C')).heap.size := bk1
    have e4h : (w3.setRow W5.heap.size C').cell? ⟨g, o1 + who * 5 + 1, none⟩ = some (.int .i64 t.nth) := by have := (alike b6).2.2.2.2.2.1 g (o1 + who * 5 + 1) hg5; exact this.trans e4f
    clear xg s10 s10v s10c s10l
    generalize (w3.setRow W5.heap.size C') = W6 at *
    generalize hr10 : W5.heap.size = r10 at *
    rw [← hr10] at b6 hg5
    simp only [← hr10] at HFr
    have hR10 : W5.heap.size ≤ r10 := by omega
    have hR9 : r8 + 1 < W5.heap.size := by omega
    have bLf0 : (w.heap.size) < W5.heap.size := by omega
    have bLf1 : (w.heap.size + 1) < W5.heap.size := by omega
    have bLf6 : r6 < W5.heap.size := by omega
    have bLf8 : r8 < W5.heap.size := by omega
    have bLf9 : r8 + 1 < W5.heap.size := by omega
    clear hr10
  all_goals
    have xk := alike (b6)
    have bRi0 : isRow W6 ((w.heap.size)) 51 24 = true := (xk.1 _ _ _ bLf0).trans bRf0
    have bVi0 : rowOf W6 ((w.heap.size)) = #[.int .i64 most, .int .i64 4, .int .i64 S, .int .i64 64, .int .i64 64, .int .u64 1, .int .i64 1, .int .i64 1, .int .i64 1, .int .i64 64, .int .i64 100, .int .i64 100, .int .i64 1000, .int .i64 2, .int .i64 64, .int .i64 4, .int .i64 p.inn, .int .i64 0, .slice none 0 0, .slice none 0 0, .slice aS nS cS, .slice aL nL cL, .slice (some ⟨g, o1, none⟩) CT.length cT, .slice aG CG.length cG] := (xk.2.1 _ bLf0).trans bVf0
    have bCi0 := isCells_row bRi0
    have bLi0 : (w.heap.size) < (W6).heap.size := Nat.lt_of_lt_of_le bLf0 b6.size
    have bRi1 : isRow W6 ((w.heap.size + 1)) 51 24 = true := (xk.1 _ _ _ bLf1).trans bRf1
    have bVi1 : rowOf W6 ((w.heap.size + 1)) = #[.int .i64 0, .int .i64 0, .int .i64 0, .int .i64 0, .int .i64 0, .int .u64 0, .int .i64 0, .int .i64 0, .int .i64 0, .int .i64 0, .int .i64 0, .int .i64 0, .int .i64 0, .int .i64 0, .int .i64 0, .int .i64 0, .int .i64 0, .int .i64 0, .slice none 0 0, .slice none 0 0, .slice none 0 0, .slice none 0 0, .slice none 0 0, .slice none 0 0] := (xk.2.1 _ bLf1).trans bVf1
    have bCi1 := isCells_row bRi1
    have bLi1 : (w.heap.size + 1) < (W6).heap.size := Nat.lt_of_lt_of_le bLf1 b6.size
    have bRi6 : isRow W6 (r6) 105 21 = true := (xk.1 _ _ _ bLf6).trans bRf6
    have bVi6 : rowOf W6 (r6) = #[o101, o102, o103, o104, o105, o106, o107, o108, o109, o110, o111, o112, o113, o114, o115, o116, o117, o118, o119, o120, o121] := (xk.2.1 _ bLf6).trans bVf6
    have bCi6 := isCells_row bRi6
    have bLi6 : r6 < (W6).heap.size := Nat.lt_of_lt_of_le bLf6 b6.size
    have bRi8 : isRow W6 (r8) 47 6 = true := (xk.1 _ _ _ bLf8).trans bRf8
    have bVi8 : rowOf W6 (r8) = #[.int .i64 inn', .int .i64 0, .slice none 0 0, .slice none 0 0, .slice aS' CS'.length cS', .slice aL' CL'.length cL'] := (xk.2.1 _ bLf8).trans bVf8
    have bCi8 := isCells_row bRi8
    have bLi8 : r8 < (W6).heap.size := Nat.lt_of_lt_of_le bLf8 b6.size
    have bRi9 : isRow W6 (r8 + 1) 103 13 = true := (xk.1 _ _ _ bLf9).trans bRf9
    have bVi9 : rowOf W6 (r8 + 1) = #[v101, v102, v103, v104, v105, v106, v107, v108, v109, v110, v111, v112, v113] := (xk.2.1 _ bLf9).trans bVf9
    have bCi9 := isCells_row bRi9
    have bLi9 : r8 + 1 < (W6).heap.size := Nat.lt_of_lt_of_le bLf9 b6.size
    have hg6 : g < W6.heap.size := Nat.lt_of_lt_of_le hg5 b6.size
    have bw6 : Below w.heap.size w W6 := bw5.trans (b6.mono bw5.size)
    have HM6 := Lib.hid (HM5.out.below b6)
    have hR10N : (w.heap.size + 1) < r10 := by omega
    have hR108 : r8 + 1 < r10 := by omega
    clear xk b6 bw5 HM5 e2f e3f hg5 HN HD HT bRf0 bVf0 bCf0 bLf0 bRf1 bVf1 bCf1 bLf1 bRf6 bVf6 bCf6 bLf6 bRf8 bVf8 bCf8 bLf8 bRf9 bVf9 bCf9 bLf9
    refine region_tree (Keep W6) [0, 1, 2, 3, 4, 5, 6, 7, 8, 9, 10] 2 (by kernel_rfl) (by kernel_rfl) (fun _ _ d _ _ h => by cases d <;> exact h) ⟨(Below.refl _ _).drew⟩ ?_
    simp only [PL]
    apply reads_op
    · exact bk8
    try simp only [PT]
    apply reads_op
    · exact bk8
    try simp only [PT]
    apply reads_op
    · exact bk8
    try simp only [PT]
    apply reads_op
    · exact bk8
    try simp only [PT]
    apply reads_op
    · exact bk8
    try simp only [PT]
    apply reads_op
    · exact bk8
    try simp only [PT]
    apply reads_op
    · exact bk8
    try simp only [PT]
    apply reads_op
    · exact bk8
    try simp only [PT]
    apply reads_op
    · exact bk8
    try simp only [PT]
    apply reads_op
    · exact bk8
    try simp only [PT]
    apply reads_op
    · exact bk8
    try simp only [PT]
    refine reads_nil ?_
    refine tree_one 11 (by kernel_rfl) (by kernel_rfl) ?_
    simp only [nthL]
    go_wp2_with fail
    refine chain_on ⟨bk4⟩ ?_
    refine tree_one 12 (by kernel_rfl) (by kernel_rfl) ?_
    simp only [nthL]
    go_wp2_with fail
    refine chain_on ⟨bk4⟩ ?_
    refine tree_end (by kernel_rfl) ?_
    go_wp2_with fail
    have ni0 : ¬ (W6.heap.size = (w.heap.size)) := by omega
    have mi0 : ¬ ((w.heap.size) = W6.heap.size) := by omega
    have ni1 : ¬ (W6.heap.size = (w.heap.size + 1)) := by omega
    have mi1 : ¬ ((w.heap.size + 1) = W6.heap.size) := by omega
    have ni8 : ¬ (W6.heap.size = r8) := by omega
    have mi8 : ¬ (r8 = W6.heap.size) := by omega
    have nir : ¬ (W6.heap.size = r10) := by omega
    have mir : ¬ (r10 = W6.heap.size) := by omega
    obtain ⟨WG, hWG⟩ : ∃ W, ((W6.alloc (.cells ((List.toArray (Value.int .i64 0 :: Value.int .i64 0 :: Value.int .i64 0 :: Value.int .i64 0 :: Value.int .i64 0 :: Value.int .i64 0 :: Value.int .i64 0 :: Value.int .i64 0 :: Value.int .i64 0 :: Value.int .i64 0 :: Value.bool false :: Value.int .u64 0 :: Value.int .u64 0 :: Value.int .i64 0 :: Value.bool false :: Value.int .i64 0 :: Value.int .i64 0 :: Value.int .i64 0 :: Value.int .i64 0 :: Value.int .i64 0 :: Value.slice none 0 0 :: Value.slice none 0 0 :: Value.bool false :: Value.int .i64 0 :: Value.bool false :: Value.int .u64 0 :: Value.int .u64 0 :: Value.int .i64 0 :: Value.bool false :: Value.int .i64 0 :: Value.int .i64 0 :: Value.int .i64 0 :: Value.int .i64 0 :: Value.int .i64 0 :: Value.slice none 0 0 :: Value.slice none 0 0 :: Value.bool false :: []))) 107)).drew).setRow W6.heap.size ((List.toArray (Value.int .i64 who :: Value.int .i64 t.nth :: o101 :: o102 :: o103 :: o104 :: o105 :: o106 :: o107 :: o108 :: o109 :: o110 :: o111 :: o112 :: o113 :: o114 :: o115 :: o116 :: o117 :: o118 :: o119 :: o120 :: o121 :: v101 :: v102 :: v103 :: v104 :: v105 :: v106 :: v107 :: v108 :: v109 :: v110 :: v111 :: v112 :: v113 :: Value.bool lb :: []))) = W := ⟨_, rfl⟩
    have bRm0 : isRow WG ((w.heap.size)) 51 24 = true := by subst hWG; go_simp
    have bVm0 : rowOf WG ((w.heap.size)) = #[.int .i64 most, .int .i64 4, .int .i64 S, .int .i64 64, .int .i64 64, .int .u64 1, .int .i64 1, .int .i64 1, .int .i64 1, .int .i64 64, .int .i64 100, .int .i64 100, .int .i64 1000, .int .i64 2, .int .i64 64, .int .i64 4, .int .i64 p.inn, .int .i64 0, .slice none 0 0, .slice none 0 0, .slice aS nS cS, .slice aL nL cL, .slice (some ⟨g, o1, none⟩) CT.length cT, .slice aG CG.length cG] := by subst hWG; go_simp
    have bCm0 := isCells_row bRm0
    have bLm0 : (w.heap.size) < WG.heap.size := bk13
    have bRm1 : isRow WG ((w.heap.size + 1)) 51 24 = true := by subst hWG; go_simp
    have bVm1 : rowOf WG ((w.heap.size + 1)) = #[.int .i64 0, .int .i64 0, .int .i64 0, .int .i64 0, .int .i64 0, .int .u64 0, .int .i64 0, .int .i64 0, .int .i64 0, .int .i64 0, .int .i64 0, .int .i64 0, .int .i64 0, .int .i64 0, .int .i64 0, .int .i64 0, .int .i64 0, .int .i64 0, .slice none 0 0, .slice none 0 0, .slice none 0 0, .slice none 0 0, .slice none 0 0, .slice none 0 0] := by subst hWG; go_simp
    have bCm1 := isCells_row bRm1
    have bLm1 : (w.heap.size + 1) < WG.heap.size := bk13
    have bRm8 : isRow WG (r8) 47 6 = true := by subst hWG; go_simp
    have bVm8 : rowOf WG (r8) = #[.int .i64 inn', .int .i64 0, .slice none 0 0, .slice none 0 0, .slice aS' CS'.length cS', .slice aL' CL'.length cL'] := by subst hWG; go_simp
    have bCm8 := isCells_row bRm8
    have bLm8 : r8 < WG.heap.size := bk13
    have bRmr : isRow WG (r10) 62 5 = true := by subst hWG; go_simp
    have bVmr : rowOf WG (r10) = C' := by subst hWG; go_simp
    have bCmr := isCells_row bRmr
    have bLmr : r10 < WG.heap.size := bk13
    have bRms : isRow WG (W6.heap.size) 107 37 = true := by subst hWG; go_simp
    have bVms : rowOf WG (W6.heap.size) = (List.toArray (Value.int .i64 who :: Value.int .i64 t.nth :: o101 :: o102 :: o103 :: o104 :: o105 :: o106 :: o107 :: o108 :: o109 :: o110 :: o111 :: o112 :: o113 :: o114 :: o115 :: o116 :: o117 :: o118 :: o119 :: o120 :: o121 :: v101 :: v102 :: v103 :: v104 :: v105 :: v106 :: v107 :: v108 :: v109 :: v110 :: v111 :: v112 :: v113 :: Value.bool lb :: [])) := by subst hWG; go_simp
    have bCms := isCells_row bRms
    have bLms : W6.heap.size < WG.heap.size := bk13
    have b7 : Below W6.heap.size W6 WG := by subst hWG; exact below_setRow ((Below.refl _ _).alloc (Nat.le_refl _) _).drew (Nat.le_refl _) _
    have bw7 : Below w.heap.size w WG := by subst hWG; exact bw6.trans (b7.mono bw6.size)
    have HM7 := Lib.hid (HM6.out.below b7)
    have HT7 := Lib.hid (HT6.out.below b7)
    have HFr7 := Lib.hid (show ∀ q, Reach C' q → q < w.heap.size ∨ r8 + 1 < q from fun q hq => (HFr.out q hq).imp id (fun h => by omega))
    have hR12 : r10 < W6.heap.size := bLhr
    clear b7 bw6 HM6 HT6 HFr e4h bRhr bVhr bChr bLhr bRi0 bVi0 bCi0 bLi0 bRi1 bVi1 bCi1 bLi1 bRi6 bVi6 bCi6 bLi6 bRi8 bVi8 bCi8 bLi8 bRi9 bVi9 bCi9 bLi9
    generalize ((W6.alloc (.cells ((List.toArray (Value.int .i64 0 :: Value.int .i64 0 :: Value.int .i64 0 :: Value.int .i64 0 :: Value.int .i64 0 :: Value.int .i64 0 :: Value.int .i64 0 :: Value.int .i64 0 :: Value.int .i64 0 :: Value.int .i64 0 :: Value.bool false :: Value.int .u64 0 :: Value.int .u64 0 :: Value.int .i64 0 :: Value.bool false :: Value.int .i64 0 :: Value.int .i64 0 :: Value.int .i64 0 :: Value.int .i64 0 :: Value.int .i64 0 :: Value.slice none 0 0 :: Value.slice none 0 0 :: Value.bool false :: Value.int .i64 0 :: Value.bool false :: Value.int .u64 0 :: Value.int .u64 0 :: Value.int .i64 0 :: Value.bool false :: Value.int .i64 0 :: Value.int .i64 0 :: Value.int .i64 0 :: Value.int .i64 0 :: Value.int .i64 0 :: Value.slice none 0 0 :: Value.slice none 0 0 :: Value.bool false :: []))) 107)).drew).setRow W6.heap.size ((List.toArray (Value.int .i64 who :: Value.int .i64 t.nth :: o101 :: o102 :: o103 :: o104 :: o105 :: o106 :: o107 :: o108 :: o109 :: o110 :: o111 :: o112 :: o113 :: o114 :: o115 :: o116 :: o117 :: o118 :: o119 :: o120 :: o121 :: v101 :: v102 :: v103 :: v104 :: v105 :: v106 :: v107 :: v108 :: v109 :: v110 :: v111 :: v112 :: v113 :: Value.bool lb :: []))) = W7 at *
    subst hWG
    generalize W6.heap.size = r12 at *
    have n01 : ¬ ((w.heap.size) = (w.heap.size + 1)) := by omega
    have n08 : ¬ ((w.heap.size) = r8) := by omega
    have n010 : ¬ ((w.heap.size) = r10) := by omega
    have n012 : ¬ ((w.heap.size) = r12) := by omega
    have n10 : ¬ ((w.heap.size + 1) = (w.heap.size)) := by omega
    have n18 : ¬ ((w.heap.size + 1) = r8) := by omega
    have n110 : ¬ ((w.heap.size + 1) = r10) := by omega
    have n112 : ¬ ((w.heap.size + 1) = r12) := by omega
    have n80 : ¬ (r8 = (w.heap.size)) := by omega
    have n81 : ¬ (r8 = (w.heap.size + 1)) := by omega
    have n810 : ¬ (r8 = r10) := by omega
    have n812 : ¬ (r8 = r12) := by omega
    have n100 : ¬ (r10 = (w.heap.size)) := by omega
    have n101 : ¬ (r10 = (w.heap.size + 1)) := by omega
    have n108 : ¬ (r10 = r8) := by omega
    have n1012 : ¬ (r10 = r12) := by omega
    have n120 : ¬ (r12 = (w.heap.size)) := by omega
    have n121 : ¬ (r12 = (w.heap.size + 1)) := by omega
    have n128 : ¬ (r12 = r8) := by omega
    have n1210 : ¬ (r12 = r10) := by omega
    refine region_tree (Upto (w.heap.size) W7) [0, 1] 6 (by kernel_rfl) (by kernel_rfl) (fun _ _ d _ _ h => by cases d <;> exact h) (Upto.refl _ _).drew ?_
    simp only [PL]
    apply reads_op
    · exact bk12
    try simp only [PT]
    apply reads_op
    · exact bk12
    try simp only [PT]
    refine reads_nil ?_
    refine tree_one 2 (by kernel_rfl) (by kernel_rfl) ?_
    simp only [nthL]
    go_wp2_with fail
    refine chain_on (bk38) ?_
    refine tree_reads [4] 4 rfl (by kernel_rfl) (fun _ _ d _ _ h => by cases d <;> exact h) (bk38) ?_
    simp only [PL]
    apply reads_op
    · exact bk12
    try simp only [PT]
    refine reads_nil ?_
    refine tree_one 3 (by kernel_rfl) (by kernel_rfl) ?_
    simp only [nthL]
    go_wp2_with fail
    refine (HC54.out W7.drew (show Below w.heap.size w W7.drew from bw7.drew)).mono ?_
    rintro e w4 ⟨v4, rfl, ho, hb⟩
    obtain ⟨g4, cap4, rfl, -, -, hgB, hg4, -, -⟩ := ho.setEl hwl hz' ho'
    have hk4 := Keep.mk (show Below W7.heap.size W7 w4 from ((Below.refl W7.heap.size W7).drew).trans hb)
    have HO4 := Lib.hid (show Own w4 W7.heap.size 62 5 (.slice (some ⟨g4, 0, none⟩) CT.length cap4) CT from ho)
    have hgB' : W7.heap.size ≤ g4 := hgB
    clear hb ho hgB
    have xn := alike (hk4.out)
    have bRn0 : isRow w4 ((w.heap.size)) 51 24 = true := (xn.1 _ _ _ bLm0).trans bRm0
    have bVn0 : rowOf w4 ((w.heap.size)) = #[.int .i64 most, .int .i64 4, .int .i64 S, .int .i64 64, .int .i64 64, .int .u64 1, .int .i64 1, .int .i64 1, .int .i64 1, .int .i64 64, .int .i64 100, .int .i64 100, .int .i64 1000, .int .i64 2, .int .i64 64, .int .i64 4, .int .i64 p.inn, .int .i64 0, .slice none 0 0, .slice none 0 0, .slice aS nS cS, .slice aL nL cL, .slice (some ⟨g, o1, none⟩) CT.length cT, .slice aG CG.length cG] := (xn.2.1 _ bLm0).trans bVm0
    have bCn0 := isCells_row bRn0
    have bLn0 : (w.heap.size) < (w4).heap.size := Nat.lt_of_lt_of_le bLm0 hk4.out.size
    have bRn1 : isRow w4 ((w.heap.size + 1)) 51 24 = true := (xn.1 _ _ _ bLm1).trans bRm1
    have bVn1 : rowOf w4 ((w.heap.size + 1)) = #[.int .i64 0, .int .i64 0, .int .i64 0, .int .i64 0, .int .i64 0, .int .u64 0, .int .i64 0, .int .i64 0, .int .i64 0, .int .i64 0, .int .i64 0, .int .i64 0, .int .i64 0, .int .i64 0, .int .i64 0, .int .i64 0, .int .i64 0, .int .i64 0, .slice none 0 0, .slice none 0 0, .slice none 0 0, .slice none 0 0, .slice none 0 0, .slice none 0 0] := (xn.2.1 _ bLm1).trans bVm1
    have bCn1 := isCells_row bRn1
    have bLn1 : (w.heap.size + 1) < (w4).heap.size := Nat.lt_of_lt_of_le bLm1 hk4.out.size
    have bRn8 : isRow w4 (r8) 47 6 = true := (xn.1 _ _ _ bLm8).trans bRm8
    have bVn8 : rowOf w4 (r8) = #[.int .i64 inn', .int .i64 0, .slice none 0 0, .slice none 0 0, .slice aS' CS'.length cS', .slice aL' CL'.length cL'] := (xn.2.1 _ bLm8).trans bVm8
    have bCn8 := isCells_row bRn8
    have bLn8 : r8 < (w4).heap.size := Nat.lt_of_lt_of_le bLm8 hk4.out.size
    have bRnr : isRow w4 (r10) 62 5 = true := (xn.1 _ _ _ bLmr).trans bRmr
    have bVnr : rowOf w4 (r10) = C' := (xn.2.1 _ bLmr).trans bVmr
    have bCnr := isCells_row bRnr
    have bLnr : r10 < (w4).heap.size := Nat.lt_of_lt_of_le bLmr hk4.out.size
    have bRns : isRow w4 (r12) 107 37 = true := (xn.1 _ _ _ bLms).trans bRms
    have bVns : rowOf w4 (r12) = (List.toArray (Value.int .i64 who :: Value.int .i64 t.nth :: o101 :: o102 :: o103 :: o104 :: o105 :: o106 :: o107 :: o108 :: o109 :: o110 :: o111 :: o112 :: o113 :: o114 :: o115 :: o116 :: o117 :: o118 :: o119 :: o120 :: o121 :: v101 :: v102 :: v103 :: v104 :: v105 :: v106 :: v107 :: v108 :: v109 :: v110 :: v111 :: v112 :: v113 :: Value.bool lb :: [])) := (xn.2.1 _ bLms).trans bVms
    have bCns := isCells_row bRns
    have bLns : r12 < (w4).heap.size := Nat.lt_of_lt_of_le bLms hk4.out.size
    clear xn
    go_wp2
    refine chain_on (bk38) ?_
    refine tree_one 5 (by kernel_rfl) (by kernel_rfl) ?_
    simp only [nthL]
    go_wp2_with fail
    refine chain_on (bk38) ?_
    refine tree_reads [6] 1 rfl (by kernel_rfl) (fun _ _ d _ _ h => by cases d <;> exact h) (bk38) ?_
    simp only [PL]
    apply reads_op
    · exact bk12
    try simp only [PT]
    refine reads_nil ?_
    refine tree_one 7 (by kernel_rfl) (by kernel_rfl) ?_
    simp only [nthL]
    go_wp2_with fail
    refine chain_on (bk38) ?_
    refine tree_end (by kernel_rfl) ?_
    have r12s : r12 < W7.heap.size := bLms
    obtain ⟨WG, hWG⟩ : ∃ W, w4.setRow (w.heap.size) (#[.int .i64 most, .int .i64 4, .int .i64 S, .int .i64 64, .int .i64 64, .int .u64 1, .int .i64 1, .int .i64 1, .int .i64 1, .int .i64 64, .int .i64 100, .int .i64 100, .int .i64 1000, .int .i64 2, .int .i64 64, .int .i64 4, .int .i64 inn', .int .i64 0, .slice none 0 0, .slice none 0 0, .slice aS' CS'.length cS', .slice aL' CL'.length cL', .slice (some ⟨g4, 0, none⟩) CT.length cap4, .slice aG CG.length cG]) = W := ⟨_, rfl⟩
    have bRo0 : isRow WG ((w.heap.size)) 51 24 = true := by subst hWG; exact sr_isRow (#[.int .i64 most, .int .i64 4, .int .i64 S, .int .i64 64, .int .i64 64, .int .u64 1, .int .i64 1, .int .i64 1, .int .i64 1, .int .i64 64, .int .i64 100, .int .i64 100, .int .i64 1000, .int .i64 2, .int .i64 64, .int .i64 4, .int .i64 inn', .int .i64 0, .slice none 0 0, .slice none 0 0, .slice aS' CS'.length cS', .slice aL' CL'.length cL', .slice (some ⟨g4, 0, none⟩) CT.length cap4, .slice aG CG.length cG]) bRn0 rfl
    have bVo0 : rowOf WG ((w.heap.size)) = (#[.int .i64 most, .int .i64 4, .int .i64 S, .int .i64 64, .int .i64 64, .int .u64 1, .int .i64 1, .int .i64 1, .int .i64 1, .int .i64 64, .int .i64 100, .int .i64 100, .int .i64 1000, .int .i64 2, .int .i64 64, .int .i64 4, .int .i64 inn', .int .i64 0, .slice none 0 0, .slice none 0 0, .slice aS' CS'.length cS', .slice aL' CL'.length cL', .slice (some ⟨g4, 0, none⟩) CT.length cap4, .slice aG CG.length cG]) := by subst hWG; exact sr_row (#[.int .i64 most, .int .i64 4, .int .i64 S, .int .i64 64, .int .i64 64, .int .u64 1, .int .i64 1, .int .i64 1, .int .i64 1, .int .i64 64, .int .i64 100, .int .i64 100, .int .i64 1000, .int .i64 2, .int .i64 64, .int .i64 4, .int .i64 inn', .int .i64 0, .slice none 0 0, .slice none 0 0, .slice aS' CS'.length cS', .slice aL' CL'.length cL', .slice (some ⟨g4, 0, none⟩) CT.length cap4, .slice aG CG.length cG]) bCn0
    have bCo0 := isCells_row bRo0
    have bLo0 : (w.heap.size) < WG.heap.size := by subst hWG; rw [sr_size]; exact bLn0
    have bRo1 : isRow WG ((w.heap.size + 1)) 51 24 = true := by subst hWG; exact (sr_isRow' w4 ((w.heap.size)) ((w.heap.size + 1)) 24 51 (#[.int .i64 most, .int .i64 4, .int .i64 S, .int .i64 64, .int .i64 64, .int .u64 1, .int .i64 1, .int .i64 1, .int .i64 1, .int .i64 64, .int .i64 100, .int .i64 100, .int .i64 1000, .int .i64 2, .int .i64 64, .int .i64 4, .int .i64 inn', .int .i64 0, .slice none 0 0, .slice none 0 0, .slice aS' CS'.length cS', .slice aL' CL'.length cL', .slice (some ⟨g4, 0, none⟩) CT.length cap4, .slice aG CG.length cG]) (show (w.heap.size + 1) ≠ (w.heap.size) by omega)).trans bRn1
    have bVo1 : rowOf WG ((w.heap.size + 1)) = #[.int .i64 0, .int .i64 0, .int .i64 0, .int .i64 0, .int .i64 0, .int .u64 0, .int .i64 0, .int .i64 0, .int .i64 0, .int .i64 0, .int .i64 0, .int .i64 0, .int .i64 0, .int .i64 0, .int .i64 0, .int .i64 0, .int .i64 0, .int .i64 0, .slice none 0 0, .slice none 0 0, .slice none 0 0, .slice none 0 0, .slice none 0 0, .slice none 0 0] := by subst hWG; exact (sr_row' w4 ((w.heap.size)) ((w.heap.size + 1)) (#[.int .i64 most, .int .i64 4, .int .i64 S, .int .i64 64, .int .i64 64, .int .u64 1, .int .i64 1, .int .i64 1, .int .i64 1, .int .i64 64, .int .i64 100, .int .i64 100, .int .i64 1000, .int .i64 2, .int .i64 64, .int .i64 4, .int .i64 inn', .int .i64 0, .slice none 0 0, .slice none 0 0, .slice aS' CS'.length cS', .slice aL' CL'.length cL', .slice (some ⟨g4, 0, none⟩) CT.length cap4, .slice aG CG.length cG]) (show (w.heap.size + 1) ≠ (w.heap.size) by omega)).trans bVn1
    have bCo1 := isCells_row bRo1
    have bLo1 : (w.heap.size + 1) < WG.heap.size := by subst hWG; rw [sr_size]; exact bLn1
    have bRor : isRow WG (r10) 62 5 = true := by subst hWG; exact (sr_isRow' w4 ((w.heap.size)) (r10) 5 62 (#[.int .i64 most, .int .i64 4, .int .i64 S, .int .i64 64, .int .i64 64, .int .u64 1, .int .i64 1, .int .i64 1, .int .i64 1, .int .i64 64, .int .i64 100, .int .i64 100, .int .i64 1000, .int .i64 2, .int .i64 64, .int .i64 4, .int .i64 inn', .int .i64 0, .slice none 0 0, .slice none 0 0, .slice aS' CS'.length cS', .slice aL' CL'.length cL', .slice (some ⟨g4, 0, none⟩) CT.length cap4, .slice aG CG.length cG]) (show r10 ≠ (w.heap.size) by omega)).trans bRnr
    have bVor : rowOf WG (r10) = C' := by subst hWG; exact (sr_row' w4 ((w.heap.size)) (r10) (#[.int .i64 most, .int .i64 4, .int .i64 S, .int .i64 64, .int .i64 64, .int .u64 1, .int .i64 1, .int .i64 1, .int .i64 1, .int .i64 64, .int .i64 100, .int .i64 100, .int .i64 1000, .int .i64 2, .int .i64 64, .int .i64 4, .int .i64 inn', .int .i64 0, .slice none 0 0, .slice none 0 0, .slice aS' CS'.length cS', .slice aL' CL'.length cL', .slice (some ⟨g4, 0, none⟩) CT.length cap4, .slice aG CG.length cG]) (show r10 ≠ (w.heap.size) by omega)).trans bVnr
    have bCor := isCells_row bRor
    have bLor : r10 < WG.heap.size := by subst hWG; rw [sr_size]; exact bLnr
    have bRos : isRow WG (r12) 107 37 = true := by subst hWG; exact (sr_isRow' w4 ((w.heap.size)) (r12) 37 107 (#[.int .i64 most, .int .i64 4, .int .i64 S, .int .i64 64, .int .i64 64, .int .u64 1, .int .i64 1, .int .i64 1, .int .i64 1, .int .i64 64, .int .i64 100, .int .i64 100, .int .i64 1000, .int .i64 2, .int .i64 64, .int .i64 4, .int .i64 inn', .int .i64 0, .slice none 0 0, .slice none 0 0, .slice aS' CS'.length cS', .slice aL' CL'.length cL', .slice (some ⟨g4, 0, none⟩) CT.length cap4, .slice aG CG.length cG]) (show r12 ≠ (w.heap.size) by omega)).trans bRns
    have bVos : rowOf WG (r12) = (List.toArray (Value.int .i64 who :: Value.int .i64 t.nth :: o101 :: o102 :: o103 :: o104 :: o105 :: o106 :: o107 :: o108 :: o109 :: o110 :: o111 :: o112 :: o113 :: o114 :: o115 :: o116 :: o117 :: o118 :: o119 :: o120 :: o121 :: v101 :: v102 :: v103 :: v104 :: v105 :: v106 :: v107 :: v108 :: v109 :: v110 :: v111 :: v112 :: v113 :: Value.bool lb :: [])) := by subst hWG; exact (sr_row' w4 ((w.heap.size)) (r12) (#[.int .i64 most, .int .i64 4, .int .i64 S, .int .i64 64, .int .i64 64, .int .u64 1, .int .i64 1, .int .i64 1, .int .i64 1, .int .i64 64, .int .i64 100, .int .i64 100, .int .i64 1000, .int .i64 2, .int .i64 64, .int .i64 4, .int .i64 inn', .int .i64 0, .slice none 0 0, .slice none 0 0, .slice aS' CS'.length cS', .slice aL' CL'.length cL', .slice (some ⟨g4, 0, none⟩) CT.length cap4, .slice aG CG.length cG]) (show r12 ≠ (w.heap.size) by omega)).trans bVns
    have bCos := isCells_row bRos
    have bLos : r12 < WG.heap.size := by subst hWG; rw [sr_size]; exact bLns
    have b8 : Below w.heap.size w WG := by subst hWG; exact below_setRow (bw7.trans (hk4.out.mono bw7.size)) (Nat.le_refl _) _
    have HO8 := Lib.hid (show Own (w4.setRow (w.heap.size) (#[.int .i64 most, .int .i64 4, .int .i64 S, .int .i64 64, .int .i64 64, .int .u64 1, .int .i64 1, .int .i64 1, .int .i64 1, .int .i64 64, .int .i64 100, .int .i64 100, .int .i64 1000, .int .i64 2, .int .i64 64, .int .i64 4, .int .i64 inn', .int .i64 0, .slice none 0 0, .slice none 0 0, .slice aS' CS'.length cS', .slice aL' CL'.length cL', .slice (some ⟨g4, 0, none⟩) CT.length cap4, .slice aG CG.length cG])) W7.heap.size 62 5 (.slice (some ⟨g4, 0, none⟩) CT.length cap4) CT from HO4.out.upto (upto_own (Upto.refl (w.heap.size) w4) _) (by omega))
    have HM8 := Lib.hid (show MemIn _ (w4.setRow (w.heap.size) (#[.int .i64 most, .int .i64 4, .int .i64 S, .int .i64 64, .int .i64 64, .int .u64 1, .int .i64 1, .int .i64 1, .int .i64 1, .int .i64 64, .int .i64 100, .int .i64 100, .int .i64 1000, .int .i64 2, .int .i64 64, .int .i64 4, .int .i64 inn', .int .i64 0, .slice none 0 0, .slice none 0 0, .slice aS' CS'.length cS', .slice aL' CL'.length cL', .slice (some ⟨g4, 0, none⟩) CT.length cap4, .slice aG CG.length cG])) _ _ from (HM7.out.below hk4.out).upto (upto_own (Upto.refl (w.heap.size) w4) _) (fun e => by rcases e.1 with ⟨_, h⟩ | h <;> omega))
    have HT8 := Lib.hid (show TaskAt (w4.setRow (w.heap.size) (#[.int .i64 most, .int .i64 4, .int .i64 S, .int .i64 64, .int .i64 64, .int .u64 1, .int .i64 1, .int .i64 1, .int .i64 1, .int .i64 64, .int .i64 100, .int .i64 100, .int .i64 1000, .int .i64 2, .int .i64 64, .int .i64 4, .int .i64 inn', .int .i64 0, .slice none 0 0, .slice none 0 0, .slice aS' CS'.length cS', .slice aL' CL'.length cL', .slice (some ⟨g4, 0, none⟩) CT.length cap4, .slice aG CG.length cG])) C' _ from (HT7.out.below hk4.out).upto (upto_own (Upto.refl (w.heap.size) w4) _) (fun e => by have := HFr7.out _ e; omega))
    have hg8 : g4 < WG.heap.size := by subst hWG; rw [sr_size]; exact hg4
    have HTl := Lib.hid (show ¬ Reach C' g4 from fun e => by have := HT7.out.lt e; omega)
    clear HO4 HM7 HT7 hk4 hg4 bw7 HC54 bRm0 bVm0 bCm0 bLm0 bRm1 bVm1 bCm1 bLm1 bRm8 bVm8 bCm8 bLm8 bRmr bVmr bCmr bLmr bRms bVms bCms bLms bRn0 bVn0 bCn0 bLn0 bRn1 bVn1 bCn1 bLn1 bRn8 bVn8 bCn8 bLn8 bRnr bVnr bCnr bLnr bRns bVns bCns bLns
    generalize w4.setRow (w.heap.size) (#[.int .i64 most, .int .i64 4, .int .i64 S, .int .i64 64, .int .i64 64, .int .u64 1, .int .i64 1, .int .i64 1, .int .i64 1, .int .i64 64, .int .i64 100, .int .i64 100, .int .i64 1000, .int .i64 2, .int .i64 64, .int .i64 4, .int .i64 inn', .int .i64 0, .slice none 0 0, .slice none 0 0, .slice aS' CS'.length cS', .slice aL' CL'.length cL', .slice (some ⟨g4, 0, none⟩) CT.length cap4, .slice aG CG.length cG]) = W8 at *
    subst hWG
    obtain ⟨g4', cap4', e4', -, -, -, -, hfit, hO9⟩ := HO8.out.setEl hwl hz' ho'
    simp only [Value.slice.injEq, Option.some.injEq, Addr.mk.injEq, true_and, and_true] at e4'
    obtain ⟨rfl, rfl⟩ := e4'
    rw [setAt] at hO9
    have HO9 := Lib.hid hO9
    clear hO9 HO8
    have bRp0 : isRow (W8.setRow g4 (putAt (rowOf W8 g4) (who * 5) C')) ((w.heap.size)) 51 24 = true := (sr_isRow' W8 (g4) ((w.heap.size)) 24 51 (putAt (rowOf W8 g4) (who * 5) C') (show (w.heap.size) ≠ g4 by omega)).trans bRo0
    have bVp0 : rowOf (W8.setRow g4 (putAt (rowOf W8 g4) (who * 5) C')) ((w.heap.size)) = #[.int .i64 most, .int .i64 4, .int .i64 S, .int .i64 64, .int .i64 64, .int .u64 1, .int .i64 1, .int .i64 1, .int .i64 1, .int .i64 64, .int .i64 100, .int .i64 100, .int .i64 1000, .int .i64 2, .int .i64 64, .int .i64 4, .int .i64 inn', .int .i64 0, .slice none 0 0, .slice none 0 0, .slice aS' CS'.length cS', .slice aL' CL'.length cL', .slice (some ⟨g4, 0, none⟩) CT.length cap4, .slice aG CG.length cG] := (sr_row' W8 (g4) ((w.heap.size)) (putAt (rowOf W8 g4) (who * 5) C') (show (w.heap.size) ≠ g4 by omega)).trans bVo0
    have bCp0 := isCells_row bRp0
    have bLp0 : (w.heap.size) < ((W8.setRow g4 (putAt (rowOf W8 g4) (who * 5) C'))).heap.size := by rw [sr_size]; exact bLo0
    have bRp1 : isRow (W8.setRow g4 (putAt (rowOf W8 g4) (who * 5) C')) ((w.heap.size + 1)) 51 24 = true := (sr_isRow' W8 (g4) ((w.heap.size + 1)) 24 51 (putAt (rowOf W8 g4) (who * 5) C') (show (w.heap.size + 1) ≠ g4 by omega)).trans bRo1
    have bVp1 : rowOf (W8.setRow g4 (putAt (rowOf W8 g4) (who * 5) C')) ((w.heap.size + 1)) = #[.int .i64 0, .int .i64 0, .int .i64 0, .int .i64 0, .int .i64 0, .int .u64 0, .int .i64 0, .int .i64 0, .int .i64 0, .int .i64 0, .int .i64 0, .int .i64 0, .int .i64 0, .int .i64 0, .int .i64 0, .int .i64 0, .int .i64 0, .int .i64 0, .slice none 0 0, .slice none 0 0, .slice none 0 0, .slice none 0 0, .slice none 0 0, .slice none 0 0] := (sr_row' W8 (g4) ((w.heap.size + 1)) (putAt (rowOf W8 g4) (who * 5) C') (show (w.heap.size + 1) ≠ g4 by omega)).trans bVo1
    have bCp1 := isCells_row bRp1
    have bLp1 : (w.heap.size + 1) < ((W8.setRow g4 (putAt (rowOf W8 g4) (who * 5) C'))).heap.size := by rw [sr_size]; exact bLo1
    have bRps : isRow (W8.setRow g4 (putAt (rowOf W8 g4) (who * 5) C')) (r12) 107 37 = true := (sr_isRow' W8 (g4) (r12) 37 107 (putAt (rowOf W8 g4) (who * 5) C') (show r12 ≠ g4 by omega)).trans bRos
    have bVps : rowOf (W8.setRow g4 (putAt (rowOf W8 g4) (who * 5) C')) (r12) = (List.toArray (Value.int .i64 who :: Value.int .i64 t.nth :: o101 :: o102 :: o103 :: o104 :: o105 :: o106 :: o107 :: o108 :: o109 :: o110 :: o111 :: o112 :: o113 :: o114 :: o115 :: o116 :: o117 :: o118 :: o119 :: o120 :: o121 :: v101 :: v102 :: v103 :: v104 :: v105 :: v106 :: v107 :: v108 :: v109 :: v110 :: v111 :: v112 :: v113 :: Value.bool lb :: [])) := (sr_row' W8 (g4) (r12) (putAt (rowOf W8 g4) (who * 5) C') (show r12 ≠ g4 by omega)).trans bVos
    have bCps := isCells_row bRps
    have bLps : r12 < ((W8.setRow g4 (putAt (rowOf W8 g4) (who * 5) C'))).heap.size := by rw [sr_size]; exact bLos
    have b9 : Below w.heap.size w (W8.setRow g4 (putAt (rowOf W8 g4) (who * 5) C')) := below_setRow b8 (by omega) _
    have HM9 := Lib.hid (show MemIn _ (W8.setRow g4 (putAt (rowOf W8 g4) (who * 5) C')) _ _ from HM8.out.upto (upto_own (Upto.refl g4 W8) _) (fun e => by have := e.2; omega))
    have HT9 := Lib.hid (show TaskAt (W8.setRow g4 (putAt (rowOf W8 g4) (who * 5) C')) C' _ from HT8.out.upto (upto_own (Upto.refl g4 W8) _) HTl.out)
    have hs9 : (W8.setRow g4 (putAt (rowOf W8 g4) (who * 5) C')).heap.size = W8.heap.size := sr_size _ _ _
    have Hs9 := Lib.hid hs9
    clear hs9
    go_wp2_with fail
    clear HM8 HT8 HTl hfit bRo0 bVo0 bCo0 bLo0 bRo1 bVo1 bCo1 bLo1 bRor bVor bCor bLor bRos bVos bCos bLos
    generalize (W8.setRow g4 (putAt (rowOf W8 g4) (who * 5) C')) = W9 at *
    refine region_treeZ 7 (by kernel_rfl) (Keep W9) [0, 1, 3] 5 (by kernel_rfl) (by kernel_rfl) (fun _ _ d _ _ h => by cases d <;> exact h) ⟨(Below.refl _ _).drew⟩ ?_
    simp only [PL]
    apply reads_op
    · exact bk8
    try simp only [PT]
    apply reads_op
    · exact bk8
    try simp only [PT]
    apply reads_op
    · exact bk8
    try simp only [PT]
    refine reads_nil ?_
    refine treeZ_two 2 4 (by kernel_rfl) (by kernel_rfl) (by kernel_rfl) ?_ ?_
    · simp only [nthL]
      go_wp2_with fail
      refine (HC55.out W9.drew (show Below w.heap.size w W9.drew from b9.drew)).mono ?_
      rintro e w5 ⟨v5, rfl, ho, hb⟩
      have hk5 := Keep.mk (show Below W9.heap.size W9 w5 from ((Below.refl W9.heap.size W9).drew).trans hb)
      have HO5 := Lib.hid (show Own w5 W9.heap.size 107 37 v5 CG from ho)
      have hs5 : W9.heap.size ≤ w5.heap.size := hk5.out.size
      clear hb ho
      go_wp2
      refine chain_on ⟨bk4⟩ ?_
      refine treeZ_one 4 (by kernel_rfl) (by kernel_rfl) ?_
      simp only [nthL]
      go_wp2_with fail
      refine chain_on ⟨bk4⟩ ?_
      refine treeZ_one 5 (by kernel_rfl) (by kernel_rfl) ?_
      simp only [nthL]
      refine app107 rfl (.tmp 66) (.tmp 68) rfl _ _ CG [(List.toArray (Value.int .i64 who :: Value.int .i64 t.nth :: o101 :: o102 :: o103 :: o104 :: o105 :: o106 :: o107 :: o108 :: o109 :: o110 :: o111 :: o112 :: o113 :: o114 :: o115 :: o116 :: o117 :: o118 :: o119 :: o120 :: o121 :: v101 :: v102 :: v103 :: v104 :: v105 :: v106 :: v107 :: v108 :: v109 :: v110 :: v111 :: v112 :: v113 :: Value.bool lb :: []))] rfl (HO5.out.below ((Below.refl w5.heap.size w5).alloc (Nat.le_refl _) (.cells (List.toArray (Value.int .i64 who :: Value.int .i64 t.nth :: o101 :: o102 :: o103 :: o104 :: o105 :: o106 :: o107 :: o108 :: o109 :: o110 :: o111 :: o112 :: o113 :: o114 :: o115 :: o116 :: o117 :: o118 :: o119 :: o120 :: o121 :: v101 :: v102 :: v103 :: v104 :: v105 :: v106 :: v107 :: v108 :: v109 :: v110 :: v111 :: v112 :: v113 :: Value.bool lb :: [])) 107))) _ _ _ rfl (sl_one w5 (List.toArray (Value.int .i64 who :: Value.int .i64 t.nth :: o101 :: o102 :: o103 :: o104 :: o105 :: o106 :: o107 :: o108 :: o109 :: o110 :: o111 :: o112 :: o113 :: o114 :: o115 :: o116 :: o117 :: o118 :: o119 :: o120 :: o121 :: v101 :: v102 :: v103 :: v104 :: v105 :: v106 :: v107 :: v108 :: v109 :: v110 :: v111 :: v112 :: v113 :: Value.bool lb :: [])) 107 37 _ rfl rfl (hST _)) (by simp; omega) (by rw [World.size_alloc]; have := hk5.out.size; omega) ?_
      intro v7 w7 hown hbel hnil
      clear hnil
      have b10 : Below W9.heap.size W9 w7 := (hk5.out.alloc (by have := hk5.out.size; omega) _).trans hbel
      have HO7 := Lib.hid (show Own w7 W9.heap.size 107 37 v7 (CG ++ [(List.toArray (Value.int .i64 who :: Value.int .i64 t.nth :: o101 :: o102 :: o103 :: o104 :: o105 :: o106 :: o107 :: o108 :: o109 :: o110 :: o111 :: o112 :: o113 :: o114 :: o115 :: o116 :: o117 :: o118 :: o119 :: o120 :: o121 :: v101 :: v102 :: v103 :: v104 :: v105 :: v106 :: v107 :: v108 :: v109 :: v110 :: v111 :: v112 :: v113 :: Value.bool lb :: []))]) from hown)
      exact tailStepW1
    · simp only [nthL]
      go_wp2_with fail
      refine chain_on ⟨bk4⟩ ?_
      refine treeZ_one 2 (by kernel_rfl) (by kernel_rfl) ?_
      simp only [nthL]
      go_wp2_with fail
      refine (HC55.out (W9.drew.alloc (.cells (List.toArray (Value.int .i64 who :: Value.int .i64 t.nth :: o101 :: o102 :: o103 :: o104 :: o105 :: o106 :: o107 :: o108 :: o109 :: o110 :: o111 :: o112 :: o113 :: o114 :: o115 :: o116 :: o117 :: o118 :: o119 :: o120 :: o121 :: v101 :: v102 :: v103 :: v104 :: v105 :: v106 :: v107 :: v108 :: v109 :: v110 :: v111 :: v112 :: v113 :: Value.bool lb :: [])) 107)) (show Below w.heap.size w (W9.drew.alloc (.cells (List.toArray (Value.int .i64 who :: Value.int .i64 t.nth :: o101 :: o102 :: o103 :: o104 :: o105 :: o106 :: o107 :: o108 :: o109 :: o110 :: o111 :: o112 :: o113 :: o114 :: o115 :: o116 :: o117 :: o118 :: o119 :: o120 :: o121 :: v101 :: v102 :: v103 :: v104 :: v105 :: v106 :: v107 :: v108 :: v109 :: v110 :: v111 :: v112 :: v113 :: Value.bool lb :: [])) 107)) from b9.drew.alloc (by rw [drew_sizeS]; exact b9.size) _)).mono ?_
      rintro e w5 ⟨v5, rfl, ho, hb⟩
      have hsl := Lib.hid ((sl_one W9.drew (List.toArray (Value.int .i64 who :: Value.int .i64 t.nth :: o101 :: o102 :: o103 :: o104 :: o105 :: o106 :: o107 :: o108 :: o109 :: o110 :: o111 :: o112 :: o113 :: o114 :: o115 :: o116 :: o117 :: o118 :: o119 :: o120 :: o121 :: v101 :: v102 :: v103 :: v104 :: v105 :: v106 :: v107 :: v108 :: v109 :: v110 :: v111 :: v112 :: v113 :: Value.bool lb :: [])) 107 37 _ rfl rfl (hST _)).below hb)
      have hk5 := Keep.mk (show Below W9.heap.size W9 w5 from ((Below.refl W9.heap.size W9).drew.alloc (by rw [drew_sizeS]; exact Nat.le_refl _) _).trans (hb.mono (by simp only [drew_sizeS, World.size_alloc]; exact Nat.le_succ _)))
      have HO5 := Lib.hid (show Own w5 (W9.heap.size + 1) 107 37 v5 CG by have := ho; simp only [drew_sizeS, World.size_alloc] at this; exact this)
      have hs5' : W9.heap.size + 1 ≤ w5.heap.size := by have := hb.size; simp only [drew_sizeS, World.size_alloc] at this; exact this
      clear hb ho
      go_wp2
      refine chain_on ⟨bk4⟩ ?_
      refine treeZ_one 5 (by kernel_rfl) (by kernel_rfl) ?_
      simp only [nthL]
      refine app107 rfl (.tmp 66) (.tmp 68) rfl _ _ CG [(List.toArray (Value.int .i64 who :: Value.int .i64 t.nth :: o101 :: o102 :: o103 :: o104 :: o105 :: o106 :: o107 :: o108 :: o109 :: o110 :: o111 :: o112 :: o113 :: o114 :: o115 :: o116 :: o117 :: o118 :: o119 :: o120 :: o121 :: v101 :: v102 :: v103 :: v104 :: v105 :: v106 :: v107 :: v108 :: v109 :: v110 :: v111 :: v112 :: v113 :: Value.bool lb :: []))] rfl HO5.out _ _ _ rfl hsl.out (by simp; omega) hs5' ?_
      intro v7 w7 hown hbel hnil
      clear hnil
      have b10 : Below W9.heap.size W9 w7 := hk5.out.trans (hbel.mono (Nat.le_succ _))
      have HO7 := Lib.hid (show Own w7 W9.heap.size 107 37 v7 (CG ++ [(List.toArray (Value.int .i64 who :: Value.int .i64 t.nth :: o101 :: o102 :: o103 :: o104 :: o105 :: o106 :: o107 :: o108 :: o109 :: o110 :: o111 :: o112 :: o113 :: o114 :: o115 :: o116 :: o117 :: o118 :: o119 :: o120 :: o121 :: v101 :: v102 :: v103 :: v104 :: v105 :: v106 :: v107 :: v108 :: v109 :: v110 :: v111 :: v112 :: v113 :: Value.bool lb :: []))]) from hown.weaken (Nat.le_succ _))
      clear hsl hs5'
      exact tailStepW1
end Go.Proofs.YtnncjbkepakgpaaGreat
