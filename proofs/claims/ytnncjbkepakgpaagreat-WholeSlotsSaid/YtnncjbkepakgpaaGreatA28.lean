/-
  A MANAGER OF NOTHING.
  HOW MANY PEERS THERE ARE.
-/
import Derived.Test.YtnncjbkepakgpaaGreatA07
import Derived.Test.YtnncjbkepakgpaaGreatA25
import Derived.Test.YtnncjbkepakgpaaGreatA27
import Derived.Test.YtnncjbkepakgpaaGreatA19
import Derived.Test.YtnncjbkepakgpaaGreatA22
import Derived.Test.YtnncjbkepakgpaaGreatA20
import Derived.Test.YtnncjbkepakgpaaGreatA26
import Derived.Lib.MinMax
namespace Go.Proofs.YtnncjbkepakgpaaGreat
set_option linter.unusedVariables false
set_option linter.unusedSimpArgs false
set_option maxRecDepth 100000
set_option maxHeartbeats 1500000
section
open Go.RowKit
attribute [local go_sem ↓] exec_load_29 exec_store_29 exec_load_47 exec_store_47 exec_load_129 exec_store_129
attribute [local go_sem] run_load29r run_store29i run_load47r run_store47i run_load129r run_store129i lt_up isRng_new rngOf_new isRange_past rangeOf_past isRange_drew rangeOf_drew fits_new fits_past fits_drew setAt_new setAt_past setAt_drew putAt_whole putAt_lit extract_whole extract_lit one_int one_bool one_slice one_ptr ones_lit onesL_nil onesL_cons isRow_new rowOf_new isRow_past rowOf_past isRow_drew rowOf_drew lt2 lt3 lt4 List.take_succ_cons List.take_zero List.drop_succ_cons List.drop_zero List.cons_append List.nil_append List.length_cons List.length_nil List.size_toArray setRow_new setRow_past own_cell own_frozen own_set own_isRange own_rangeOf own_fits setAt_row sr_sr sr_size sr_row sr_row' sr_isRow sr_isRow' sr_fits' sr_cell' sr_frozen' sr_isRange' sr_rangeOf' sr_isCells isCells_new isCells_past isCells_drew valC_size valC_ones opC_size opC_ones replyC_size srs_isRange srs_rangeOf srs_fits srs_cell srs_frozen
attribute [local go_sem ↓] exec_load_57 exec_store_57
attribute [local go_sem] run_load57r run_store57i
theorem drew_sizeW (w : World) : w.drew.heap.size = w.heap.size := id rfl
attribute [local go_sem high] drew_sizeW
attribute [local simp high] drew_sizeW
def mc0 : Array Value := (List.toArray (Value.int .i64 2 :: Value.int .i64 4 :: Value.int .i64 4 :: Value.int .i64 64 :: Value.int .i64 64 :: Value.int .u64 1 :: Value.int .i64 1 :: Value.int .i64 1 :: Value.int .i64 1 :: Value.int .i64 64 :: Value.int .i64 100 :: Value.int .i64 100 :: Value.int .i64 1000 :: Value.int .i64 2 :: Value.int .i64 64 :: Value.int .i64 4 :: Value.int .i64 0 :: Value.int .i64 0 :: Value.int .i32 0 :: Value.int .u32 0 :: Value.int .u32 0 :: Value.int .u32 0 :: Value.int .i32 0 :: Value.int .i32 0 :: Value.slice none 0 0 :: Value.int .i32 0 :: Value.int .u32 0 :: Value.slice none 0 0 :: Value.int .i32 0 :: Value.int .u32 0 :: Value.int .i64 0 :: Value.slice none 0 0 :: Value.int .i32 0 :: Value.int .u32 0 :: Value.int .i64 0 :: Value.slice none 0 0 :: Value.int .i32 0 :: Value.int .u32 0 :: Value.int .i64 0 :: Value.slice none 0 0 :: Value.int .i32 0 :: Value.int .u32 0 :: Value.int .i64 0 :: Value.slice none 0 0 :: Value.int .i32 0 :: Value.int .u32 0 :: Value.int .i64 0 :: Value.slice none 0 0 :: Value.int .i32 0 :: Value.int .u32 0 :: Value.int .i64 0 :: Value.slice none 0 0 :: Value.int .i32 0 :: Value.int .u32 0 :: Value.int .i64 0 :: Value.slice none 0 0 :: Value.int .i32 0 :: Value.int .u32 0 :: Value.int .i64 0 :: Value.slice none 0 0 :: []))
theorem mc0_size : mc0.size = 60 := rfl
theorem mc0_set16 : mc0.setIfInBounds 16 (.int .i64 0) = mc0 := by unfold mc0; simp
theorem mc0_set17 : mc0.setIfInBounds 17 (.int .i64 0) = mc0 := by unfold mc0; simp
theorem mc0_put (k : Nat) (hk : k < 4) : putAt mc0 (28 + k * 4 + 2) #[.int .i64 0, .slice none 0 0] = mc0 := by
  have : k = 0 ∨ k = 1 ∨ k = 2 ∨ k = 3 := by omega
  rcases this with rfl | rfl | rfl | rfl <;> (unfold mc0 putAt; simp)
def LNew (w : World) (e : Ending) (w' : World) : Prop := ∃ M, e = .returned (.tuple #[.pointer (some ⟨M, 0, none⟩), .int .i64 0]) ∧ isRow w' M 134 60 = true ∧ rowOf w' M = mc0 ∧ w.heap.size ≤ M ∧ Below w.heap.size w w'
/-- live.New. -/
theorem live_new (w : World) : Calls Tryz.prog 16 #[.agg (#[.int .i64 2, .int .i64 4, .int .i64 4, .int .i64 64, .int .i64 64, .int .u64 1, .int .i64 1, .int .i64 1, .int .i64 1, .int .i64 64, .int .i64 100, .int .i64 100, .int .i64 1000, .int .i64 2, .int .i64 64, .int .i64 4]), .agg (#[.slice none 0 0, .slice none 0 0, .slice none 0 0])] w (LNew w) := by
  have HMR := Lib.hid (fun (W : World) => (show Calls Tryz.prog 19 #[.agg (#[.int .i64 2, .int .i64 4, .int .i64 4, .int .i64 64, .int .i64 64, .int .u64 1, .int .i64 1, .int .i64 1, .int .i64 1, .int .i64 64, .int .i64 100, .int .i64 100, .int .i64 1000, .int .i64 2, .int .i64 64, .int .i64 4]), .agg (#[.slice none 0 0, .slice none 0 0, .slice none 0 0])] W fun e w' => e = .returned (.bool true) ∧ Below W.heap.size W w' from model_right 2 4 (by decide) (by decide) (by decide) W))
  have HMN := Lib.hid (fun (W : World) => (show Calls Tryz.prog 20 #[.agg (#[.int .i64 2, .int .i64 4, .int .i64 4, .int .i64 64, .int .i64 64, .int .u64 1, .int .i64 1, .int .i64 1, .int .i64 1, .int .i64 64, .int .i64 100, .int .i64 100, .int .i64 1000, .int .i64 2, .int .i64 64, .int .i64 4]), .agg (#[.slice none 0 0, .slice none 0 0, .slice none 0 0])] W _ from mem_new 2 4 (by decide) (by decide) W))
  have h16 : mc0[16]? = some (.int .i64 0) := rfl
  have h17 : mc0[17]? = some (.int .i64 0) := rfl
  have hs16 := mc0_set16
  have hs17 := mc0_set17
  go_enter Tryz.func16, Tryz.ntmps16
  go_wp2_with fail
  have bw : Below w.heap.size w ((w.alloc (.cells (#[.int .i64 2, .int .i64 4, .int .i64 4, .int .i64 64, .int .i64 64, .int .u64 1, .int .i64 1, .int .i64 1, .int .i64 1, .int .i64 64, .int .i64 100, .int .i64 100, .int .i64 1000, .int .i64 2, .int .i64 64, .int .i64 4]) 29)).alloc (.cells (#[.slice none 0 0, .slice none 0 0, .slice none 0 0]) 57)) := bk5
  have bRa0 : isRow ((w.alloc (.cells (#[.int .i64 2, .int .i64 4, .int .i64 4, .int .i64 64, .int .i64 64, .int .u64 1, .int .i64 1, .int .i64 1, .int .i64 1, .int .i64 64, .int .i64 100, .int .i64 100, .int .i64 1000, .int .i64 2, .int .i64 64, .int .i64 4]) 29)).alloc (.cells (#[.slice none 0 0, .slice none 0 0, .slice none 0 0]) 57)) (w.heap.size) 29 16 = true := by go_simp
  have bVa0 : rowOf ((w.alloc (.cells (#[.int .i64 2, .int .i64 4, .int .i64 4, .int .i64 64, .int .i64 64, .int .u64 1, .int .i64 1, .int .i64 1, .int .i64 1, .int .i64 64, .int .i64 100, .int .i64 100, .int .i64 1000, .int .i64 2, .int .i64 64, .int .i64 4]) 29)).alloc (.cells (#[.slice none 0 0, .slice none 0 0, .slice none 0 0]) 57)) (w.heap.size) = #[.int .i64 2, .int .i64 4, .int .i64 4, .int .i64 64, .int .i64 64, .int .u64 1, .int .i64 1, .int .i64 1, .int .i64 1, .int .i64 64, .int .i64 100, .int .i64 100, .int .i64 1000, .int .i64 2, .int .i64 64, .int .i64 4] := by go_simp
  have bCa0 := isCells_row bRa0
  have bLa0 := row_lt bRa0
  have bRa1 : isRow ((w.alloc (.cells (#[.int .i64 2, .int .i64 4, .int .i64 4, .int .i64 64, .int .i64 64, .int .u64 1, .int .i64 1, .int .i64 1, .int .i64 1, .int .i64 64, .int .i64 100, .int .i64 100, .int .i64 1000, .int .i64 2, .int .i64 64, .int .i64 4]) 29)).alloc (.cells (#[.slice none 0 0, .slice none 0 0, .slice none 0 0]) 57)) (w.heap.size + 1) 57 3 = true := by go_simp
  have bVa1 : rowOf ((w.alloc (.cells (#[.int .i64 2, .int .i64 4, .int .i64 4, .int .i64 64, .int .i64 64, .int .u64 1, .int .i64 1, .int .i64 1, .int .i64 1, .int .i64 64, .int .i64 100, .int .i64 100, .int .i64 1000, .int .i64 2, .int .i64 64, .int .i64 4]) 29)).alloc (.cells (#[.slice none 0 0, .slice none 0 0, .slice none 0 0]) 57)) (w.heap.size + 1) = #[.slice none 0 0, .slice none 0 0, .slice none 0 0] := by go_simp
  have bCa1 := isCells_row bRa1
  have bLa1 := row_lt bRa1
  refine (HMR.out _).mono ?_
  rintro e w1 ⟨rfl, hb⟩
  have xb := alike hb
  have bRb0 : isRow w1 (w.heap.size) 29 16 = true := (xb.1 _ _ _ bLa0).trans bRa0
  have bVb0 : rowOf w1 (w.heap.size) = #[.int .i64 2, .int .i64 4, .int .i64 4, .int .i64 64, .int .i64 64, .int .u64 1, .int .i64 1, .int .i64 1, .int .i64 1, .int .i64 64, .int .i64 100, .int .i64 100, .int .i64 1000, .int .i64 2, .int .i64 64, .int .i64 4] := (xb.2.1 _ bLa0).trans bVa0
  have bCb0 := isCells_row bRb0
  have bLb0 := row_lt bRb0
  have bRb1 : isRow w1 (w.heap.size + 1) 57 3 = true := (xb.1 _ _ _ bLa1).trans bRa1
  have bVb1 : rowOf w1 (w.heap.size + 1) = #[.slice none 0 0, .slice none 0 0, .slice none 0 0] := (xb.2.1 _ bLa1).trans bVa1
  have bCb1 := isCells_row bRb1
  have bLb1 := row_lt bRb1
  have bw1 : Below w.heap.size w w1 := bw.trans (hb.mono bw.size)
  clear xb hb bw bRa0 bVa0 bCa0 bLa0 bRa1 bVa1 bCa1 bLa1
  go_wp2_with fail
  refine (HMN.out _).mono ?_
  rintro e w2 ⟨vS, vL, rfl, hS, hL, fS, fL, hb⟩
  obtain ⟨aS, cS, eS, -⟩ := id hS
  obtain ⟨aL, cL, eL, -⟩ := id hL
  simp only [List.length_replicate] at eS eL
  subst eS eL
  have xc := alike hb
  have bRc0 : isRow w2 (w.heap.size) 29 16 = true := (xc.1 _ _ _ bLb0).trans bRb0
  have bVc0 : rowOf w2 (w.heap.size) = #[.int .i64 2, .int .i64 4, .int .i64 4, .int .i64 64, .int .i64 64, .int .u64 1, .int .i64 1, .int .i64 1, .int .i64 1, .int .i64 64, .int .i64 100, .int .i64 100, .int .i64 1000, .int .i64 2, .int .i64 64, .int .i64 4] := (xc.2.1 _ bLb0).trans bVb0
  have bCc0 := isCells_row bRc0
  have bLc0 := row_lt bRc0
  have bRc1 : isRow w2 (w.heap.size + 1) 57 3 = true := (xc.1 _ _ _ bLb1).trans bRb1
  have bVc1 : rowOf w2 (w.heap.size + 1) = #[.slice none 0 0, .slice none 0 0, .slice none 0 0] := (xc.2.1 _ bLb1).trans bVb1
  have bCc1 := isCells_row bRc1
  have bLc1 := row_lt bRc1
  have bw2 : Below w.heap.size w w2 := bw1.trans (hb.mono bw1.size)
  have hs2 : w.heap.size + 1 < w2.heap.size := bLc1
  have HS2 := Lib.hid hS
  have HQS := Lib.hid (fun q (hq : (Value.slice aS 4 cS).ownBlock = some q) => hS.lt hq)
  have hfold : True := trivial
  clear xc hb bw1 fS fL hL hS HMR HMN bRb0 bVb0 bCb0 bLb0 bRb1 bVb1 bCb1 bLb1
  go_wp2_with fail
  have hmc : ((w2.alloc (.cells (#[.int .i64 0, .int .i64 0, .slice none 0 0, .slice none 0 0, .slice aS 4 cS, .slice aL 6 cL]) 47)).alloc (.cells (List.toArray (Value.int .i64 2 :: Value.int .i64 4 :: Value.int .i64 4 :: Value.int .i64 64 :: Value.int .i64 64 :: Value.int .u64 1 :: Value.int .i64 1 :: Value.int .i64 1 :: Value.int .i64 1 :: Value.int .i64 64 :: Value.int .i64 100 :: Value.int .i64 100 :: Value.int .i64 1000 :: Value.int .i64 2 :: Value.int .i64 64 :: Value.int .i64 4 :: Value.int .i64 0 :: Value.int .i64 0 :: Value.int .i32 0 :: Value.int .u32 0 :: Value.int .u32 0 :: Value.int .u32 0 :: Value.int .i32 0 :: Value.int .i32 0 :: Value.slice none 0 0 :: Value.int .i32 0 :: Value.int .u32 0 :: Value.slice none 0 0 :: Value.int .i32 0 :: Value.int .u32 0 :: Value.int .i64 0 :: Value.slice none 0 0 :: Value.int .i32 0 :: Value.int .u32 0 :: Value.int .i64 0 :: Value.slice none 0 0 :: Value.int .i32 0 :: Value.int .u32 0 :: Value.int .i64 0 :: Value.slice none 0 0 :: Value.int .i32 0 :: Value.int .u32 0 :: Value.int .i64 0 :: Value.slice none 0 0 :: Value.int .i32 0 :: Value.int .u32 0 :: Value.int .i64 0 :: Value.slice none 0 0 :: Value.int .i32 0 :: Value.int .u32 0 :: Value.int .i64 0 :: Value.slice none 0 0 :: Value.int .i32 0 :: Value.int .u32 0 :: Value.int .i64 0 :: Value.slice none 0 0 :: Value.int .i32 0 :: Value.int .u32 0 :: Value.int .i64 0 :: Value.slice none 0 0 :: [])) 134)) = ((w2.alloc (.cells (#[.int .i64 0, .int .i64 0, .slice none 0 0, .slice none 0 0, .slice aS 4 cS, .slice aL 6 cL]) 47)).alloc (.cells mc0 134)) := rfl
  rw [hmc]
  clear hmc
  have bw3 : Below w.heap.size w ((w2.alloc (.cells (#[.int .i64 0, .int .i64 0, .slice none 0 0, .slice none 0 0, .slice aS 4 cS, .slice aL 6 cL]) 47)).alloc (.cells mc0 134)) := (bw2.alloc (by omega) _).alloc (by rw [World.size_alloc]; omega) _
  have hr3 : isRow ((w2.alloc (.cells (#[.int .i64 0, .int .i64 0, .slice none 0 0, .slice none 0 0, .slice aS 4 cS, .slice aL 6 cL]) 47)).alloc (.cells mc0 134)) (w2.heap.size + 1) 134 60 = true := isRow_new _ mc0 134 _ 60 (by simp) mc0_size
  have hC3 : rowOf ((w2.alloc (.cells (#[.int .i64 0, .int .i64 0, .slice none 0 0, .slice none 0 0, .slice aS 4 cS, .slice aL 6 cL]) 47)).alloc (.cells mc0 134)) (w2.heap.size + 1) = mc0 := by go_simp
  have h63 : isRow ((w2.alloc (.cells (#[.int .i64 0, .int .i64 0, .slice none 0 0, .slice none 0 0, .slice aS 4 cS, .slice aL 6 cL]) 47)).alloc (.cells mc0 134)) (w2.heap.size) 47 6 = true := by go_simp
  have g63 : rowOf ((w2.alloc (.cells (#[.int .i64 0, .int .i64 0, .slice none 0 0, .slice none 0 0, .slice aS 4 cS, .slice aL 6 cL]) 47)).alloc (.cells mc0 134)) (w2.heap.size) = #[.int .i64 0, .int .i64 0, .slice none 0 0, .slice none 0 0, .slice aS 4 cS, .slice aL 6 cL] := by go_simp
  have HS3 := Lib.hid ((HS2.out.below ((Below.refl w2.heap.size w2).alloc (Nat.le_refl _) (.cells (#[.int .i64 0, .int .i64 0, .slice none 0 0, .slice none 0 0, .slice aS 4 cS, .slice aL 6 cL]) 47))).below ((Below.refl _ _).alloc (Nat.le_refl _) (.cells mc0 134)))
  generalize ((w2.alloc (.cells (#[.int .i64 0, .int .i64 0, .slice none 0 0, .slice none 0 0, .slice aS 4 cS, .slice aL 6 cL]) 47)).alloc (.cells mc0 134)) = W3 at *
  have hc3 := isCells_row hr3
  have i63 := isCells_row h63
  have jM3 := row_lt hr3
  have j63 := row_lt h63
  generalize hr6e : w2.heap.size = r6 at *
  generalize hMe : r6 + 1 = M at *
  have hn6 : r6 ≠ M := by omega
  have hn6' : ¬ (r6 = M) := by omega
  have hn6'' : ¬ (M = r6) := by omega
  have hMw : w.heap.size ≤ M := by omega
  have hMq : r6 < M := by omega
  clear HS2 bw2 hr6e hMe bRc0 bVc0 bCc0 bLc0 bRc1 bVc1 bCc1 bLc1
  refine region_tree (Upto M W3) [0, 1, 2, 3, 4] 1 (by kernel_rfl) (by kernel_rfl) (fun _ _ d _ _ h => by cases d <;> exact h) (Upto.refl _ _).drew ?_
  simp only [PL]
  apply reads_op
  · exact bk3
  try simp only [PT]
  apply reads_op
  · exact bk3
  try simp only [PT]
  apply reads_op
  · exact bk3
  try simp only [PT]
  apply reads_op
  · exact bk3
  try simp only [PT]
  apply reads_op
  · exact bk3
  try simp only [PT]
  refine reads_nil ?_
  refine tree_one 5 (by kernel_rfl) (by kernel_rfl) ?_
  simp only [nthL]
  go_wp2_with fail
  refine (i64_store M 16 (.int .i64 0) 0 _ (by go_simp) (by go_simp)).mono ?_
  rintro e w' ⟨rfl, rfl⟩
  go_wp2
  refine chain_on (bk63) ?_
  refine tree_end (by kernel_rfl) ?_
  have u3 : Upto M W3 (W3.drew.setRow M mc0) := upto_own (Upto.refl _ _).drew _
  have hq3 : isRow (W3.drew.setRow M mc0) M 134 60 = true := sr_isRow _ hr3 mc0_size
  have hp3 : rowOf (W3.drew.setRow M mc0) M = mc0 := sr_row _ hc3
  have hb3 : isRow (W3.drew.setRow M mc0) r6 47 6 = true := (sr_isRow' _ _ _ _ _ _ hn6).trans h63
  have hv3 : rowOf (W3.drew.setRow M mc0) r6 = #[.int .i64 0, .int .i64 0, .slice none 0 0, .slice none 0 0, .slice aS 4 cS, .slice aL 6 cL] := (sr_row' _ _ _ _ hn6).trans g63
  have HS4 := Lib.hid (HS3.out.upto u3 (fun e => by have := HQS.out _ e; omega))
  have bw4 : Below w.heap.size w (W3.drew.setRow M mc0) := below_setRow bw3.drew (by omega) _
  generalize W3.drew.setRow M mc0 = W4 at *
  have hr4 := hq3
  have hC4 := hp3
  have hc4 := isCells_row hr4
  have h64 := hb3
  have g64 := hv3
  have i64 := isCells_row h64
  have j64 := row_lt h64
  have jM4 := row_lt hr4
  clear u3 hq3 hp3 hb3 hv3 hr3 hC3 hc3 h63 g63 i63 j63 jM3
  clear HS3 bw3
  go_wp2_with fail
  refine region_tree (Upto M W4) [0, 1, 2, 3, 4] 1 (by kernel_rfl) (by kernel_rfl) (fun _ _ d _ _ h => by cases d <;> exact h) (Upto.refl _ _).drew ?_
  simp only [PL]
  apply reads_op
  · exact bk3
  try simp only [PT]
  apply reads_op
  · exact bk3
  try simp only [PT]
  apply reads_op
  · exact bk3
  try simp only [PT]
  apply reads_op
  · exact bk3
  try simp only [PT]
  apply reads_op
  · exact bk3
  try simp only [PT]
  refine reads_nil ?_
  refine tree_one 5 (by kernel_rfl) (by kernel_rfl) ?_
  simp only [nthL]
  go_wp2_with fail
  refine (i64_store M 17 (.int .i64 0) 0 _ (by go_simp) (by go_simp)).mono ?_
  rintro e w' ⟨rfl, rfl⟩
  go_wp2
  refine chain_on (bk63) ?_
  refine tree_end (by kernel_rfl) ?_
  skip
  have u4 : Upto M W4 (W4.drew.setRow M mc0) := upto_own (Upto.refl _ _).drew _
  have hq4 : isRow (W4.drew.setRow M mc0) M 134 60 = true := sr_isRow _ hr4 mc0_size
  have hp4 : rowOf (W4.drew.setRow M mc0) M = mc0 := sr_row _ hc4
  have hb4 : isRow (W4.drew.setRow M mc0) r6 47 6 = true := (sr_isRow' _ _ _ _ _ _ hn6).trans h64
  have hv4 : rowOf (W4.drew.setRow M mc0) r6 = #[.int .i64 0, .int .i64 0, .slice none 0 0, .slice none 0 0, .slice aS 4 cS, .slice aL 6 cL] := (sr_row' _ _ _ _ hn6).trans g64
  have HS5 := Lib.hid (HS4.out.upto u4 (fun e => by have := HQS.out _ e; omega))
  have bw5 : Below w.heap.size w (W4.drew.setRow M mc0) := below_setRow bw4.drew (by omega) _
  generalize W4.drew.setRow M mc0 = W5 at *
  have hr5 := hq4
  have hC5 := hp4
  have hc5 := isCells_row hr5
  have h65 := hb4
  have g65 := hv4
  have i65 := isCells_row h65
  have j65 := row_lt h65
  have jM5 := row_lt hr5
  clear u4 hq4 hp4 hb4 hv4 hr4 hC4 hc4 h64 g64 i64 j64 jM4
  clear HS4 bw4
  go_wp2
  go_loopg [39] 4 (fun g s39 wr => ∃ k : Nat, s39 = .int .i64 k ∧ k + g = 4 ∧ isRow wr M 134 60 = true ∧ rowOf wr M = mc0 ∧ Hid (Below w.heap.size w wr ∧ Sl wr (.slice aS 4 cS) 2 (List.replicate 4 #[.int .i64 0, .slice none 0 0])))
  case atStart => exact ⟨0, rfl, rfl, hr5, hC5, Lib.hid ⟨bw5, HS5.out⟩⟩
  case round =>
    obtain ⟨k, rfl, hg, hrr, hCr, HH⟩ := hrel
    obtain ⟨hB, hSl⟩ := HH.out
    clear HS5 bw5 hr5 hC5 hc5 h65 g65 i65 j65 jM5
    have hcr := isCells_row hrr
    have hMr := row_lt hrr
    cases gk with
    | zero =>
      have hk : ¬ ((k : Int) < 4) := by omega
      go_wp2
      refine bodyPost_ret (v := .tuple #[.pointer (some ⟨M, 0, none⟩), .int .i64 0]) (by simp [results, Tryz.results16, go_sem]) rfl ?_
      exact ⟨M, rfl, hrr, hCr, by omega, hB⟩
    | succ m =>
      have hk : (k : Int) < 4 := by omega
      have hk4 : k < 4 := by omega
      have hk0 : ¬ ((k : Int) < 0) := by omega
      have hk1 : 0 ≤ (k : Int) := by omega
      have hk8 : (k : Int) < 8 := by omega
      have hput := mc0_put k hk4
      obtain ⟨g, o, cL2, e1, hgw, e2, e3, e4, e5⟩ := sl_at hSl (k := k) (D := #[.int .i64 0, .slice none 0 0]) (by rw [List.getElem?_replicate, if_pos hk4])
      simp only [Value.slice.injEq] at e1
      obtain ⟨rfl, -, -⟩ := e1
      have hgM : ¬ (g = M) := fun e => by have := HQS.out g rfl; omega
      have hMg : ¬ (M = g) := fun e => hgM e.symm
      have HSr := Lib.hid hSl
      have hrs : ¬ (wr.heap.size = M) := by omega
      have hsr : ¬ (M = wr.heap.size) := by omega
      clear hSl HH
      go_wp2_with fail
      have W5b : isRow (wr.alloc (.cells (#[.int .i64 0, .slice none 0 0]) 129)) wr.heap.size 129 2 = true := by go_simp
      have W5v : rowOf (wr.alloc (.cells (#[.int .i64 0, .slice none 0 0]) 129)) wr.heap.size = #[.int .i64 0, .slice none 0 0] := by go_simp
      have bw6 : Below w.heap.size w (wr.alloc (.cells (#[.int .i64 0, .slice none 0 0]) 129)) := hB.alloc (by have := hB.size; omega) _
      obtain ⟨hr6, hC6⟩ := row_keep hrr hCr ((Below.refl wr.heap.size wr).alloc (Nat.le_refl _) (.cells (#[.int .i64 0, .slice none 0 0]) 129))
      have HS6 := Lib.hid (HSr.out.below ((Below.refl wr.heap.size wr).alloc (Nat.le_refl _) (.cells (#[.int .i64 0, .slice none 0 0]) 129)))
      generalize wr.alloc (.cells (#[.int .i64 0, .slice none 0 0]) 129) = W6 at *
      generalize wr.heap.size = r9 at *
      have hc6 := isCells_row hr6
      have jM6 := row_lt hr6
      have W5c := isCells_row W5b
      have W5l := row_lt W5b
      have hfit : fitsAt W6 M (28 + k * 4 + 2) 2 = true := own_fits hc6 (by rw [hC6, mc0_size]; omega)
      refine region_tree (Upto M W6) [0, 1, 2, 3, 4, 5, 6] 1 (by kernel_rfl) (by kernel_rfl) (fun _ _ d _ _ h => by cases d <;> exact h) (Upto.refl _ _).drew ?_
      simp only [PL]
      apply reads_op
      · exact bk3
      try simp only [PT]
      apply reads_op
      · exact bk3
      try simp only [PT]
      apply reads_op
      · exact bk3
      try simp only [PT]
      apply reads_op
      · exact bk3
      try simp only [PT]
      apply reads_op
      · exact bk3
      try simp only [PT]
      apply reads_op
      · exact bk3
      try simp only [PT]
      apply reads_op
      · exact bk3
      try simp only [PT]
      refine reads_nil ?_
      refine tree_one 7 (by kernel_rfl) (by kernel_rfl) ?_
      simp only [nthL]
      go_wp2_with fail
      refine chain_on (bk63) ?_
      refine tree_end (by kernel_rfl) ?_
      go_wp2_with fail
      go_roundg m
      case measure => omega
      case rel => exact ⟨k + 1, by simp, by omega, sr_isRow _ hr6 mc0_size, sr_row _ hc6, Lib.hid ⟨below_setRow bw6.drew (by omega) _, (HS6.out.upto (upto_own (Upto.refl M W6).drew _) (fun e => by have := HQS.out _ e; omega))⟩⟩
end
section
open Go.RowKit
attribute [local go_sem ↓] exec_load_75 exec_store_75 exec_load_36 exec_store_36
attribute [local go_sem] run_load75r run_store75i run_load36r run_store36i lt_up isRng_new rngOf_new isRange_past rangeOf_past isRange_drew rangeOf_drew fits_new fits_past fits_drew setAt_new setAt_past setAt_drew putAt_whole putAt_lit extract_whole extract_lit one_int one_bool one_slice one_ptr ones_lit onesL_nil onesL_cons isRow_new rowOf_new isRow_past rowOf_past isRow_drew rowOf_drew lt2 lt3 lt4 List.take_succ_cons List.take_zero List.drop_succ_cons List.drop_zero List.cons_append List.nil_append List.length_cons List.length_nil List.size_toArray sr_size sr_row sr_row' sr_isRow sr_isRow' sr_fits' sr_cell' sr_frozen' sr_isRange' sr_rangeOf' sr_isCells isCells_new isCells_past isCells_drew valC_size valC_ones opC_size opC_ones replyC_size
theorem tailJoin1 {p : Prop} (h : p := by
  have hwr : IntKind.i64.wrap ((i : Int) + 1) = (i : Int) + 1 := by rw [IntKind.wrap_i64]; omega
  go_wp2
  go_roundg (D0.length - (i + 1))
  case measure => rw [HG.out]; omega
  case rel => exact ⟨i + 1, D, by simp, by omega, by omega, rfl, Lib.hid ⟨HPr.out, (by have := HSr.out.below hS1.out; rw [HPr.out] at this; exact this), HUr.out.trans (hS1.out.mono (by omega))⟩⟩) : p := h
/-- table.order. -/
theorem order_law (x y : Nat) (w : World) : Calls Tryz.prog 77 #[.agg (#[.bool false, .int .u64 0, .int .u64 (loOf x), .int .i64 80, .bool true, .int .i64 (Pm.tOf x), .int .i64 0, .int .i64 (Pm.tOf x), .int .i64 0, .int .i64 0]), .agg (#[.bool false, .int .u64 0, .int .u64 (loOf y), .int .i64 80, .bool true, .int .i64 (Pm.tOf y), .int .i64 0, .int .i64 (Pm.tOf y), .int .i64 0, .int .i64 0])] w fun e w' => e = .returned (.int .i64 (endO x y)) ∧ Below w.heap.size w w' := by
  go_enter Tryz.func77, Tryz.ntmps77
  go_wp2_with (go_at_call 75; refine (end_cmp x y _).mono ?_; rintro e w1 ⟨rfl, hb⟩; have hk := Keep.mk hb; clear hb)
  go_ret
  exact ⟨rfl, bk0⟩
/-- An element of an own slice of peers. -/
theorem own_elem {W : World} {B : Nat} {a : Option Addr} {cap : Nat} {L : List Nat} (h : Own W B 75 10 (.slice a L.length cap) (L.map peerC)) {i : Nat} (hi : i < L.length) : ∃ g, a = some ⟨g, 0, none⟩ ∧ B ≤ g ∧ g < W.heap.size ∧ isRange W ⟨g, i * 10, none⟩ 10 = true ∧ rangeOf W ⟨g, i * 10, none⟩ 10 = peerC L[i] ∧ fitsAt W g (i * 10) 10 = true ∧ ∀ x, Own (setAt W g (i * 10) (peerC x)) B 75 10 (.slice a L.length cap) ((L.set i x).map peerC) := by
  obtain ⟨g, cap', e, -, -, hB, hg, hf, -⟩ := h.setEl (i := i) (by simpa using hi) (C := peerC 0) rfl rfl
  simp only [Value.slice.injEq] at e
  obtain ⟨rfl, -, rfl⟩ := e
  obtain ⟨g', o, cL, e, hg', h1, h2, -⟩ := sl_at h.sl (k := i) (D := peerC L[i]) (by simp [hi])
  simp only [Value.slice.injEq, Option.some.injEq, Addr.mk.injEq, and_true] at e
  obtain ⟨⟨rfl, rfl⟩, -⟩ := e
  rw [Nat.zero_add] at h1 h2
  refine ⟨g, rfl, hB, hg, h1, h2, hf, fun x => ?_⟩
  obtain ⟨g2, cap2, e2, -, -, -, -, -, h9⟩ := h.setEl (i := i) (by simpa using hi) (C := peerC x) rfl rfl
  simp only [Value.slice.injEq, Option.some.injEq, Addr.mk.injEq, and_true] at e2
  obtain ⟨rfl, -⟩ := e2
  rw [List.map_set]
  exact h9
/-- slices.insertionSortCmpFunc: as many peers. -/
theorem pinsert_law (B : Nat) (a : Option Addr) (cap : Nat) (D0 : List Nat) (w : World) (h : Own w B 75 10 (.slice a D0.length cap) (D0.map peerC)) (hl : D0.length ≤ 100) :
    Calls Tryz.prog 229 #[.slice a D0.length cap, .int .i64 0, .int .i64 D0.length, .func (.func 77) #[] #[]] w fun e w' => e = .returned (.tuple #[]) ∧ ∃ D : List Nat, D.length = D0.length ∧ Own w' B 75 10 (.slice a D0.length cap) (D.map peerC) ∧ Below (min B w.heap.size) w w' := by
  have HS0 := Lib.hid h
  clear h
  go_enter Tryz.func229, Tryz.ntmps229
  go_wp2
  go_loopg [8] (D0.length - 1) (fun gk s8 wr => ∃ (i : Nat) (D : List Nat), s8 = .int .i64 (i : Int) ∧ i ≤ D0.length + 1 ∧ 1 ≤ i ∧ gk = D0.length - i ∧ Hid (D.length = D0.length ∧ Own wr B 75 10 (.slice a D0.length cap) (D.map peerC) ∧ Below (min B w.heap.size) w wr))
  case atStart => exact ⟨1, D0, rfl, by omega, Nat.le_refl _, by omega, Lib.hid ⟨rfl, HS0.out, Below.refl _ _⟩⟩
  case round =>
    obtain ⟨i, D, rfl, hi1, hi0, hgk, HH⟩ := hrel
    have HG := Lib.hid hgk
    clear hgk
    by_cases hi : i < D0.length
    · have hiz : (i : Int) < (D0.length : Int) := by omega
      go_wp2
      go_loopg [9] i (fun gj s9 wr => ∃ (j : Nat) (D : List Nat), s9 = .int .i64 (j : Int) ∧ gj = j ∧ j ≤ i ∧ Hid (D.length = D0.length ∧ Own wr B 75 10 (.slice a D0.length cap) (D.map peerC) ∧ Below (min B w.heap.size) w wr))
      case atStart => exact ⟨i, D, rfl, rfl, Nat.le_refl _, HH⟩
      case round =>
        obtain ⟨j, D, rfl, hgj, hji, HH⟩ := hrel
        have HGJ := Lib.hid hgj
        clear hgj
        obtain ⟨hp, hS, hU⟩ := HH.out
        have HPr := Lib.hid hp
        have HSr := Lib.hid (show Own wr B 75 10 (.slice a D.length cap) (D.map peerC) by rw [hp]; exact hS)
        have HUr := Lib.hid hU
        clear hS
        have hws := hU.size
        clear hU
        cases j with
        | zero =>
          clear hp
          go_upto_region 4 with (fail)
          refine region_still (by kernel_rfl) (by kernel_rfl) ?_
          repeat (first
            | go_big_quiet_skip
            | (go_big_quiet_want
               apply class_op
               · intro W hS
                 have xx := alk hS.out; (try have zz := zs w.heap.size W.heap.size)
                 go_simp
                 try first
                   | with_reducible rfl
               go_big_quiet_on
               try simp only [PT]))
          refine wpQuiet_nil ?_
          intro w1 hS1
          have xxa := alk hS1.out; (try have zza := zs w.heap.size w1.heap.size)
          have hw1s := hS1.out.size
          exact tailJoin1
        | succ m =>
          have hj1 : m + 1 < D.length := by omega
          have hj0 : m < D.length := by omega
          clear hp
          obtain ⟨g, rfl, hgB, hgr, c1, d1, f1, -⟩ := own_elem HSr.out hj1
          obtain ⟨g', e', -, -, c0, d0, f0, -⟩ := own_elem HSr.out hj0
          simp only [Option.some.injEq, Addr.mk.injEq, and_true] at e'
          subst e'
          unfold peerC at d1 d0
          have hm1 : ((m + 1) * 10 : Nat) = (m + 1) * 10 := rfl
          have hgt' : (((m + 1 : Nat) : Int) > 0) := by omega
          have hgt : ((m : Int) + 1 > 0) := by omega
          have hsub : IntKind.i64.wrap ((m : Int) + 1 - 1) = (m : Int) := by rw [IntKind.wrap_i64]; omega
          have hsub' : IntKind.i64.wrap (((m + 1 : Nat) : Int) - 1) = (m : Int) := by rw [IntKind.wrap_i64]; omega
          have hsub2 : ((m + 1 : Nat) : Int) - 1 = (m : Int) := by omega
          have hb1 : (m : Int) + 1 < (D0.length : Int) := by have := HPr.out; omega
          have hb0 : (m : Int) < (D0.length : Int) := by have := HPr.out; omega
          have hb1' : ((m + 1 : Nat) : Int) < (D0.length : Int) := by have := HPr.out; omega
          have hn1 : ¬ ((m : Int) + 1 < 0) := by omega
          have hn1' : ¬ (((m + 1 : Nat) : Int) < 0) := by omega
          have hn0' : ¬ ((m : Int) < 0) := by omega
          have ht1 : ((m : Int) + 1).toNat = m + 1 := by omega
          have hwm : IntKind.i64.wrap (m : Int) = (m : Int) := by rw [IntKind.wrap_i64]; omega
          have h0m : 0 ≤ (m : Int) + 1 := by omega
          have h0m' : 0 ≤ (m : Int) := by omega
          by_cases hlt : endO D[m + 1] D[m] < 0
          · go_upto_region 4 with (fail)
            refine region_still (by kernel_rfl) (by kernel_rfl) ?_
            repeat (first
              | go_big_quiet_skip
              | (go_big_quiet_want
                 apply class_op
                 · intro W hS
                   have xx := alk hS.out; (try have zz := zs w.heap.size W.heap.size)
                   go_simp
                   try first
                     | with_reducible rfl
                     | (go_at_call 77; refine (order_law D[m + 1] D[m] _).mono ?_; rintro e w' ⟨rfl, hb⟩; exact ⟨rfl, below_next hS hb⟩)
                 go_big_quiet_on
                 try simp only [PT]))
            refine wpQuiet_nil ?_
            intro w1 hS1
            have xxa := alk hS1.out; (try have zza := zs w.heap.size w1.heap.size)
            have HS1 := Lib.hid (HSr.out.below hS1.out)
            have hg1 : g < w1.heap.size := Nat.lt_of_lt_of_le hgr hS1.out.size
            clear c1 d1 f1 c0 d0 f0
            obtain ⟨g', e', -, -, c1, d1, f1, s1⟩ := own_elem HS1.out hj1
            simp only [Option.some.injEq, Addr.mk.injEq, and_true] at e'
            subst e'
            obtain ⟨g', e', -, -, c0, d0, f0, -⟩ := own_elem HS1.out hj0
            simp only [Option.some.injEq, Addr.mk.injEq, and_true] at e'
            subst e'
            have HSS := Lib.hid s1
            clear s1
            unfold peerC at d1 d0
            (try clear xxa); (try clear zza)
            go_upto_region 6 with (fail)
            refine region_keep [2, 3, 4] [0, 1, 5, 6, 7, 8, 9, 10, 11, 12, 13, 14] [15, 16, 17] (by kernel_rfl) (by kernel_rfl) (fun _ _ d _ _ h => by cases d <;> exact h) ?_
            simp only [PL]
            apply first_op
            · intro W; go_simp; try with_reducible rfl
            try simp only [PT]
            apply first_op
            · intro W; go_simp; try with_reducible rfl
            try simp only [PT]
            apply first_op
            · intro W; go_simp; try with_reducible rfl
            try simp only [PT]
            refine first_nil ?_
            repeat (first
              | go_big_quiet_skip
              | (go_big_quiet_want
                 apply class_op
                 · intro W hS
                   have xx := alk hS.out; (try have zz := zs w.heap.size W.heap.size)
                   go_simp
                   try first
                     | with_reducible rfl
                 go_big_quiet_on
                 try simp only [PT]))
            refine wpQuiet_nil ?_
            intro w2 hS2
            have xxb := alk hS2.out; (try have zzb := zs w.heap.size w2.heap.size)
            have HS2 := Lib.hid (HS1.out.below hS2.out)
            have hg2 : g < w2.heap.size := Nat.lt_of_lt_of_le hg1 hS2.out.size
            clear c1 d1 f1 c0 d0 f0
            obtain ⟨g', e', -, -, c1, d1, f1, s1⟩ := own_elem HS2.out hj1
            simp only [Option.some.injEq, Addr.mk.injEq, and_true] at e'
            subst e'
            have hS3 := s1 D[m]
            rw [show D.length = (D.set (m + 1) D[m]).length by simp] at hS3
            obtain ⟨g', e', -, -, c0, d0, f0, s2⟩ := own_elem hS3 (i := m) (by simpa using hj0)
            simp only [Option.some.injEq, Addr.mk.injEq, and_true] at e'
            subst e'
            have HS4 := Lib.hid (s2 D[m + 1])
            have hb4 := below_setAt (below_setAt (HUr.out.trans ((hS1.out.trans (hS2.out.mono hS1.out.size)).mono (by omega))) (show min B w.heap.size ≤ g by omega) ((m + 1) * 10) (peerC D[m])) (show min B w.heap.size ≤ g by omega) (m * 10) (peerC D[m + 1])
            have HB4 := Lib.hid hb4
            clear s1 s2 hS3 c0 d0 c1 d1 hb4
            unfold peerC at f0
            (try clear xxb); (try clear zzb)
            go_wp2
            go_roundg m
            case measure => rw [HGJ.out]; omega
            case rel => exact ⟨m, (D.set (m + 1) D[m]).set m D[m + 1], rfl, rfl, by omega, Lib.hid ⟨by simp [HPr.out], (by have := HS4.out; simp only [List.length_set] at this; rw [HPr.out] at this; exact this), HB4.out⟩⟩
          · go_upto_region 4 with (fail)
            refine region_still (by kernel_rfl) (by kernel_rfl) ?_
            repeat (first
              | go_big_quiet_skip
              | (go_big_quiet_want
                 apply class_op
                 · intro W hS
                   have xx := alk hS.out; (try have zz := zs w.heap.size W.heap.size)
                   go_simp
                   try first
                     | with_reducible rfl
                     | (go_at_call 77; refine (order_law D[m + 1] D[m] _).mono ?_; rintro e w' ⟨rfl, hb⟩; exact ⟨rfl, below_next hS hb⟩)
                 go_big_quiet_on
                 try simp only [PT]))
            refine wpQuiet_nil ?_
            intro w1 hS1
            have xxa := alk hS1.out; (try have zza := zs w.heap.size w1.heap.size)
            exact tailJoin1
    · have hiz : ¬ ((i : Int) < (D0.length : Int)) := by omega
      obtain ⟨hp, hS, hU⟩ := HH.out
      have HR := Lib.hid (And.intro hp (And.intro hS hU))
      clear hp hS hU
      go_wp2
      exact bodyPost_end (results_none rfl _ _ _) rfl ⟨rfl, D, HR.out⟩
/-- slices.stableCmpFunc, of few peers. -/
theorem pstable_law (B : Nat) (a : Option Addr) (cap : Nat) (D0 : List Nat) (w : World) (h : Own w B 75 10 (.slice a D0.length cap) (D0.map peerC)) (hl : D0.length ≤ 19) :
    Calls Tryz.prog 172 #[.slice a D0.length cap, .int .i64 D0.length, .func (.func 77) #[] #[]] w fun e w' => e = .returned (.tuple #[]) ∧ ∃ D : List Nat, D.length = D0.length ∧ Own w' B 75 10 (.slice a D0.length cap) (D.map peerC) ∧ Below (min B w.heap.size) w w' := by
  have HL := Lib.hid (pinsert_law B a cap D0 w h (by omega))
  clear h
  have h20 : ¬ ((20 : Int) ≤ (D0.length : Int)) := by omega
  have h20' : ¬ ((20 : Int) < (D0.length : Int)) := by omega
  go_enter Tryz.func172, Tryz.ntmps172
  go_wp2
  go_loopg [7, 8] 0 (fun gk s7 s8 wr => s7 = .int .i64 0 ∧ s8 = .int .i64 20 ∧ wr = w)
  case atStart => exact ⟨rfl, rfl, rfl⟩
  case round =>
    obtain ⟨rfl, rfl, rfl⟩ := hrel
    go_wp2_with (go_at_call 229; refine HL.out.mono ?_; rintro e w1 ⟨rfl, hR⟩; have HR := Lib.hid hR; clear hR)
    go_loopg [6] 0 (fun gk s6 wx => s6 = .int .i64 20 ∧ wx = w1)
    case atStart => exact ⟨rfl, rfl⟩
    case round =>
      obtain ⟨rfl, rfl⟩ := hrel
      go_wp2
      exact bodyPost_end (results_none rfl _ _ _) rfl ⟨rfl, HR.out⟩
/-- slices.SortStableFunc, of few peers. -/
theorem psort_law (B : Nat) (a : Option Addr) (cap : Nat) (D0 : List Nat) (w : World) (h : Own w B 75 10 (.slice a D0.length cap) (D0.map peerC)) (hl : D0.length ≤ 19) :
    Calls Tryz.prog 114 #[.slice a D0.length cap, .func (.func 77) #[] #[]] w fun e w' => e = .returned (.tuple #[]) ∧ ∃ D : List Nat, D.length = D0.length ∧ Own w' B 75 10 (.slice a D0.length cap) (D.map peerC) ∧ Below (min B w.heap.size) w w' := by
  have HL := Lib.hid (pstable_law B a cap D0 w h hl)
  clear h
  go_enter Tryz.func114, Tryz.ntmps114
  go_wp2_with (go_at_call 172; refine HL.out.mono ?_; rintro e w1 ⟨rfl, hR⟩; have HR := Lib.hid hR; clear hR)
  exact bodyPost_end (results_none rfl _ _ _) rfl ⟨rfl, HR.out⟩
/-- table.Sorted: as many. -/
theorem sorted_law (L : List Nat) (hl : L.length ≤ 19) (v : Value) (w : World) (h : Sl w v 10 (L.map peerC)) :
    Calls Tryz.prog 70 #[v] w fun e w' => ∃ (v' : Value) (D : List Nat), e = .returned v' ∧ D.length = L.length ∧ Own w' w.heap.size 75 10 v' (D.map peerC) ∧ Below w.heap.size w w' := by
  have HC := Lib.hid (clone113 v _ w h (by simp; omega))
  clear h
  go_enter Tryz.func70, Tryz.ntmps70
  go_wp2_with fail
  refine HC.out.mono ?_
  rintro e w1 ⟨v1, rfl, ho, hb⟩
  have hsz := hb.size
  have HB := Lib.hid hb
  clear hb
  obtain ⟨a, cap, rfl, -⟩ := id ho.sl
  simp only [List.length_map] at ho ⊢
  have HO := Lib.hid ho
  clear ho
  go_wp2_with fail
  refine (psort_law w.heap.size a cap L w1 HO.out hl).mono ?_
  rintro e w2 ⟨rfl, D, hD, hO, hb⟩
  rw [Nat.min_eq_left hsz] at hb
  have HR := Lib.hid (And.intro hD (And.intro hO hb))
  clear hD hO hb
  go_wp2
  refine bodyPost_ret (results_tmp rfl _ _ _) rfl ?_
  exact ⟨_, D, rfl, HR.out.1, HR.out.2.1, HB.out.trans HR.out.2.2⟩
/-- shard.Peers, of a part that is whole. -/
theorem peers_law (l : List Nat) (hl : l.length ≤ 900) (v : Value) (w : World) (h : Sl w v 10 (l.map peerC)) :
    Calls Tryz.prog 69 #[.agg #[.int .i64 l.length, v]] w fun e w' => ∃ v', e = .returned v' ∧ Own w' w.heap.size 75 10 v' (l.map peerC) ∧ Below w.heap.size w w' := by
  have H := Lib.hid h
  have HC := Lib.hid (fun (W : World) (b : Below w.heap.size w W) => clone113 v _ W (H.out.below b) (by simp; omega))
  obtain ⟨a, cap, rfl, hc, -⟩ := id h
  simp only [List.length_map] at hc H HC ⊢
  have hmx : max (l.length : Int) 0 = l.length := by omega
  have hmn : min (l.length : Int) (l.length : Int) = l.length := by omega
  have n0 : ¬ ((l.length : Int) < 0) := by omega
  have n1 : (l.length : Int) ≤ cap := by omega
  have n2 : 0 ≤ (l.length : Int) := by omega
  have n3 : ¬ ((cap : Int) < (l.length : Int)) := by omega
  clear h
  go_enter Tryz.func69, Tryz.ntmps69
  rcases a with _ | ⟨g, o, sp⟩
  · have hl0 : l = [] := by
      obtain ⟨a', c', e, -, -, h3⟩ := H.out
      simp only [Value.slice.injEq] at e
      obtain ⟨rfl, -, -⟩ := e
      rcases h3 with ⟨-, h3⟩ | ⟨g, o, h3, -⟩
      · simpa using h3
      · cases h3
    subst hl0
    go_wp2_with (go_at_call 113; refine (HC.out _ (bk0)).mono ?_; rintro e w1 ⟨v1, rfl, ho, hb⟩; have HO := Lib.hid ho; have hk := Keep.mk hb; clear ho hb)
    refine bodyPost_ret (results_tmp rfl _ _ _) rfl ?_
    exact ⟨_, rfl, HO.out.weaken (by simp), bk0⟩
  · go_wp2_with (go_at_call 113; refine (HC.out _ (bk0)).mono ?_; rintro e w1 ⟨v1, rfl, ho, hb⟩; have HO := Lib.hid ho; have hk := Keep.mk hb; clear ho hb)
    refine bodyPost_ret (results_tmp rfl _ _ _) rfl ?_
    exact ⟨_, rfl, HO.out.weaken (by simp), bk0⟩
end
end Go.Proofs.YtnncjbkepakgpaaGreat
