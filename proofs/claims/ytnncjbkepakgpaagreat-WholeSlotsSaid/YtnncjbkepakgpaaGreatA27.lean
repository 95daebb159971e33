/-
  MEMORY OF NOTHING.
  A STATE OF NOTHING IS RIGHT.
-/
import Derived.Test.YtnncjbkepakgpaaGreatA07
import Derived.Test.YtnncjbkepakgpaaGreatA18
import Derived.Test.YtnncjbkepakgpaaGreatA26
import Derived.Test.YtnncjbkepakgpaaGreatA15
import Derived.Lib.MinMax
namespace Go.Proofs.YtnncjbkepakgpaaGreat
set_option linter.unusedVariables false
set_option linter.unusedSimpArgs false
set_option maxRecDepth 100000
set_option maxHeartbeats 2000000
section
open Go.RowKit
attribute [local go_sem ↓] exec_load_47 exec_store_47 exec_load_29 exec_store_29 exec_load_62 exec_store_62
attribute [local go_sem] run_load47r run_store47i run_load29r run_store29i run_load62r run_store62i lt_up isRng_new rngOf_new isRange_past rangeOf_past isRange_drew rangeOf_drew fits_new fits_past fits_drew setAt_new setAt_past setAt_drew putAt_whole putAt_lit extract_whole extract_lit one_int one_bool one_slice one_ptr ones_lit onesL_nil onesL_cons isRow_new rowOf_new isRow_past rowOf_past isRow_drew rowOf_drew lt2 lt3 lt4 List.take_succ_cons List.take_zero List.drop_succ_cons List.drop_zero List.cons_append List.nil_append List.length_cons List.length_nil List.size_toArray setRow_new setRow_past own_cell own_frozen own_set own_isRange own_rangeOf own_fits setAt_row sr_sr sr_size sr_row sr_row' sr_isRow sr_isRow' sr_fits' sr_cell' sr_frozen' sr_isRange' sr_rangeOf' sr_isCells isCells_new isCells_past isCells_drew valC_size valC_ones opC_size opC_ones replyC_size srs_isRange srs_rangeOf srs_fits srs_cell srs_frozen
theorem tailNew1 {p : Prop} (h : p := by
  refine treeZ_one 12 (by kernel_rfl) (by kernel_rfl) ?_
  simp only [nthL]
  go_wp2_with (go_at_call 38; refine (clone38_nil _).mono ?_; rintro e wa ⟨rfl, hb⟩; have hka := Keep.mk hb; have xxa := alk hka.out; (try have zza := zs w.heap.size wa.heap.size); clear hb)
  refine chain_on ⟨bk0⟩ ?_
  refine treeZ_one 15 (by kernel_rfl) (by kernel_rfl) ?_
  simp only [nthL]
  go_wp2_with (go_at_call 39; refine (clone39_nil _).mono ?_; rintro e wb ⟨rfl, hb⟩; have hkb := Keep.mk hb; have xxb := alk hkb.out; (try have zzb := zs w.heap.size wb.heap.size); clear hb)
  refine chain_on ⟨bk0⟩ ?_
  refine treeZ_reads (by kernel_rfl) [21] 1 rfl (by kernel_rfl) (fun _ _ d _ _ h => by cases d <;> exact h) ⟨bk0⟩ ?_
  simp only [PL]
  apply reads_op
  · exact bk2
  try simp only [PT]
  refine reads_nil ?_
  refine treeZ_last 22 rfl (by kernel_rfl) (by kernel_rfl) ?_
  simp only [nthL]
  go_wp2_with fail
  refine chain_on trivial ?_
  refine treeZ_end (by kernel_rfl) ?_
  go_wp2
  refine bodyPost_ret (v := .agg (#[.int .i64 0, .int .i64 0, .slice none 0 0, .slice none 0 0, .slice a S c, .slice (some ⟨w1.heap.size, 0, none⟩) (S + 2) (S + 2)])) (res_row (t := 47) Tryz.results20 _ _ _ rfl ?_ ?_ info47 agg47) rfl ?_
  · go_simp
  · go_simp
  exact ⟨_, _, rfl, (HS.out.below (bk0)).upto (T := (w.heap.size + 1 + 1)) (upto_own (Upto.refl (w.heap.size + 1 + 1) _) _) (fun e => bk47), ((HL.out.below hka.out).below hkb.out).upto (T := (w.heap.size + 1 + 1)) (upto_own (Upto.refl (w.heap.size + 1 + 1) _) _) (by simp [Value.ownBlock]; omega), (fun q hq => by have := HQ.out q hq; omega), (fun q hq => by simp [Value.ownBlock] at hq; omega), bk0⟩) : p := h
theorem tailNew2 {p : Prop} (h : p := by
  refine chain_on ⟨bk0⟩ ?_
  refine treeZ_one 8 (by kernel_rfl) (by kernel_rfl) ?_
  simp only [nthL]
  go_wp2_with (go_at_call 49; refine (bcount_nil _ _).mono ?_; rintro e w' ⟨rfl, rfl⟩)
  refine chain_on ⟨bk0⟩ ?_
  refine treeZ_reads (by kernel_rfl) [9] 4 rfl (by kernel_rfl) (fun _ _ d _ _ h => by cases d <;> exact h) ⟨bk0⟩ ?_
  simp only [PL]
  apply reads_op
  · exact bk2
  try simp only [PT]
  refine reads_nil ?_
  exact tailNew1) : p := h
theorem tailNew3 {p : Prop} (h : p := by
  go_wp2
  go_loopg [5, 10] 0 (fun g s5 s10 wr => s5 = .int .i64 0 ∧ s10 = .int .i64 0 ∧ w = wr)
  case atStart => exact ⟨rfl, rfl, rfl⟩
  case round =>
    obtain ⟨rfl, rfl, rfl⟩ := hrel
    go_wp2
    exact bodyPost_ret (results_tmp rfl _ _ _) rfl ⟨rfl, rfl⟩) : p := h
theorem info57 : (Tryz.prog.info? 57).map (·.size) = some 3 := by kernel_rfl
theorem agg57 (w : World) : (isAgg 57).run Tryz.prog w = .ok true w := by unfold isAgg; rw [Sem.run_bind, run_underlying Tryz.underlying57 w]; rfl
def load57 (v : Value) : Sem Next := do pure (.value (← Instr.loadAt 57 v))
theorem exec_load_57 (ρ : Operand → Value) (dst : Option Tmp) (x : Operand) (ty : TypeId) (pos : String) (after : Array Edge) (guard : Option (Nat × Bool)) :
    execOp ρ { dst, op := .load 57 x, type := ty, pos, after, guard } = load57 (ρ x) := rfl
theorem run_load57 {W : World} {g : Nat} (h : isRow W g 57 3 = true) : (load57 (.pointer (some ⟨g, 0, none⟩))).run Tryz.prog W = .ok (.value (.agg (rowOf W g))) W := by
  simp only [load57, Instr.loadAt, Instr.sureAddr, Sem.run_bind, Sem.run_pure, Result.andThen_ok, run_loadVar_row W g 57 57 _ (0, 0) _ (row_heap h).1 Tryz.underlying57 rfl (by rw [(row_heap h).2]; exact info57)]
theorem run_load57r {W : World} {p : Addr} (h : isRange W p 3 = true) : (load57 (.pointer (some p))).run Tryz.prog W = .ok (.value (.agg (rangeOf W p 3))) W := by
  simp only [load57, Instr.loadAt, Instr.sureAddr, Sem.run_bind, Sem.run_pure, Result.andThen_ok, load_range info57 Tryz.underlying57 rfl h]
def store57 (a v : Value) : Sem Next := do Instr.storeAt 57 a v; pure .skip
theorem exec_store_57 (ρ : Operand → Value) (dst : Option Tmp) (x y : Operand) (ty : TypeId) (pos : String) (after : Array Edge) (guard : Option (Nat × Bool)) :
    execOp ρ { dst, op := .store 57 x y, type := ty, pos, after, guard } = store57 (ρ x) (ρ y) := rfl
theorem run_store57 {W : World} {g : Nat} {C : Array Value} (h : isRow W g 57 3 = true) (hn : C.size = 3) (h1 : ones C = true) : (store57 (.pointer (some ⟨g, 0, none⟩)) (.agg C)).run Tryz.prog W = .ok .skip (W.setRow g C) := by
  obtain ⟨h2, h3⟩ := row_heap h
  simp only [store57, Instr.storeAt, Instr.sureAddr, Sem.run_bind, Sem.run_pure, Result.andThen_ok, run_storeVar_row W g 57 57 _ C h2 (by rw [hn]; exact info57) (by rw [h3, hn]) (ones_all h1)]
theorem run_store57i {W : World} {g o : Nat} {C : Array Value} (h : fitsAt W g o 3 = true) (hn : C.size = 3) (h1 : ones C = true) : (store57 (.pointer (some ⟨g, o, none⟩)) (.agg C)).run Tryz.prog W = .ok .skip (setAt W g o C) := by
  simp only [store57, Instr.storeAt, Instr.sureAddr, Sem.run_bind, Sem.run_pure, Result.andThen_ok, run_store_at 57 3 info57 h hn h1]
attribute [local go_sem ↓] exec_load_57 exec_store_57
attribute [local go_sem] run_load57r run_store57i
theorem drew_sizeN (w : World) : w.drew.heap.size = w.heap.size := id rfl
attribute [local go_sem high] drew_sizeN
attribute [local simp high] drew_sizeN
theorem run_make2 {P : Program} (t e : TypeId) (z z1 z2 : Value) (bytes : Nat) (ht : P.underlying t = some (.slice e)) (hinfo : (P.info? e).map (fun i => (i.zero, i.size, i.bytes)) = some (some z, 2, bytes)) (hz1 : z.cells = #[z1, z2]) (n : Nat) (hb : bytes * n ≤ 281474976710656) (h63 : n ≤ 9223372036854775807) (w : World) :
    (Instr.makeSlice t (.int .i64 (n : Int)) (.int .i64 (n : Int))).run P w = .ok (.slice (some ⟨w.heap.size, 0, none⟩) n n) (w.alloc (.cells (madeCells #[z1, z2] (n * 2)) e)) := by
  obtain ⟨i, hi, hzz⟩ := Option.map_eq_some_iff.1 hinfo
  simp only [Prod.mk.injEq] at hzz
  obtain ⟨hz, hs, hbt⟩ := hzz
  have hb' : (i.bytes : Int) * (n : Int) ≤ 281474976710656 := by
    have h : ((i.bytes * n : Nat) : Int) ≤ 281474976710656 := by rw [hbt]; omega
    rwa [Int.natCast_mul] at h
  have hr := run_make (P := P) w t e i z ht hi hz .i64 .i64 n n (by omega) (Int.le_refl _) hb' (by omega)
  simp only [Int.toNat_natCast, hs, hz1] at hr
  exact hr
/-- Ten elements of two cells at most, made. -/
theorem own_made (w : World) (e : TypeId) (z1 z2 : Value) (h1 : ones #[z1, z2] = true) (n : Nat) (hn : n ≤ 10) : Own (w.alloc (.cells (madeCells #[z1, z2] (n * 2)) e)) w.heap.size e 2 (.slice (some ⟨w.heap.size, 0, none⟩) n n) (List.replicate n #[z1, z2]) := by
  have hf : flat (List.replicate n #[z1, z2]) = (madeCells #[z1, z2] (n * 2)).toList := by
    have : n = 0 ∨ n = 1 ∨ n = 2 ∨ n = 3 ∨ n = 4 ∨ n = 5 ∨ n = 6 ∨ n = 7 ∨ n = 8 ∨ n = 9 ∨ n = 10 := by omega
    rcases this with rfl | rfl | rfl | rfl | rfl | rfl | rfl | rfl | rfl | rfl | rfl <;> simp [flat, madeCells, List.replicate, Array.range, Array.ofFn] <;> rfl
  refine ⟨?_, fun C hC => by rw [(List.mem_replicate.1 hC).2]; exact ⟨rfl, h1⟩⟩
  rw [hf]
  refine ⟨by simp [size_madeCells], .inr ⟨w.heap.size, n, madeCells #[z1, z2] (n * 2), by simp, Nat.le_refl _, (MapKept.heap_alloc w _).1, by simp, by unfold maxLen; omega, by simp [size_madeCells], ?_⟩⟩
  rw [List.take_of_length_le (by simp [size_madeCells])]
theorem infoz129 : (Tryz.prog.info? 129).map (fun i => (i.zero, i.size, i.bytes)) = some (some (.agg #[.int .i64 0, .slice none 0 0]), 2, 32) := by kernel_rfl
theorem infoz186 : (Tryz.prog.info? 186).map (fun i => (i.zero, i.size, i.bytes)) = some (some (.agg #[.int .i64 0, .slice none 0 0]), 2, 32) := by kernel_rfl
theorem tcount_nil (b : Bool) (w : World) : Calls Tryz.prog 45 #[.slice none 0 0, .bool b] w fun e w' => e = .returned (.int .i64 0) ∧ w = w' := by
  go_enter Tryz.func45, Tryz.ntmps45
  exact tailNew3
theorem bcount_nil (k : Int) (w : World) : Calls Tryz.prog 49 #[.slice none 0 0, .int .i64 k] w fun e w' => e = .returned (.int .i64 0) ∧ w = w' := by
  go_enter Tryz.func49, Tryz.ntmps49
  exact tailNew3
/-- shard.Split of nobody. -/
theorem split_nil (S : Nat) (h0 : 1 ≤ S) (h1 : S ≤ 8) (w : World) : Calls Tryz.prog 48 #[.slice none 0 0, .int .u64 1, .int .i64 S] w fun e w' => ∃ v, e = .returned v ∧ Own w' w.heap.size 129 2 v (List.replicate S #[.int .i64 0, .slice none 0 0]) ∧ Below w.heap.size w w' := by
  have hmk := run_make2 (P := Tryz.prog) 44 129 _ (.int .i64 0) (.slice none 0 0) 32 Tryz.underlying44 infoz129 rfl S (by omega) (by omega)
  go_enter Tryz.func48, Tryz.ntmps48
  go_wp2_with (go_at_call 79; refine (parts_any S (by omega) (by omega) _).mono ?_; rintro e w1 ⟨rfl, rfl⟩)
  go_loopg [16] 0 (fun g s16 wr => s16 = .int .i64 0 ∧ wr = w.alloc (.cells (madeCells #[.int .i64 0, .slice none 0 0] (S * 2)) 129))
  case atStart => exact ⟨rfl, rfl⟩
  case round =>
    obtain ⟨rfl, rfl⟩ := hrel
    go_wp2
    exact bodyPost_ret (results_tmp rfl _ _ _) rfl ⟨_, rfl, own_made w 129 _ _ rfl S (by omega), (Below.refl _ _).alloc (Nat.le_refl _) _⟩
/-- mem.New of nothing. -/
theorem mem_new (most S : Nat) (h0 : 1 ≤ S) (h1 : S ≤ 8) (w : World) : Calls Tryz.prog 20 #[.agg (#[.int .i64 most, .int .i64 4, .int .i64 S, .int .i64 64, .int .i64 64, .int .u64 1, .int .i64 1, .int .i64 1, .int .i64 1, .int .i64 64, .int .i64 100, .int .i64 100, .int .i64 1000, .int .i64 2, .int .i64 64, .int .i64 4]), .agg (#[.slice none 0 0, .slice none 0 0, .slice none 0 0])] w fun e w' => ∃ vS vL, e = .returned (.agg (#[.int .i64 0, .int .i64 0, .slice none 0 0, .slice none 0 0, vS, vL])) ∧ Sl w' vS 2 (List.replicate S #[.int .i64 0, .slice none 0 0]) ∧ Sl w' vL 2 (List.replicate (S + 2) #[.int .i64 0, .slice none 0 0]) ∧ (∀ q, vS.ownBlock = some q → w.heap.size ≤ q) ∧ (∀ q, vL.ownBlock = some q → w.heap.size ≤ q) ∧ Below w.heap.size w w' := by
  have e2 : ((S + 2 : Nat) : Int) = (S : Int) + 2 := by omega
  have hmk : ∀ W : World, (Instr.makeSlice 45 (.int .i64 ((S : Int) + 2)) (.int .i64 ((S : Int) + 2))).run Tryz.prog W = .ok (.slice (some ⟨W.heap.size, 0, none⟩) (S + 2) (S + 2)) (W.alloc (.cells (madeCells #[.int .i64 0, .slice none 0 0] ((S + 2) * 2)) 186)) := fun W => by
    have := run_make2 (P := Tryz.prog) 45 186 _ (.int .i64 0) (.slice none 0 0) 32 Tryz.underlying45 infoz186 rfl (S + 2) (by omega) (by omega) W
    rw [e2] at this
    exact this
  clear e2
  have hw2 : IntKind.i64.wrap ((S : Int) + 2) = (S : Int) + 2 := by rw [IntKind.wrap_i64]; omega
  go_enter Tryz.func20, Tryz.ntmps20
  go_wp2_with fail
  refine (split_nil S h0 h1 _).mono ?_
  rintro e w1 ⟨v, rfl, ho, hb⟩
  have hk1 := Keep.mk hb
  have hs := ho.sl
  have hqq := fun q (hq : v.ownBlock = some q) => (ho.base hq).1
  obtain ⟨a, c, rfl, -⟩ := id hs
  simp only [List.length_replicate] at hs hqq ⊢
  have HS := Lib.hid hs
  have HQ := Lib.hid (fun q hq => show (w.heap.size + 1 + 1) < q by have := hqq q hq; simp at this; omega)
  have xx := alk hk1.out; (try have zz := zs w.heap.size w1.heap.size)
  clear hb hs hqq ho
  have bRg0 : isRow w1 (w.heap.size) 29 16 = true := by go_simp
  have bVg0 : rowOf w1 (w.heap.size) = #[.int .i64 most, .int .i64 4, .int .i64 S, .int .i64 64, .int .i64 64, .int .u64 1, .int .i64 1, .int .i64 1, .int .i64 1, .int .i64 64, .int .i64 100, .int .i64 100, .int .i64 1000, .int .i64 2, .int .i64 64, .int .i64 4] := by go_simp
  have bCg0 := isCells_row bRg0
  have bLg0 : (w.heap.size) < (w1).heap.size := bk1
  have bRg1 : isRow w1 (w.heap.size + 1) 57 3 = true := by go_simp
  have bVg1 : rowOf w1 (w.heap.size + 1) = #[.slice none 0 0, .slice none 0 0, .slice none 0 0] := by go_simp
  have bCg1 := isCells_row bRg1
  have bLg1 : (w.heap.size + 1) < (w1).heap.size := bk1
  have bRg2 : isRow w1 (w.heap.size + 1 + 1) 47 6 = true := by go_simp
  have bVg2 : rowOf w1 (w.heap.size + 1 + 1) = #[.int .i64 0, .int .i64 0, .slice none 0 0, .slice none 0 0, .slice none 0 0, .slice none 0 0] := by go_simp
  have bCg2 := isCells_row bRg2
  have bLg2 : (w.heap.size + 1 + 1) < (w1).heap.size := bk1
  (try clear xx); (try clear zz)
  have ne1 : ¬ (w.heap.size + 1 = w.heap.size) := by omega
  have en1 : ¬ (w.heap.size = w.heap.size + 1) := by omega
  have ne2 : ¬ (w.heap.size + 1 + 1 = w.heap.size) := by omega
  have en2 : ¬ (w.heap.size = w.heap.size + 1 + 1) := by omega
  have ne3 : ¬ (w.heap.size + 1 + 1 + 1 = w.heap.size) := by omega
  have en3 : ¬ (w.heap.size = w.heap.size + 1 + 1 + 1) := by omega
  go_wp2_with fail
  refine region_treeZ 22 (by kernel_rfl) (Keep w1) [0, 1, 3, 4, 6, 7, 10, 11, 13, 14, 16, 17, 18, 19] 9 (by kernel_rfl) (by kernel_rfl) (fun _ _ d _ _ h => by cases d <;> exact h) ⟨(Below.refl _ _).drew⟩ ?_
  simp only [PL]
  apply reads_op
  · exact bk2
  try simp only [PT]
  apply reads_op
  · exact bk2
  try simp only [PT]
  apply reads_op
  · exact bk2
  try simp only [PT]
  apply reads_op
  · exact bk2
  try simp only [PT]
  apply reads_op
  · exact bk2
  try simp only [PT]
  apply reads_op
  · exact bk2
  try simp only [PT]
  apply reads_op
  · exact bk2
  try simp only [PT]
  apply reads_op
  · exact bk2
  try simp only [PT]
  apply reads_op
  · exact bk2
  try simp only [PT]
  apply reads_op
  · exact bk2
  try simp only [PT]
  apply reads_op
  · exact bk2
  try simp only [PT]
  apply reads_op
  · exact bk2
  try simp only [PT]
  apply reads_op
  · exact bk2
  try simp only [PT]
  apply reads_op
  · exact bk2
  try simp only [PT]
  refine reads_nil ?_
  refine treeZ_two 2 20 (by kernel_rfl) (by kernel_rfl) (by kernel_rfl) ?_ ?_
  · simp only [nthL]
    go_wp2_with (go_at_call 45; refine (tcount_nil _ _).mono ?_; rintro e w' ⟨rfl, rfl⟩)
    refine chain_on ⟨bk0⟩ ?_
    refine treeZ_two 5 20 (by kernel_rfl) (by kernel_rfl) (by kernel_rfl) ?_ ?_
    · simp only [nthL]
      go_wp2_with (go_at_call 45; refine (tcount_nil _ _).mono ?_; rintro e w' ⟨rfl, rfl⟩)
      refine chain_on ⟨bk0⟩ ?_
      refine treeZ_two 8 20 (by kernel_rfl) (by kernel_rfl) (by kernel_rfl) ?_ ?_
      · simp only [nthL]
        go_wp2_with (go_at_call 49; refine (bcount_nil _ _).mono ?_; rintro e w' ⟨rfl, rfl⟩)
        refine chain_on ⟨bk0⟩ ?_
        refine treeZ_reads (by kernel_rfl) [9] 5 rfl (by kernel_rfl) (fun _ _ d _ _ h => by cases d <;> exact h) ⟨bk0⟩ ?_
        simp only [PL]
        apply reads_op
        · exact bk2
        try simp only [PT]
        refine reads_nil ?_
        refine treeZ_two 12 20 (by kernel_rfl) (by kernel_rfl) (by kernel_rfl) ?_ ?_
        · simp only [nthL]
          go_wp2_with (go_at_call 38; refine (clone38_nil _).mono ?_; rintro e wa ⟨rfl, hb⟩; have hka := Keep.mk hb; have xxa := alk hka.out; (try have zza := zs w.heap.size wa.heap.size); clear hb)
          refine chain_on ⟨bk0⟩ ?_
          refine treeZ_two 15 20 (by kernel_rfl) (by kernel_rfl) (by kernel_rfl) ?_ ?_
          · simp only [nthL]
            go_wp2_with (go_at_call 39; refine (clone39_nil _).mono ?_; rintro e wb ⟨rfl, hb⟩; have hkb := Keep.mk hb; have xxb := alk hkb.out; (try have zzb := zs w.heap.size wb.heap.size); clear hb)
            refine chain_on ⟨bk0⟩ ?_
            refine treeZ_one 20 (by kernel_rfl) (by kernel_rfl) ?_
            simp only [nthL]
            have HL := Lib.hid (own_made (wb) 186 (.int .i64 0) (.slice none 0 0) rfl (S + 2) (by omega)).sl
            go_wp2_with fail
            refine chain_on ⟨bk0⟩ ?_
            refine treeZ_reads (by kernel_rfl) [21] 1 rfl (by kernel_rfl) (fun _ _ d _ _ h => by cases d <;> exact h) ⟨bk0⟩ ?_
            simp only [PL]
            apply reads_op
            · exact bk2
            try simp only [PT]
            refine reads_nil ?_
            refine treeZ_last 22 rfl (by kernel_rfl) (by kernel_rfl) ?_
            simp only [nthL]
            go_wp2_with fail
            refine chain_on trivial ?_
            refine treeZ_end (by kernel_rfl) ?_
            go_wp2
            refine bodyPost_ret (v := .agg (#[.int .i64 0, .int .i64 0, .slice none 0 0, .slice none 0 0, .slice a S c, .slice (some ⟨wb.heap.size, 0, none⟩) (S + 2) (S + 2)])) (res_row (t := 47) Tryz.results20 _ _ _ rfl ?_ ?_ info47 agg47) rfl ?_
            · go_simp
            · go_simp
            exact ⟨_, _, rfl, ((HS.out.below (bk0)).upto (T := (w.heap.size + 1 + 1)) (upto_own (Upto.refl (w.heap.size + 1 + 1) _) _) (fun e => bk47)).below ((Below.refl _ _).alloc (Nat.le_refl _) _), (by have := (own_made (wb.setRow (w.heap.size + 1 + 1) (#[.int .i64 0, .int .i64 0, .slice none 0 0, .slice none 0 0, .slice a S c, .slice (some ⟨wb.heap.size, 0, none⟩) (S + 2) (S + 2)])) 186 (.int .i64 0) (.slice none 0 0) rfl (S + 2) (by omega)).sl; rw [sr_size] at this; exact this), (fun q hq => by have := HQ.out q hq; omega), (fun q hq => by simp [Value.ownBlock] at hq; omega), bk0⟩
          · simp only [nthL]
            have HL := Lib.hid (own_made (wa) 186 (.int .i64 0) (.slice none 0 0) rfl (S + 2) (by omega)).sl
            go_wp2_with fail
            refine chain_on ⟨bk0⟩ ?_
            refine treeZ_one 15 (by kernel_rfl) (by kernel_rfl) ?_
            simp only [nthL]
            go_wp2_with (go_at_call 39; refine (clone39_nil _).mono ?_; rintro e wb ⟨rfl, hb⟩; have hkb := Keep.mk hb; have xxb := alk hkb.out; (try have zzb := zs w.heap.size wb.heap.size); clear hb)
            refine chain_on ⟨bk0⟩ ?_
            refine treeZ_reads (by kernel_rfl) [21] 1 rfl (by kernel_rfl) (fun _ _ d _ _ h => by cases d <;> exact h) ⟨bk0⟩ ?_
            simp only [PL]
            apply reads_op
            · exact bk2
            try simp only [PT]
            refine reads_nil ?_
            refine treeZ_last 22 rfl (by kernel_rfl) (by kernel_rfl) ?_
            simp only [nthL]
            go_wp2_with fail
            refine chain_on trivial ?_
            refine treeZ_end (by kernel_rfl) ?_
            go_wp2
            refine bodyPost_ret (v := .agg (#[.int .i64 0, .int .i64 0, .slice none 0 0, .slice none 0 0, .slice a S c, .slice (some ⟨wa.heap.size, 0, none⟩) (S + 2) (S + 2)])) (res_row (t := 47) Tryz.results20 _ _ _ rfl ?_ ?_ info47 agg47) rfl ?_
            · go_simp
            · go_simp
            exact ⟨_, _, rfl, (HS.out.below (bk0)).upto (T := (w.heap.size + 1 + 1)) (upto_own (Upto.refl (w.heap.size + 1 + 1) _) _) (fun e => bk47), (HL.out.below hkb.out).upto (T := (w.heap.size + 1 + 1)) (upto_own (Upto.refl (w.heap.size + 1 + 1) _) _) (by simp [Value.ownBlock]; omega), (fun q hq => by have := HQ.out q hq; omega), (fun q hq => by simp [Value.ownBlock] at hq; omega), bk0⟩
        · simp only [nthL]
          have HL := Lib.hid (own_made (w1.drew) 186 (.int .i64 0) (.slice none 0 0) rfl (S + 2) (by omega)).sl
          go_wp2_with fail
          refine chain_on ⟨bk0⟩ ?_
          exact tailNew1
      · simp only [nthL]
        have HL := Lib.hid (own_made (w1.drew) 186 (.int .i64 0) (.slice none 0 0) rfl (S + 2) (by omega)).sl
        go_wp2_with fail
        exact tailNew2
    · simp only [nthL]
      have HL := Lib.hid (own_made (w1.drew) 186 (.int .i64 0) (.slice none 0 0) rfl (S + 2) (by omega)).sl
      go_wp2_with fail
      refine chain_on ⟨bk0⟩ ?_
      refine treeZ_one 5 (by kernel_rfl) (by kernel_rfl) ?_
      simp only [nthL]
      go_wp2_with (go_at_call 45; refine (tcount_nil _ _).mono ?_; rintro e w' ⟨rfl, rfl⟩)
      exact tailNew2
  · simp only [nthL]
    have HL := Lib.hid (own_made (w1.drew) 186 (.int .i64 0) (.slice none 0 0) rfl (S + 2) (by omega)).sl
    go_wp2_with fail
    refine chain_on ⟨bk0⟩ ?_
    refine treeZ_one 2 (by kernel_rfl) (by kernel_rfl) ?_
    simp only [nthL]
    go_wp2_with (go_at_call 45; refine (tcount_nil _ _).mono ?_; rintro e w' ⟨rfl, rfl⟩)
    refine chain_on ⟨bk0⟩ ?_
    refine treeZ_one 5 (by kernel_rfl) (by kernel_rfl) ?_
    simp only [nthL]
    go_wp2_with (go_at_call 45; refine (tcount_nil _ _).mono ?_; rintro e w' ⟨rfl, rfl⟩)
    exact tailNew2
/-- task.New. -/
theorem task_new (l : List Nat) (hl : l.length ≤ 100000) (v : Value) (w : World) (h : Sl w v 12 (l.map callC)) : Calls Tryz.prog 21 #[v] w fun e w' => ∃ vc, e = .returned (.agg #[vc, .int .i64 0, .slice none 0 0, .slice none 0 0, .bool false]) ∧ Own w' w.heap.size 41 12 vc (l.map callC) ∧ Below w.heap.size w w' := by
  have H := Lib.hid h
  have HC := Lib.hid (fun (W : World) (b : Below w.heap.size w W) => clone50 v _ W (H.out.below b) (by simp; omega))
  clear h
  go_enter Tryz.func21, Tryz.ntmps21
  go_wp2_with (go_at_call 50; refine (HC.out _ (bk0)).mono ?_; rintro e w1 ⟨v1, rfl, ho, hb⟩; have hs := ho.sl; obtain ⟨a, c, rfl, -⟩ := id hs; have HO := Lib.hid ho; have hk := Keep.mk hb; have xx := alk hk.out; (try have zz := zs w.heap.size w1.heap.size); clear hb hs ho)
  refine bodyPost_ret (v := .agg (#[.slice a l.length c, .int .i64 0, .slice none 0 0, .slice none 0 0, .bool false])) (res_row (t := 62) Tryz.results21 _ _ _ rfl ?_ ?_ info62 agg62) rfl ?_
  · go_simp
  · go_simp
  exact ⟨_, rfl, ((show Own w1 _ 41 12 (.slice a l.length c) (l.map callC) by simpa using HO.out).upto (upto_own (Upto.refl w.heap.size _) _) (by simp)).weaken (by simp), bk0⟩
end
section
open Go.RowKit
attribute [local go_sem ↓] exec_load_29 exec_store_29
attribute [local go_sem] run_load29r run_store29i lt_up isRng_new rngOf_new isRange_past rangeOf_past isRange_drew rangeOf_drew fits_new fits_past fits_drew setAt_new setAt_past setAt_drew putAt_whole putAt_lit extract_whole extract_lit one_int one_bool one_slice one_ptr ones_lit onesL_nil onesL_cons isRow_new rowOf_new isRow_past rowOf_past isRow_drew rowOf_drew lt2 lt3 lt4 List.take_succ_cons List.take_zero List.drop_succ_cons List.drop_zero List.cons_append List.nil_append List.length_cons List.length_nil List.size_toArray setRow_new setRow_past own_cell own_frozen own_set own_isRange own_rangeOf own_fits setAt_row sr_sr sr_size sr_row sr_row' sr_isRow sr_isRow' sr_fits' sr_cell' sr_frozen' sr_isRange' sr_rangeOf' sr_isCells isCells_new isCells_past isCells_drew valC_size valC_ones opC_size opC_ones replyC_size
attribute [local go_sem ↓] exec_load_57 exec_store_57
attribute [local go_sem] run_load57r run_store57i
theorem tailRight1 {p : Prop} (h : p := by
  go_wp2
  refine region_still (by kernel_rfl) (by kernel_rfl) ?_
  repeat (first
    | go_big_quiet_skip
    | (go_big_quiet_want
       apply class_op
       · intro W hS
         have xx := alk hS.out; (try have zz := zs w.heap.size W.heap.size)
         go_simp
         try first
           | with_reducible rfl
           | (go_at_call 45; refine (tcount_nil _ _).mono ?_; rintro e w' ⟨rfl, rfl⟩; exact ⟨rfl, hS⟩)
           | (go_at_call 49; refine (bcount_nil _ _).mono ?_; rintro e w' ⟨rfl, rfl⟩; exact ⟨rfl, hS⟩)
       go_big_quiet_on
       try simp only [PT]))
  refine wpQuiet_nil ?_
  intro w1 hS1
  have xxa := alk hS1.out; (try have zza := zs w.heap.size w1.heap.size)
  go_wp2
  go_ret
  exact ⟨rfl, bk0⟩) : p := h
theorem tailRight2 {p : Prop} (h : p := by
  go_wp2
  go_loopg [7] 0 (fun g s7 wr => s7 = .int .i64 0 ∧ w = wr)
  case atStart => exact ⟨rfl, rfl⟩
  case round =>
    obtain ⟨rfl, rfl⟩ := hrel
    go_wp2
    exact bodyPost_ret (results_tmp rfl _ _ _) rfl ⟨rfl, rfl⟩) : p := h
theorem drew_sizeR (w : World) : w.drew.heap.size = w.heap.size := id rfl
attribute [local go_sem high] drew_sizeR
attribute [local simp high] drew_sizeR
theorem bans_right (w : World) : Calls Tryz.prog 42 #[.slice none 0 0] w fun e w' => e = .returned (.bool true) ∧ w = w' := by
  go_enter Tryz.func42, Tryz.ntmps42
  exact tailRight2
theorem book_right (w : World) : Calls Tryz.prog 43 #[.slice none 0 0] w fun e w' => e = .returned (.bool true) ∧ w = w' := by
  go_enter Tryz.func43, Tryz.ntmps43
  exact tailRight2
theorem table_right (w : World) : Calls Tryz.prog 44 #[.slice none 0 0] w fun e w' => e = .returned (.bool true) ∧ w = w' := by
  go_enter Tryz.func44, Tryz.ntmps44
  exact tailRight2
/-- model.dialled. -/
theorem dialled_nil (w : World) : Calls Tryz.prog 46 #[.agg (#[.slice none 0 0, .slice none 0 0, .slice none 0 0])] w fun e w' => e = .returned (.int .i64 0) ∧ Below w.heap.size w w' := by
  go_enter Tryz.func46, Tryz.ntmps46
  exact tailRight1
/-- model.paired. -/
theorem paired_nil (w : World) : Calls Tryz.prog 47 #[.agg (#[.slice none 0 0, .slice none 0 0, .slice none 0 0])] w fun e w' => e = .returned (.bool true) ∧ Below w.heap.size w w' := by
  go_enter Tryz.func47, Tryz.ntmps47
  go_wp2
  go_loopg [9] 0 (fun g s9 wr => s9 = .int .i64 0 ∧ wr = w.alloc (.cells (#[.slice none 0 0, .slice none 0 0, .slice none 0 0]) 57))
  case atStart => exact ⟨rfl, rfl⟩
  case round =>
    obtain ⟨rfl, rfl⟩ := hrel
    exact tailRight1
/-- model.Right. -/
theorem model_right (most S : Nat) (hm : most ≤ 65535) (h0 : 1 ≤ S) (h1 : S ≤ 8) (w : World) : Calls Tryz.prog 19 #[.agg (#[.int .i64 most, .int .i64 4, .int .i64 S, .int .i64 64, .int .i64 64, .int .u64 1, .int .i64 1, .int .i64 1, .int .i64 1, .int .i64 64, .int .i64 100, .int .i64 100, .int .i64 1000, .int .i64 2, .int .i64 64, .int .i64 4]), .agg (#[.slice none 0 0, .slice none 0 0, .slice none 0 0])] w fun e w' => e = .returned (.bool true) ∧ Below w.heap.size w w' := by
  have HC := Lib.hid (conf_right most S hm h0 h1)
  have d1 : (0 : Int) ≤ (most : Int) := by omega
  have d2 : decide ((0 : Int) ≤ (most : Int)) = true := by simp
  go_enter Tryz.func19, Tryz.ntmps19
  go_wp2_with (first | (go_at_call 41; refine (HC.out _).mono ?_; rintro e w1 ⟨rfl, hb⟩; have hk := Keep.mk hb; have xx := alk hk.out; (try have zz := zs w.heap.size w1.heap.size); clear hb) | (go_at_call 42; refine (bans_right _).mono ?_; rintro e w' ⟨rfl, rfl⟩) | (go_at_call 43; refine (book_right _).mono ?_; rintro e w' ⟨rfl, rfl⟩) | (go_at_call 44; refine (table_right _).mono ?_; rintro e w' ⟨rfl, rfl⟩))
  have ne1 : ¬ (w.heap.size + 1 = w.heap.size) := by omega
  have en1 : ¬ (w.heap.size = w.heap.size + 1) := by omega
  have ne2 : ¬ (w.heap.size + 1 + 1 = w.heap.size) := by omega
  have en2 : ¬ (w.heap.size = w.heap.size + 1 + 1) := by omega
  have ne3 : ¬ (w.heap.size + 1 + 1 + 1 = w.heap.size) := by omega
  have en3 : ¬ (w.heap.size = w.heap.size + 1 + 1 + 1) := by omega
  have ne4 : ¬ (w.heap.size + 1 + 1 + 1 + 1 = w.heap.size) := by omega
  have en4 : ¬ (w.heap.size = w.heap.size + 1 + 1 + 1 + 1) := by omega
  have bRg0 : isRow w1 (w.heap.size) 29 16 = true := by go_simp
  have bVg0 : rowOf w1 (w.heap.size) = #[.int .i64 most, .int .i64 4, .int .i64 S, .int .i64 64, .int .i64 64, .int .u64 1, .int .i64 1, .int .i64 1, .int .i64 1, .int .i64 64, .int .i64 100, .int .i64 100, .int .i64 1000, .int .i64 2, .int .i64 64, .int .i64 4] := by go_simp
  have bCg0 := isCells_row bRg0
  have bLg0 : (w.heap.size) < (w1).heap.size := bk1
  have bRg1 : isRow w1 (w.heap.size + 1) 57 3 = true := by go_simp
  have bVg1 : rowOf w1 (w.heap.size + 1) = #[.slice none 0 0, .slice none 0 0, .slice none 0 0] := by go_simp
  have bCg1 := isCells_row bRg1
  have bLg1 : (w.heap.size + 1) < (w1).heap.size := bk1
  (try clear xx); (try clear zz)
  refine region_still (by kernel_rfl) (by kernel_rfl) ?_
  repeat (first
    | go_big_quiet_skip
    | (go_big_quiet_want
       apply class_op
       · intro W hS
         have xx := alk hS.out; (try have zz := zs w.heap.size W.heap.size)
         go_simp
         try first
           | with_reducible rfl
           | (go_at_call 45; refine (tcount_nil _ _).mono ?_; rintro e w' ⟨rfl, rfl⟩; exact ⟨rfl, hS⟩)
           | (go_at_call 49; refine (bcount_nil _ _).mono ?_; rintro e w' ⟨rfl, rfl⟩; exact ⟨rfl, hS⟩)
           | (go_at_call 46; refine (dialled_nil _).mono ?_; rintro e w' ⟨rfl, hb⟩; exact ⟨rfl, below_next hS hb⟩)
           | (go_at_call 47; refine (paired_nil _).mono ?_; rintro e w' ⟨rfl, hb⟩; exact ⟨rfl, below_next hS hb⟩)
       go_big_quiet_on
       try simp only [PT]))
  refine wpQuiet_nil ?_
  intro w2 hS2
  have xxb := alk hS2.out; (try have zzb := zs w.heap.size w2.heap.size)
  go_wp2
  go_ret
  exact ⟨rfl, bk0⟩
end
end Go.Proofs.YtnncjbkepakgpaaGreat
