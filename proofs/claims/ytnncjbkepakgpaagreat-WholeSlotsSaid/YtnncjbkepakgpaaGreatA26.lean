/-
  THE CONF IS RIGHT.
  MEMORY: LOAD.
-/
import Derived.Test.YtnncjbkepakgpaaGreatA07
import Derived.Test.YtnncjbkepakgpaaGreatA09
import Derived.Test.YtnncjbkepakgpaaGreatA11
namespace Go.Proofs.YtnncjbkepakgpaaGreat
set_option linter.unusedVariables false
set_option linter.unusedSimpArgs false
set_option maxRecDepth 100000
set_option maxHeartbeats 4000000
section
open Go.RowKit
attribute [local go_sem ↓] exec_load_29 exec_store_29
attribute [local go_sem] run_load29r run_store29i lt_up isRng_new rngOf_new isRange_past rangeOf_past isRange_drew rangeOf_drew fits_new fits_past fits_drew setAt_new setAt_past setAt_drew putAt_whole putAt_lit extract_whole extract_lit one_int one_bool one_slice one_ptr ones_lit onesL_nil onesL_cons isRow_new rowOf_new isRow_past rowOf_past isRow_drew rowOf_drew lt2 lt3 lt4 List.take_succ_cons List.take_zero List.drop_succ_cons List.drop_zero List.cons_append List.nil_append List.length_cons List.length_nil List.size_toArray setRow_new setRow_past own_cell own_frozen own_set own_isRange own_rangeOf own_fits setAt_row sr_sr sr_size sr_row sr_row' sr_isRow sr_isRow' sr_fits' sr_cell' sr_frozen' sr_isRange' sr_rangeOf' sr_isCells isCells_new isCells_past isCells_drew valC_size valC_ones opC_size opC_ones replyC_size
theorem info171 : (Tryz.prog.info? 171).map (·.size) = some 4 := by kernel_rfl
theorem agg171 (w : World) : (isAgg 171).run Tryz.prog w = .ok true w := by unfold isAgg; rw [Sem.run_bind, run_underlying Tryz.underlying171 w]; rfl
def load171 (v : Value) : Sem Next := do pure (.value (← Instr.loadAt 171 v))
theorem exec_load_171 (ρ : Operand → Value) (dst : Option Tmp) (x : Operand) (ty : TypeId) (pos : String) (after : Array Edge) (guard : Option (Nat × Bool)) :
    execOp ρ { dst, op := .load 171 x, type := ty, pos, after, guard } = load171 (ρ x) := rfl
theorem run_load171 {W : World} {g : Nat} (h : isRow W g 171 4 = true) : (load171 (.pointer (some ⟨g, 0, none⟩))).run Tryz.prog W = .ok (.value (.agg (rowOf W g))) W := by
  simp only [load171, Instr.loadAt, Instr.sureAddr, Sem.run_bind, Sem.run_pure, Result.andThen_ok, run_loadVar_row W g 171 171 _ (0, 0) _ (row_heap h).1 Tryz.underlying171 rfl (by rw [(row_heap h).2]; exact info171)]
theorem run_load171r {W : World} {p : Addr} (h : isRange W p 4 = true) : (load171 (.pointer (some p))).run Tryz.prog W = .ok (.value (.agg (rangeOf W p 4))) W := by
  simp only [load171, Instr.loadAt, Instr.sureAddr, Sem.run_bind, Sem.run_pure, Result.andThen_ok, load_range info171 Tryz.underlying171 rfl h]
def store171 (a v : Value) : Sem Next := do Instr.storeAt 171 a v; pure .skip
theorem exec_store_171 (ρ : Operand → Value) (dst : Option Tmp) (x y : Operand) (ty : TypeId) (pos : String) (after : Array Edge) (guard : Option (Nat × Bool)) :
    execOp ρ { dst, op := .store 171 x y, type := ty, pos, after, guard } = store171 (ρ x) (ρ y) := rfl
theorem run_store171 {W : World} {g : Nat} {C : Array Value} (h : isRow W g 171 4 = true) (hn : C.size = 4) (h1 : ones C = true) : (store171 (.pointer (some ⟨g, 0, none⟩)) (.agg C)).run Tryz.prog W = .ok .skip (W.setRow g C) := by
  obtain ⟨h2, h3⟩ := row_heap h
  simp only [store171, Instr.storeAt, Instr.sureAddr, Sem.run_bind, Sem.run_pure, Result.andThen_ok, run_storeVar_row W g 171 171 _ C h2 (by rw [hn]; exact info171) (by rw [h3, hn]) (ones_all h1)]
theorem run_store171i {W : World} {g o : Nat} {C : Array Value} (h : fitsAt W g o 4 = true) (hn : C.size = 4) (h1 : ones C = true) : (store171 (.pointer (some ⟨g, o, none⟩)) (.agg C)).run Tryz.prog W = .ok .skip (setAt W g o C) := by
  simp only [store171, Instr.storeAt, Instr.sureAddr, Sem.run_bind, Sem.run_pure, Result.andThen_ok, run_store_at 171 4 info171 h hn h1]
attribute [local go_sem ↓] exec_load_171 exec_store_171
attribute [local go_sem] run_load171r run_store171i
theorem info172 : (Tryz.prog.info? 172).map (·.size) = some 64 := by kernel_rfl
theorem agg172 (w : World) : (isAgg 172).run Tryz.prog w = .ok true w := by unfold isAgg; rw [Sem.run_bind, run_underlying Tryz.underlying172 w]; rfl
def load172 (v : Value) : Sem Next := do pure (.value (← Instr.loadAt 172 v))
theorem exec_load_172 (ρ : Operand → Value) (dst : Option Tmp) (x : Operand) (ty : TypeId) (pos : String) (after : Array Edge) (guard : Option (Nat × Bool)) :
    execOp ρ { dst, op := .load 172 x, type := ty, pos, after, guard } = load172 (ρ x) := rfl
theorem run_load172 {W : World} {g : Nat} (h : isRow W g 172 64 = true) : (load172 (.pointer (some ⟨g, 0, none⟩))).run Tryz.prog W = .ok (.value (.agg (rowOf W g))) W := by
  simp only [load172, Instr.loadAt, Instr.sureAddr, Sem.run_bind, Sem.run_pure, Result.andThen_ok, run_loadVar_row W g 172 172 _ (0, 0) _ (row_heap h).1 Tryz.underlying172 rfl (by rw [(row_heap h).2]; exact info172)]
theorem run_load172r {W : World} {p : Addr} (h : isRange W p 64 = true) : (load172 (.pointer (some p))).run Tryz.prog W = .ok (.value (.agg (rangeOf W p 64))) W := by
  simp only [load172, Instr.loadAt, Instr.sureAddr, Sem.run_bind, Sem.run_pure, Result.andThen_ok, load_range info172 Tryz.underlying172 rfl h]
def store172 (a v : Value) : Sem Next := do Instr.storeAt 172 a v; pure .skip
theorem exec_store_172 (ρ : Operand → Value) (dst : Option Tmp) (x y : Operand) (ty : TypeId) (pos : String) (after : Array Edge) (guard : Option (Nat × Bool)) :
    execOp ρ { dst, op := .store 172 x y, type := ty, pos, after, guard } = store172 (ρ x) (ρ y) := rfl
theorem run_store172 {W : World} {g : Nat} {C : Array Value} (h : isRow W g 172 64 = true) (hn : C.size = 64) (h1 : ones C = true) : (store172 (.pointer (some ⟨g, 0, none⟩)) (.agg C)).run Tryz.prog W = .ok .skip (W.setRow g C) := by
  obtain ⟨h2, h3⟩ := row_heap h
  simp only [store172, Instr.storeAt, Instr.sureAddr, Sem.run_bind, Sem.run_pure, Result.andThen_ok, run_storeVar_row W g 172 172 _ C h2 (by rw [hn]; exact info172) (by rw [h3, hn]) (ones_all h1)]
theorem run_store172i {W : World} {g o : Nat} {C : Array Value} (h : fitsAt W g o 64 = true) (hn : C.size = 64) (h1 : ones C = true) : (store172 (.pointer (some ⟨g, o, none⟩)) (.agg C)).run Tryz.prog W = .ok .skip (setAt W g o C) := by
  simp only [store172, Instr.storeAt, Instr.sureAddr, Sem.run_bind, Sem.run_pure, Result.andThen_ok, run_store_at 172 64 info172 h hn h1]
attribute [local go_sem ↓] exec_load_172 exec_store_172
attribute [local go_sem] run_load172r run_store172i
theorem one_string (s : ByteArray) : (Value.string s).oneCell' = true := rfl
attribute [local go_sem] one_string
/-- The rows, one by one. -/
theorem rows_at (most S : Nat) (hm : most ≤ 65535) (h0 : 1 ≤ S) (h1 : S ≤ 8) : ∀ k : Nat, k < 16 → ∃ (s : ByteArray) (n a b : Int), (∀ w : World, (Instr.index 172 (.agg (#[.string { data := #[105, 110] }, .int .i64 most, .int .i64 0, .int .i64 65535, .string { data := #[111, 117, 116] }, .int .i64 4, .int .i64 0, .int .i64 65535, .string { data := #[115, 104, 97, 114, 100, 115] }, .int .i64 S, .int .i64 1, .int .i64 8, .string { data := #[98, 97, 110, 115] }, .int .i64 64, .int .i64 0, .int .i64 1024, .string { data := #[98, 111, 111, 107] }, .int .i64 64, .int .i64 0, .int .i64 1024, .string { data := #[115, 101, 99, 114, 101, 116] }, .int .i64 1, .int .i64 0, .int .i64 9223372036854775807, .string { data := #[103, 114, 111, 117, 112] }, .int .i64 1, .int .i64 0, .int .i64 64, .string { data := #[112, 105, 110, 103] }, .int .i64 1, .int .i64 0, .int .i64 64, .string { data := #[119, 111, 114, 107] }, .int .i64 1, .int .i64 0, .int .i64 64, .string { data := #[116, 105, 109, 101] }, .int .i64 64, .int .i64 0, .int .i64 64, .string { data := #[104, 97, 108, 102] }, .int .i64 100, .int .i64 1, .int .i64 1073741824, .string { data := #[108, 105, 109, 105, 116] }, .int .i64 100, .int .i64 1, .int .i64 10000, .string { data := #[98, 97, 110, 102, 111, 114] }, .int .i64 1000, .int .i64 1, .int .i64 1073741824, .string { data := #[98, 97, 115, 101] }, .int .i64 2, .int .i64 1, .int .i64 1073741824, .string { data := #[99, 97, 112] }, .int .i64 64, .int .i64 2, .int .i64 1073741824, .string { data := #[106, 105, 116, 116, 101, 114] }, .int .i64 4, .int .i64 0, .int .i64 1073741824])) (.int .i64 k)).run Tryz.prog w = .ok (.agg #[.string s, .int .i64 n, .int .i64 a, .int .i64 b]) w) ∧ a ≤ n ∧ n ≤ b := by
  intro k hk
  have : k = 0 ∨ k = 1 ∨ k = 2 ∨ k = 3 ∨ k = 4 ∨ k = 5 ∨ k = 6 ∨ k = 7 ∨ k = 8 ∨ k = 9 ∨ k = 10 ∨ k = 11 ∨ k = 12 ∨ k = 13 ∨ k = 14 ∨ k = 15 := by omega
  rcases this with rfl | rfl | rfl | rfl | rfl | rfl | rfl | rfl | rfl | rfl | rfl | rfl | rfl | rfl | rfl | rfl
  · exact ⟨{ data := #[105, 110] }, most, 0, 65535, fun w => by kernel_rfl, by omega, by omega⟩
  · exact ⟨{ data := #[111, 117, 116] }, 4, 0, 65535, fun w => by kernel_rfl, by omega, by omega⟩
  · exact ⟨{ data := #[115, 104, 97, 114, 100, 115] }, S, 1, 8, fun w => by kernel_rfl, by omega, by omega⟩
  · exact ⟨{ data := #[98, 97, 110, 115] }, 64, 0, 1024, fun w => by kernel_rfl, by omega, by omega⟩
  · exact ⟨{ data := #[98, 111, 111, 107] }, 64, 0, 1024, fun w => by kernel_rfl, by omega, by omega⟩
  · exact ⟨{ data := #[115, 101, 99, 114, 101, 116] }, 1, 0, 9223372036854775807, fun w => by kernel_rfl, by omega, by omega⟩
  · exact ⟨{ data := #[103, 114, 111, 117, 112] }, 1, 0, 64, fun w => by kernel_rfl, by omega, by omega⟩
  · exact ⟨{ data := #[112, 105, 110, 103] }, 1, 0, 64, fun w => by kernel_rfl, by omega, by omega⟩
  · exact ⟨{ data := #[119, 111, 114, 107] }, 1, 0, 64, fun w => by kernel_rfl, by omega, by omega⟩
  · exact ⟨{ data := #[116, 105, 109, 101] }, 64, 0, 64, fun w => by kernel_rfl, by omega, by omega⟩
  · exact ⟨{ data := #[104, 97, 108, 102] }, 100, 1, 1073741824, fun w => by kernel_rfl, by omega, by omega⟩
  · exact ⟨{ data := #[108, 105, 109, 105, 116] }, 100, 1, 10000, fun w => by kernel_rfl, by omega, by omega⟩
  · exact ⟨{ data := #[98, 97, 110, 102, 111, 114] }, 1000, 1, 1073741824, fun w => by kernel_rfl, by omega, by omega⟩
  · exact ⟨{ data := #[98, 97, 115, 101] }, 2, 1, 1073741824, fun w => by kernel_rfl, by omega, by omega⟩
  · exact ⟨{ data := #[99, 97, 112] }, 64, 2, 1073741824, fun w => by kernel_rfl, by omega, by omega⟩
  · exact ⟨{ data := #[106, 105, 116, 116, 101, 114] }, 4, 0, 1073741824, fun w => by kernel_rfl, by omega, by omega⟩
/-- conf.all. -/
theorem all_law (most S : Nat) (w : World) : Calls Tryz.prog 71 #[.agg (#[.int .i64 most, .int .i64 4, .int .i64 S, .int .i64 64, .int .i64 64, .int .u64 1, .int .i64 1, .int .i64 1, .int .i64 1, .int .i64 64, .int .i64 100, .int .i64 100, .int .i64 1000, .int .i64 2, .int .i64 64, .int .i64 4])] w fun e w' => e = .returned (.agg (#[.string { data := #[105, 110] }, .int .i64 most, .int .i64 0, .int .i64 65535, .string { data := #[111, 117, 116] }, .int .i64 4, .int .i64 0, .int .i64 65535, .string { data := #[115, 104, 97, 114, 100, 115] }, .int .i64 S, .int .i64 1, .int .i64 8, .string { data := #[98, 97, 110, 115] }, .int .i64 64, .int .i64 0, .int .i64 1024, .string { data := #[98, 111, 111, 107] }, .int .i64 64, .int .i64 0, .int .i64 1024, .string { data := #[115, 101, 99, 114, 101, 116] }, .int .i64 1, .int .i64 0, .int .i64 9223372036854775807, .string { data := #[103, 114, 111, 117, 112] }, .int .i64 1, .int .i64 0, .int .i64 64, .string { data := #[112, 105, 110, 103] }, .int .i64 1, .int .i64 0, .int .i64 64, .string { data := #[119, 111, 114, 107] }, .int .i64 1, .int .i64 0, .int .i64 64, .string { data := #[116, 105, 109, 101] }, .int .i64 64, .int .i64 0, .int .i64 64, .string { data := #[104, 97, 108, 102] }, .int .i64 100, .int .i64 1, .int .i64 1073741824, .string { data := #[108, 105, 109, 105, 116] }, .int .i64 100, .int .i64 1, .int .i64 10000, .string { data := #[98, 97, 110, 102, 111, 114] }, .int .i64 1000, .int .i64 1, .int .i64 1073741824, .string { data := #[98, 97, 115, 101] }, .int .i64 2, .int .i64 1, .int .i64 1073741824, .string { data := #[99, 97, 112] }, .int .i64 64, .int .i64 2, .int .i64 1073741824, .string { data := #[106, 105, 116, 116, 101, 114] }, .int .i64 4, .int .i64 0, .int .i64 1073741824])) ∧ Below w.heap.size w w' := by
  have hbt : wrap64 (bits BinOp.and IntKind.u64 1 9223372036854775807) = 1 := by kernel_rfl
  go_enter Tryz.func71, Tryz.ntmps71
  go_wp2
  refine bodyPost_ret (v := .agg (#[.string { data := #[105, 110] }, .int .i64 most, .int .i64 0, .int .i64 65535, .string { data := #[111, 117, 116] }, .int .i64 4, .int .i64 0, .int .i64 65535, .string { data := #[115, 104, 97, 114, 100, 115] }, .int .i64 S, .int .i64 1, .int .i64 8, .string { data := #[98, 97, 110, 115] }, .int .i64 64, .int .i64 0, .int .i64 1024, .string { data := #[98, 111, 111, 107] }, .int .i64 64, .int .i64 0, .int .i64 1024, .string { data := #[115, 101, 99, 114, 101, 116] }, .int .i64 1, .int .i64 0, .int .i64 9223372036854775807, .string { data := #[103, 114, 111, 117, 112] }, .int .i64 1, .int .i64 0, .int .i64 64, .string { data := #[112, 105, 110, 103] }, .int .i64 1, .int .i64 0, .int .i64 64, .string { data := #[119, 111, 114, 107] }, .int .i64 1, .int .i64 0, .int .i64 64, .string { data := #[116, 105, 109, 101] }, .int .i64 64, .int .i64 0, .int .i64 64, .string { data := #[104, 97, 108, 102] }, .int .i64 100, .int .i64 1, .int .i64 1073741824, .string { data := #[108, 105, 109, 105, 116] }, .int .i64 100, .int .i64 1, .int .i64 10000, .string { data := #[98, 97, 110, 102, 111, 114] }, .int .i64 1000, .int .i64 1, .int .i64 1073741824, .string { data := #[98, 97, 115, 101] }, .int .i64 2, .int .i64 1, .int .i64 1073741824, .string { data := #[99, 97, 112] }, .int .i64 64, .int .i64 2, .int .i64 1073741824, .string { data := #[106, 105, 116, 116, 101, 114] }, .int .i64 4, .int .i64 0, .int .i64 1073741824])) (res_row (t := 172) Tryz.results71 _ _ _ rfl ?_ ?_ info172 agg172) rfl ?_
  · go_simp
  · go_simp
  exact ⟨rfl, bk5⟩
/-- conf.Right. -/
theorem conf_right (most S : Nat) (hm : most ≤ 65535) (h0 : 1 ≤ S) (h1 : S ≤ 8) (w : World) : Calls Tryz.prog 41 #[.agg (#[.int .i64 most, .int .i64 4, .int .i64 S, .int .i64 64, .int .i64 64, .int .u64 1, .int .i64 1, .int .i64 1, .int .i64 1, .int .i64 64, .int .i64 100, .int .i64 100, .int .i64 1000, .int .i64 2, .int .i64 64, .int .i64 4])] w fun e w' => e = .returned (.bool true) ∧ Below w.heap.size w w' := by
  have HA := Lib.hid (all_law most S)
  have HR := Lib.hid (rows_at most S hm h0 h1)
  go_enter Tryz.func41, Tryz.ntmps41
  go_wp2_with (go_at_call 71; refine (HA.out _).mono ?_; rintro e w1 ⟨rfl, hb⟩; have hk1 := Keep.mk hb; clear hb)
  go_loopg [10] 16 (fun g s10 wr => ∃ k : Nat, s10 = .int .i64 k ∧ k + g = 16 ∧ Keep w wr)
  case atStart => exact ⟨0, rfl, by omega, ⟨bk0⟩⟩
  case round =>
    obtain ⟨k, rfl, hg, HB⟩ := hrel
    have hws := HB.out.size
    cases gk with
    | zero =>
      have hk : ¬ ((k : Int) < 16) := by omega
      go_wp2
      refine bodyPost_ret (results_tmp rfl _ _ _) rfl ?_
      exact ⟨rfl, HB.out⟩
    | succ m =>
      have hk : (k : Int) < 16 := by omega
      obtain ⟨s, n, a, b, hx, hn1, hn2⟩ := HR.out k (by omega)
      have d1 : ¬ (n < a) := by omega
      have d2 : ¬ (b < n) := by omega
      have d3 : ¬ (n > b) := by omega
      clear HA HR hn1 hn2
      go_wp2
      go_roundg m
      case measure => omega
      case rel => exact ⟨k + 1, by simp, by omega, ⟨HB.out.alloc (by omega) _⟩⟩
end
section
open Go.RowKit
attribute [local go_sem ↓] exec_load_47 exec_store_47 exec_load_129 exec_store_129 exec_load_103 exec_store_103 exec_load_101 exec_store_101 exec_load_75 exec_store_75
attribute [local go_sem] run_load47r run_store47i run_load129r run_store129i run_load103r run_store103i run_load101r run_store101i run_load75r run_store75i lt_up isRng_new rngOf_new isRange_past rangeOf_past isRange_drew rangeOf_drew fits_new fits_past fits_drew setAt_new setAt_past setAt_drew putAt_whole putAt_lit extract_whole extract_lit one_int one_bool one_slice one_ptr ones_lit onesL_nil onesL_cons isRow_new rowOf_new isRow_past rowOf_past isRow_drew rowOf_drew lt2 lt3 lt4 List.take_succ_cons List.take_zero List.drop_succ_cons List.drop_zero List.cons_append List.nil_append List.length_cons List.length_nil List.size_toArray setRow_new setRow_past own_cell own_frozen own_set own_isRange own_rangeOf own_fits setAt_row sr_sr sr_size sr_row sr_row' sr_isRow sr_isRow' sr_fits' sr_cell' sr_frozen' sr_isRange' sr_rangeOf' sr_isCells isCells_new isCells_past isCells_drew valC_size valC_ones opC_size opC_ones replyC_size srs_isRange srs_rangeOf srs_fits srs_cell srs_frozen
theorem packMem31 {p : Prop} (h : PQ p := by
  have hkl := (List.getElem?_eq_some_iff.1 hp).1
  have n3 : (p : Int) < (CS.length : Int) := by omega
  have n4 : 0 ≤ (p : Int) := by omega
  have g1 : g < w.heap.size + 1 := by omega
  have g2 : g < w.heap.size + 1 + 1 := by omega
  have g3 : g < w.heap.size + 1 + 1 + 1 := by omega
  have HS := Lib.hid (hs.below (show Below w.heap.size w (((w.alloc (.cells (#[.int .i64 inn, .int .i64 0, .slice none 0 0, .slice none 0 0, .slice (some ⟨g, o, none⟩) CS.length cL, vL]) 47)).alloc (.cells (#[.int .i64 6, .int .i64 p, .int .i64 i]) 101)).alloc (.cells (#[.int .i64 0, .bool false, .int .u64 0, .int .u64 0, .int .i64 0, .bool false, .int .i64 0, .int .i64 0, .int .i64 0, .int .i64 0, .int .i64 0, .slice none 0 0, .slice none 0 0]) 103)) from bk5))
  exact pq (And.intro hkl (And.intro n3 (And.intro n4 (And.intro g1 (And.intro g2 (And.intro g3 HS))))))) : p := h
theorem tailMem31 {p : Prop} (h : p := by
  refine bodyPost_ret (v := .agg (#[.int .i64 0, .bool false, .int .u64 0, .int .u64 0, .int .i64 0, .bool false, .int .i64 0, .int .i64 0, .int .i64 0, .int .i64 0, .int .i64 0, .slice none 0 0, .slice none 0 0])) (res_row (t := 103) Tryz.results89 _ _ _ rfl ?_ ?_ info103 agg103) rfl ?_
  · go_simp
  · go_simp
  exact ⟨rfl, bk0⟩) : p := h
theorem clone38_nil (w : World) : Calls Tryz.prog 38 #[.slice none 0 0] w fun e w' => e = .returned (.slice none 0 0) ∧ Below w.heap.size w w' := by
  have qT : ∀ (w : World) (a : Option Addr) (n c n' c' : Nat), (binOp .eql 42 (.slice a n c) (.slice none n' c')).run Tryz.prog w = .ok (.bool a.isNone) w := fun w a n c n' c' => Lib.run_eql_slice_nil (P := Tryz.prog) w 42 _ a n c n' c' Tryz.underlying42
  go_enter Tryz.func38, Tryz.ntmps38
  go_wp2
  go_ret
  exact ⟨rfl, bk5⟩
theorem clone39_nil (w : World) : Calls Tryz.prog 39 #[.slice none 0 0] w fun e w' => e = .returned (.slice none 0 0) ∧ Below w.heap.size w w' := by
  have qT : ∀ (w : World) (a : Option Addr) (n c n' c' : Nat), (binOp .eql 43 (.slice a n c) (.slice none n' c')).run Tryz.prog w = .ok (.bool a.isNone) w := fun w a n c n' c' => Lib.run_eql_slice_nil (P := Tryz.prog) w 43 _ a n c n' c' Tryz.underlying43
  go_enter Tryz.func39, Tryz.ntmps39
  go_wp2
  go_ret
  exact ⟨rfl, bk5⟩
theorem load_inn (inn : Int) (vS vL : Value) (w : World) (h1 : vS.oneCell' = true) (h2 : vL.oneCell' = true) : Calls Tryz.prog 89 #[.agg (#[.int .i64 inn, .int .i64 0, .slice none 0 0, .slice none 0 0, vS, vL]), .agg (#[.int .i64 1, .int .i64 0, .int .i64 0])] w fun e w' => e = .returned (.agg (valC (.num inn))) ∧ Below w.heap.size w w' := by
  unfold valC
  go_enter Tryz.func89, Tryz.ntmps89
  go_wp2
  refine bodyPost_ret (v := .agg (#[.int .i64 inn, .bool false, .int .u64 0, .int .u64 0, .int .i64 0, .bool false, .int .i64 0, .int .i64 0, .int .i64 0, .int .i64 0, .int .i64 0, .slice none 0 0, .slice none 0 0])) (res_row (t := 103) Tryz.results89 _ _ _ rfl ?_ ?_ info103 agg103) rfl ?_
  · go_simp
  · go_simp
  exact ⟨rfl, bk0⟩
theorem load_bans (inn : Int) (vS vL : Value) (w : World) (h1 : vS.oneCell' = true) (h2 : vL.oneCell' = true) : Calls Tryz.prog 89 #[.agg (#[.int .i64 inn, .int .i64 0, .slice none 0 0, .slice none 0 0, vS, vL]), .agg (#[.int .i64 3, .int .i64 0, .int .i64 0])] w fun e w' => e = .returned (.agg (valC (.num 0))) ∧ Below w.heap.size w w' := by
  unfold valC
  go_enter Tryz.func89, Tryz.ntmps89
  go_wp2_with (go_at_call 38; refine (clone38_nil _).mono ?_; rintro e w1 ⟨rfl, hb⟩; have hk := Keep.mk hb; have xx := alk hk.out; (try have zz := zs w.heap.size w1.heap.size); clear hb)
  exact tailMem31
theorem load_size (inn : Int) (vS vL vs : Value) (p n : Nat) (CS : List (Array Value)) (hp : CS[p]? = some #[.int .i64 n, vs]) (w : World) (h : Sl w vS 2 CS) (h2 : vL.oneCell' = true) : Calls Tryz.prog 89 #[.agg (#[.int .i64 inn, .int .i64 0, .slice none 0 0, .slice none 0 0, vS, vL]), .agg (#[.int .i64 5, .int .i64 p, .int .i64 0])] w fun e w' => e = .returned (.agg (valC (.num n))) ∧ Below w.heap.size w w' := by
  obtain ⟨g, o, cL, rfl, hg, e1, e2, e3, e4⟩ := sl_at h hp
  have hkl := (List.getElem?_eq_some_iff.1 hp).1
  have hc : w.cell? ⟨g, o + p * 2, none⟩ = some (.int .i64 n) := by
    have := range_at e1 (k := 0) (by omega)
    rw [e2] at this
    simpa [addr_add] using this
  have n3 : (p : Int) < (CS.length : Int) := by omega
  have n4 : 0 ≤ (p : Int) := by omega
  have g1 : g < w.heap.size + 1 := by omega
  have g2 : g < w.heap.size + 1 + 1 := by omega
  have g3 : g < w.heap.size + 1 + 1 + 1 := by omega
  clear h hp
  unfold valC
  go_enter Tryz.func89, Tryz.ntmps89
  go_wp2
  refine bodyPost_ret (v := .agg (#[.int .i64 n, .bool false, .int .u64 0, .int .u64 0, .int .i64 0, .bool false, .int .i64 0, .int .i64 0, .int .i64 0, .int .i64 0, .int .i64 0, .slice none 0 0, .slice none 0 0])) (res_row (t := 103) Tryz.results89 _ _ _ rfl ?_ ?_ info103 agg103) rfl ?_
  · go_simp
  · go_simp
  exact ⟨rfl, bk0⟩
theorem load_slot_some (inn : Int) (vS vL vs : Value) (p n i : Nat) (CS SL : List (Array Value)) (c : Nat) (hi : SL[i]? = some (peerC c)) (hp : CS[p]? = some #[.int .i64 n, vs]) (w : World) (h : Sl w vS 2 CS) (hs : Sl w vs 10 SL) (h2 : vL.oneCell' = true) : Calls Tryz.prog 89 #[.agg (#[.int .i64 inn, .int .i64 0, .slice none 0 0, .slice none 0 0, vS, vL]), .agg (#[.int .i64 6, .int .i64 p, .int .i64 i])] w fun e w' => e = .returned (.agg (valC (.who c))) ∧ Below w.heap.size w w' := by
  obtain ⟨g, o, cL, rfl, hg, e1, e2, e3, e4⟩ := sl_at h hp
  obtain ⟨hkl, n3, n4, g1, g2, g3, HS⟩ := packMem31
  obtain ⟨a, cap, rfl, -⟩ := hs
  clear h hp
  unfold valC peerC at *
  go_enter Tryz.func89, Tryz.ntmps89
  go_wp2_with fail
  refine region_below [0, 1, 2, 3, 4, 5, 6, 7, 8] [9, 10] (by kernel_rfl) (by kernel_rfl) (fun _ _ d _ _ h => by cases d <;> exact h) ?_
  simp only [PL]
  repeat (first
    | go_big_quiet_skip
    | (go_big_quiet_want
       apply class_op
       · intro W hS
         have xx := alk hS.out; (try have zz := zs w.heap.size W.heap.size)
         go_simp
         try first
           | with_reducible rfl
           | (go_at_call 132; refine (slot_some n i _ SL _ hi _ (HS.out.below hS.out)).mono ?_; rintro e w' ⟨rfl, hb⟩; exact ⟨rfl, below_next hS hb⟩)
       go_big_quiet_on
       try simp only [PT]))
  refine wpQuiet_nil ?_
  intro w1 hS1
  have xxa := alk hS1.out; (try have zza := zs w.heap.size w1.heap.size)
  go_wp2
  refine bodyPost_ret (v := .agg (#[.int .i64 0, .bool false, .int .u64 0, .int .u64 (loOf c), .int .i64 80, .bool true, .int .i64 (Pm.tOf c), .int .i64 0, .int .i64 (Pm.tOf c), .int .i64 0, .int .i64 0, .slice none 0 0, .slice none 0 0])) (res_row (t := 103) Tryz.results89 _ _ _ rfl ?_ ?_ info103 agg103) rfl ?_
  · go_simp
  · go_simp
  exact ⟨rfl, bk0⟩
theorem load_slot_none (inn : Int) (vS vL vs : Value) (p n i : Nat) (CS SL : List (Array Value)) (hi : SL.length ≤ i) (hp : CS[p]? = some #[.int .i64 n, vs]) (w : World) (h : Sl w vS 2 CS) (hs : Sl w vs 10 SL) (h2 : vL.oneCell' = true) : Calls Tryz.prog 89 #[.agg (#[.int .i64 inn, .int .i64 0, .slice none 0 0, .slice none 0 0, vS, vL]), .agg (#[.int .i64 6, .int .i64 p, .int .i64 i])] w fun e w' => e = .returned (.agg (valC (.num 0))) ∧ Below w.heap.size w w' := by
  obtain ⟨g, o, cL, rfl, hg, e1, e2, e3, e4⟩ := sl_at h hp
  obtain ⟨hkl, n3, n4, g1, g2, g3, HS⟩ := packMem31
  obtain ⟨a, cap, rfl, -⟩ := hs
  clear h hp
  unfold valC
  go_enter Tryz.func89, Tryz.ntmps89
  go_wp2_with fail
  refine region_below [0, 1, 2, 3, 4, 5, 6, 7, 8] [9, 10] (by kernel_rfl) (by kernel_rfl) (fun _ _ d _ _ h => by cases d <;> exact h) ?_
  simp only [PL]
  repeat (first
    | go_big_quiet_skip
    | (go_big_quiet_want
       apply class_op
       · intro W hS
         have xx := alk hS.out; (try have zz := zs w.heap.size W.heap.size)
         go_simp
         try first
           | with_reducible rfl
           | (go_at_call 132; refine (slot_none n i _ _ _ hi _).mono ?_; rintro e w' ⟨rfl, hb⟩; exact ⟨rfl, below_next hS hb⟩)
       go_big_quiet_on
       try simp only [PT]))
  refine wpQuiet_nil ?_
  intro w1 hS1
  have xxa := alk hS1.out; (try have zza := zs w.heap.size w1.heap.size)
  go_wp2
  exact tailMem31
end
end Go.Proofs.YtnncjbkepakgpaaGreat
