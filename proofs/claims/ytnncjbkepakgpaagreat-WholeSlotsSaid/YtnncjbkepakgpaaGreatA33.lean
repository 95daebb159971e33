/-
  A TASK.
  A TASK's NEXT OPERATION.
-/
import Derived.Test.YtnncjbkepakgpaaGreatA07
import Derived.Test.YtnncjbkepakgpaaGreatA25
import Derived.Test.YtnncjbkepakgpaaGreatA14
namespace Go.Proofs.YtnncjbkepakgpaaGreat
set_option linter.unusedVariables false
set_option linter.unusedSimpArgs false
set_option maxRecDepth 100000
set_option maxHeartbeats 4000000
section
open Go.RowKit
attribute [local go_sem ↓] exec_load_29 exec_store_29 exec_load_41 exec_store_41 exec_load_203 exec_store_203 exec_load_198 exec_store_198 exec_load_62 exec_store_62 exec_load_105 exec_store_105
attribute [local go_sem] run_load29r run_store29i run_load41r run_store41i run_load203r run_store203i run_load198r run_store198i run_load62r run_store62i run_load105r run_store105i lt_up isRng_new rngOf_new isRange_past rangeOf_past isRange_drew rangeOf_drew fits_new fits_past fits_drew setAt_new setAt_past setAt_drew putAt_whole putAt_lit extract_whole extract_lit one_int one_bool one_slice one_ptr ones_lit onesL_nil onesL_cons isRow_new rowOf_new isRow_past rowOf_past isRow_drew rowOf_drew lt2 lt3 lt4 List.take_succ_cons List.take_zero List.drop_succ_cons List.drop_zero List.cons_append List.nil_append List.length_cons List.length_nil List.size_toArray setRow_new setRow_past own_cell own_frozen own_set own_isRange own_rangeOf own_fits setAt_row sr_sr sr_size sr_row sr_row' sr_isRow sr_isRow' sr_fits' sr_cell' sr_frozen' sr_isRange' sr_rangeOf' sr_isCells isCells_new isCells_past isCells_drew valC_size valC_ones opC_size opC_ones replyC_size
theorem turnC_size {r : Pm.Res Bool} (h : r ≠ .bad) : (turnC r).size = 31 := by
  cases r with
  | bad => exact absurd rfl h
  | done b r => rfl
  | pause o => exact turnOp_size (opC_size o)
theorem turnC_ones {r : Pm.Res Bool} (h : r ≠ .bad) : ones (turnC r) = true := by
  cases r with
  | bad => exact absurd rfl h
  | done b r => rfl
  | pause o => exact turnOp_ones (opC_ones o)
/-- A task's cells, its lists of slices. -/
def taskV (a ag ar : Option Addr) (cap capg capr : Nat) (t : Pm.Task) : Array Value := #[.slice a t.calls.length cap, .int .i64 t.nth, .slice ag t.got.length capg, .slice ar t.replies.length capr, .bool false]
theorem taskAt_open {W : World} {C : Array Value} {t : Pm.Task} (h : TaskAt W C t) : ∃ a cap ag capg ar capr, C = taskV a ag ar cap capg capr t ∧ Sl W (.slice a t.calls.length cap) 12 (t.calls.map callC) ∧ Sl W (.slice ag t.got.length capg) 13 (t.got.map valC) ∧ Sl W (.slice ar t.replies.length capr) 8 (t.replies.map replyC) := by
  obtain ⟨vc, vg, vr, rfl, h1, h2, h3⟩ := h
  obtain ⟨a, cap, e1, -⟩ := id h1
  obtain ⟨ag, capg, e2, -⟩ := id h2
  obtain ⟨ar, capr, e3, -⟩ := id h3
  simp only [List.length_map] at e1 e2 e3
  subst e1 e2 e3
  exact ⟨a, cap, ag, capg, ar, capr, rfl, h1, h2, h3⟩
/-- task.turn. -/
theorem turn_law (most S : Nat) (t : Pm.Task) (hS0 : 1 ≤ S) (hS1 : S ≤ 8) (hmost : most ≤ 1000) (hnth : t.nth < t.calls.length) (hnb : Pm.turn ⟨most, S, prt S⟩ t ≠ .bad) (hnn : NN t.got) (C : Array Value) (w : World) (ht : TaskAt w C t) :
    Calls Tryz.prog 93 #[.agg (#[.int .i64 most, .int .i64 4, .int .i64 S, .int .i64 64, .int .i64 64, .int .u64 1, .int .i64 1, .int .i64 1, .int .i64 1, .int .i64 64, .int .i64 100, .int .i64 100, .int .i64 1000, .int .i64 2, .int .i64 64, .int .i64 4]), .agg C] w fun e w' => e = .returned (.agg (turnC (Pm.turn ⟨most, S, prt S⟩ t))) ∧ Below w.heap.size w w' := by
  obtain ⟨a, cap, ag, capg, ar, capr, rfl, h1, h2, h3⟩ := taskAt_open ht
  clear ht
  have H2 := Lib.hid h2
  have hz := turnC_size hnb
  have hz1 := turnC_ones hnb
  have hme : t.calls[t.nth]? = some (Pm.me t) := by
    unfold Pm.me; rw [List.getD_eq_getElem?_getD, List.getElem?_eq_getElem hnth]; rfl
  obtain ⟨a', cap', e1, k1, k2, k3⟩ := h1
  simp only [List.length_map] at e1 k1 k3
  cases e1
  rcases k3 with ⟨-, k3⟩ | ⟨g, o, rfl, hg, k3⟩
  · simp only [List.map_eq_nil_iff] at k3; rw [k3] at hnth; simp at hnth
  have hE := k3 t.nth (callC (Pm.me t)) (by rw [List.getElem?_map, hme]; rfl)
  have e1 := hE.is
  have e2 := hE.of
  have n0 : (t.nth : Int) < (t.calls.length : Int) := by omega
  have n1 : 0 ≤ (t.nth : Int) := by omega
  have g1 : g < w.heap.size + 1 := by omega
  have g2 : g < w.heap.size + 1 + 1 := by omega
  have g3 : g < w.heap.size + 1 + 1 + 1 := by omega
  have HPL := Lib.hid (fun (W : World) (k : Below w.heap.size w W) => play_law most S (Pm.me t) t.got hS0 hS1 hmost hnb hnn (.slice ag t.got.length capg) W (H2.out.below k))
  unfold callC at e2
  unfold taskV
  clear h2 h3 hE k3
  have hdoor : doorC most S (Pm.me t) = #[.int .i64 most, .int .i64 4, .int .i64 S, .int .i64 64, .int .i64 64, .int .u64 1, .int .i64 1, .int .i64 1, .int .i64 1, .int .i64 64, .int .i64 100, .int .i64 100, .int .i64 1000, .int .i64 2, .int .i64 64, .int .i64 4, .int .i64 1, .bool false, .int .u64 0, .int .u64 (loOf (Pm.me t)), .int .i64 80, .bool false, .int .u64 0, .int .u64 0, .int .i64 0, .int .i64 (Pm.tOf (Pm.me t)), .int .i64 0, .bool false] := rfl
  rw [hdoor] at HPL
  clear hdoor
  show Calls _ _ _ _ fun e w' => e = .returned (.agg (turnC (Pm.accept ⟨most, S, prt S⟩ (Pm.me t) t.got))) ∧ _
  have hz' : (turnC (Pm.accept ⟨most, S, prt S⟩ (Pm.me t) t.got)).size = 31 := hz
  have hz1' : ones (turnC (Pm.accept ⟨most, S, prt S⟩ (Pm.me t) t.got)) = true := hz1
  generalize turnC (Pm.accept ⟨most, S, prt S⟩ (Pm.me t) t.got) = TT at *
  clear hz hz1 hnb hnn
  generalize Pm.me t = m at *
  go_enter Tryz.func93, Tryz.ntmps93
  go_wp2_with fail
  refine region_below [0, 1, 2, 3, 4, 5, 6, 7, 8, 9] [10, 11] (by kernel_rfl) (by kernel_rfl) (fun _ _ d _ _ h => by cases d <;> exact h) ?_
  simp only [PL]
  repeat (first
    | go_big_quiet_skip
    | (go_big_quiet_want
       apply class_op
       · intro W hS
         have xx := alk hS.out; (try have zz := zs w.heap.size W.heap.size)
         go_simp
         try first
           | with_reducible rfl
           | (go_at_call 37; refine (task_code most S m _).mono ?_; rintro e w' ⟨rfl, hb⟩; exact ⟨rfl, below_next hS hb⟩)
       go_big_quiet_on
       try simp only [PT]))
  refine wpQuiet_nil ?_
  intro w1 hS1
  have xxa := alk hS1.out; (try have zza := zs w.heap.size w1.heap.size)
  go_wp2_with (go_at_call 135; refine (HPL.out _ (bk0)).mono ?_; rintro e w2 ⟨rfl, hb⟩; have hkb := Keep.mk hb; have xxb := alk hkb.out; (try have zzb := zs w.heap.size w2.heap.size); clear hb)
  refine bodyPost_ret (v := .agg TT) (res_row (t := 198) Tryz.results93 _ _ _ rfl ?_ ?_ info198 agg198) rfl ?_
  · go_simp
  · go_simp
  exact ⟨rfl, bk0⟩
/-- task.Over. -/
theorem over_law (t : Pm.Task) (hle : t.nth ≤ t.calls.length) (C : Array Value) (w : World) (ht : TaskAt w C t) :
    Calls Tryz.prog 27 #[.agg C] w fun e w' => e = .returned (.bool (Pm.over t)) ∧ Below w.heap.size w w' := by
  obtain ⟨a, cap, ag, capg, ar, capr, rfl, h1, h2, h3⟩ := taskAt_open ht
  clear ht h1 h2 h3
  unfold taskV Pm.over
  have n1 : ¬ ((t.nth : Int) < 0) := by omega
  go_enter Tryz.func27, Tryz.ntmps27
  by_cases h : t.calls.length ≤ t.nth
  · have n0 : ((t.calls.length : Int) ≤ (t.nth : Int)) := by omega
    go_wp2
    go_ret
    exact ⟨by simp [h], bk5⟩
  · have n0 : ¬ ((t.calls.length : Int) ≤ (t.nth : Int)) := by omega
    go_wp2
    go_ret
    exact ⟨by simp [h], bk5⟩
end
section
open Go.RowKit
attribute [local go_sem ↓] exec_load_29 exec_store_29 exec_load_41 exec_store_41 exec_load_203 exec_store_203 exec_load_198 exec_store_198 exec_load_62 exec_store_62 exec_load_105 exec_store_105 exec_load_64 exec_store_64
attribute [local go_sem] run_load29r run_store29i run_load41r run_store41i run_load203r run_store203i run_load198r run_store198i run_load62r run_store62i run_load105r run_store105i run_load64r run_store64i lt_up isRng_new rngOf_new isRange_past rangeOf_past isRange_drew rangeOf_drew fits_new fits_past fits_drew setAt_new setAt_past setAt_drew putAt_whole putAt_lit extract_whole extract_lit one_int one_bool one_slice one_ptr ones_lit onesL_nil onesL_cons isRow_new rowOf_new isRow_past rowOf_past isRow_drew rowOf_drew lt2 lt3 lt4 List.take_succ_cons List.take_zero List.drop_succ_cons List.drop_zero List.cons_append List.nil_append List.length_cons List.length_nil List.size_toArray setRow_new setRow_past own_cell own_frozen own_set own_isRange own_rangeOf own_fits setAt_row sr_sr sr_size sr_row sr_row' sr_isRow sr_isRow' sr_fits' sr_cell' sr_frozen' sr_isRange' sr_rangeOf' sr_isCells isCells_new isCells_past isCells_drew valC_size valC_ones opC_size opC_ones replyC_size
attribute [local go_sem high] drew_size
attribute [local simp high] drew_size
theorem tailTask21 {p : Prop} (h : p := by
  go_wp2_with fail
  refine chain_on (bk16) ?_
  refine tree_one 8 (by kernel_rfl) (by kernel_rfl) ?_
  simp only [nthL]
  go_wp2_with fail
  refine chain_on (bk16) ?_
  refine tree_reads [9, 11] 0 rfl (by kernel_rfl) (fun _ _ d _ _ h => by cases d <;> exact h) (bk16) ?_
  simp only [PL]
  apply reads_op
  · exact bk22
  try simp only [PT]
  apply reads_op
  · exact bk22
  try simp only [PT]
  refine reads_nil ?_
  refine tree_end (by kernel_rfl) ?_
  go_wp2
  refine bodyPost_ret (v := .tuple #[.agg #[q0, q1, q2, q3, q4, q5, q6, q7, q8, q9, q10, q11, q12, q13, q14, q15, q16, q17, q18, q19, q20], .bool true]) (res_row2 (t := 105) Tryz.results81 _ _ _ rfl ?_ ?_ info105 agg105) rfl ?_
  · go_simp
  · go_simp
  exact ⟨rfl, bk0⟩) : p := h
theorem upto_rowSelf {T : Nat} {a w : World} (h : Upto T a w) (C : Array Value) : Upto T a (w.setRow T C) := ⟨h.os, h.tape, h.output, by rw [sr_size]; exact h.size, fun k hk hT => by rw [setRow_heap_other w T k C hT]; exact h.block k hk hT⟩
def isDone : Pm.Res Bool → Bool
  | .done _ _ => true
  | _ => false
theorem turn_cells {r : Pm.Res Bool} (h : r ≠ .bad) : ∃ q0 q1 q2 q3 q4 q5 q6 q7 q8 q9 q10 q11 q12 q13 q14 q15 q16 q17 q18 q19 q20 q21 q22 q23 q24 q25 q26 q27 q28 : Value, turnC r = #[q0, q1, q2, q3, q4, q5, q6, q7, q8, q9, q10, q11, q12, q13, q14, q15, q16, q17, q18, q19, q20, q21, q22, q23, q24, q25, q26, q27, q28, .bool (isDone r), .bool false] ∧ (∀ o, r = .pause o → #[q0, q1, q2, q3, q4, q5, q6, q7, q8, q9, q10, q11, q12, q13, q14, q15, q16, q17, q18, q19, q20] = opC o) ∧ (∀ b L, r = .done b L → #[q21, q22, q23, q24, q25, q26, q27, q28] = replyC b) ∧ q0.oneCell' = true ∧ q1.oneCell' = true ∧ q2.oneCell' = true ∧ q3.oneCell' = true ∧ q4.oneCell' = true ∧ q5.oneCell' = true ∧ q6.oneCell' = true ∧ q7.oneCell' = true ∧ q8.oneCell' = true ∧ q9.oneCell' = true ∧ q10.oneCell' = true ∧ q11.oneCell' = true ∧ q12.oneCell' = true ∧ q13.oneCell' = true ∧ q14.oneCell' = true ∧ q15.oneCell' = true ∧ q16.oneCell' = true ∧ q17.oneCell' = true ∧ q18.oneCell' = true ∧ q19.oneCell' = true ∧ q20.oneCell' = true ∧ q21.oneCell' = true ∧ q22.oneCell' = true ∧ q23.oneCell' = true ∧ q24.oneCell' = true ∧ q25.oneCell' = true ∧ q26.oneCell' = true ∧ q27.oneCell' = true ∧ q28.oneCell' = true := by
  cases r with
  | bad => exact absurd rfl h
  | done b L => exact ⟨_, _, _, _, _, _, _, _, _, _, _, _, _, _, _, _, _, _, _, _, _, _, _, _, _, _, _, _, _, rfl, (fun o h => by cases h), (fun b' L' h => by cases h; rfl), rfl, rfl, rfl, rfl, rfl, rfl, rfl, rfl, rfl, rfl, rfl, rfl, rfl, rfl, rfl, rfl, rfl, rfl, rfl, rfl, rfl, rfl, rfl, rfl, rfl, rfl, rfl, rfl, rfl⟩
  | pause o =>
    obtain ⟨y0, y1, y2, y3, y4, y5, y6, y7, y8, y9, y10, y11, y12, y13, y14, y15, y16, y17, y18, y19, y20, e⟩ := cells21 (opC_size o)
    have h1 := opC_ones o
    rw [e] at h1
    simp only [ones, onesL, Bool.and_eq_true, Bool.and_true] at h1
    obtain ⟨g0, g1, g2, g3, g4, g5, g6, g7, g8, g9, g10, g11, g12, g13, g14, g15, g16, g17, g18, g19, g20⟩ := h1
    exact ⟨y0, y1, y2, y3, y4, y5, y6, y7, y8, y9, y10, y11, y12, y13, y14, y15, y16, y17, y18, y19, y20, _, _, _, _, _, _, _, _, (by show opC o ++ _ = _; rw [e]; rfl), (fun o' h => by cases h; exact e.symm), (fun b L h => by cases h), g0, g1, g2, g3, g4, g5, g6, g7, g8, g9, g10, g11, g12, g13, g14, g15, g16, g17, g18, g19, g20, rfl, rfl, rfl, rfl, rfl, rfl, rfl, rfl⟩
/-- task.Next, of a task that is over. -/
theorem next_over (most S : Nat) (t : Pm.Task) (hle : t.nth ≤ t.calls.length) (ho : Pm.over t = true) (C : Array Value) (w : World) (ht : TaskAt w C t) :
    Calls Tryz.prog 81 #[.agg (#[.int .i64 most, .int .i64 4, .int .i64 S, .int .i64 64, .int .i64 64, .int .u64 1, .int .i64 1, .int .i64 1, .int .i64 1, .int .i64 64, .int .i64 100, .int .i64 100, .int .i64 1000, .int .i64 2, .int .i64 64, .int .i64 4]), .agg C] w fun e w' => e = .returned (.tuple #[.agg (#[.int .i64 0, .int .i64 0, .int .i64 0, .int .i64 0, .int .i64 0, .int .i64 0, .int .i64 0, .int .i64 0, .bool false, .int .u64 0, .int .u64 0, .int .i64 0, .bool false, .int .i64 0, .int .i64 0, .int .i64 0, .int .i64 0, .int .i64 0, .slice none 0 0, .slice none 0 0, .bool false]), .bool false]) ∧ Below w.heap.size w w' := by
  obtain ⟨a, cap, ag, capg, ar, capr, rfl, -⟩ := taskAt_open ht
  have HT := Lib.hid ht
  clear ht
  have HO := Lib.hid (fun (W : World) (k : Below w.heap.size w W) => over_law t hle _ W (HT.out.below k))
  rw [ho] at HO
  unfold taskV at *
  go_enter Tryz.func81, Tryz.ntmps81
  go_wp2_with (go_at_call 27; refine (HO.out _ (bk0)).mono ?_; rintro e w1 ⟨rfl, hb⟩; have hk := Keep.mk hb; obtain ⟨x1, x2, x3, x4, x5, x6, x7, x8, x9, x10, y9⟩ := alk hk.out; (try have zz := zs w.heap.size w1.heap.size); clear hb)
  refine bodyPost_ret (v := .tuple #[.agg (#[.int .i64 0, .int .i64 0, .int .i64 0, .int .i64 0, .int .i64 0, .int .i64 0, .int .i64 0, .int .i64 0, .bool false, .int .u64 0, .int .u64 0, .int .i64 0, .bool false, .int .i64 0, .int .i64 0, .int .i64 0, .int .i64 0, .int .i64 0, .slice none 0 0, .slice none 0 0, .bool false]), .bool false]) (res_row2 (t := 105) Tryz.results81 _ _ _ rfl ?_ ?_ info105 agg105) rfl ?_
  · go_simp
  · go_simp
  exact ⟨rfl, bk0⟩
/-- task.Next, of a task that is left at an operation. -/
theorem next_live (most S : Nat) (t : Pm.Task) (hS0 : 1 ≤ S) (hS1 : S ≤ 8) (hmost : most ≤ 1000) (hnth : t.nth < t.calls.length) (o : Pm.Op) (hp : Pm.turn ⟨most, S, prt S⟩ t = .pause o) (hnn : NN t.got) (C : Array Value) (w : World) (ht : TaskAt w C t) :
    Calls Tryz.prog 81 #[.agg (#[.int .i64 most, .int .i64 4, .int .i64 S, .int .i64 64, .int .i64 64, .int .u64 1, .int .i64 1, .int .i64 1, .int .i64 1, .int .i64 64, .int .i64 100, .int .i64 100, .int .i64 1000, .int .i64 2, .int .i64 64, .int .i64 4]), .agg C] w fun e w' => e = .returned (.tuple #[.agg (opC o), .bool true]) ∧ Below w.heap.size w w' := by
  obtain ⟨a, cap, ag, capg, ar, capr, rfl, -⟩ := taskAt_open ht
  have HT := Lib.hid ht
  clear ht
  have hnb : Pm.turn ⟨most, S, prt S⟩ t ≠ .bad := by rw [hp]; simp
  have ho : Pm.over t = false := by unfold Pm.over; simp; omega
  have HO := Lib.hid (fun (W : World) (k : Below w.heap.size w W) => over_law t (by omega) _ W (HT.out.below k))
  have HP := Lib.hid (fun (W : World) (k : Below w.heap.size w W) => turn_law most S t hS0 hS1 hmost hnth hnb hnn _ W (HT.out.below k))
  obtain ⟨q0, q1, q2, q3, q4, q5, q6, q7, q8, q9, q10, q11, q12, q13, q14, q15, q16, q17, q18, q19, q20, q21, q22, q23, q24, q25, q26, q27, q28, ez, eo, -, h0, h1, h2, h3, h4, h5, h6, h7, h8, h9, h10, h11, h12, h13, h14, h15, h16, h17, h18, h19, h20, h21, h22, h23, h24, h25, h26, h27, h28⟩ := turn_cells hnb
  have eo' := eo o hp
  rw [ho] at HO
  rw [ez, show isDone (Pm.turn ⟨most, S, prt S⟩ t) = false by rw [hp]; rfl] at HP
  rw [← eo']
  clear ez eo eo' hp hnb
  unfold taskV at *
  go_enter Tryz.func81, Tryz.ntmps81
  go_wp2_with (first | (go_at_call 27; refine (HO.out _ (bk0)).mono ?_; rintro e w1 ⟨rfl, hb⟩; have hk := Keep.mk hb; obtain ⟨x1, x2, x3, x4, x5, x6, x7, x8, x9, x10, y9⟩ := alk hk.out; (try have zz := zs w.heap.size w1.heap.size); clear hb) | (go_at_call 93; refine (HP.out _ (bk0)).mono ?_; rintro e w2 ⟨rfl, hb⟩; have hkb := Keep.mk hb; have xxb := alk hkb.out; (try have zzb := zs w.heap.size w2.heap.size); clear hb))
  have sA : w2.heap.size < (w2.alloc (.cells #[q0, q1, q2, q3, q4, q5, q6, q7, q8, q9, q10, q11, q12, q13, q14, q15, q16, q17, q18, q19, q20, q21, q22, q23, q24, q25, q26, q27, q28, .bool false, .bool false] 198)).heap.size := by simp
  have sB : ¬ (w2.heap.size = w.heap.size + 1 + 1) := by omega
  refine region_tree (Upto (w.heap.size + 1 + 1) (w2.alloc (.cells #[q0, q1, q2, q3, q4, q5, q6, q7, q8, q9, q10, q11, q12, q13, q14, q15, q16, q17, q18, q19, q20, q21, q22, q23, q24, q25, q26, q27, q28, .bool false, .bool false] 198))) [0, 1, 2, 3, 4, 5] 6 (by kernel_rfl) (by kernel_rfl) (fun _ _ d _ _ h => by cases d <;> exact h) (Upto.refl _ _).drew ?_
  simp only [PL]
  apply reads_op
  · exact bk22
  try simp only [PT]
  apply reads_op
  · exact bk22
  try simp only [PT]
  apply reads_op
  · exact bk22
  try simp only [PT]
  apply reads_op
  · exact bk22
  try simp only [PT]
  apply reads_op
  · exact bk22
  try simp only [PT]
  apply reads_op
  · exact bk22
  try simp only [PT]
  refine reads_nil ?_
  refine tree_two 6 10 (by kernel_rfl) (by kernel_rfl) (by kernel_rfl) ?_ ?_
  · simp only [nthL]
    go_wp2_with fail
    refine chain_on (bk16) ?_
    refine tree_two 7 10 (by kernel_rfl) (by kernel_rfl) (by kernel_rfl) ?_ ?_
    · simp only [nthL]
      go_wp2_with fail
      refine chain_on (bk16) ?_
      refine tree_two 8 10 (by kernel_rfl) (by kernel_rfl) (by kernel_rfl) ?_ ?_
      · simp only [nthL]
        go_wp2_with fail
        refine chain_on (bk16) ?_
        refine tree_reads [9] 2 rfl (by kernel_rfl) (fun _ _ d _ _ h => by cases d <;> exact h) (bk16) ?_
        simp only [PL]
        apply reads_op
        · exact bk22
        try simp only [PT]
        refine reads_nil ?_
        refine tree_one 10 (by kernel_rfl) (by kernel_rfl) ?_
        simp only [nthL]
        go_wp2_with fail
        refine chain_on (bk16) ?_
        refine tree_reads [11] 0 rfl (by kernel_rfl) (fun _ _ d _ _ h => by cases d <;> exact h) (bk16) ?_
        simp only [PL]
        apply reads_op
        · exact bk22
        try simp only [PT]
        refine reads_nil ?_
        refine tree_end (by kernel_rfl) ?_
        go_wp2
        refine bodyPost_ret (v := .tuple #[.agg #[q0, q1, q2, q3, q4, q5, q6, q7, q8, q9, q10, q11, q12, q13, q14, q15, q16, q17, q18, q19, q20], .bool true]) (res_row2 (t := 105) Tryz.results81 _ _ _ rfl ?_ ?_ info105 agg105) rfl ?_
        · go_simp
        · go_simp
        exact ⟨rfl, bk0⟩
      · simp only [nthL]
        exact tailTask21
    · simp only [nthL]
      go_wp2_with fail
      refine chain_on (bk16) ?_
      refine tree_one 7 (by kernel_rfl) (by kernel_rfl) ?_
      simp only [nthL]
      exact tailTask21
  · simp only [nthL]
    go_wp2_with fail
    refine chain_on (bk16) ?_
    refine tree_one 6 (by kernel_rfl) (by kernel_rfl) ?_
    simp only [nthL]
    go_wp2_with fail
    refine chain_on (bk16) ?_
    refine tree_one 7 (by kernel_rfl) (by kernel_rfl) ?_
    simp only [nthL]
    exact tailTask21
end
end Go.Proofs.YtnncjbkepakgpaaGreat
