/-
  THE WORLD: A TASK'S NEXT OPERATION.
-/
import Derived.Test.YtnncjbkepakgpaaGreatA07
import Derived.Test.YtnncjbkepakgpaaGreatA35
import Derived.Test.YtnncjbkepakgpaaGreatA29
namespace Go.Proofs.YtnncjbkepakgpaaGreat
set_option linter.unusedVariables false
set_option linter.unusedSimpArgs false
set_option maxRecDepth 100000
set_option maxHeartbeats 1500000
open Go.RowKit
attribute [local go_sem ↓] exec_load_47 exec_store_47 exec_load_62 exec_store_62 exec_load_51 exec_store_51 exec_load_105 exec_store_105 exec_load_29 exec_store_29
attribute [local go_sem] run_load47r run_store47i run_load62r run_store62i run_load51r run_store51i run_load105r run_store105i run_load29r run_store29i lt_up isRng_new rngOf_new isRange_past rangeOf_past isRange_drew rangeOf_drew fits_new fits_past fits_drew setAt_new setAt_past setAt_drew putAt_whole putAt_lit extract_whole extract_lit one_int one_bool one_slice one_ptr ones_lit onesL_nil onesL_cons isRow_new rowOf_new isRow_past rowOf_past isRow_drew rowOf_drew lt2 lt3 lt4 List.take_succ_cons List.take_zero List.drop_succ_cons List.drop_zero List.cons_append List.nil_append List.length_cons List.length_nil List.size_toArray setRow_new setRow_past own_cell own_frozen own_set own_isRange own_rangeOf own_fits setAt_row sr_sr sr_size sr_row sr_row' sr_isRow sr_isRow' sr_fits' sr_cell' sr_frozen' sr_isRange' sr_rangeOf' sr_isCells isCells_new isCells_past isCells_drew valC_size valC_ones opC_size opC_ones replyC_size srs_isRange srs_rangeOf srs_fits srs_cell srs_frozen
theorem packNext1 {p : Prop} (h : PQ p := by
  have bRg0 : isRow WG (w.heap.size) 51 24 = true := by subst hWG; go_simp
  have bVg0 : rowOf WG (w.heap.size) = #[.int .i64 most, .int .i64 4, .int .i64 S, .int .i64 64, .int .i64 64, .int .u64 1, .int .i64 1, .int .i64 1, .int .i64 1, .int .i64 64, .int .i64 100, .int .i64 100, .int .i64 1000, .int .i64 2, .int .i64 64, .int .i64 4, .int .i64 inn, .int .i64 0, .slice none 0 0, .slice none 0 0, .slice aS nS cS, .slice aL nL cL, .slice (some ⟨g, o1, none⟩) CT.length cT, .slice aG nG cG] := by subst hWG; go_simp
  have bCg0 := isCells_row bRg0
  have bLg0 : (w.heap.size) < WG.heap.size := bk13
  have bRg1 : isRow WG (w.heap.size + 1) 105 21 = true := by subst hWG; go_simp
  have bVg1 : rowOf WG (w.heap.size + 1) = #[.int .i64 0, .int .i64 0, .int .i64 0, .int .i64 0, .int .i64 0, .int .i64 0, .int .i64 0, .int .i64 0, .bool false, .int .u64 0, .int .u64 0, .int .i64 0, .bool false, .int .i64 0, .int .i64 0, .int .i64 0, .int .i64 0, .int .i64 0, .slice none 0 0, .slice none 0 0, .bool false] := by subst hWG; go_simp
  have bCg1 := isCells_row bRg1
  have bLg1 : (w.heap.size + 1) < WG.heap.size := bk13
  have bw : Below w.heap.size w WG := bk36
  have hgW : g < WG.heap.size := by subst hWG; simp; omega
  have e2' : isRange WG ⟨g, o1 + who * 5, none⟩ 5 = true := by subst hWG; rw [(alike bw).2.2.1 _ _ _ hgw]; exact e2
  have e3' : rangeOf WG ⟨g, o1 + who * 5, none⟩ 5 = C := by subst hWG; rw [(alike bw).2.2.2.1 _ _ _ hgw]; exact e3
  exact pq (And.intro bRg0 (And.intro bVg0 (And.intro bCg0 (And.intro bLg0 (And.intro bRg1 (And.intro bVg1 (And.intro bCg1 (And.intro bLg1 (And.intro bw (And.intro hgW (And.intro e2' e3')))))))))))) : p := h
theorem tailNext1 {p : Prop} (h : p := by
  clear hWx
  refine region_tree (Upto (w.heap.size + 1) Wx) [0, 1, 2] 8 (by kernel_rfl) (by kernel_rfl) (fun _ _ d _ _ h => by cases d <;> exact h) (Upto.refl _ _).drew ?_
  simp only [PL]
  apply reads_op
  · exact bk3
  try simp only [PT]
  apply reads_op
  · exact bk3
  try simp only [PT]
  apply reads_op
  · exact bk3
  try simp only [PT]
  refine reads_nil ?_
  refine tree_gread 3 (by kernel_rfl) (fun _ _ d _ _ h => by cases d <;> exact h) (bk10) ?_
  simp only [nthL]
  apply gread_yes (hw := by rfl)
  · exact bk3
  try simp only [PT]
  refine tree_gread 4 (by kernel_rfl) (fun _ _ d _ _ h => by cases d <;> exact h) (bk10) ?_
  simp only [nthL]
  apply gread_yes (hw := by rfl)
  · exact bk3
  try simp only [PT]
  refine tree_gread 5 (by kernel_rfl) (fun _ _ d _ _ h => by cases d <;> exact h) (bk10) ?_
  simp only [nthL]
  apply gread_yes (hw := by rfl)
  · exact bk3
  try simp only [PT]
  refine tree_gread 6 (by kernel_rfl) (fun _ _ d _ _ h => by cases d <;> exact h) (bk10) ?_
  simp only [nthL]
  apply gread_yes (hw := by rfl)
  · exact bk3
  try simp only [PT]
  refine tree_one 7 (by kernel_rfl) (by kernel_rfl) ?_
  simp only [nthL]
  go_wp2_with fail
  refine (HM.out Wx.drew (show Below w.heap.size w Wx.drew from bx.drew)).mono ?_
  rintro e w2 ⟨rfl, hb⟩
  have hk2 := Keep.mk hb
  have b2 : Below Wx.heap.size Wx w2 := ((Below.refl Wx.heap.size Wx).drew).trans hb
  obtain ⟨x1b, x2b, x3b, x4b, x5b, x6b, x7b, x8b, x9b, x10b, y9b⟩ := alk b2; (try have zzb := zs w.heap.size w2.heap.size)
  clear hb
  have c1R : isRow w2 (w.heap.size + 1) 105 21 = true := (x1b _ _ _ bLh1).trans bRh1
  have c1V : rowOf w2 (w.heap.size + 1) = #[.int .i64 0, .int .i64 0, .int .i64 0, .int .i64 0, .int .i64 0, .int .i64 0, .int .i64 0, .int .i64 0, .bool false, .int .u64 0, .int .u64 0, .int .i64 0, .bool false, .int .i64 0, .int .i64 0, .int .i64 0, .int .i64 0, .int .i64 0, .slice none 0 0, .slice none 0 0, .bool false] := (x2b _ bLh1).trans bVh1
  have c1C := isCells_row c1R
  have c1L : (w.heap.size + 1) < w2.heap.size := Nat.lt_of_lt_of_le bLh1 b2.size
  go_wp2
  refine chain_on (bk10) ?_
  refine tree_reads [8] 2 rfl (by kernel_rfl) (fun _ _ d _ _ h => by cases d <;> exact h) (bk10) ?_
  simp only [PL]
  apply reads_op
  · exact bk3
  try simp only [PT]
  refine reads_nil ?_
  refine tree_one 9 (by kernel_rfl) (by kernel_rfl) ?_
  simp only [nthL]
  go_wp2_with fail
  refine chain_on (bk10) ?_
  refine tree_reads [10] 0 rfl (by kernel_rfl) (fun _ _ d _ _ h => by cases d <;> exact h) (bk10) ?_
  simp only [PL]
  apply reads_op
  · exact bk3
  try simp only [PT]
  refine reads_nil ?_
  refine tree_end (by kernel_rfl) ?_
  go_wp2
  refine bodyPost_ret (v := .tuple #[.agg (opC o), .bool (Pm.may p o)]) (res_row2 (t := 105) Tryz.results51 _ _ _ rfl ?_ ?_ info105 agg105) rfl ?_
  · go_simp
  · go_simp
  exact ⟨rfl, below_setRow (bx.trans (b2.mono (by have := bLh0; omega))) (by omega) _⟩) : p := h
theorem tailNext2 {p : Prop} (h : p := by
  clear hWx
  refine region_tree (Upto (w.heap.size + 1) Wx) [0, 1, 2] 8 (by kernel_rfl) (by kernel_rfl) (fun _ _ d _ _ h => by cases d <;> exact h) (Upto.refl _ _).drew ?_
  simp only [PL]
  apply reads_op
  · exact bk3
  try simp only [PT]
  apply reads_op
  · exact bk3
  try simp only [PT]
  apply reads_op
  · exact bk3
  try simp only [PT]
  refine reads_nil ?_
  refine tree_gread 3 (by kernel_rfl) (fun _ _ d _ _ h => by cases d <;> exact h) (bk10) ?_
  simp only [nthL]
  refine gread_no (by rfl) ?_
  try simp only [PT]
  refine tree_gread 4 (by kernel_rfl) (fun _ _ d _ _ h => by cases d <;> exact h) (bk10) ?_
  simp only [nthL]
  refine gread_no (by rfl) ?_
  try simp only [PT]
  refine tree_gread 5 (by kernel_rfl) (fun _ _ d _ _ h => by cases d <;> exact h) (bk10) ?_
  simp only [nthL]
  refine gread_no (by rfl) ?_
  try simp only [PT]
  refine tree_gread 6 (by kernel_rfl) (fun _ _ d _ _ h => by cases d <;> exact h) (bk10) ?_
  simp only [nthL]
  refine gread_no (by rfl) ?_
  try simp only [PT]
  refine tree_gread 7 (by kernel_rfl) (fun _ _ d _ _ h => by cases d <;> exact h) (bk10) ?_
  simp only [nthL]
  refine gread_no (by rfl) ?_
  try simp only [PT]
  refine tree_reads [8] 2 rfl (by kernel_rfl) (fun _ _ d _ _ h => by cases d <;> exact h) (bk10) ?_
  simp only [PL]
  apply reads_op
  · exact bk3
  try simp only [PT]
  refine reads_nil ?_
  refine tree_one 9 (by kernel_rfl) (by kernel_rfl) ?_
  simp only [nthL]
  go_wp2_with fail
  refine chain_on (bk10) ?_
  refine tree_reads [10] 0 rfl (by kernel_rfl) (fun _ _ d _ _ h => by cases d <;> exact h) (bk10) ?_
  simp only [PL]
  apply reads_op
  · exact bk3
  try simp only [PT]
  refine reads_nil ?_
  refine tree_end (by kernel_rfl) ?_
  go_wp2
  refine bodyPost_ret (v := .tuple #[.agg (#[.int .i64 0, .int .i64 0, .int .i64 0, .int .i64 0, .int .i64 0, .int .i64 0, .int .i64 0, .int .i64 0, .bool false, .int .u64 0, .int .u64 0, .int .i64 0, .bool false, .int .i64 0, .int .i64 0, .int .i64 0, .int .i64 0, .int .i64 0, .slice none 0 0, .slice none 0 0, .bool false]), .bool false]) (res_row2 (t := 105) Tryz.results51 _ _ _ rfl ?_ ?_ info105 agg105) rfl ?_
  · go_simp
  · go_simp
  exact ⟨_, opz_size, opz_ones, rfl, below_setRow (bx.drew) (by omega) _⟩) : p := h
theorem drew_sizeX (w : World) : w.drew.heap.size = w.heap.size := id rfl
attribute [local go_sem high] drew_sizeX
attribute [local simp high] drew_sizeX
theorem next_idle (most S who : Nat) (aS aL aT aG : Option Addr) (nS cS nL cL nT cT nG cG : Nat) (inn : Int) (t : Pm.Task) (hle : t.nth ≤ t.calls.length) (ho : Pm.over t = true) (CT : List (Array Value)) (C : Array Value) (hC : CT[who]? = some C) (w : World) (ht : TaskAt w C t) (h : Sl w (.slice aT nT cT) 5 CT)  :
    Calls Tryz.prog 51 #[.agg (#[.int .i64 most, .int .i64 4, .int .i64 S, .int .i64 64, .int .i64 64, .int .u64 1, .int .i64 1, .int .i64 1, .int .i64 1, .int .i64 64, .int .i64 100, .int .i64 100, .int .i64 1000, .int .i64 2, .int .i64 64, .int .i64 4, .int .i64 inn, .int .i64 0, .slice none 0 0, .slice none 0 0, .slice aS nS cS, .slice aL nL cL, .slice aT nT cT, .slice aG nG cG]), .int .i64 who] w fun e w' => ∃ O : Array Value, O.size = 21 ∧ ones O = true ∧ e = .returned (.tuple #[.agg O, .bool false]) ∧ Below w.heap.size w w' := by
  have HN := Lib.hid (fun (W : World) (b : Below w.heap.size w W) => next_over most S t hle ho C W (ht.below b))
  have opz_size : (#[.int .i64 0, .int .i64 0, .int .i64 0, .int .i64 0, .int .i64 0, .int .i64 0, .int .i64 0, .int .i64 0, .bool false, .int .u64 0, .int .u64 0, .int .i64 0, .bool false, .int .i64 0, .int .i64 0, .int .i64 0, .int .i64 0, .int .i64 0, .slice none 0 0, .slice none 0 0, .bool false] : Array Value).size = 21 := rfl
  have opz_ones : ones (#[.int .i64 0, .int .i64 0, .int .i64 0, .int .i64 0, .int .i64 0, .int .i64 0, .int .i64 0, .int .i64 0, .bool false, .int .u64 0, .int .u64 0, .int .i64 0, .bool false, .int .i64 0, .int .i64 0, .int .i64 0, .int .i64 0, .int .i64 0, .slice none 0 0, .slice none 0 0, .bool false]) = true := rfl
  obtain ⟨g, o1, cL1, e1, hgw, e2, e3, e4, e5⟩ := sl_at h hC
  simp only [Value.slice.injEq] at e1
  obtain ⟨rfl, rfl, -⟩ := e1
  have hwl : who < CT.length := (List.getElem?_eq_some_iff.1 hC).1
  have n0 : ¬ ((who : Int) < 0) := by omega
  have n1 : ¬ ((CT.length : Int) ≤ (who : Int)) := by omega
  have n1' : ¬ ((who : Int) ≥ (CT.length : Int)) := by omega
  have n2 : (who : Int) < (CT.length : Int) := by omega
  have n3 : 0 ≤ (who : Int) := by omega
  clear ht h hC
  go_enter Tryz.func51, Tryz.ntmps51
  go_wp2_with fail
  obtain ⟨WG, hWG⟩ : ∃ W, (w.alloc (.cells (#[.int .i64 most, .int .i64 4, .int .i64 S, .int .i64 64, .int .i64 64, .int .u64 1, .int .i64 1, .int .i64 1, .int .i64 1, .int .i64 64, .int .i64 100, .int .i64 100, .int .i64 1000, .int .i64 2, .int .i64 64, .int .i64 4, .int .i64 inn, .int .i64 0, .slice none 0 0, .slice none 0 0, .slice aS nS cS, .slice aL nL cL, .slice (some ⟨g, o1, none⟩) CT.length cT, .slice aG nG cG]) 51)).alloc (.cells (#[.int .i64 0, .int .i64 0, .int .i64 0, .int .i64 0, .int .i64 0, .int .i64 0, .int .i64 0, .int .i64 0, .bool false, .int .u64 0, .int .u64 0, .int .i64 0, .bool false, .int .i64 0, .int .i64 0, .int .i64 0, .int .i64 0, .int .i64 0, .slice none 0 0, .slice none 0 0, .bool false]) 105) = W := ⟨_, rfl⟩
  obtain ⟨bRg0, bVg0, bCg0, bLg0, bRg1, bVg1, bCg1, bLg1, bw, hgW, e2', e3'⟩ := packNext1
  clear e2 e3
  generalize (w.alloc (.cells (#[.int .i64 most, .int .i64 4, .int .i64 S, .int .i64 64, .int .i64 64, .int .u64 1, .int .i64 1, .int .i64 1, .int .i64 1, .int .i64 64, .int .i64 100, .int .i64 100, .int .i64 1000, .int .i64 2, .int .i64 64, .int .i64 4, .int .i64 inn, .int .i64 0, .slice none 0 0, .slice none 0 0, .slice aS nS cS, .slice aL nL cL, .slice (some ⟨g, o1, none⟩) CT.length cT, .slice aG nG cG]) 51)).alloc (.cells (#[.int .i64 0, .int .i64 0, .int .i64 0, .int .i64 0, .int .i64 0, .int .i64 0, .int .i64 0, .int .i64 0, .bool false, .int .u64 0, .int .u64 0, .int .i64 0, .bool false, .int .i64 0, .int .i64 0, .int .i64 0, .int .i64 0, .int .i64 0, .slice none 0 0, .slice none 0 0, .bool false]) 105) = W0 at *
  subst hWG
  refine region_tree (Keep W0) [0, 1, 2, 3, 4, 5, 6] 7 (by kernel_rfl) (by kernel_rfl) (fun _ _ d _ _ h => by cases d <;> exact h) ⟨(Below.refl _ _).drew⟩ ?_
  simp only [PL]
  apply reads_op
  · exact bk2
  try simp only [PT]
  apply reads_op
  · exact bk2
  try simp only [PT]
  apply reads_op
  · exact bk2
  try simp only [PT]
  apply reads_op
  · exact bk2
  try simp only [PT]
  apply reads_op
  · exact bk2
  try simp only [PT]
  apply reads_op
  · exact bk2
  try simp only [PT]
  apply reads_op
  · exact bk2
  try simp only [PT]
  refine reads_nil ?_
  refine tree_two 7 11 (by kernel_rfl) (by kernel_rfl) (by kernel_rfl) ?_ ?_
  · simp only [nthL]
    go_wp2_with fail
    refine (HN.out _ (bw.trans ((bk0 : Below W0.heap.size W0 _).mono (by omega)))).mono ?_
    rintro e w1 ⟨rfl, hb⟩
    have hk1 := Keep.mk hb
    have xxa := alk hk1.out; (try have zza := zs w.heap.size w1.heap.size)
    clear hb
    go_wp2
    refine chain_on ⟨bk4⟩ ?_
    refine tree_reads [8, 9, 10] 3 rfl (by kernel_rfl) (fun _ _ d _ _ h => by cases d <;> exact h) ⟨bk4⟩ ?_
    simp only [PL]
    apply reads_op
    · exact bk2
    try simp only [PT]
    apply reads_op
    · exact bk2
    try simp only [PT]
    apply reads_op
    · exact bk2
    try simp only [PT]
    refine reads_nil ?_
    refine tree_one 11 (by kernel_rfl) (by kernel_rfl) ?_
    simp only [nthL]
    go_wp2_with fail
    refine chain_on ⟨bk4⟩ ?_
    refine tree_one 12 (by kernel_rfl) (by kernel_rfl) ?_
    simp only [nthL]
    go_wp2_with fail
    refine chain_on ⟨bk4⟩ ?_
    refine tree_reads [13] 0 rfl (by kernel_rfl) (fun _ _ d _ _ h => by cases d <;> exact h) ⟨bk4⟩ ?_
    simp only [PL]
    apply reads_op
    · exact bk2
    try simp only [PT]
    refine reads_nil ?_
    refine tree_end (by kernel_rfl) ?_
    go_wp2_with fail
    have nr0 : ¬ (w1.heap.size = (w.heap.size)) := by omega
    have nr1 : ¬ (w1.heap.size = (w.heap.size + 1)) := by omega
    have rn0 : ¬ ((w.heap.size) = w1.heap.size) := by omega
    have rn1 : ¬ ((w.heap.size + 1) = w1.heap.size) := by omega
    have bRh0 : isRow (w1.alloc (.cells (#[.int .i64 0, .int .i64 0, .int .i64 0, .int .i64 0, .int .i64 0, .int .i64 0, .int .i64 0, .int .i64 0, .bool false, .int .u64 0, .int .u64 0, .int .i64 0, .bool false, .int .i64 0, .int .i64 0, .int .i64 0, .int .i64 0, .int .i64 0, .slice none 0 0, .slice none 0 0, .bool false]) 105)) (w.heap.size) 51 24 = true := by go_simp
    have bVh0 : rowOf (w1.alloc (.cells (#[.int .i64 0, .int .i64 0, .int .i64 0, .int .i64 0, .int .i64 0, .int .i64 0, .int .i64 0, .int .i64 0, .bool false, .int .u64 0, .int .u64 0, .int .i64 0, .bool false, .int .i64 0, .int .i64 0, .int .i64 0, .int .i64 0, .int .i64 0, .slice none 0 0, .slice none 0 0, .bool false]) 105)) (w.heap.size) = #[.int .i64 most, .int .i64 4, .int .i64 S, .int .i64 64, .int .i64 64, .int .u64 1, .int .i64 1, .int .i64 1, .int .i64 1, .int .i64 64, .int .i64 100, .int .i64 100, .int .i64 1000, .int .i64 2, .int .i64 64, .int .i64 4, .int .i64 inn, .int .i64 0, .slice none 0 0, .slice none 0 0, .slice aS nS cS, .slice aL nL cL, .slice (some ⟨g, o1, none⟩) CT.length cT, .slice aG nG cG] := by go_simp
    have bCh0 := isCells_row bRh0
    have bLh0 : (w.heap.size) < ((w1.alloc (.cells (#[.int .i64 0, .int .i64 0, .int .i64 0, .int .i64 0, .int .i64 0, .int .i64 0, .int .i64 0, .int .i64 0, .bool false, .int .u64 0, .int .u64 0, .int .i64 0, .bool false, .int .i64 0, .int .i64 0, .int .i64 0, .int .i64 0, .int .i64 0, .slice none 0 0, .slice none 0 0, .bool false]) 105))).heap.size := bk1
    have bRh1 : isRow (w1.alloc (.cells (#[.int .i64 0, .int .i64 0, .int .i64 0, .int .i64 0, .int .i64 0, .int .i64 0, .int .i64 0, .int .i64 0, .bool false, .int .u64 0, .int .u64 0, .int .i64 0, .bool false, .int .i64 0, .int .i64 0, .int .i64 0, .int .i64 0, .int .i64 0, .slice none 0 0, .slice none 0 0, .bool false]) 105)) (w.heap.size + 1) 105 21 = true := by go_simp
    have bVh1 : rowOf (w1.alloc (.cells (#[.int .i64 0, .int .i64 0, .int .i64 0, .int .i64 0, .int .i64 0, .int .i64 0, .int .i64 0, .int .i64 0, .bool false, .int .u64 0, .int .u64 0, .int .i64 0, .bool false, .int .i64 0, .int .i64 0, .int .i64 0, .int .i64 0, .int .i64 0, .slice none 0 0, .slice none 0 0, .bool false]) 105)) (w.heap.size + 1) = #[.int .i64 0, .int .i64 0, .int .i64 0, .int .i64 0, .int .i64 0, .int .i64 0, .int .i64 0, .int .i64 0, .bool false, .int .u64 0, .int .u64 0, .int .i64 0, .bool false, .int .i64 0, .int .i64 0, .int .i64 0, .int .i64 0, .int .i64 0, .slice none 0 0, .slice none 0 0, .bool false] := by go_simp
    have bCh1 := isCells_row bRh1
    have bLh1 : (w.heap.size + 1) < ((w1.alloc (.cells (#[.int .i64 0, .int .i64 0, .int .i64 0, .int .i64 0, .int .i64 0, .int .i64 0, .int .i64 0, .int .i64 0, .bool false, .int .u64 0, .int .u64 0, .int .i64 0, .bool false, .int .i64 0, .int .i64 0, .int .i64 0, .int .i64 0, .int .i64 0, .slice none 0 0, .slice none 0 0, .bool false]) 105))).heap.size := bk1
    have bRhr : isRow (w1.alloc (.cells (#[.int .i64 0, .int .i64 0, .int .i64 0, .int .i64 0, .int .i64 0, .int .i64 0, .int .i64 0, .int .i64 0, .bool false, .int .u64 0, .int .u64 0, .int .i64 0, .bool false, .int .i64 0, .int .i64 0, .int .i64 0, .int .i64 0, .int .i64 0, .slice none 0 0, .slice none 0 0, .bool false]) 105)) w1.heap.size 105 21 = true := by go_simp
    have bVhr : rowOf (w1.alloc (.cells (#[.int .i64 0, .int .i64 0, .int .i64 0, .int .i64 0, .int .i64 0, .int .i64 0, .int .i64 0, .int .i64 0, .bool false, .int .u64 0, .int .u64 0, .int .i64 0, .bool false, .int .i64 0, .int .i64 0, .int .i64 0, .int .i64 0, .int .i64 0, .slice none 0 0, .slice none 0 0, .bool false]) 105)) w1.heap.size = (#[.int .i64 0, .int .i64 0, .int .i64 0, .int .i64 0, .int .i64 0, .int .i64 0, .int .i64 0, .int .i64 0, .bool false, .int .u64 0, .int .u64 0, .int .i64 0, .bool false, .int .i64 0, .int .i64 0, .int .i64 0, .int .i64 0, .int .i64 0, .slice none 0 0, .slice none 0 0, .bool false]) := by go_simp
    have bChr := isCells_row bRhr
    have bLhr : w1.heap.size < ((w1.alloc (.cells (#[.int .i64 0, .int .i64 0, .int .i64 0, .int .i64 0, .int .i64 0, .int .i64 0, .int .i64 0, .int .i64 0, .bool false, .int .u64 0, .int .u64 0, .int .i64 0, .bool false, .int .i64 0, .int .i64 0, .int .i64 0, .int .i64 0, .int .i64 0, .slice none 0 0, .slice none 0 0, .bool false]) 105))).heap.size := bk1
    have bx : Below w.heap.size w (w1.alloc (.cells (#[.int .i64 0, .int .i64 0, .int .i64 0, .int .i64 0, .int .i64 0, .int .i64 0, .int .i64 0, .int .i64 0, .bool false, .int .u64 0, .int .u64 0, .int .i64 0, .bool false, .int .i64 0, .int .i64 0, .int .i64 0, .int .i64 0, .int .i64 0, .slice none 0 0, .slice none 0 0, .bool false]) 105)) := bw.trans ((bk0 : Below W0.heap.size W0 (w1.alloc (.cells (#[.int .i64 0, .int .i64 0, .int .i64 0, .int .i64 0, .int .i64 0, .int .i64 0, .int .i64 0, .int .i64 0, .bool false, .int .u64 0, .int .u64 0, .int .i64 0, .bool false, .int .i64 0, .int .i64 0, .int .i64 0, .int .i64 0, .int .i64 0, .slice none 0 0, .slice none 0 0, .bool false]) 105))).mono (by omega))
    (try clear xxa); (try clear zza)
    generalize hWx : (w1.alloc (.cells (#[.int .i64 0, .int .i64 0, .int .i64 0, .int .i64 0, .int .i64 0, .int .i64 0, .int .i64 0, .int .i64 0, .bool false, .int .u64 0, .int .u64 0, .int .i64 0, .bool false, .int .i64 0, .int .i64 0, .int .i64 0, .int .i64 0, .int .i64 0, .slice none 0 0, .slice none 0 0, .bool false]) 105)) = Wx at *
    exact tailNext2
  · simp only [nthL]
    go_wp2_with fail
    refine chain_on ⟨bk4⟩ ?_
    refine tree_one 7 (by kernel_rfl) (by kernel_rfl) ?_
    simp only [nthL]
    go_wp2_with fail
    refine (HN.out _ (bw.trans ((bk0 : Below W0.heap.size W0 _).mono (by omega)))).mono ?_
    rintro e w1 ⟨rfl, hb⟩
    have hk1 := Keep.mk hb
    have xxa := alk hk1.out; (try have zza := zs w.heap.size w1.heap.size)
    clear hb
    go_wp2
    refine chain_on ⟨bk4⟩ ?_
    refine tree_reads [8, 9, 10] 2 rfl (by kernel_rfl) (fun _ _ d _ _ h => by cases d <;> exact h) ⟨bk4⟩ ?_
    simp only [PL]
    apply reads_op
    · exact bk2
    try simp only [PT]
    apply reads_op
    · exact bk2
    try simp only [PT]
    apply reads_op
    · exact bk2
    try simp only [PT]
    refine reads_nil ?_
    refine tree_one 12 (by kernel_rfl) (by kernel_rfl) ?_
    simp only [nthL]
    go_wp2_with fail
    refine chain_on ⟨bk4⟩ ?_
    refine tree_reads [13] 0 rfl (by kernel_rfl) (fun _ _ d _ _ h => by cases d <;> exact h) ⟨bk4⟩ ?_
    simp only [PL]
    apply reads_op
    · exact bk2
    try simp only [PT]
    refine reads_nil ?_
    refine tree_end (by kernel_rfl) ?_
    go_wp2_with fail
    have nr0 : ¬ (W0.heap.size = (w.heap.size)) := by omega
    have nr1 : ¬ (W0.heap.size = (w.heap.size + 1)) := by omega
    have rn0 : ¬ ((w.heap.size) = W0.heap.size) := by omega
    have rn1 : ¬ ((w.heap.size + 1) = W0.heap.size) := by omega
    have bRh0 : isRow (w1.setRow W0.heap.size (#[.int .i64 0, .int .i64 0, .int .i64 0, .int .i64 0, .int .i64 0, .int .i64 0, .int .i64 0, .int .i64 0, .bool false, .int .u64 0, .int .u64 0, .int .i64 0, .bool false, .int .i64 0, .int .i64 0, .int .i64 0, .int .i64 0, .int .i64 0, .slice none 0 0, .slice none 0 0, .bool false])) (w.heap.size) 51 24 = true := by go_simp
    have bVh0 : rowOf (w1.setRow W0.heap.size (#[.int .i64 0, .int .i64 0, .int .i64 0, .int .i64 0, .int .i64 0, .int .i64 0, .int .i64 0, .int .i64 0, .bool false, .int .u64 0, .int .u64 0, .int .i64 0, .bool false, .int .i64 0, .int .i64 0, .int .i64 0, .int .i64 0, .int .i64 0, .slice none 0 0, .slice none 0 0, .bool false])) (w.heap.size) = #[.int .i64 most, .int .i64 4, .int .i64 S, .int .i64 64, .int .i64 64, .int .u64 1, .int .i64 1, .int .i64 1, .int .i64 1, .int .i64 64, .int .i64 100, .int .i64 100, .int .i64 1000, .int .i64 2, .int .i64 64, .int .i64 4, .int .i64 inn, .int .i64 0, .slice none 0 0, .slice none 0 0, .slice aS nS cS, .slice aL nL cL, .slice (some ⟨g, o1, none⟩) CT.length cT, .slice aG nG cG] := by go_simp
    have bCh0 := isCells_row bRh0
    have bLh0 : (w.heap.size) < ((w1.setRow W0.heap.size (#[.int .i64 0, .int .i64 0, .int .i64 0, .int .i64 0, .int .i64 0, .int .i64 0, .int .i64 0, .int .i64 0, .bool false, .int .u64 0, .int .u64 0, .int .i64 0, .bool false, .int .i64 0, .int .i64 0, .int .i64 0, .int .i64 0, .int .i64 0, .slice none 0 0, .slice none 0 0, .bool false]))).heap.size := bk1
    have bRh1 : isRow (w1.setRow W0.heap.size (#[.int .i64 0, .int .i64 0, .int .i64 0, .int .i64 0, .int .i64 0, .int .i64 0, .int .i64 0, .int .i64 0, .bool false, .int .u64 0, .int .u64 0, .int .i64 0, .bool false, .int .i64 0, .int .i64 0, .int .i64 0, .int .i64 0, .int .i64 0, .slice none 0 0, .slice none 0 0, .bool false])) (w.heap.size + 1) 105 21 = true := by go_simp
    have bVh1 : rowOf (w1.setRow W0.heap.size (#[.int .i64 0, .int .i64 0, .int .i64 0, .int .i64 0, .int .i64 0, .int .i64 0, .int .i64 0, .int .i64 0, .bool false, .int .u64 0, .int .u64 0, .int .i64 0, .bool false, .int .i64 0, .int .i64 0, .int .i64 0, .int .i64 0, .int .i64 0, .slice none 0 0, .slice none 0 0, .bool false])) (w.heap.size + 1) = #[.int .i64 0, .int .i64 0, .int .i64 0, .int .i64 0, .int .i64 0, .int .i64 0, .int .i64 0, .int .i64 0, .bool false, .int .u64 0, .int .u64 0, .int .i64 0, .bool false, .int .i64 0, .int .i64 0, .int .i64 0, .int .i64 0, .int .i64 0, .slice none 0 0, .slice none 0 0, .bool false] := by go_simp
    have bCh1 := isCells_row bRh1
    have bLh1 : (w.heap.size + 1) < ((w1.setRow W0.heap.size (#[.int .i64 0, .int .i64 0, .int .i64 0, .int .i64 0, .int .i64 0, .int .i64 0, .int .i64 0, .int .i64 0, .bool false, .int .u64 0, .int .u64 0, .int .i64 0, .bool false, .int .i64 0, .int .i64 0, .int .i64 0, .int .i64 0, .int .i64 0, .slice none 0 0, .slice none 0 0, .bool false]))).heap.size := bk1
    have bRhr : isRow (w1.setRow W0.heap.size (#[.int .i64 0, .int .i64 0, .int .i64 0, .int .i64 0, .int .i64 0, .int .i64 0, .int .i64 0, .int .i64 0, .bool false, .int .u64 0, .int .u64 0, .int .i64 0, .bool false, .int .i64 0, .int .i64 0, .int .i64 0, .int .i64 0, .int .i64 0, .slice none 0 0, .slice none 0 0, .bool false])) W0.heap.size 105 21 = true := by go_simp
    have bVhr : rowOf (w1.setRow W0.heap.size (#[.int .i64 0, .int .i64 0, .int .i64 0, .int .i64 0, .int .i64 0, .int .i64 0, .int .i64 0, .int .i64 0, .bool false, .int .u64 0, .int .u64 0, .int .i64 0, .bool false, .int .i64 0, .int .i64 0, .int .i64 0, .int .i64 0, .int .i64 0, .slice none 0 0, .slice none 0 0, .bool false])) W0.heap.size = (#[.int .i64 0, .int .i64 0, .int .i64 0, .int .i64 0, .int .i64 0, .int .i64 0, .int .i64 0, .int .i64 0, .bool false, .int .u64 0, .int .u64 0, .int .i64 0, .bool false, .int .i64 0, .int .i64 0, .int .i64 0, .int .i64 0, .int .i64 0, .slice none 0 0, .slice none 0 0, .bool false]) := by go_simp
    have bChr := isCells_row bRhr
    have bLhr : W0.heap.size < ((w1.setRow W0.heap.size (#[.int .i64 0, .int .i64 0, .int .i64 0, .int .i64 0, .int .i64 0, .int .i64 0, .int .i64 0, .int .i64 0, .bool false, .int .u64 0, .int .u64 0, .int .i64 0, .bool false, .int .i64 0, .int .i64 0, .int .i64 0, .int .i64 0, .int .i64 0, .slice none 0 0, .slice none 0 0, .bool false]))).heap.size := bk1
    have bx : Below w.heap.size w (w1.setRow W0.heap.size (#[.int .i64 0, .int .i64 0, .int .i64 0, .int .i64 0, .int .i64 0, .int .i64 0, .int .i64 0, .int .i64 0, .bool false, .int .u64 0, .int .u64 0, .int .i64 0, .bool false, .int .i64 0, .int .i64 0, .int .i64 0, .int .i64 0, .int .i64 0, .slice none 0 0, .slice none 0 0, .bool false])) := bw.trans ((bk0 : Below W0.heap.size W0 (w1.setRow W0.heap.size (#[.int .i64 0, .int .i64 0, .int .i64 0, .int .i64 0, .int .i64 0, .int .i64 0, .int .i64 0, .int .i64 0, .bool false, .int .u64 0, .int .u64 0, .int .i64 0, .bool false, .int .i64 0, .int .i64 0, .int .i64 0, .int .i64 0, .int .i64 0, .slice none 0 0, .slice none 0 0, .bool false]))).mono (by omega))
    (try clear xxa); (try clear zza)
    generalize hWx : (w1.setRow W0.heap.size (#[.int .i64 0, .int .i64 0, .int .i64 0, .int .i64 0, .int .i64 0, .int .i64 0, .int .i64 0, .int .i64 0, .bool false, .int .u64 0, .int .u64 0, .int .i64 0, .bool false, .int .i64 0, .int .i64 0, .int .i64 0, .int .i64 0, .int .i64 0, .slice none 0 0, .slice none 0 0, .bool false])) = Wx at *
    exact tailNext2
theorem next_run (most S who : Nat) (aS aL aT aG : Option Addr) (nS cS nL cL nT cT nG cG : Nat) (inn : Int) (t : Pm.Task) (hS0 : 1 ≤ S) (hS1 : S ≤ 8) (hmost : most ≤ 1000) (hnth : t.nth < t.calls.length) (o : Pm.Op) (hp : Pm.turn ⟨most, S, prt S⟩ t = .pause o) (hnn : NN t.got) (p : Pm.Wd) (hS : p.parts.length = S) (hL : p.locks.length = S + 2) (hf : Pm.opFits S p o) (CT : List (Array Value)) (C : Array Value) (hC : CT[who]? = some C) (w : World) (ht : TaskAt w C t) (h : Sl w (.slice aT nT cT) 5 CT) (hm : MemAt w (#[.int .i64 inn, .int .i64 0, .slice none 0 0, .slice none 0 0, .slice aS nS cS, .slice aL nL cL]) p) :
    Calls Tryz.prog 51 #[.agg (#[.int .i64 most, .int .i64 4, .int .i64 S, .int .i64 64, .int .i64 64, .int .u64 1, .int .i64 1, .int .i64 1, .int .i64 1, .int .i64 64, .int .i64 100, .int .i64 100, .int .i64 1000, .int .i64 2, .int .i64 64, .int .i64 4, .int .i64 inn, .int .i64 0, .slice none 0 0, .slice none 0 0, .slice aS nS cS, .slice aL nL cL, .slice aT nT cT, .slice aG nG cG]), .int .i64 who] w fun e w' => e = .returned (.tuple #[.agg (opC o), .bool (Pm.may p o)]) ∧ Below w.heap.size w w' := by
  have HN := Lib.hid (fun (W : World) (b : Below w.heap.size w W) => next_live most S t hS0 hS1 hmost hnth o hp hnn C W (ht.below b))
  have HM := Lib.hid (fun (W : World) (b : Below w.heap.size w W) => may_law S hS0 hS1 p who hS hL o hf _ W (hm.below b))
  clear hnn hf hp
  obtain ⟨g, o1, cL1, e1, hgw, e2, e3, e4, e5⟩ := sl_at h hC
  simp only [Value.slice.injEq] at e1
  obtain ⟨rfl, rfl, -⟩ := e1
  have hwl : who < CT.length := (List.getElem?_eq_some_iff.1 hC).1
  have n0 : ¬ ((who : Int) < 0) := by omega
  have n1 : ¬ ((CT.length : Int) ≤ (who : Int)) := by omega
  have n1' : ¬ ((who : Int) ≥ (CT.length : Int)) := by omega
  have n2 : (who : Int) < (CT.length : Int) := by omega
  have n3 : 0 ≤ (who : Int) := by omega
  clear ht h hC hm
  go_enter Tryz.func51, Tryz.ntmps51
  go_wp2_with fail
  obtain ⟨WG, hWG⟩ : ∃ W, (w.alloc (.cells (#[.int .i64 most, .int .i64 4, .int .i64 S, .int .i64 64, .int .i64 64, .int .u64 1, .int .i64 1, .int .i64 1, .int .i64 1, .int .i64 64, .int .i64 100, .int .i64 100, .int .i64 1000, .int .i64 2, .int .i64 64, .int .i64 4, .int .i64 inn, .int .i64 0, .slice none 0 0, .slice none 0 0, .slice aS nS cS, .slice aL nL cL, .slice (some ⟨g, o1, none⟩) CT.length cT, .slice aG nG cG]) 51)).alloc (.cells (#[.int .i64 0, .int .i64 0, .int .i64 0, .int .i64 0, .int .i64 0, .int .i64 0, .int .i64 0, .int .i64 0, .bool false, .int .u64 0, .int .u64 0, .int .i64 0, .bool false, .int .i64 0, .int .i64 0, .int .i64 0, .int .i64 0, .int .i64 0, .slice none 0 0, .slice none 0 0, .bool false]) 105) = W := ⟨_, rfl⟩
  obtain ⟨bRg0, bVg0, bCg0, bLg0, bRg1, bVg1, bCg1, bLg1, bw, hgW, e2', e3'⟩ := packNext1
  clear e2 e3
  generalize (w.alloc (.cells (#[.int .i64 most, .int .i64 4, .int .i64 S, .int .i64 64, .int .i64 64, .int .u64 1, .int .i64 1, .int .i64 1, .int .i64 1, .int .i64 64, .int .i64 100, .int .i64 100, .int .i64 1000, .int .i64 2, .int .i64 64, .int .i64 4, .int .i64 inn, .int .i64 0, .slice none 0 0, .slice none 0 0, .slice aS nS cS, .slice aL nL cL, .slice (some ⟨g, o1, none⟩) CT.length cT, .slice aG nG cG]) 51)).alloc (.cells (#[.int .i64 0, .int .i64 0, .int .i64 0, .int .i64 0, .int .i64 0, .int .i64 0, .int .i64 0, .int .i64 0, .bool false, .int .u64 0, .int .u64 0, .int .i64 0, .bool false, .int .i64 0, .int .i64 0, .int .i64 0, .int .i64 0, .int .i64 0, .slice none 0 0, .slice none 0 0, .bool false]) 105) = W0 at *
  subst hWG
  refine region_tree (Keep W0) [0, 1, 2, 3, 4, 5, 6] 7 (by kernel_rfl) (by kernel_rfl) (fun _ _ d _ _ h => by cases d <;> exact h) ⟨(Below.refl _ _).drew⟩ ?_
  simp only [PL]
  apply reads_op
  · exact bk2
  try simp only [PT]
  apply reads_op
  · exact bk2
  try simp only [PT]
  apply reads_op
  · exact bk2
  try simp only [PT]
  apply reads_op
  · exact bk2
  try simp only [PT]
  apply reads_op
  · exact bk2
  try simp only [PT]
  apply reads_op
  · exact bk2
  try simp only [PT]
  apply reads_op
  · exact bk2
  try simp only [PT]
  refine reads_nil ?_
  refine tree_two 7 11 (by kernel_rfl) (by kernel_rfl) (by kernel_rfl) ?_ ?_
  · simp only [nthL]
    go_wp2_with fail
    refine (HN.out _ (bw.trans ((bk0 : Below W0.heap.size W0 _).mono (by omega)))).mono ?_
    rintro e w1 ⟨rfl, hb⟩
    have hk1 := Keep.mk hb
    have xxa := alk hk1.out; (try have zza := zs w.heap.size w1.heap.size)
    clear hb
    go_wp2
    refine chain_on ⟨bk4⟩ ?_
    refine tree_reads [8, 9, 10] 3 rfl (by kernel_rfl) (fun _ _ d _ _ h => by cases d <;> exact h) ⟨bk4⟩ ?_
    simp only [PL]
    apply reads_op
    · exact bk2
    try simp only [PT]
    apply reads_op
    · exact bk2
    try simp only [PT]
    apply reads_op
    · exact bk2
    try simp only [PT]
    refine reads_nil ?_
    refine tree_one 11 (by kernel_rfl) (by kernel_rfl) ?_
    simp only [nthL]
    go_wp2_with fail
    refine chain_on ⟨bk4⟩ ?_
    refine tree_one 12 (by kernel_rfl) (by kernel_rfl) ?_
    simp only [nthL]
    go_wp2_with fail
    refine chain_on ⟨bk4⟩ ?_
    refine tree_reads [13] 0 rfl (by kernel_rfl) (fun _ _ d _ _ h => by cases d <;> exact h) ⟨bk4⟩ ?_
    simp only [PL]
    apply reads_op
    · exact bk2
    try simp only [PT]
    refine reads_nil ?_
    refine tree_end (by kernel_rfl) ?_
    go_wp2_with fail
    have nr0 : ¬ (w1.heap.size = (w.heap.size)) := by omega
    have nr1 : ¬ (w1.heap.size = (w.heap.size + 1)) := by omega
    have rn0 : ¬ ((w.heap.size) = w1.heap.size) := by omega
    have rn1 : ¬ ((w.heap.size + 1) = w1.heap.size) := by omega
    have bRh0 : isRow (w1.alloc (.cells (opC o) 105)) (w.heap.size) 51 24 = true := by go_simp
    have bVh0 : rowOf (w1.alloc (.cells (opC o) 105)) (w.heap.size) = #[.int .i64 most, .int .i64 4, .int .i64 S, .int .i64 64, .int .i64 64, .int .u64 1, .int .i64 1, .int .i64 1, .int .i64 1, .int .i64 64, .int .i64 100, .int .i64 100, .int .i64 1000, .int .i64 2, .int .i64 64, .int .i64 4, .int .i64 inn, .int .i64 0, .slice none 0 0, .slice none 0 0, .slice aS nS cS, .slice aL nL cL, .slice (some ⟨g, o1, none⟩) CT.length cT, .slice aG nG cG] := by go_simp
    have bCh0 := isCells_row bRh0
    have bLh0 : (w.heap.size) < ((w1.alloc (.cells (opC o) 105))).heap.size := bk1
    have bRh1 : isRow (w1.alloc (.cells (opC o) 105)) (w.heap.size + 1) 105 21 = true := by go_simp
    have bVh1 : rowOf (w1.alloc (.cells (opC o) 105)) (w.heap.size + 1) = #[.int .i64 0, .int .i64 0, .int .i64 0, .int .i64 0, .int .i64 0, .int .i64 0, .int .i64 0, .int .i64 0, .bool false, .int .u64 0, .int .u64 0, .int .i64 0, .bool false, .int .i64 0, .int .i64 0, .int .i64 0, .int .i64 0, .int .i64 0, .slice none 0 0, .slice none 0 0, .bool false] := by go_simp
    have bCh1 := isCells_row bRh1
    have bLh1 : (w.heap.size + 1) < ((w1.alloc (.cells (opC o) 105))).heap.size := bk1
    have bRhr : isRow (w1.alloc (.cells (opC o) 105)) w1.heap.size 105 21 = true := by go_simp
    have bVhr : rowOf (w1.alloc (.cells (opC o) 105)) w1.heap.size = (opC o) := by go_simp
    have bChr := isCells_row bRhr
    have bLhr : w1.heap.size < ((w1.alloc (.cells (opC o) 105))).heap.size := bk1
    have bx : Below w.heap.size w (w1.alloc (.cells (opC o) 105)) := bw.trans ((bk0 : Below W0.heap.size W0 (w1.alloc (.cells (opC o) 105))).mono (by omega))
    (try clear xxa); (try clear zza)
    generalize hWx : (w1.alloc (.cells (opC o) 105)) = Wx at *
    exact tailNext1
  · simp only [nthL]
    go_wp2_with fail
    refine chain_on ⟨bk4⟩ ?_
    refine tree_one 7 (by kernel_rfl) (by kernel_rfl) ?_
    simp only [nthL]
    go_wp2_with fail
    refine (HN.out _ (bw.trans ((bk0 : Below W0.heap.size W0 _).mono (by omega)))).mono ?_
    rintro e w1 ⟨rfl, hb⟩
    have hk1 := Keep.mk hb
    have xxa := alk hk1.out; (try have zza := zs w.heap.size w1.heap.size)
    clear hb
    go_wp2
    refine chain_on ⟨bk4⟩ ?_
    refine tree_reads [8, 9, 10] 2 rfl (by kernel_rfl) (fun _ _ d _ _ h => by cases d <;> exact h) ⟨bk4⟩ ?_
    simp only [PL]
    apply reads_op
    · exact bk2
    try simp only [PT]
    apply reads_op
    · exact bk2
    try simp only [PT]
    apply reads_op
    · exact bk2
    try simp only [PT]
    refine reads_nil ?_
    refine tree_one 12 (by kernel_rfl) (by kernel_rfl) ?_
    simp only [nthL]
    go_wp2_with fail
    refine chain_on ⟨bk4⟩ ?_
    refine tree_reads [13] 0 rfl (by kernel_rfl) (fun _ _ d _ _ h => by cases d <;> exact h) ⟨bk4⟩ ?_
    simp only [PL]
    apply reads_op
    · exact bk2
    try simp only [PT]
    refine reads_nil ?_
    refine tree_end (by kernel_rfl) ?_
    go_wp2_with fail
    have nr0 : ¬ (W0.heap.size = (w.heap.size)) := by omega
    have nr1 : ¬ (W0.heap.size = (w.heap.size + 1)) := by omega
    have rn0 : ¬ ((w.heap.size) = W0.heap.size) := by omega
    have rn1 : ¬ ((w.heap.size + 1) = W0.heap.size) := by omega
    have bRh0 : isRow (w1.setRow W0.heap.size (opC o)) (w.heap.size) 51 24 = true := by go_simp
    have bVh0 : rowOf (w1.setRow W0.heap.size (opC o)) (w.heap.size) = #[.int .i64 most, .int .i64 4, .int .i64 S, .int .i64 64, .int .i64 64, .int .u64 1, .int .i64 1, .int .i64 1, .int .i64 1, .int .i64 64, .int .i64 100, .int .i64 100, .int .i64 1000, .int .i64 2, .int .i64 64, .int .i64 4, .int .i64 inn, .int .i64 0, .slice none 0 0, .slice none 0 0, .slice aS nS cS, .slice aL nL cL, .slice (some ⟨g, o1, none⟩) CT.length cT, .slice aG nG cG] := by go_simp
    have bCh0 := isCells_row bRh0
    have bLh0 : (w.heap.size) < ((w1.setRow W0.heap.size (opC o))).heap.size := bk1
    have bRh1 : isRow (w1.setRow W0.heap.size (opC o)) (w.heap.size + 1) 105 21 = true := by go_simp
    have bVh1 : rowOf (w1.setRow W0.heap.size (opC o)) (w.heap.size + 1) = #[.int .i64 0, .int .i64 0, .int .i64 0, .int .i64 0, .int .i64 0, .int .i64 0, .int .i64 0, .int .i64 0, .bool false, .int .u64 0, .int .u64 0, .int .i64 0, .bool false, .int .i64 0, .int .i64 0, .int .i64 0, .int .i64 0, .int .i64 0, .slice none 0 0, .slice none 0 0, .bool false] := by go_simp
    have bCh1 := isCells_row bRh1
    have bLh1 : (w.heap.size + 1) < ((w1.setRow W0.heap.size (opC o))).heap.size := bk1
    have bRhr : isRow (w1.setRow W0.heap.size (opC o)) W0.heap.size 105 21 = true := by go_simp
    have bVhr : rowOf (w1.setRow W0.heap.size (opC o)) W0.heap.size = (opC o) := by go_simp
    have bChr := isCells_row bRhr
    have bLhr : W0.heap.size < ((w1.setRow W0.heap.size (opC o))).heap.size := bk1
    have bx : Below w.heap.size w (w1.setRow W0.heap.size (opC o)) := bw.trans ((bk0 : Below W0.heap.size W0 (w1.setRow W0.heap.size (opC o))).mono (by omega))
    (try clear xxa); (try clear zza)
    generalize hWx : (w1.setRow W0.heap.size (opC o)) = Wx at *
    exact tailNext1
end Go.Proofs.YtnncjbkepakgpaaGreat
