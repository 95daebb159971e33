/-
  MEMORY: MAY IT BE; SWAP.
  OPERATIONS CLEANED.
-/
import Derived.Test.YtnncjbkepakgpaaGreatA07
import Derived.Test.YtnncjbkepakgpaaGreatA11
import Derived.Test.YtnncjbkepakgpaaGreatA06
namespace Go.Proofs.YtnncjbkepakgpaaGreat
set_option linter.unusedVariables false
set_option linter.unusedSimpArgs false
set_option maxRecDepth 100000
set_option maxHeartbeats 4000000
section
open Go.RowKit
attribute [local go_sem ↓] exec_load_47 exec_store_47 exec_load_186 exec_store_186 exec_load_105 exec_store_105 exec_load_103 exec_store_103 exec_load_101 exec_store_101
attribute [local go_sem] run_load47r run_store47i run_load186r run_store186i run_load105r run_store105i run_load103r run_store103i run_load101r run_store101i lt_up isRng_new rngOf_new isRange_past rangeOf_past isRange_drew rangeOf_drew fits_new fits_past fits_drew setAt_new setAt_past setAt_drew putAt_whole putAt_lit extract_whole extract_lit one_int one_bool one_slice one_ptr ones_lit onesL_nil onesL_cons isRow_new rowOf_new isRow_past rowOf_past isRow_drew rowOf_drew lt2 lt3 lt4 List.take_succ_cons List.take_zero List.drop_succ_cons List.drop_zero List.cons_append List.nil_append List.length_cons List.length_nil List.size_toArray setRow_new setRow_past own_cell own_frozen own_set own_isRange own_rangeOf own_fits setAt_row sr_sr sr_size sr_row sr_row' sr_isRow sr_isRow' sr_fits' sr_cell' sr_frozen' sr_isRange' sr_rangeOf' sr_isCells isCells_new isCells_past isCells_drew valC_size valC_ones opC_size opC_ones replyC_size srs_isRange srs_rangeOf srs_fits srs_cell srs_frozen
theorem packMem21 {p : Prop} (h : PQ p := by
  have xxa := alk hS1.out; (try have zza := zs w.heap.size w1.heap.size)
  have bR0 : isRow w1 (w.heap.size) 47 6 = true := by go_simp
  have bV0 : rowOf w1 (w.heap.size) = #[.int .i64 inn, .int .i64 0, .slice none 0 0, .slice none 0 0, vS, vL] := by go_simp
  have bC0 := isCells_row bR0
  have bL0 : (w.heap.size) < (w1).heap.size := bk1
  have bR2 : isRow w1 (w.heap.size + 1 + 1) 47 6 = true := by go_simp
  have bV2 : rowOf w1 (w.heap.size + 1 + 1) = #[.int .i64 0, .int .i64 0, .slice none 0 0, .slice none 0 0, .slice none 0 0, .slice none 0 0] := by go_simp
  have bC2 := isCells_row bR2
  have bL2 : (w.heap.size + 1 + 1) < (w1).heap.size := bk1
  have bR3 : isRow w1 (w.heap.size + 1 + 1 + 1) 103 13 = true := by go_simp
  have bV3 : rowOf w1 (w.heap.size + 1 + 1 + 1) = #[.int .i64 0, .bool false, .int .u64 0, .int .u64 0, .int .i64 0, .bool false, .int .i64 0, .int .i64 0, .int .i64 0, .int .i64 0, .int .i64 0, .slice none 0 0, .slice none 0 0] := by go_simp
  have bC3 := isCells_row bR3
  have bL3 : (w.heap.size + 1 + 1 + 1) < (w1).heap.size := bk1
  have ne1 : ¬ (w.heap.size + 1 = w.heap.size) := by omega
  have en1 : ¬ (w.heap.size = w.heap.size + 1) := by omega
  have ne2 : ¬ (w.heap.size + 1 + 1 = w.heap.size) := by omega
  have en2 : ¬ (w.heap.size = w.heap.size + 1 + 1) := by omega
  have ne3 : ¬ (w.heap.size + 1 + 1 + 1 = w.heap.size) := by omega
  have en3 : ¬ (w.heap.size = w.heap.size + 1 + 1 + 1) := by omega
  have ne4 : ¬ (w.heap.size + 1 + 1 + 1 + 1 = w.heap.size) := by omega
  have en4 : ¬ (w.heap.size = w.heap.size + 1 + 1 + 1 + 1) := by omega
  exact pq (And.intro xxa (And.intro bR0 (And.intro bV0 (And.intro bC0 (And.intro bL0 (And.intro bR2 (And.intro bV2 (And.intro bC2 (And.intro bL2 (And.intro bR3 (And.intro bV3 (And.intro bC3 (And.intro bL3 (And.intro ne1 (And.intro en1 (And.intro ne2 (And.intro en2 (And.intro ne3 (And.intro en3 (And.intro ne4 en4))))))))))))))))))))) : p := h
theorem packMem22 {p : Prop} (h : PQ p := by
  have H := Lib.hid h
  have HL := Lib.hid (fun (W : World) (b : Below w.heap.size w W) => lock_law inn aS S cS 0 vL CL _ hk W (H.out.below b))
  exact pq (And.intro H HL)) : p := h
theorem tailMem21 {p : Prop} (h : p := by
  go_enter Tryz.func82, Tryz.ntmps82
  go_wp2_with (first | (go_at_call 127; refine (HR.out _).mono ?_; rintro e w1 ⟨rfl, hb⟩; have hk := Keep.mk hb; have xx := alk hk.out; (try have zz := zs w.heap.size w1.heap.size); clear hb) | (go_at_call 83; refine (HL.out _ (bk0)).mono ?_; rintro e w2 ⟨rfl, hb⟩; have hkb := Keep.mk hb; have xxb := alk hkb.out; (try have zzb := zs w.heap.size w2.heap.size); clear hb))
  go_ret
  exact ⟨bk23, bk0⟩) : p := h
theorem tailMem22 {p : Prop} (h : p := by
  unfold opC at *
  obtain ⟨aL, cL, rfl, -⟩ := h
  clear hk
  exact tailMem21) : p := h
theorem may_lock_y (k : Nat) (S : Nat) (h0 : 1 ≤ S) (h1 : S ≤ 8) (hp : k ≤ S + 1) (inn : Int) (aS : Option Addr) (cS by' m' c' : Nat) (a' : Option Addr) (vL : Value) (CL : List (Array Value)) (hk : CL[k]? = some #[.int .i64 by', .slice a' m' c']) (hb : by' = 0) (hm : m' = 0) (who : Int) (w : World) (h : Sl w vL 2 CL) :
    Calls Tryz.prog 82 #[.agg (#[.int .i64 inn, .int .i64 0, .slice none 0 0, .slice none 0 0, .slice aS S cS, vL]), .agg (opC (.lock k)), .int .i64 who] w fun e w' => e = .returned (.bool true) ∧ Below w.heap.size w w' := by
  have H := Lib.hid h
  have HL := Lib.hid (fun (W : World) (b : Below w.heap.size w W) => lock_law inn aS S cS k vL CL _ hk W (H.out.below b))
  have HR := Lib.hid (fun (W : World) => right_lock k S h0 h1 hp W)
  unfold opC at *
  obtain ⟨aL, cL, rfl, -⟩ := h
  clear hk
  subst hb hm
  exact tailMem21
theorem may_lock_n (k : Nat) (S : Nat) (h0 : 1 ≤ S) (h1 : S ≤ 8) (hp : k ≤ S + 1) (inn : Int) (aS : Option Addr) (cS by' m' c' : Nat) (a' : Option Addr) (vL : Value) (CL : List (Array Value)) (hk : CL[k]? = some #[.int .i64 by', .slice a' m' c']) (hb : ¬ (by' = 0 ∧ m' = 0)) (who : Int) (w : World) (h : Sl w vL 2 CL) :
    Calls Tryz.prog 82 #[.agg (#[.int .i64 inn, .int .i64 0, .slice none 0 0, .slice none 0 0, .slice aS S cS, vL]), .agg (opC (.lock k)), .int .i64 who] w fun e w' => e = .returned (.bool false) ∧ Below w.heap.size w w' := by
  have H := Lib.hid h
  have HL := Lib.hid (fun (W : World) (b : Below w.heap.size w W) => lock_law inn aS S cS k vL CL _ hk W (H.out.below b))
  have HR := Lib.hid (fun (W : World) => right_lock k S h0 h1 hp W)
  unfold opC at *
  obtain ⟨aL, cL, rfl, -⟩ := h
  clear hk
  go_enter Tryz.func82, Tryz.ntmps82
  by_cases hb1 : by' = 0
  · subst hb1
    have hm' : ¬ ((m' : Int) = 0) := by omega
    go_wp2_with (first | (go_at_call 127; refine (HR.out _).mono ?_; rintro e w1 ⟨rfl, hb⟩; have hk := Keep.mk hb; have xx := alk hk.out; (try have zz := zs w.heap.size w1.heap.size); clear hb) | (go_at_call 83; refine (HL.out _ (bk0)).mono ?_; rintro e w2 ⟨rfl, hb⟩; have hkb := Keep.mk hb; have xxb := alk hkb.out; (try have zzb := zs w.heap.size w2.heap.size); clear hb))
    go_ret
    exact ⟨by simp; omega, bk0⟩
  · have hb' : ¬ ((by' : Int) = 0) := by omega
    go_wp2_with (first | (go_at_call 127; refine (HR.out _).mono ?_; rintro e w1 ⟨rfl, hb⟩; have hk := Keep.mk hb; have xx := alk hk.out; (try have zz := zs w.heap.size w1.heap.size); clear hb) | (go_at_call 83; refine (HL.out _ (bk0)).mono ?_; rintro e w2 ⟨rfl, hb⟩; have hkb := Keep.mk hb; have xxb := alk hkb.out; (try have zzb := zs w.heap.size w2.heap.size); clear hb))
    go_ret
    exact ⟨rfl, bk0⟩
theorem may_share_y  (S : Nat) (h0 : 1 ≤ S) (h1 : S ≤ 8) (inn : Int) (aS : Option Addr) (cS by' m' c' : Nat) (a' : Option Addr) (vL : Value) (CL : List (Array Value)) (hk : CL[0]? = some #[.int .i64 by', .slice a' m' c']) (hb : by' = 0) (who : Int) (w : World) (h : Sl w vL 2 CL) :
    Calls Tryz.prog 82 #[.agg (#[.int .i64 inn, .int .i64 0, .slice none 0 0, .slice none 0 0, .slice aS S cS, vL]), .agg (opC (.share)), .int .i64 who] w fun e w' => e = .returned (.bool true) ∧ Below w.heap.size w w' := by
  obtain ⟨H, HL⟩ := packMem22
  have HR := Lib.hid (fun (W : World) => right_share  S h0 h1 W)
  unfold opC at *
  obtain ⟨aL, cL, rfl, -⟩ := h
  clear hk
  subst hb
  exact tailMem21
theorem may_share_n  (S : Nat) (h0 : 1 ≤ S) (h1 : S ≤ 8) (inn : Int) (aS : Option Addr) (cS by' m' c' : Nat) (a' : Option Addr) (vL : Value) (CL : List (Array Value)) (hk : CL[0]? = some #[.int .i64 by', .slice a' m' c']) (hb : ¬ (by' = 0)) (who : Int) (w : World) (h : Sl w vL 2 CL) :
    Calls Tryz.prog 82 #[.agg (#[.int .i64 inn, .int .i64 0, .slice none 0 0, .slice none 0 0, .slice aS S cS, vL]), .agg (opC (.share)), .int .i64 who] w fun e w' => e = .returned (.bool false) ∧ Below w.heap.size w w' := by
  obtain ⟨H, HL⟩ := packMem22
  have HR := Lib.hid (fun (W : World) => right_share  S h0 h1 W)
  unfold opC at *
  obtain ⟨aL, cL, rfl, -⟩ := h
  clear hk
  have hb' : ¬ ((by' : Int) = 0) := by omega
  exact tailMem21
theorem may_free_y (k : Nat) (m : Bool) (S : Nat) (h0 : 1 ≤ S) (h1 : S ≤ 8) (hp : k ≤ S + 1) (inn : Int) (aS : Option Addr) (cS by' m' c' : Nat) (a' : Option Addr) (vL : Value) (CL : List (Array Value)) (hk : CL[k]? = some #[.int .i64 by', .slice a' m' c'])  (who : Int) (w : World) (h : Sl w vL 2 CL) :
    Calls Tryz.prog 82 #[.agg (#[.int .i64 inn, .int .i64 0, .slice none 0 0, .slice none 0 0, .slice aS S cS, vL]), .agg (opC (.free k m)), .int .i64 who] w fun e w' => e = .returned (.bool true) ∧ Below w.heap.size w w' := by
  have H := Lib.hid h
  have HL := Lib.hid (fun (W : World) (b : Below w.heap.size w W) => lock_law inn aS S cS k vL CL _ hk W (H.out.below b))
  have HR := Lib.hid (fun (W : World) => right_free k m S h0 h1 hp W)
  exact tailMem22
theorem may_drop_y  (S : Nat) (h0 : 1 ≤ S) (h1 : S ≤ 8) (inn : Int) (aS : Option Addr) (cS by' m' c' : Nat) (a' : Option Addr) (vL : Value) (CL : List (Array Value)) (hk : CL[0]? = some #[.int .i64 by', .slice a' m' c'])  (who : Int) (w : World) (h : Sl w vL 2 CL) :
    Calls Tryz.prog 82 #[.agg (#[.int .i64 inn, .int .i64 0, .slice none 0 0, .slice none 0 0, .slice aS S cS, vL]), .agg (opC (.drop)), .int .i64 who] w fun e w' => e = .returned (.bool true) ∧ Below w.heap.size w w' := by
  obtain ⟨H, HL⟩ := packMem22
  have HR := Lib.hid (fun (W : World) => right_drop  S h0 h1 W)
  exact tailMem22
theorem may_bans_y  (S : Nat) (h0 : 1 ≤ S) (h1 : S ≤ 8) (inn : Int) (aS : Option Addr) (cS by' m' c' : Nat) (a' : Option Addr) (vL : Value) (CL : List (Array Value)) (hk : CL[0]? = some #[.int .i64 by', .slice a' m' c'])  (who : Int) (w : World) (h : Sl w vL 2 CL) :
    Calls Tryz.prog 82 #[.agg (#[.int .i64 inn, .int .i64 0, .slice none 0 0, .slice none 0 0, .slice aS S cS, vL]), .agg (opC (.bans)), .int .i64 who] w fun e w' => e = .returned (.bool true) ∧ Below w.heap.size w w' := by
  obtain ⟨H, HL⟩ := packMem22
  have HR := Lib.hid (fun (W : World) => right_bans  S h0 h1 W)
  exact tailMem22
theorem may_inn_y  (S : Nat) (h0 : 1 ≤ S) (h1 : S ≤ 8) (inn : Int) (aS : Option Addr) (cS by' m' c' : Nat) (a' : Option Addr) (vL : Value) (CL : List (Array Value)) (hk : CL[0]? = some #[.int .i64 by', .slice a' m' c'])  (who : Int) (w : World) (h : Sl w vL 2 CL) :
    Calls Tryz.prog 82 #[.agg (#[.int .i64 inn, .int .i64 0, .slice none 0 0, .slice none 0 0, .slice aS S cS, vL]), .agg (opC (.inn)), .int .i64 who] w fun e w' => e = .returned (.bool true) ∧ Below w.heap.size w w' := by
  obtain ⟨H, HL⟩ := packMem22
  have HR := Lib.hid (fun (W : World) => right_inn  S h0 h1 W)
  exact tailMem22
theorem may_size_y (p : Nat) (S : Nat) (h0 : 1 ≤ S) (h1 : S ≤ 8) (hp : p < S) (inn : Int) (aS : Option Addr) (cS by' m' c' : Nat) (a' : Option Addr) (vL : Value) (CL : List (Array Value)) (hk : CL[0]? = some #[.int .i64 by', .slice a' m' c'])  (who : Int) (w : World) (h : Sl w vL 2 CL) :
    Calls Tryz.prog 82 #[.agg (#[.int .i64 inn, .int .i64 0, .slice none 0 0, .slice none 0 0, .slice aS S cS, vL]), .agg (opC (.size p)), .int .i64 who] w fun e w' => e = .returned (.bool true) ∧ Below w.heap.size w w' := by
  obtain ⟨H, HL⟩ := packMem22
  have HR := Lib.hid (fun (W : World) => right_size p S h0 h1 hp W)
  exact tailMem22
theorem may_slot_y (p i : Nat) (S : Nat) (h0 : 1 ≤ S) (h1 : S ≤ 8) (hp : p < S) (inn : Int) (aS : Option Addr) (cS by' m' c' : Nat) (a' : Option Addr) (vL : Value) (CL : List (Array Value)) (hk : CL[0]? = some #[.int .i64 by', .slice a' m' c'])  (who : Int) (w : World) (h : Sl w vL 2 CL) :
    Calls Tryz.prog 82 #[.agg (#[.int .i64 inn, .int .i64 0, .slice none 0 0, .slice none 0 0, .slice aS S cS, vL]), .agg (opC (.slot p i)), .int .i64 who] w fun e w' => e = .returned (.bool true) ∧ Below w.heap.size w w' := by
  obtain ⟨H, HL⟩ := packMem22
  have HR := Lib.hid (fun (W : World) => right_slot p i S h0 h1 hp W)
  exact tailMem22
theorem may_wslot_y (p i c : Nat) (S : Nat) (h0 : 1 ≤ S) (h1 : S ≤ 8) (hp : p < S) (inn : Int) (aS : Option Addr) (cS by' m' c' : Nat) (a' : Option Addr) (vL : Value) (CL : List (Array Value)) (hk : CL[0]? = some #[.int .i64 by', .slice a' m' c'])  (who : Int) (w : World) (h : Sl w vL 2 CL) :
    Calls Tryz.prog 82 #[.agg (#[.int .i64 inn, .int .i64 0, .slice none 0 0, .slice none 0 0, .slice aS S cS, vL]), .agg (opC (.wslot p i c)), .int .i64 who] w fun e w' => e = .returned (.bool true) ∧ Below w.heap.size w w' := by
  obtain ⟨H, HL⟩ := packMem22
  have HR := Lib.hid (fun (W : World) => right_wslot p i c S h0 h1 hp W)
  exact tailMem22
theorem may_wsize_y (p n : Nat) (S : Nat) (h0 : 1 ≤ S) (h1 : S ≤ 8) (hp : p < S) (inn : Int) (aS : Option Addr) (cS by' m' c' : Nat) (a' : Option Addr) (vL : Value) (CL : List (Array Value)) (hk : CL[0]? = some #[.int .i64 by', .slice a' m' c'])  (who : Int) (w : World) (h : Sl w vL 2 CL) :
    Calls Tryz.prog 82 #[.agg (#[.int .i64 inn, .int .i64 0, .slice none 0 0, .slice none 0 0, .slice aS S cS, vL]), .agg (opC (.wsize p n)), .int .i64 who] w fun e w' => e = .returned (.bool true) ∧ Below w.heap.size w w' := by
  obtain ⟨H, HL⟩ := packMem22
  have HR := Lib.hid (fun (W : World) => right_wsize p n S h0 h1 hp W)
  exact tailMem22
theorem may_swap_y (n : Int) (S : Nat) (h0 : 1 ≤ S) (h1 : S ≤ 8) (inn : Int) (aS : Option Addr) (cS by' m' c' : Nat) (a' : Option Addr) (vL : Value) (CL : List (Array Value)) (hk : CL[0]? = some #[.int .i64 by', .slice a' m' c'])  (who : Int) (w : World) (h : Sl w vL 2 CL) :
    Calls Tryz.prog 82 #[.agg (#[.int .i64 inn, .int .i64 0, .slice none 0 0, .slice none 0 0, .slice aS S cS, vL]), .agg (opC (.swap n)), .int .i64 who] w fun e w' => e = .returned (.bool true) ∧ Below w.heap.size w w' := by
  obtain ⟨H, HL⟩ := packMem22
  have HR := Lib.hid (fun (W : World) => right_swap n S h0 h1 W)
  exact tailMem22
theorem swap_hit (n : Int) (inn : Int) (hn : inn = n) (vS vL : Value) (hv1 : vS.oneCell' = true) (hv2 : vL.oneCell' = true) (w : World) :
    Calls Tryz.prog 91 #[.agg (#[.int .i64 inn, .int .i64 0, .slice none 0 0, .slice none 0 0, vS, vL]), .agg (opC (.swap n))] w fun e w' => e = .returned (.tuple #[.agg (#[.int .i64 (n + 1), .int .i64 0, .slice none 0 0, .slice none 0 0, vS, vL]), .agg (valC (.num 1))]) ∧ Below w.heap.size w w' := by
  unfold opC valC
  subst hn
  go_enter Tryz.func91, Tryz.ntmps91
  go_wp2_with fail
  refine region_still (by kernel_rfl) (by kernel_rfl) ?_
  repeat (first
    | go_big_quiet_skip
    | (go_big_quiet_want
       apply class_op
       · intro W hS
         have xx := alk hS.out; (try have zz := zs w.heap.size W.heap.size)
         go_simp
         try first
           | with_reducible rfl
       go_big_quiet_on
       try simp only [PT]))
  refine wpQuiet_nil ?_
  intro w1 hS1
  obtain ⟨xxa, bR0, bV0, bC0, bL0, bR2, bV2, bC2, bL2, bR3, bV3, bC3, bL3, ne1, en1, ne2, en2, ne3, en3, ne4, en4⟩ := packMem21
  go_wp2
  refine bodyPost_ret (v := .tuple #[.agg (#[.int .i64 (inn + 1), .int .i64 0, .slice none 0 0, .slice none 0 0, vS, vL]), .agg (#[.int .i64 1, .bool false, .int .u64 0, .int .u64 0, .int .i64 0, .bool false, .int .i64 0, .int .i64 0, .int .i64 0, .int .i64 0, .int .i64 0, .slice none 0 0, .slice none 0 0])]) (res_rows (t := 47) (t' := 103) Tryz.results91 _ _ _ _ rfl rfl ?_ ?_ info47 agg47 ?_ ?_ info103 agg103) rfl ?_
  · go_simp
  · go_simp
  · go_simp
  · go_simp
  exact ⟨rfl, bk0⟩
theorem swap_miss (n : Int) (inn : Int) (hn : ¬ (inn = n)) (vS vL : Value) (hv1 : vS.oneCell' = true) (hv2 : vL.oneCell' = true) (w : World) :
    Calls Tryz.prog 91 #[.agg (#[.int .i64 inn, .int .i64 0, .slice none 0 0, .slice none 0 0, vS, vL]), .agg (opC (.swap n))] w fun e w' => e = .returned (.tuple #[.agg (#[.int .i64 inn, .int .i64 0, .slice none 0 0, .slice none 0 0, vS, vL]), .agg (valC (.num 0))]) ∧ Below w.heap.size w w' := by
  unfold opC valC
  go_enter Tryz.func91, Tryz.ntmps91
  go_wp2_with fail
  refine region_still (by kernel_rfl) (by kernel_rfl) ?_
  repeat (first
    | go_big_quiet_skip
    | (go_big_quiet_want
       apply class_op
       · intro W hS
         have xx := alk hS.out; (try have zz := zs w.heap.size W.heap.size)
         go_simp
         try first
           | with_reducible rfl
       go_big_quiet_on
       try simp only [PT]))
  refine wpQuiet_nil ?_
  intro w1 hS1
  obtain ⟨xxa, bR0, bV0, bC0, bL0, bR2, bV2, bC2, bL2, bR3, bV3, bC3, bL3, ne1, en1, ne2, en2, ne3, en3, ne4, en4⟩ := packMem21
  go_wp2
  refine bodyPost_ret (v := .tuple #[.agg (#[.int .i64 inn, .int .i64 0, .slice none 0 0, .slice none 0 0, vS, vL]), .agg (#[.int .i64 0, .bool false, .int .u64 0, .int .u64 0, .int .i64 0, .bool false, .int .i64 0, .int .i64 0, .int .i64 0, .int .i64 0, .int .i64 0, .slice none 0 0, .slice none 0 0])]) (res_rows (t := 47) (t' := 103) Tryz.results91 _ _ _ _ rfl rfl ?_ ?_ info47 agg47 ?_ ?_ info103 agg103) rfl ?_
  · go_simp
  · go_simp
  · go_simp
  · go_simp
  exact ⟨rfl, bk0⟩
end
section
open Go.RowKit
attribute [local go_sem ↓] exec_load_101 exec_store_101 exec_load_103 exec_store_103 exec_load_105 exec_store_105 exec_load_75 exec_store_75
attribute [local go_sem] run_load101r run_store101i run_load103r run_store103i run_load105r run_store105i run_load75r run_store75i isRng_new rngOf_new isRange_past rangeOf_past isRange_drew rangeOf_drew fits_new fits_past fits_drew setAt_new setAt_past setAt_drew putAt_whole putAt_lit extract_whole extract_lit one_int one_bool one_slice one_ptr ones_lit onesL_nil onesL_cons isRow_new rowOf_new isRow_past rowOf_past isRow_drew rowOf_drew lt2 lt3 lt4 List.take_succ_cons List.take_zero List.drop_succ_cons List.drop_zero List.cons_append List.nil_append List.length_cons List.length_nil List.size_toArray
theorem tailClean1 {p : Prop} (h : p := by
  exact bodyPost_ret (v := .agg _) (res_row (t := 105) Tryz.results431 _ _ _ rfl (by simp [go_sem]) (by simp [go_sem]) info105 agg105) rfl ⟨rfl, bk6⟩) : p := h
theorem tailClean2 {p : Prop} (h : p := by
  go_enter Tryz.func432, Tryz.ntmps432
  go_wp2
  exact bodyPost_ret (v := .agg _) (res_row (t := 101) Tryz.results432 _ _ _ rfl (by simp [go_sem]) (by simp [go_sem]) info101 agg101) rfl ⟨rfl, rfl⟩) : p := h
theorem place_bans (p i : Int) (w : World) : Calls Tryz.prog 432 #[.agg (#[.int .i64 3, .int .i64 0, .int .i64 0])] w fun e w' => e = .returned (.agg (#[.int .i64 3, .int .i64 0, .int .i64 0])) ∧ w' = (w.alloc (.cells (#[.int .i64 3, .int .i64 0, .int .i64 0]) 101)).alloc (.cells (#[.int .i64 3, .int .i64 0, .int .i64 0]) 101) := by
  exact tailClean2
theorem place_inn (p i : Int) (w : World) : Calls Tryz.prog 432 #[.agg (#[.int .i64 1, .int .i64 0, .int .i64 0])] w fun e w' => e = .returned (.agg (#[.int .i64 1, .int .i64 0, .int .i64 0])) ∧ w' = (w.alloc (.cells (#[.int .i64 1, .int .i64 0, .int .i64 0]) 101)).alloc (.cells (#[.int .i64 1, .int .i64 0, .int .i64 0]) 101) := by
  exact tailClean2
theorem place_size (p i : Int) (w : World) : Calls Tryz.prog 432 #[.agg (#[.int .i64 5, .int .i64 p, .int .i64 0])] w fun e w' => e = .returned (.agg (#[.int .i64 5, .int .i64 p, .int .i64 0])) ∧ w' = (w.alloc (.cells (#[.int .i64 5, .int .i64 p, .int .i64 0]) 101)).alloc (.cells (#[.int .i64 5, .int .i64 p, .int .i64 0]) 101) := by
  exact tailClean2
theorem place_slot (p i : Int) (w : World) : Calls Tryz.prog 432 #[.agg (#[.int .i64 6, .int .i64 p, .int .i64 i])] w fun e w' => e = .returned (.agg (#[.int .i64 6, .int .i64 p, .int .i64 i])) ∧ w' = (w.alloc (.cells (#[.int .i64 6, .int .i64 p, .int .i64 i]) 101)).alloc (.cells (#[.int .i64 6, .int .i64 p, .int .i64 i]) 101) := by
  exact tailClean2
theorem value_size (n : Int) (w : World) : Calls Tryz.prog 433 #[.int .i64 5, .agg (#[.int .i64 n, .bool false, .int .u64 0, .int .u64 0, .int .i64 0, .bool false, .int .i64 0, .int .i64 0, .int .i64 0, .int .i64 0, .int .i64 0, .slice none 0 0, .slice none 0 0])] w fun e w' => e = .returned (.agg (#[.int .i64 n, .bool false, .int .u64 0, .int .u64 0, .int .i64 0, .bool false, .int .i64 0, .int .i64 0, .int .i64 0, .int .i64 0, .int .i64 0, .slice none 0 0, .slice none 0 0])) ∧ w' = (w.alloc (.cells (#[.int .i64 n, .bool false, .int .u64 0, .int .u64 0, .int .i64 0, .bool false, .int .i64 0, .int .i64 0, .int .i64 0, .int .i64 0, .int .i64 0, .slice none 0 0, .slice none 0 0]) 103)).alloc (.cells (#[.int .i64 n, .bool false, .int .u64 0, .int .u64 0, .int .i64 0, .bool false, .int .i64 0, .int .i64 0, .int .i64 0, .int .i64 0, .int .i64 0, .slice none 0 0, .slice none 0 0]) 103) := by
  go_enter Tryz.func433, Tryz.ntmps433
  go_wp2
  exact bodyPost_ret (v := .agg _) (res_row (t := 103) Tryz.results433 _ _ _ rfl (by simp [go_sem]) (by simp [go_sem]) info103 agg103) rfl ⟨rfl, rfl⟩
theorem value_slot (c : Nat) (w : World) : Calls Tryz.prog 433 #[.int .i64 6, .agg (#[.int .i64 0, .bool false, .int .u64 0, .int .u64 (loOf c), .int .i64 80, .bool true, .int .i64 (Pm.tOf c), .int .i64 0, .int .i64 (Pm.tOf c), .int .i64 0, .int .i64 0, .slice none 0 0, .slice none 0 0])] w fun e w' => e = .returned (.agg (#[.int .i64 0, .bool false, .int .u64 0, .int .u64 (loOf c), .int .i64 80, .bool true, .int .i64 (Pm.tOf c), .int .i64 0, .int .i64 (Pm.tOf c), .int .i64 0, .int .i64 0, .slice none 0 0, .slice none 0 0])) ∧ w' = (w.alloc (.cells (#[.int .i64 0, .bool false, .int .u64 0, .int .u64 (loOf c), .int .i64 80, .bool true, .int .i64 (Pm.tOf c), .int .i64 0, .int .i64 (Pm.tOf c), .int .i64 0, .int .i64 0, .slice none 0 0, .slice none 0 0]) 103)).alloc (.cells (#[.int .i64 0, .bool false, .int .u64 0, .int .u64 (loOf c), .int .i64 80, .bool true, .int .i64 (Pm.tOf c), .int .i64 0, .int .i64 (Pm.tOf c), .int .i64 0, .int .i64 0, .slice none 0 0, .slice none 0 0]) 103) := by
  go_enter Tryz.func433, Tryz.ntmps433
  go_wp2
  exact bodyPost_ret (v := .agg _) (res_row (t := 103) Tryz.results433 _ _ _ rfl (by simp [go_sem]) (by simp [go_sem]) info103 agg103) rfl ⟨rfl, rfl⟩
theorem clean_lock (k : Nat) (w : World) : Calls Tryz.prog 431 #[.agg (opC (.lock k))] w fun e w' => e = .returned (.agg (opC (.lock k))) ∧ Below w.heap.size w w' := by
  unfold opC
  go_enter Tryz.func431, Tryz.ntmps431
  go_wp2
  exact tailClean1
theorem clean_share  (w : World) : Calls Tryz.prog 431 #[.agg (opC (.share))] w fun e w' => e = .returned (.agg (opC (.share))) ∧ Below w.heap.size w w' := by
  unfold opC
  go_enter Tryz.func431, Tryz.ntmps431
  go_wp2
  exact tailClean1
theorem clean_free (k : Nat) (m : Bool) (w : World) : Calls Tryz.prog 431 #[.agg (opC (.free k m))] w fun e w' => e = .returned (.agg (opC (.free k m))) ∧ Below w.heap.size w w' := by
  unfold opC
  go_enter Tryz.func431, Tryz.ntmps431
  go_wp2
  exact tailClean1
theorem clean_drop  (w : World) : Calls Tryz.prog 431 #[.agg (opC (.drop))] w fun e w' => e = .returned (.agg (opC (.drop))) ∧ Below w.heap.size w w' := by
  unfold opC
  go_enter Tryz.func431, Tryz.ntmps431
  go_wp2
  exact tailClean1
theorem clean_bans  (w : World) : Calls Tryz.prog 431 #[.agg (opC (.bans))] w fun e w' => e = .returned (.agg (opC (.bans))) ∧ Below w.heap.size w w' := by
  unfold opC
  go_enter Tryz.func431, Tryz.ntmps431
  go_wp2_with (go_at_call 432; refine (place_bans 0 0 _).mono ?_; rintro e w1 ⟨rfl, rfl⟩)
  exact tailClean1
theorem clean_inn  (w : World) : Calls Tryz.prog 431 #[.agg (opC (.inn))] w fun e w' => e = .returned (.agg (opC (.inn))) ∧ Below w.heap.size w w' := by
  unfold opC
  go_enter Tryz.func431, Tryz.ntmps431
  go_wp2_with (go_at_call 432; refine (place_inn 0 0 _).mono ?_; rintro e w1 ⟨rfl, rfl⟩)
  exact tailClean1
theorem clean_size (p : Nat) (w : World) : Calls Tryz.prog 431 #[.agg (opC (.size p))] w fun e w' => e = .returned (.agg (opC (.size p))) ∧ Below w.heap.size w w' := by
  unfold opC
  go_enter Tryz.func431, Tryz.ntmps431
  go_wp2_with (go_at_call 432; refine (place_size p 0 _).mono ?_; rintro e w1 ⟨rfl, rfl⟩)
  exact tailClean1
theorem clean_slot (p i : Nat) (w : World) : Calls Tryz.prog 431 #[.agg (opC (.slot p i))] w fun e w' => e = .returned (.agg (opC (.slot p i))) ∧ Below w.heap.size w w' := by
  unfold opC
  go_enter Tryz.func431, Tryz.ntmps431
  go_wp2_with (go_at_call 432; refine (place_slot p i _).mono ?_; rintro e w1 ⟨rfl, rfl⟩)
  exact tailClean1
end
end Go.Proofs.YtnncjbkepakgpaaGreat
