/-
  PLAY: a code left at an operation.
  A TURN.
  A MANAGER LETS ONE IN.
-/
import Derived.Test.YtnncjbkepakgpaaGreatA14
import Derived.Defers
import Derived.Recover
import Derived.Test.YtnncjbkepakgpaaGreatA07
import Derived.Test.YtnncjbkepakgpaaGreatA24
import Derived.Test.YtnncjbkepakgpaaGreatA10
import Derived.Test.YtnncjbkepakgpaaGreatA19
namespace Go.Proofs.YtnncjbkepakgpaaGreat
set_option linter.unusedVariables false
set_option linter.unusedSimpArgs false
set_option maxRecDepth 100000
set_option maxHeartbeats 4000000
section
open Go.RowKit
attribute [local go_sem ↓] exec_load_198 exec_store_198 exec_load_279 exec_store_279 exec_load_105 exec_store_105
attribute [local go_sem] run_load198 run_store198 run_load279 run_store279 run_load105 run_load105r run_store105 isRow_new rowOf_new isRow_past rowOf_past isRow_drew rowOf_drew setRow_new setRow_past isRange_new rangeOf_new isRange_past rangeOf_past isRange_drew rangeOf_drew one_int one_bool one_slice one_ptr ones_lit onesL_nil onesL_cons isRow_set rowOf_set lt2 lt3
/-- A turn that is an operation. -/
def turnOp (O : Array Value) : Array Value := O ++ (#[.int .i64 0, .bool false, .int .u64 0, .int .u64 0, .int .i64 0, .int .i64 0, .int .i64 0, .slice none 0 0, .bool false, .bool false] : Array Value)
theorem turnOp_size {O : Array Value} (hO : O.size = 21) : (turnOp O).size = 31 := by simp [turnOp, hO]
theorem turnOp_ones {O : Array Value} (h : ones O = true) : ones (turnOp O) = true := by
  have e : ∀ (a b : List Value), onesL a = true → onesL b = true → onesL (a ++ b) = true := fun a b ha hb => by
    induction a with
    | nil => exact hb
    | cons v l ih =>
      simp only [List.cons_append, onesL, Bool.and_eq_true] at *
      exact ⟨ha.1, ih ha.2⟩
  unfold ones turnOp
  rw [Array.toList_append]
  exact e _ _ h rfl
theorem turn_built {O : Array Value} (hO : O.size = 21) : Array.foldl (fun cs x => cs.setIfInBounds x.snd x.fst) (#[.int .i64 0, .int .i64 0, .int .i64 0, .int .i64 0, .int .i64 0, .int .i64 0, .int .i64 0, .int .i64 0, .bool false, .int .u64 0, .int .u64 0, .int .i64 0, .bool false, .int .i64 0, .int .i64 0, .int .i64 0, .int .i64 0, .int .i64 0, .slice none 0 0, .slice none 0 0, .bool false, .int .i64 0, .bool false, .int .u64 0, .int .u64 0, .int .i64 0, .int .i64 0, .int .i64 0, .slice none 0 0, .bool false, .bool false] : Array Value) O.zipIdx 0 21 = turnOp O := by
  obtain ⟨_, _, _, _, _, _, _, _, _, _, _, _, _, _, _, _, _, _, _, _, _, rfl⟩ := cells21 hO
  simp [turnOp]
/-- Play's deferred closure, where the code is left at an operation. -/
theorem catch_pause (p : Nat) (O : Array Value) (hO : O.size = 21) (h1 : ones O = true) (older : List PanicEntry) (w : World) (hp : isRow w p 198 31 = true) :
    CallsD Tryz.prog 187 #[.pointer (some ⟨p, 0, none⟩)] (.panicking ({ v := pauseV O, recovered := false } :: older)) w fun e u' w' =>
      e = .returned (.tuple #[]) ∧ u' = .panicking ({ v := pauseV O, recovered := true } :: older) ∧ (w.setRow p (turnOp O)).alloc (.cells O 279) = w' := by
  have hta : ∀ w : World, (Instr.typeAssert (Value.iface 279 (Value.agg O)) 20 279 true).run Tryz.prog w = .ok (.tuple #[.agg O, .bool true]) w := fun w => by kernel_rfl
  have hlt := row_lt hp
  have htb := turn_built hO
  have hts := turnOp_size hO
  have hto := turnOp_ones h1
  refine callsD_of_wpS Tryz.func187 rfl fun c₀ cs hu => ?_
  apply wpS_seq
  apply wpS_region
  simp [wpOpsS, go_sem, recoverD, hu, Tryz.ntmps187, Exit.thenS, pauseV]
  refine wpS_of_wp ?_
  rw [show (#[Value.pointer (some ⟨p, 0, none⟩)] ++ (Array.replicate 12 undef).setIfInBounds 3 (Value.iface 279 (Value.agg O)) : Array Value) = #[.pointer (some ⟨p, 0, none⟩), undef, undef, undef, .iface 279 (.agg O), undef, undef, undef, undef, undef, undef, undef, undef] from rfl]
  go_wp2
  exact ⟨rfl, _, rfl, .tuple #[], by simp [results, Tryz.results187], rfl, rfl, rfl⟩
/-- .., where it returned. -/
theorem catch_idle (p : Nat) (w : World) :
    CallsD Tryz.prog 187 #[.pointer (some ⟨p, 0, none⟩)] .returning w fun e u' w' => e = .returned (.tuple #[]) ∧ u' = .returning ∧ w' = w := by
  refine callsD_of_wpS Tryz.func187 rfl fun c₀ cs hu => ?_
  apply wpS_seq
  apply wpS_region
  simp [wpOpsS, go_sem, recoverD, hu, Tryz.ntmps187, Exit.thenS]
  refine wpS_of_wp ?_
  go_wp2
  cases c₀
  simp_all [bodyPostS, results, Tryz.results187]
end
section
open Go.RowKit
attribute [local go_sem ↓] exec_load_29 exec_store_29 exec_load_41 exec_store_41 exec_load_203 exec_store_203 exec_load_198 exec_store_198 exec_load_62 exec_store_62
attribute [local go_sem] run_load29r run_store29i run_load41r run_store41i run_load203r run_store203i run_load198r run_store198i run_load62r run_store62i lt_up isRng_new rngOf_new isRange_past rangeOf_past isRange_drew rangeOf_drew fits_new fits_past fits_drew setAt_new setAt_past setAt_drew putAt_whole putAt_lit extract_whole extract_lit one_int one_bool one_slice one_ptr ones_lit onesL_nil onesL_cons isRow_new rowOf_new isRow_past rowOf_past isRow_drew rowOf_drew lt2 lt3 lt4 List.take_succ_cons List.take_zero List.drop_succ_cons List.drop_zero List.cons_append List.nil_append List.length_cons List.length_nil List.size_toArray setRow_new setRow_past own_cell own_frozen own_set own_isRange own_rangeOf own_fits setAt_row sr_sr sr_size sr_row sr_row' sr_isRow sr_isRow' sr_fits' sr_cell' sr_frozen' sr_isRange' sr_rangeOf' sr_isCells isCells_new isCells_past isCells_drew valC_size valC_ones opC_size opC_ones replyC_size
theorem hmf (fn : Fn) (first cap : Array Value) (w : World) : (Instr.makeFunc fn first cap).run Tryz.prog w = .ok (.func fn first cap) w := rfl
/-- admit.Code. -/
theorem code_law (most S c : Nat) (w : World) : Calls Tryz.prog 65 #[.agg (#[.int .i64 most, .int .i64 4, .int .i64 S, .int .i64 64, .int .i64 64, .int .u64 1, .int .i64 1, .int .i64 1, .int .i64 1, .int .i64 64, .int .i64 100, .int .i64 100, .int .i64 1000, .int .i64 2, .int .i64 64, .int .i64 4]), .agg (#[.int .i64 1, .bool false, .int .u64 0, .int .u64 (loOf c), .int .i64 80, .bool false, .int .u64 0, .int .u64 0, .int .i64 0, .int .i64 (Pm.tOf c), .int .i64 0, .bool false])] w fun e w' => e = .returned (.func (.func 101) #[.agg (#[.int .i64 most, .int .i64 4, .int .i64 S, .int .i64 64, .int .i64 64, .int .u64 1, .int .i64 1, .int .i64 1, .int .i64 1, .int .i64 64, .int .i64 100, .int .i64 100, .int .i64 1000, .int .i64 2, .int .i64 64, .int .i64 4, .int .i64 1, .bool false, .int .u64 0, .int .u64 (loOf c), .int .i64 80, .bool false, .int .u64 0, .int .u64 0, .int .i64 0, .int .i64 (Pm.tOf c), .int .i64 0, .bool false])] #[]) ∧ Below w.heap.size w w' := by
  have hm := hmf
  go_enter Tryz.func65, Tryz.ntmps65
  go_wp2
  go_ret
  exact ⟨rfl, bk5⟩
/-- task.Code, of an accept. -/
theorem task_code (most S c : Nat) (w : World) : Calls Tryz.prog 37 #[.agg (#[.int .i64 most, .int .i64 4, .int .i64 S, .int .i64 64, .int .i64 64, .int .u64 1, .int .i64 1, .int .i64 1, .int .i64 1, .int .i64 64, .int .i64 100, .int .i64 100, .int .i64 1000, .int .i64 2, .int .i64 64, .int .i64 4]), .agg (#[.int .i64 1, .bool false, .int .u64 0, .int .u64 (loOf c), .int .i64 80, .bool false, .int .u64 0, .int .u64 0, .int .i64 0, .int .i64 (Pm.tOf c), .int .i64 0, .bool false])] w fun e w' => e = .returned (.func (.func 101) #[.agg (#[.int .i64 most, .int .i64 4, .int .i64 S, .int .i64 64, .int .i64 64, .int .u64 1, .int .i64 1, .int .i64 1, .int .i64 1, .int .i64 64, .int .i64 100, .int .i64 100, .int .i64 1000, .int .i64 2, .int .i64 64, .int .i64 4, .int .i64 1, .bool false, .int .u64 0, .int .u64 (loOf c), .int .i64 80, .bool false, .int .u64 0, .int .u64 0, .int .i64 0, .int .i64 (Pm.tOf c), .int .i64 0, .bool false])] #[]) ∧ Below w.heap.size w w' := by
  go_enter Tryz.func37, Tryz.ntmps37
  go_wp2_with (go_at_call 65; refine (code_law most S c _).mono ?_; rintro e w1 ⟨rfl, hb⟩; have hk1 := Keep.mk hb; obtain ⟨x1, x2, x3, x4, x5, x6, x7, x8, x9, x10, y9⟩ := alk hk1.out; (try have zz := zs w.heap.size w1.heap.size); clear hb)
  go_ret
  exact ⟨rfl, bk0⟩
/-- A turn's cells: what is left to be done, or the reply. -/
def turnC : Pm.Res Bool → Array Value
  | .pause o => turnOp (opC o)
  | .done b _ => #[.int .i64 0, .int .i64 0, .int .i64 0, .int .i64 0, .int .i64 0, .int .i64 0, .int .i64 0, .int .i64 0, .bool false, .int .u64 0, .int .u64 0, .int .i64 0, .bool false, .int .i64 0, .int .i64 0, .int .i64 0, .int .i64 0, .int .i64 0, .slice none 0 0, .slice none 0 0, .bool false, .int .i64 (if b then 0 else 5), .bool false, .int .u64 0, .int .u64 0, .int .i64 0, .int .i64 0, .int .i64 0, .slice none 0 0, .bool true, .bool false]
  | .bad => #[]
theorem turn_done (b : Bool) (r : List Pm.Val) : turnC (.done b r) = #[.int .i64 0, .int .i64 0, .int .i64 0, .int .i64 0, .int .i64 0, .int .i64 0, .int .i64 0, .int .i64 0, .bool false, .int .u64 0, .int .u64 0, .int .i64 0, .bool false, .int .i64 0, .int .i64 0, .int .i64 0, .int .i64 0, .int .i64 0, .slice none 0 0, .slice none 0 0, .bool false, .int .i64 (if b then 0 else 5), .bool false, .int .u64 0, .int .u64 0, .int .i64 0, .int .i64 0, .int .i64 0, .slice none 0 0, .bool true, .bool false] := rfl
/-- tape.Play, of an accept. -/
theorem play_law (most S c : Nat) (L : List Pm.Val) (hS0 : 1 ≤ S) (hS1 : S ≤ 8) (hmost : most ≤ 1000) (hnb : Pm.accept ⟨most, S, prt S⟩ c L ≠ .bad) (hnn : NN L) (vg : Value) (w : World) (hs : Sl w vg 13 (L.map valC)) :
    Calls Tryz.prog 135 #[.func (.func 101) #[.agg (doorC most S c)] #[], vg] w fun e w' => e = .returned (.agg (turnC (Pm.accept ⟨most, S, prt S⟩ c L))) ∧ Below w.heap.size w w' := by
  have hm := hmf
  have HS := Lib.hid hs
  have HN := Lib.hid hnb
  clear hs hnb
  have hgl : ∀ g, vg.ownBlock = some g → g < w.heap.size := fun g hg => HS.out.lt hg
  have HG := Lib.hid hgl
  obtain ⟨a, cap, ev, -⟩ := HS.out
  simp only [List.length_map] at ev
  subst ev
  clear hgl
  generalize hD : doorC most S c = D at *
  go_enter_defers Tryz.func135, Tryz.ntmps135
  go_wp2_with fail
  have HT : TapeAt ((w.alloc (.cells #[.int .i64 0, .int .i64 0, .int .i64 0, .int .i64 0, .int .i64 0, .int .i64 0, .int .i64 0, .int .i64 0, .bool false, .int .u64 0, .int .u64 0, .int .i64 0, .bool false, .int .i64 0, .int .i64 0, .int .i64 0, .int .i64 0, .int .i64 0, .slice none 0 0, .slice none 0 0, .bool false, .int .i64 0, .bool false, .int .u64 0, .int .u64 0, .int .i64 0, .int .i64 0, .int .i64 0, .slice none 0 0, .bool false, .bool false] 198)).alloc (.cells #[.slice a L.length cap] 282)) (w.heap.size + 1) L := by
    refine ⟨by simp, ?_, .slice a L.length cap, ?_, ?_, ?_⟩
    · simp [go_sem]
    · simp [go_sem]
    · exact HS.out.below (bk5)
    · intro b hb
      have := HG.out b hb
      omega
  have HBx := Lib.hid (show Below w.heap.size w ((w.alloc (.cells #[.int .i64 0, .int .i64 0, .int .i64 0, .int .i64 0, .int .i64 0, .int .i64 0, .int .i64 0, .int .i64 0, .bool false, .int .u64 0, .int .u64 0, .int .i64 0, .bool false, .int .i64 0, .int .i64 0, .int .i64 0, .int .i64 0, .int .i64 0, .slice none 0 0, .slice none 0 0, .bool false, .int .i64 0, .bool false, .int .u64 0, .int .u64 0, .int .i64 0, .int .i64 0, .int .i64 0, .slice none 0 0, .bool false, .bool false] 198)).alloc (.cells #[.slice a L.length cap] 282)) from bk5)
  have hbx : ∀ W, Upto (w.heap.size + 1) ((w.alloc (.cells #[.int .i64 0, .int .i64 0, .int .i64 0, .int .i64 0, .int .i64 0, .int .i64 0, .int .i64 0, .int .i64 0, .bool false, .int .u64 0, .int .u64 0, .int .i64 0, .bool false, .int .i64 0, .int .i64 0, .int .i64 0, .int .i64 0, .int .i64 0, .slice none 0 0, .slice none 0 0, .bool false, .int .i64 0, .bool false, .int .u64 0, .int .u64 0, .int .i64 0, .int .i64 0, .int .i64 0, .slice none 0 0, .bool false, .bool false] 198)).alloc (.cells #[.slice a L.length cap] 282)) W → isRow W w.heap.size 198 31 = true ∧ rowOf W w.heap.size = #[.int .i64 0, .int .i64 0, .int .i64 0, .int .i64 0, .int .i64 0, .int .i64 0, .int .i64 0, .int .i64 0, .bool false, .int .u64 0, .int .u64 0, .int .i64 0, .bool false, .int .i64 0, .int .i64 0, .int .i64 0, .int .i64 0, .int .i64 0, .slice none 0 0, .slice none 0 0, .bool false, .int .i64 0, .bool false, .int .u64 0, .int .u64 0, .int .i64 0, .int .i64 0, .int .i64 0, .slice none 0 0, .bool false, .bool false] ∧ isCells W w.heap.size = true ∧ w.heap.size < W.heap.size ∧ Below w.heap.size w W := fun W hW => by
    obtain ⟨x1, x2, x3, x4, x5, x6, x7, x8, x9, x10⟩ := alikeU hW
    have hn0 : ¬ (w.heap.size = w.heap.size + 1) := by omega
    have s0 : w.heap.size < ((w.alloc (.cells #[.int .i64 0, .int .i64 0, .int .i64 0, .int .i64 0, .int .i64 0, .int .i64 0, .int .i64 0, .int .i64 0, .bool false, .int .u64 0, .int .u64 0, .int .i64 0, .bool false, .int .i64 0, .int .i64 0, .int .i64 0, .int .i64 0, .int .i64 0, .slice none 0 0, .slice none 0 0, .bool false, .int .i64 0, .bool false, .int .u64 0, .int .u64 0, .int .i64 0, .int .i64 0, .int .i64 0, .slice none 0 0, .bool false, .bool false] 198)).alloc (.cells #[.slice a L.length cap] 282)).heap.size := by simp; omega
    exact ⟨by rw [x1 _ _ _ s0 hn0]; simp [go_sem], by rw [x2 _ s0 hn0]; simp [go_sem], by rw [x8 _ s0 hn0]; simp [go_sem], x10 _ s0, HBx.out.trans (hW.below (by omega) (by omega))⟩
  rw [← hD]
  clear hD
  refine (accept_law (w.heap.size + 1) most S c L hS0 hS1 hmost HN.out _ HT hnn).mono ?_
  intro e w1 ht
  unfold Tells at ht
  cases hr : Pm.accept ⟨most, S, prt S⟩ c L with
  | bad => exact absurd hr HN.out
  | pause o =>
    rw [hr] at ht
    obtain ⟨rfl, hu⟩ := ht
    obtain ⟨b1, b2, b3, b4, b5⟩ := hbx _ hu
    go_wp2
    refine leaves_cons (f := 187) (args := #[.pointer (some ⟨w.heap.size, 0, none⟩)]) (by simp) (by simp [go_sem]) ?_
    refine (catch_pause w.heap.size (opC o) (opC_size o) (opC_ones o) [] _ b1).mono ?_
    rintro e u' w2 ⟨rfl, rfl, rfl⟩
    have ht1 := turnOp_size (opC_size o)
    refine ⟨_, res_row (t := 198) Tryz.results135 _ _ w.heap.size rfl ?_ ?_ info198 agg198, rfl, ?_⟩
    · rw [isRow_past _ _ _ _ _ (by rw [sr_size]; exact b4)]; exact sr_isRow _ b1 ht1
    · rw [rowOf_past _ _ _ (by rw [sr_size]; exact b4)]; rw [hr]; exact sr_row _ b3
    · exact (below_setRow b5 (Nat.le_refl _) _).alloc (by rw [sr_size]; omega) _
  | done b r =>
    rw [hr] at ht
    obtain ⟨v, rfl, rfl, hA, hu⟩ := ht
    have he := turn_done b r
    rw [← hr] at he
    obtain ⟨b1, b2, b3, b4, b5⟩ := hbx _ hu
    unfold replyC
    generalize (if b = true then (0 : Int) else 5) = q at *
    clear hA hu hr
    go_wp2
    refine leaves_cons (f := 187) (args := #[.pointer (some ⟨w.heap.size, 0, none⟩)]) (by simp) (by simp [go_sem]) ?_
    refine (catch_idle w.heap.size _).mono ?_
    rintro e u' w2 ⟨rfl, rfl, rfl⟩
    refine ⟨_, res_row (t := 198) Tryz.results135 _ _ w.heap.size rfl ?_ ?_ info198 agg198, rfl, ?_⟩
    · exact sr_isRow _ b1 rfl
    · rw [he]; exact sr_row _ b3
    · exact below_setRow b5 (Nat.le_refl _) _
end
section
open Go.RowKit
attribute [local go_sem ↓] exec_load_101 exec_store_101 exec_load_103 exec_store_103 exec_load_75 exec_store_75 exec_load_64 exec_store_64 exec_load_203 exec_store_203 exec_load_36 exec_store_36 exec_load_29 exec_store_29 exec_load_41 exec_store_41
attribute [local go_sem] run_load101r run_store101i run_load103r run_store103i run_load75r run_store75i run_load64r run_store64i run_load203r run_store203i run_load36r run_store36i run_load29r run_store29i run_load41r run_store41i lt_up isRng_new rngOf_new isRange_past rangeOf_past isRange_drew rangeOf_drew fits_new fits_past fits_drew setAt_new setAt_past setAt_drew putAt_whole putAt_lit extract_whole extract_lit one_int one_bool one_slice one_ptr ones_lit onesL_nil onesL_cons isRow_new rowOf_new isRow_past rowOf_past isRow_drew rowOf_drew lt2 lt3 lt4 List.take_succ_cons List.take_zero List.drop_succ_cons List.drop_zero List.cons_append List.nil_append List.length_cons List.length_nil List.size_toArray setRow_new setRow_past own_cell own_frozen own_set own_isRange own_rangeOf own_fits setAt_row sr_sr sr_size sr_row sr_row' sr_isRow sr_isRow' sr_fits' sr_cell' sr_frozen' sr_isRange' sr_rangeOf' sr_isCells isCells_new isCells_past isCells_drew valC_size valC_ones opC_size opC_ones replyC_size srs_isRange srs_rangeOf srs_fits srs_cell srs_frozen hmeth_Lock hahead_Lock hmeth_Share hahead_Share hmeth_Free hahead_Free hmeth_Drop hahead_Drop hmeth_Load hahead_Load hmeth_Store hahead_Store hmeth_Swap hahead_Swap f103_num f103_nowho f103_who f103_bans f103_0 f103_1 f103_2
theorem drew_sizeK (w : World) : w.drew.heap.size = w.heap.size := id rfl
attribute [local go_sem high] drew_sizeK
attribute [local simp high] drew_sizeK
structure Fresh1 (C : Array Value) : Prop extends Fresh0 C where
  h18 : ∃ x, C[18]? = some x
  h20 : ∃ x, C[20]? = some x
  h21 : ∃ x, C[21]? = some x
  h22 : C[22]? = some (.int .i32 0)
def AccEnd (M c : Nat) (C : Array Value) (w : World) (e : Ending) (w' : World) : Prop := ∃ sl, e = .returned (.agg (#[.int .i64 0, .bool false, .int .u64 0, .int .u64 0, .int .i64 0, .int .i64 0, .int .i64 0, .slice none 0 0])) ∧ Upto M w w' ∧ isRow w' M 134 60 = true ∧ rowOf w' M = (((((((C.setIfInBounds 22 (.int .i32 1)).setIfInBounds 32 (.int .i32 1)).setIfInBounds 16 (.int .i64 1)).setIfInBounds 35 sl).setIfInBounds 34 (.int .i64 1)).setIfInBounds 32 (.int .i32 0)).setIfInBounds 22 (.int .i32 0)) ∧ Own w' w.heap.size 75 10 sl [#[.bool false, .int .u64 0, .int .u64 (loOf c), .int .i64 80, .bool true, .int .i64 (Pm.tOf c), .int .i64 0, .int .i64 (Pm.tOf c), .int .i64 0, .int .i64 0]]
theorem accept_h (M c : Nat) (hp : prt 4 c = 1) (C : Array Value) (hF : Fresh1 C) (w : World) (hr : isRow w M 134 60 = true) (hC : rowOf w M = C) :
    Calls Tryz.prog 101 #[.agg (doorC 2 4 c), .iface 140 (.agg #[.pointer (some ⟨M, 0, none⟩)])] w (AccEnd M c C w) := by
  have ed : doorC 2 4 c = #[.int .i64 2, .int .i64 4, .int .i64 4, .int .i64 64, .int .i64 64, .int .u64 1, .int .i64 1, .int .i64 1, .int .i64 1, .int .i64 64, .int .i64 100, .int .i64 100, .int .i64 1000, .int .i64 2, .int .i64 64, .int .i64 4, .int .i64 1, .bool false, .int .u64 0, .int .u64 (loOf c), .int .i64 80, .bool false, .int .u64 0, .int .u64 0, .int .i64 0, .int .i64 (Pm.tOf c), .int .i64 0, .bool false] := rfl
  have HED := Lib.hid ed
  have hM := row_lt hr
  have hz := row_size hr hC
  obtain ⟨x18, h18⟩ := hF.h18
  obtain ⟨x20, h20⟩ := hF.h20
  obtain ⟨x21, h21⟩ := hF.h21
  have ht0 : 0 ≤ (Pm.tOf c : Int) := by omega
  have ht1 : (Pm.tOf c : Int) ≤ 1099511627776 := by unfold Pm.tOf; split <;> omega
  rw [ed]
  clear ed
  have hbx : ∀ W, Upto M ((w.alloc (.cells (#[.int .i64 2, .int .i64 4, .int .i64 4, .int .i64 64, .int .i64 64, .int .u64 1, .int .i64 1, .int .i64 1, .int .i64 1, .int .i64 64, .int .i64 100, .int .i64 100, .int .i64 1000, .int .i64 2, .int .i64 64, .int .i64 4, .int .i64 1, .bool false, .int .u64 0, .int .u64 (loOf c), .int .i64 80, .bool false, .int .u64 0, .int .u64 0, .int .i64 0, .int .i64 (Pm.tOf c), .int .i64 0, .bool false]) 203)).alloc (.cells (#[.int .i64 0, .bool false, .int .u64 0, .int .u64 0, .int .i64 0, .int .i64 0, .int .i64 0, .slice none 0 0]) 64)) W → isRow W w.heap.size 203 28 = true ∧ rowOf W w.heap.size = #[.int .i64 2, .int .i64 4, .int .i64 4, .int .i64 64, .int .i64 64, .int .u64 1, .int .i64 1, .int .i64 1, .int .i64 1, .int .i64 64, .int .i64 100, .int .i64 100, .int .i64 1000, .int .i64 2, .int .i64 64, .int .i64 4, .int .i64 1, .bool false, .int .u64 0, .int .u64 (loOf c), .int .i64 80, .bool false, .int .u64 0, .int .u64 0, .int .i64 0, .int .i64 (Pm.tOf c), .int .i64 0, .bool false] ∧ isRow W (w.heap.size + 1) 64 8 = true ∧ rowOf W (w.heap.size + 1) = #[.int .i64 0, .bool false, .int .u64 0, .int .u64 0, .int .i64 0, .int .i64 0, .int .i64 0, .slice none 0 0] ∧ isCells W w.heap.size = true ∧ isCells W (w.heap.size + 1) = true ∧ w.heap.size + 1 < W.heap.size := fun W hW => by
    obtain ⟨x1, x2, x3, x4, x5, x6, x7, x8, x9, x10⟩ := alikeU hW
    have s0 : w.heap.size < ((w.alloc (.cells (#[.int .i64 2, .int .i64 4, .int .i64 4, .int .i64 64, .int .i64 64, .int .u64 1, .int .i64 1, .int .i64 1, .int .i64 1, .int .i64 64, .int .i64 100, .int .i64 100, .int .i64 1000, .int .i64 2, .int .i64 64, .int .i64 4, .int .i64 1, .bool false, .int .u64 0, .int .u64 (loOf c), .int .i64 80, .bool false, .int .u64 0, .int .u64 0, .int .i64 0, .int .i64 (Pm.tOf c), .int .i64 0, .bool false]) 203)).alloc (.cells (#[.int .i64 0, .bool false, .int .u64 0, .int .u64 0, .int .i64 0, .int .i64 0, .int .i64 0, .slice none 0 0]) 64)).heap.size := by simp; omega
    have s1 : w.heap.size + 1 < ((w.alloc (.cells (#[.int .i64 2, .int .i64 4, .int .i64 4, .int .i64 64, .int .i64 64, .int .u64 1, .int .i64 1, .int .i64 1, .int .i64 1, .int .i64 64, .int .i64 100, .int .i64 100, .int .i64 1000, .int .i64 2, .int .i64 64, .int .i64 4, .int .i64 1, .bool false, .int .u64 0, .int .u64 (loOf c), .int .i64 80, .bool false, .int .u64 0, .int .u64 0, .int .i64 0, .int .i64 (Pm.tOf c), .int .i64 0, .bool false]) 203)).alloc (.cells (#[.int .i64 0, .bool false, .int .u64 0, .int .u64 0, .int .i64 0, .int .i64 0, .int .i64 0, .slice none 0 0]) 64)).heap.size := by simp
    have hn0 : ¬ (w.heap.size = M) := by omega
    have hn1 : ¬ (w.heap.size + 1 = M) := by omega
    refine ⟨by rw [x1 _ _ _ s0 hn0]; simp [go_sem], by rw [x2 _ s0 hn0]; simp [go_sem], by rw [x1 _ _ _ s1 hn1]; simp [go_sem], by rw [x2 _ s1 hn1]; simp [go_sem], by rw [x8 _ s0 hn0]; simp [go_sem], by rw [x8 _ s1 hn1]; simp [go_sem], x10 _ s1⟩
  have hU0 : Below w.heap.size w ((w.alloc (.cells (#[.int .i64 2, .int .i64 4, .int .i64 4, .int .i64 64, .int .i64 64, .int .u64 1, .int .i64 1, .int .i64 1, .int .i64 1, .int .i64 64, .int .i64 100, .int .i64 100, .int .i64 1000, .int .i64 2, .int .i64 64, .int .i64 4, .int .i64 1, .bool false, .int .u64 0, .int .u64 (loOf c), .int .i64 80, .bool false, .int .u64 0, .int .u64 0, .int .i64 0, .int .i64 (Pm.tOf c), .int .i64 0, .bool false]) 203)).alloc (.cells (#[.int .i64 0, .bool false, .int .u64 0, .int .u64 0, .int .i64 0, .int .i64 0, .int .i64 0, .slice none 0 0]) 64)) := bk5
  obtain ⟨hr0, hC0⟩ := row_keep hr hC hU0
  generalize hW0 : ((w.alloc (.cells (#[.int .i64 2, .int .i64 4, .int .i64 4, .int .i64 64, .int .i64 64, .int .u64 1, .int .i64 1, .int .i64 1, .int .i64 1, .int .i64 64, .int .i64 100, .int .i64 100, .int .i64 1000, .int .i64 2, .int .i64 64, .int .i64 4, .int .i64 1, .bool false, .int .u64 0, .int .u64 (loOf c), .int .i64 80, .bool false, .int .u64 0, .int .u64 0, .int .i64 0, .int .i64 (Pm.tOf c), .int .i64 0, .bool false]) 203)).alloc (.cells (#[.int .i64 0, .bool false, .int .u64 0, .int .u64 0, .int .i64 0, .int .i64 0, .int .i64 0, .slice none 0 0]) 64)) = W0 at hbx hU0 hr0 hC0
  go_enter Tryz.func101, Tryz.ntmps101
  obtain ⟨b1, b2, b3, b4, b5, b6, b7⟩ := hbx _ (Upto.refl _ _)
  go_wp2_with fail
  refine (call_right c _ ht0 ht1 _).mono ?_
  rintro e w1 ⟨rfl, hb⟩
  obtain ⟨hr1, hC1⟩ := row_keep hr0 hC0 hb
  have U1 := Lib.hid (Upto.of_below (T := M) hb)
  clear hb
  obtain ⟨b1, b2, b3, b4, b5, b6, b7⟩ := hbx _ U1.out
  go_wp2_with fail
  refine (h_share M C x18 x20 x21 h18 h20 h21 hF.h22 _ hr1 hC1).mono ?_
  rintro e w2 ⟨rfl, hu, hr2, hC2⟩
  have U2 := Lib.hid (U1.out.trans hu)
  clear hu
  obtain ⟨b1, b2, b3, b4, b5, b6, b7⟩ := hbx _ U2.out
  have g : Fresh0 (C.setIfInBounds 22 (.int .i32 1)) := ⟨by rw [get_ne (by decide)]; exact hF.h16, by rw [get_ne (by decide)]; exact hF.h24, by rw [get_ne (by decide)]; exact hF.h32, by rw [get_ne (by decide)]; exact hF.h34, by rw [get_ne (by decide)]; exact hF.h35⟩
  go_wp2_with fail
  refine (h_load_bans M _ g.h24 _ hr2 hC2).mono ?_
  rintro e w3 ⟨rfl, hb⟩
  obtain ⟨hr3, hC3⟩ := row_keep hr2 hC2 hb
  have U3 := Lib.hid (U2.out.trans (Upto.of_below (T := M) hb))
  clear hb
  obtain ⟨b1, b2, b3, b4, b5, b6, b7⟩ := hbx _ U3.out
  go_wp2_with fail
  refine (until_none c _ _).mono ?_
  rintro e w4 ⟨rfl, hb⟩
  obtain ⟨hr4, hC4⟩ := row_keep hr3 hC3 hb
  have U4 := Lib.hid (U3.out.trans (Upto.of_below (T := M) hb))
  clear hb
  obtain ⟨b1, b2, b3, b4, b5, b6, b7⟩ := hbx _ U4.out
  have hM4 := row_lt hr4
  go_wp2_with fail
  rw [← HED.out]
  refine (quick_h M c hp _ g _ hr4 hC4).mono ?_
  rintro e w5 ⟨sl, rfl, hu, hr5, hC5, ho⟩
  have U5 := Lib.hid (U4.out.trans hu)
  have HO5 := Lib.hid ho
  have hs4 : w.heap.size + 1 < w4.heap.size := b7
  clear hu ho
  obtain ⟨b1, b2, b3, b4, b5, b6, b7⟩ := hbx _ U5.out
  have m18 : ((((((C.setIfInBounds 22 (.int .i32 1)).setIfInBounds 32 (.int .i32 1)).setIfInBounds 16 (.int .i64 1)).setIfInBounds 35 sl).setIfInBounds 34 (.int .i64 1)).setIfInBounds 32 (.int .i32 0))[18]? = some x18 := by rw [get_ne (by decide), get_ne (by decide), get_ne (by decide), get_ne (by decide), get_ne (by decide), get_ne (by decide)]; exact h18
  have m20 : ((((((C.setIfInBounds 22 (.int .i32 1)).setIfInBounds 32 (.int .i32 1)).setIfInBounds 16 (.int .i64 1)).setIfInBounds 35 sl).setIfInBounds 34 (.int .i64 1)).setIfInBounds 32 (.int .i32 0))[20]? = some x20 := by rw [get_ne (by decide), get_ne (by decide), get_ne (by decide), get_ne (by decide), get_ne (by decide), get_ne (by decide)]; exact h20
  have m21 : ((((((C.setIfInBounds 22 (.int .i32 1)).setIfInBounds 32 (.int .i32 1)).setIfInBounds 16 (.int .i64 1)).setIfInBounds 35 sl).setIfInBounds 34 (.int .i64 1)).setIfInBounds 32 (.int .i32 0))[21]? = some x21 := by rw [get_ne (by decide), get_ne (by decide), get_ne (by decide), get_ne (by decide), get_ne (by decide), get_ne (by decide)]; exact h21
  have m22 : ((((((C.setIfInBounds 22 (.int .i32 1)).setIfInBounds 32 (.int .i32 1)).setIfInBounds 16 (.int .i64 1)).setIfInBounds 35 sl).setIfInBounds 34 (.int .i64 1)).setIfInBounds 32 (.int .i32 0))[22]? = some (.int .i32 1) := by rw [get_ne (by decide), get_ne (by decide), get_ne (by decide), get_ne (by decide), get_ne (by decide), get_eq (by omega)]
  have hM5 := row_lt hr5
  have bw5 : Below w5.heap.size w5 (w5.alloc (.cells (#[.int .i64 0, .bool false, .int .u64 0, .int .u64 0, .int .i64 0, .int .i64 0, .int .i64 0, .slice none 0 0]) 64)) := bk5
  have hU5 : Upto M W0 (w5.alloc (.cells (#[.int .i64 0, .bool false, .int .u64 0, .int .u64 0, .int .i64 0, .int .i64 0, .int .i64 0, .slice none 0 0]) 64)) := U5.out.alloc _
  obtain ⟨b1, b2, b3, b4, b5, b6, b7⟩ := hbx _ hU5
  obtain ⟨hr6, hC6⟩ := row_keep hr5 hC5 bw5
  have c1 : isRow (w5.alloc (.cells (#[.int .i64 0, .bool false, .int .u64 0, .int .u64 0, .int .i64 0, .int .i64 0, .int .i64 0, .slice none 0 0]) 64)) w5.heap.size 64 8 = true := by go_simp
  have c2 : rowOf (w5.alloc (.cells (#[.int .i64 0, .bool false, .int .u64 0, .int .u64 0, .int .i64 0, .int .i64 0, .int .i64 0, .slice none 0 0]) 64)) w5.heap.size = #[.int .i64 0, .bool false, .int .u64 0, .int .u64 0, .int .i64 0, .int .i64 0, .int .i64 0, .slice none 0 0] := by go_simp
  go_wp2_with fail
  generalize hCQ : ((((((C.setIfInBounds 22 (.int .i32 1)).setIfInBounds 32 (.int .i32 1)).setIfInBounds 16 (.int .i64 1)).setIfInBounds 35 sl).setIfInBounds 34 (.int .i64 1)).setIfInBounds 32 (.int .i32 0)) = CQ at *
  generalize w5.alloc (.cells (#[.int .i64 0, .bool false, .int .u64 0, .int .u64 0, .int .i64 0, .int .i64 0, .int .i64 0, .slice none 0 0]) 64) = W6 at *
  refine (h_drop M CQ x18 x20 x21 m18 m20 m21 m22 _ hr6 hC6).mono ?_
  rintro e w7 ⟨rfl, hu, hr7, hC7⟩
  have U7 := Lib.hid (hU5.trans hu)
  have d0 := (alikeU hu).1 _ 64 8 (row_lt c1) (by omega)
  have d1 : isRow w7 w5.heap.size 64 8 = true := d0.trans c1
  have d2 : rowOf w7 w5.heap.size = #[.int .i64 0, .bool false, .int .u64 0, .int .u64 0, .int .i64 0, .int .i64 0, .int .i64 0, .slice none 0 0] := ((alikeU hu).2.1 _ (row_lt c1) (by omega)).trans c2
  have d3 := isCells_row d1
  have d4 := row_lt d1
  have HO7 := Lib.hid ((HO5.out.below bw5).upto hu (by omega))
  clear hu d0
  obtain ⟨b1, b2, b3, b4, b5, b6, b7⟩ := hbx _ U7.out
  have hs5 : w.heap.size + 1 < w5.heap.size := by have := U5.out.size; omega
  have n5 : ¬ (w5.heap.size = w.heap.size + 1) := by omega
  subst hCQ
  go_wp2
  refine bodyPost_ret (v := .agg (#[.int .i64 0, .bool false, .int .u64 0, .int .u64 0, .int .i64 0, .int .i64 0, .int .i64 0, .slice none 0 0])) (res_row (t := 64) Tryz.results101 _ _ _ rfl ?_ ?_ info64 agg64) rfl ?_
  · exact sr_isRow _ b3 rfl
  · exact sr_row _ b6
  exact ⟨sl, rfl, upto_setRow ((Upto.of_below hU0).trans U7.out) (by omega) _, (sr_isRow' _ _ _ _ _ _ (by omega)).trans hr7, (sr_row' _ _ _ _ (by omega)).trans hC7, (HO7.out.upto (T := w.heap.size + 1) (upto_own (Upto.refl _ _) _) (by omega)).weaken (by omega)⟩
/-- Manager.Do, of an accept. -/
theorem live_do (M c : Nat) (hp : prt 4 c = 1) (C : Array Value) (hF : Fresh1 C) (hconf : C.extract 0 16 = #[.int .i64 2, .int .i64 4, .int .i64 4, .int .i64 64, .int .i64 64, .int .u64 1, .int .i64 1, .int .i64 1, .int .i64 1, .int .i64 64, .int .i64 100, .int .i64 100, .int .i64 1000, .int .i64 2, .int .i64 64, .int .i64 4]) (w : World) (hr : isRow w M 134 60 = true) (hC : rowOf w M = C) :
    Calls Tryz.prog 17 #[.pointer (some ⟨M, 0, none⟩), .agg (#[.int .i64 1, .bool false, .int .u64 0, .int .u64 (loOf c), .int .i64 80, .bool false, .int .u64 0, .int .u64 0, .int .i64 0, .int .i64 (Pm.tOf c), .int .i64 0, .bool false])] w (AccEnd M c C w) := by
  have hM := row_lt hr
  have hz := row_size hr hC
  go_enter Tryz.func17, Tryz.ntmps17
  go_wp2
  have bw : Below w.heap.size w ((w.alloc (.cells (#[.int .i64 1, .bool false, .int .u64 0, .int .u64 (loOf c), .int .i64 80, .bool false, .int .u64 0, .int .u64 0, .int .i64 0, .int .i64 (Pm.tOf c), .int .i64 0, .bool false]) 41)).alloc (.cells (#[.int .i64 0, .bool false, .int .u64 0, .int .u64 0, .int .i64 0, .int .i64 0, .int .i64 0, .slice none 0 0]) 64)) := bk5
  obtain ⟨hrW, hCW⟩ := row_keep hr hC bw
  obtain ⟨WG, hWG⟩ : ∃ W, (w.alloc (.cells (#[.int .i64 1, .bool false, .int .u64 0, .int .u64 (loOf c), .int .i64 80, .bool false, .int .u64 0, .int .u64 0, .int .i64 0, .int .i64 (Pm.tOf c), .int .i64 0, .bool false]) 41)).alloc (.cells (#[.int .i64 0, .bool false, .int .u64 0, .int .u64 0, .int .i64 0, .int .i64 0, .int .i64 0, .slice none 0 0]) 64) = W := ⟨_, rfl⟩
  have bR0 : isRow WG (w.heap.size) 41 12 = true := by subst hWG; go_simp
  have bV0 : rowOf WG (w.heap.size) = #[.int .i64 1, .bool false, .int .u64 0, .int .u64 (loOf c), .int .i64 80, .bool false, .int .u64 0, .int .u64 0, .int .i64 0, .int .i64 (Pm.tOf c), .int .i64 0, .bool false] := by subst hWG; go_simp
  have bC0 := isCells_row bR0
  have bL0 := row_lt bR0
  have bR1 : isRow WG (w.heap.size + 1) 64 8 = true := by subst hWG; go_simp
  have bV1 : rowOf WG (w.heap.size + 1) = #[.int .i64 0, .bool false, .int .u64 0, .int .u64 0, .int .i64 0, .int .i64 0, .int .i64 0, .slice none 0 0] := by subst hWG; go_simp
  have bC1 := isCells_row bR1
  have bL1 := row_lt bR1
  have hn0 : w.heap.size ≠ M := by omega
  have hn1 : w.heap.size + 1 ≠ M := by omega
  have hcW := isCells_row hrW
  have HTC := Lib.hid (fun (W : World) => (show Calls Tryz.prog 37 #[.agg (#[.int .i64 2, .int .i64 4, .int .i64 4, .int .i64 64, .int .i64 64, .int .u64 1, .int .i64 1, .int .i64 1, .int .i64 1, .int .i64 64, .int .i64 100, .int .i64 100, .int .i64 1000, .int .i64 2, .int .i64 64, .int .i64 4]), .agg (#[.int .i64 1, .bool false, .int .u64 0, .int .u64 (loOf c), .int .i64 80, .bool false, .int .u64 0, .int .u64 0, .int .i64 0, .int .i64 (Pm.tOf c), .int .i64 0, .bool false])] W fun e w' => e = .returned (.func (.func 101) #[.agg (#[.int .i64 2, .int .i64 4, .int .i64 4, .int .i64 64, .int .i64 64, .int .u64 1, .int .i64 1, .int .i64 1, .int .i64 1, .int .i64 64, .int .i64 100, .int .i64 100, .int .i64 1000, .int .i64 2, .int .i64 64, .int .i64 4, .int .i64 1, .bool false, .int .u64 0, .int .u64 (loOf c), .int .i64 80, .bool false, .int .u64 0, .int .u64 0, .int .i64 0, .int .i64 (Pm.tOf c), .int .i64 0, .bool false])] #[]) ∧ Below W.heap.size W w' from task_code 2 4 c W))
  have hx0 : 0 + 16 ≤ C.size := by omega
  have hx1 : 16 ≤ C.size := by omega
  have hMW := row_lt hrW
  generalize (w.alloc (.cells (#[.int .i64 1, .bool false, .int .u64 0, .int .u64 (loOf c), .int .i64 80, .bool false, .int .u64 0, .int .u64 0, .int .i64 0, .int .i64 (Pm.tOf c), .int .i64 0, .bool false]) 41)).alloc (.cells (#[.int .i64 0, .bool false, .int .u64 0, .int .u64 0, .int .i64 0, .int .i64 0, .int .i64 0, .slice none 0 0]) 64) = W0 at *
  subst hWG
  have bwz : w.heap.size + 1 < W0.heap.size := bL1
  refine region_treeZ 10 (by kernel_rfl) (Upto M W0) [0, 1, 2, 4, 6, 7, 8] 4 (by kernel_rfl) (by kernel_rfl) (fun _ _ d _ _ h => by cases d <;> exact h) (Upto.refl _ _).drew ?_
  simp only [PL]
  apply reads_op
  · exact bk3
  try simp only [PT]
  apply reads_op
  · exact bk3
  try simp only [PT]
  apply reads_op
  · exact bk3
  try simp only [PT]
  apply reads_op
  · exact bk3
  try simp only [PT]
  apply reads_op
  · exact bk3
  try simp only [PT]
  apply reads_op
  · exact bk3
  try simp only [PT]
  apply reads_op
  · exact bk3
  try simp only [PT]
  refine reads_nil ?_
  refine treeZ_one 3 (by kernel_rfl) (by kernel_rfl) ?_
  simp only [nthL]
  go_wp2_with fail
  refine chain_on (bk60) ?_
  refine treeZ_one 5 (by kernel_rfl) (by kernel_rfl) ?_
  simp only [nthL]
  go_wp2_with fail
  refine (HTC.out _).mono ?_
  rintro e w1 ⟨rfl, hb⟩
  have hk1 := Keep.mk (show Below W0.heap.size W0 w1 from ((Below.refl W0.heap.size W0).drew).trans hb)
  obtain ⟨hr1, hC1⟩ := row_keep hrW hCW hk1.out
  have d0 := (alike hk1.out).1 _ 64 8 bL1
  have d1 : isRow w1 (w.heap.size + 1) 64 8 = true := d0.trans bR1
  have d2 : rowOf w1 (w.heap.size + 1) = #[.int .i64 0, .bool false, .int .u64 0, .int .u64 0, .int .i64 0, .int .i64 0, .int .i64 0, .slice none 0 0] := ((alike hk1.out).2.1 _ bL1).trans bV1
  have d3 := isCells_row d1
  clear hb d0
  go_wp2
  refine chain_on (bk60) ?_
  refine treeZ_one 9 (by kernel_rfl) (by kernel_rfl) ?_
  simp only [nthL]
  go_wp2_with fail
  refine (accept_h M c hp C hF _ hr1 hC1).mono ?_
  rintro e w2 ⟨sl, rfl, hu, hr2, hC2, ho⟩
  have hU2 := Lib.hid (show Upto M W0 w2 from (Upto.of_below hk1.out).trans hu)
  have e0 := (alikeU hu).1 _ 64 8 (row_lt d1) hn1
  have e1 : isRow w2 (w.heap.size + 1) 64 8 = true := e0.trans d1
  have e2 : rowOf w2 (w.heap.size + 1) = #[.int .i64 0, .bool false, .int .u64 0, .int .u64 0, .int .i64 0, .int .i64 0, .int .i64 0, .slice none 0 0] := ((alikeU hu).2.1 _ (row_lt d1) hn1).trans d2
  have e3 := isCells_row e1
  have HO2 := Lib.hid ho
  have hsw : W0.heap.size ≤ w1.heap.size := hk1.out.size
  clear hu ho e0
  go_wp2
  refine chain_on (bk60) ?_
  refine treeZ_last 10 rfl (by kernel_rfl) (by kernel_rfl) ?_
  simp only [nthL]
  go_wp2_with fail
  refine chain_on trivial ?_
  refine treeZ_end (by kernel_rfl) ?_
  go_wp2
  refine bodyPost_ret (v := .agg (#[.int .i64 0, .bool false, .int .u64 0, .int .u64 0, .int .i64 0, .int .i64 0, .int .i64 0, .slice none 0 0])) (res_row (t := 64) Tryz.results17 _ _ _ rfl ?_ ?_ info64 agg64) rfl ?_
  · exact sr_isRow _ e1 rfl
  · exact sr_row _ e3
  exact ⟨sl, rfl, upto_setRow ((Upto.of_below bw).trans hU2.out) (by omega) _, (sr_isRow' _ _ _ _ _ _ (by omega)).trans hr2, (sr_row' _ _ _ _ (by omega)).trans hC2, (HO2.out.upto (T := w.heap.size + 1) (upto_own (Upto.refl _ _) _) (by omega)).weaken (by omega)⟩
end
end Go.Proofs.YtnncjbkepakgpaaGreat
