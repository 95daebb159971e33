/-
  A REGION THAT DRAWS: operations that leave what lay in memory as it was, in any order; then the last ones, one by one.
  SMALL FUNCTIONS.
  CALLS THAT ACCEPT ARE RIGHT.
  NO BANS.
  NOBODY OF THE LIST HAS THE END.
-/
import Derived.Test.YtnncjbkepakgpaaGreatA07
import Derived.BigQuiet
import Derived.Test.YtnncjbkepakgpaaGreatA06
import Derived.Lib.MinMax
import Derived.Deep.RegionWith
import Derived.Test.YtnncjbkepakgpaaGreatA01
namespace Go.Proofs.YtnncjbkepakgpaaGreat
set_option linter.unusedVariables false
set_option linter.unusedSimpArgs false
set_option maxRecDepth 100000
set_option maxHeartbeats 4000000
section
open Go.RowKit
theorem lt_up {a b : Nat} (h : a < b) : (a < b + 1) = True := eq_true (Nat.lt_succ_of_lt h)
/-- What lay in w lies as it was. -/
structure Keep (w W : World) : Prop where
  out : Below w.heap.size w W
theorem below_next {w W W' : World} (h : Keep w W) (k : Below W.heap.size W W') : Keep w W' := ⟨h.out.trans (k.mono h.out.size)⟩
theorem Keep.since {B : Nat} {w w0 W : World} (h : Keep w0 W) (k : Below B w w0) (hB : B ≤ w0.heap.size) : Below B w W := k.trans (h.out.mono hB)
theorem region_below {P : Program} {Q : Exit → Act → World → Prop} {id : Nat} {a : Act} {w : World} {l : List Oper} (qs rs : List Nat) (hm : P.follows .mixedOrders = true) (hB : mixB l [] qs rs = true) (hQ : ∀ c (a : Act) d v w, Q (.panic c) (a.put d v) w → Q (.panic c) a w)
    (h : wpQuiet P l.toArray (Keep w) (fun a' => ∀ w', Keep w w' → wpList P l.toArray Q (pickL l rs) a' w') (pickL l qs) a) : (Code.region id l.toArray true).wp P Q a w :=
  region_mixed (Keep w) [] qs rs hm hB hQ ⟨(Below.refl _ _).drew⟩ h
theorem region_keep {P : Program} {Q : Exit → Act → World → Prop} {id : Nat} {a : Act} {w : World} {l : List Oper} (fs qs rs : List Nat) (hm : P.follows .mixedOrders = true) (hB : mixB l fs qs rs = true) (hQ : ∀ c (a : Act) d v w, Q (.panic c) (a.put d v) w → Q (.panic c) a w)
    (h : wpFirst P (wpQuiet P l.toArray (Keep w) (fun a' => ∀ w', Keep w w' → wpList P l.toArray Q (pickL l rs) a' w') (pickL l qs)) (pickL l fs) a) : (Code.region id l.toArray true).wp P Q a w :=
  region_mixed (Keep w) fs qs rs hm hB hQ ⟨(Below.refl _ _).drew⟩ h
theorem region_still {P : Program} {Q : Exit → Act → World → Prop} {id : Nat} {a : Act} {w : World} {l : List Oper} (hm : P.follows .mixedOrders = true) (hB : Region.lexB .any l.toArray = true)
    (h : wpQuiet P l.toArray (Keep w) (fun a' => ∀ w', Keep w w' → Q .normal a' w') l a) : (Code.region id l.toArray true).wp P Q a w :=
  wp_region_quiet (C := Keep w) hm hB ⟨(Below.refl _ _).drew⟩ (by simpa using h)
/-! Results: two. -/
theorem load_res {ty t : TypeId} {n : Nat} {C : Array Value} (W : World) (g : Nat) (hr : isRow W g t n = true) (hC : rowOf W g = C) (hi : (Tryz.prog.info? ty).map (·.size) = some n) (hagg : ∀ w, (isAgg ty).run Tryz.prog w = .ok true w) : (loadVar ty ⟨g, 0, none⟩).run Tryz.prog W = .ok (.agg C) W := by
  obtain ⟨h1, h2⟩ := row_heap hr
  rw [hC] at h1 h2
  have hl : (loadCells ⟨g, 0, none⟩ C.toList.length).run Tryz.prog W = .ok C.toList.toArray W :=
    run_loadCells_list (P := Tryz.prog) W ⟨g, 0, none⟩ C.toList (fun j v hv => by
      have hadd : (⟨g, 0, none⟩ : Addr).add j = ⟨g, j, none⟩ := by unfold Addr.add; split <;> simp_all
      rw [hadd, cell_of_row W g j _ t (0, 0) h1]
      simpa using hv)
  cases hq : Tryz.prog.info? ty with
  | none => rw [hq] at hi; cases hi
  | some i =>
    have hs : i.size = C.size := by rw [hq] at hi; rw [h2]; simpa using hi
    simp only [Array.length_toList, Array.toArray_toList] at hl
    simp [loadVar, Sem.run_bind, hagg, sizeOf, typeInfo, hq, hs, hl]
theorem res_row2 {fn : Func} {p q : Tmp} {ty t : TypeId} {n : Nat} {C : Array Value} (h : fn.results = #[.cell p ty, .tmp q]) (tmps : Array Value) (W : World) (g : Nat)
    (hp : tmps.getD p undef = .pointer (some ⟨g, 0, none⟩)) (hr : isRow W g t n = true) (hC : rowOf W g = C) (hi : (Tryz.prog.info? ty).map (·.size) = some n) (hagg : ∀ w, (isAgg ty).run Tryz.prog w = .ok true w) : (results fn tmps).run Tryz.prog W = .ok (.tuple #[.agg C, tmps.getD q undef]) W := by
  have hl := load_res (ty := ty) W g hr hC hi hagg
  have hp' : tmps[p]?.getD undef = .pointer (some ⟨g, 0, none⟩) := by simpa using hp
  simp [results, h, hp', asAddr, Sem.run_bind, hl]
theorem res_rows {fn : Func} {p q : Tmp} {ty t ty' t' : TypeId} {n n' : Nat} {C C' : Array Value} (h : fn.results = #[.cell p ty, .cell q ty']) (tmps : Array Value) (W : World) (g g' : Nat)
    (hp : tmps.getD p undef = .pointer (some ⟨g, 0, none⟩)) (hq : tmps.getD q undef = .pointer (some ⟨g', 0, none⟩)) (hr : isRow W g t n = true) (hC : rowOf W g = C) (hi : (Tryz.prog.info? ty).map (·.size) = some n) (hagg : ∀ w, (isAgg ty).run Tryz.prog w = .ok true w)
    (hr' : isRow W g' t' n' = true) (hC' : rowOf W g' = C') (hi' : (Tryz.prog.info? ty').map (·.size) = some n') (hagg' : ∀ w, (isAgg ty').run Tryz.prog w = .ok true w) : (results fn tmps).run Tryz.prog W = .ok (.tuple #[.agg C, .agg C']) W := by
  have hl := load_res (ty := ty) W g hr hC hi hagg
  have hl' := load_res (ty := ty') W g' hr' hC' hi' hagg'
  have hp' : tmps[p]?.getD undef = .pointer (some ⟨g, 0, none⟩) := by simpa using hp
  have hq' : tmps[q]?.getD undef = .pointer (some ⟨g', 0, none⟩) := by simpa using hq
  simp [results, h, hp', hq', asAddr, Sem.run_bind, hl, hl']
end
section
open Go.RowKit
attribute [local go_sem ↓] exec_load_101 exec_store_101 exec_load_64 exec_store_64 exec_load_75 exec_store_75 exec_load_36 exec_store_36
attribute [local go_sem] run_load101r run_store101i run_load64r run_store64i run_load75r run_store75i run_load36r run_store36i isRng_new rngOf_new isRange_past rangeOf_past isRange_drew rangeOf_drew fits_new fits_past fits_drew setAt_new setAt_past setAt_drew putAt_whole putAt_lit extract_whole extract_lit one_int one_bool one_slice one_ptr ones_lit onesL_nil onesL_cons isRow_new rowOf_new isRow_past rowOf_past isRow_drew rowOf_drew lt2 lt3 lt4 List.take_succ_cons List.take_zero List.drop_succ_cons List.drop_zero List.cons_append List.nil_append List.length_cons List.length_nil List.size_toArray
theorem tailScal1 {p : Prop} (h : p := by
  go_enter Tryz.func118, Tryz.ntmps118
  go_wp2_with (go_at_call 176; refine (nan_int _ _).mono ?_; rintro e w' ⟨rfl, rfl⟩)
  go_ret
  exact ⟨rfl, rfl⟩) : p := h
theorem tailScal2 {p : Prop} (h : p := by
  go_enter Tryz.func175, Tryz.ntmps175
  go_wp2_with (go_at_call 232; refine (nan_u64 _ _).mono ?_; rintro e w' ⟨rfl, rfl⟩)
  go_ret
  exact ⟨rfl, rfl⟩) : p := h
theorem ret_int {k : IntKind} {a b : Int} (h : a = b) : Ending.returned (.int k a) = .returned (.int k b) := by rw [h]
theorem info34 : (Tryz.prog.info? 34).map (·.size) = some 3 := by kernel_rfl
theorem agg34 (w : World) : (isAgg 34).run Tryz.prog w = .ok true w := by unfold isAgg; rw [Sem.run_bind, run_underlying Tryz.underlying34 w]; rfl
/-- tape.size -/
theorem size_any (p : Int) (w : World) : Calls Tryz.prog 245 #[.int .i64 p] w fun e w' => e = .returned (.agg (#[.int .i64 5, .int .i64 p, .int .i64 0])) ∧ w' = w.alloc (.cells (#[.int .i64 5, .int .i64 p, .int .i64 0]) 101) := by
  go_enter Tryz.func245, Tryz.ntmps245
  go_wp2
  exact bodyPost_ret (v := .agg _) (res_row (t := 101) Tryz.results245 _ _ _ rfl (by simp [go_sem]) (by simp [go_sem]) info101 agg101) rfl ⟨rfl, rfl⟩
/-- tape.slot -/
theorem slot_any (p i : Int) (w : World) : Calls Tryz.prog 246 #[.int .i64 p, .int .i64 i] w fun e w' => e = .returned (.agg (#[.int .i64 6, .int .i64 p, .int .i64 i])) ∧ w' = w.alloc (.cells (#[.int .i64 6, .int .i64 p, .int .i64 i]) 101) := by
  go_enter Tryz.func246, Tryz.ntmps246
  go_wp2
  exact bodyPost_ret (v := .agg _) (res_row (t := 101) Tryz.results246 _ _ _ rfl (by simp [go_sem]) (by simp [go_sem]) info101 agg101) rfl ⟨rfl, rfl⟩
/-- admit.refused -/
theorem refused_any (k : Int) (w : World) : Calls Tryz.prog 139 #[.int .i64 k] w fun e w' => e = .returned (.agg (#[.int .i64 k, .bool false, .int .u64 0, .int .u64 0, .int .i64 0, .int .i64 0, .int .i64 0, .slice none 0 0])) ∧ w' = w.alloc (.cells (#[.int .i64 k, .bool false, .int .u64 0, .int .u64 0, .int .i64 0, .int .i64 0, .int .i64 0, .slice none 0 0]) 64) := by
  go_enter Tryz.func139, Tryz.ntmps139
  go_wp2
  exact bodyPost_ret (v := .agg _) (res_row (t := 64) Tryz.results139 _ _ _ rfl (by simp [go_sem]) (by simp [go_sem]) info64 agg64) rfl ⟨rfl, rfl⟩
/-- tape.count -/
theorem count_any (n : Int) (h0 : 1 ≤ n) (h1 : n ≤ 8) (w : World) : Calls Tryz.prog 200 #[.int .i64 n] w fun e w' => e = .returned (.int .i64 n) ∧ w = w' := by
  go_enter Tryz.func200, Tryz.ntmps200
  go_wp2
  go_ret
  exact ⟨ret_int (by omega), rfl⟩
/-- sat.Fit -/
theorem fit_any (n : Int) (h0 : 0 ≤ n) (h1 : n ≤ 1099511627776) (w : World) : Calls Tryz.prog 120 #[.int .i64 n] w fun e w' => e = .returned (.int .i64 n) ∧ w = w' := by
  go_enter Tryz.func120, Tryz.ntmps120
  go_wp2
  go_ret
  exact ⟨ret_int (by omega), rfl⟩
/-- cmp.isNaN -/
theorem nan_int (n : Int) (w : World) : Calls Tryz.prog 176 #[.int .i64 n] w fun e w' => e = .returned (.bool false) ∧ w = w' := by
  go_enter Tryz.func176, Tryz.ntmps176
  go_wp2
  go_ret
  exact ⟨by simp, rfl⟩
/-- cmp.isNaN -/
theorem nan_u64 (n : Int) (w : World) : Calls Tryz.prog 232 #[.int .u64 n] w fun e w' => e = .returned (.bool false) ∧ w = w' := by
  go_enter Tryz.func232, Tryz.ntmps232
  go_wp2
  go_ret
  exact ⟨by simp, rfl⟩
/-- -1, 0 or 1. -/
def cmpI (a b : Int) : Int := if a < b then -1 else if b < a then 1 else 0
theorem cmpI_lt {a b : Int} (h : a < b) : cmpI a b = -1 := by unfold cmpI; rw [if_pos h]
theorem cmpI_gt {a b : Int} (h : b < a) : cmpI a b = 1 := by unfold cmpI; rw [if_neg (by omega), if_pos h]
theorem cmpI_eq {a b : Int} (h : a = b) : cmpI a b = 0 := by unfold cmpI; rw [if_neg (by omega), if_neg (by omega)]
/-- cmp.Compare. -/
theorem cmp_int (a b : Int) (w : World) : Calls Tryz.prog 118 #[.int .i64 a, .int .i64 b] w fun e w' => e = .returned (.int .i64 (cmpI a b)) ∧ w = w' := by
  by_cases h1 : a < b
  · rw [cmpI_lt h1]
    exact tailScal1
  · by_cases h2 : b < a
    · rw [cmpI_gt h2]
      exact tailScal1
    · rw [cmpI_eq (by omega)]
      have h3 : ¬ (a > b) := by omega
      exact tailScal1
/-- cmp.Compare. -/
theorem cmp_u64 (a b : Int) (w : World) : Calls Tryz.prog 175 #[.int .u64 a, .int .u64 b] w fun e w' => e = .returned (.int .i64 (cmpI a b)) ∧ w = w' := by
  by_cases h1 : a < b
  · rw [cmpI_lt h1]
    exact tailScal2
  · by_cases h2 : b < a
    · rw [cmpI_gt h2]
      exact tailScal2
    · rw [cmpI_eq (by omega)]
      have h3 : ¬ (a > b) := by omega
      exact tailScal2
/-- addr.family, of an IPv4 address -/
theorem family_any (hi lo : Int) (w : World) : Calls Tryz.prog 174 #[.agg (#[.bool false, .int .u64 hi, .int .u64 lo])] w fun e w' => e = .returned (.int .i64 0) ∧ w' = w.alloc (.cells (#[.bool false, .int .u64 hi, .int .u64 lo]) 34) := by
  go_enter Tryz.func174, Tryz.ntmps174
  go_wp2
  go_ret
  exact ⟨rfl, rfl⟩
/-- addr.V4 -/
theorem v4_any (n : Int) (w : World) : Calls Tryz.prog 234 #[.int .u32 n] w fun e w' => e = .returned (.agg #[.bool false, .int .u64 0, .int .u64 (IntKind.u64.wrap n)]) ∧ w' = w.alloc (.cells #[.bool false, .int .u64 0, .int .u64 (IntKind.u64.wrap n)] 34) := by
  go_enter Tryz.func234, Tryz.ntmps234
  go_wp2
  exact bodyPost_ret (v := .agg _) (res_row (t := 34) Tryz.results234 _ _ _ rfl (by simp [go_sem]) (by simp [go_sem]) info34 agg34) rfl ⟨rfl, rfl⟩
/-- peer.New -/
theorem peer_any (hi lo port t : Int) (h0 : 0 ≤ t) (h1 : t ≤ 1099511627776) (w : World) : Calls Tryz.prog 210 #[.agg (#[.bool false, .int .u64 hi, .int .u64 lo, .int .i64 port]), .bool true, .int .i64 t] w fun e w' => e = .returned (.agg (#[.bool false, .int .u64 hi, .int .u64 lo, .int .i64 port, .bool true, .int .i64 t, .int .i64 0, .int .i64 t, .int .i64 0, .int .i64 0])) ∧ w' = (w.alloc (.cells (#[.bool false, .int .u64 hi, .int .u64 lo, .int .i64 port]) 36)).alloc (.cells (#[.bool false, .int .u64 hi, .int .u64 lo, .int .i64 port, .bool true, .int .i64 t, .int .i64 0, .int .i64 t, .int .i64 0, .int .i64 0]) 75) := by
  go_enter Tryz.func210, Tryz.ntmps210
  go_wp2_with (go_at_call 120; refine (fit_any t h0 h1 _).mono ?_; rintro e w' ⟨rfl, rfl⟩)
  exact bodyPost_ret (v := .agg _) (res_row (t := 75) Tryz.results210 _ _ _ rfl (by simp [go_sem]) (by simp [go_sem]) info75 agg75) rfl ⟨rfl, rfl⟩
/-- The first that is not 0. -/
def orL : List Int → Int
  | [] => 0
  | a :: l => if a = 0 then orL l else a
theorem orL_drop {L : List Int} {k : Nat} (h : k < L.length) : orL (L.drop k) = if L[k] = 0 then orL (L.drop (k + 1)) else L[k] := by
  rw [List.drop_eq_getElem_cons h]; rfl
/-- cmp.Or. -/
theorem or_any (L : List Int) (g cap : Nat) (w : World) (hm : L.length ≤ 1000) (hc : ∀ k (h : k < L.length), w.cell? ⟨g, k, none⟩ = some (.int .i64 L[k])) :
    Calls Tryz.prog 116 #[.slice (some ⟨g, 0, none⟩) L.length cap] w fun e w' => e = .returned (.int .i64 (orL L)) ∧ w = w' := by
  have HC := Lib.hid hc
  clear hc
  go_enter Tryz.func116, Tryz.ntmps116
  go_wp2
  go_loop [8] (fun vi => ∃ k : Nat, k ≤ L.length ∧ orL L = orL (L.drop k) ∧ vi = .int .i64 k) (fun i => L.length - (intOf i).toNat)
  case atStart => exact ⟨0, Nat.zero_le _, by simp, rfl⟩
  case round =>
    obtain ⟨k, hk, he, rfl⟩ := hrel
    by_cases hlt : k < L.length
    · have hcell := HC.out k hlt
      have E := Lib.hid (orL_drop hlt)
      by_cases h0 : L[k] = 0
      · go_wp2
        go_round
        case rel => exact ⟨k + 1, by omega, by rw [he, E.out, if_pos h0], by go_num⟩
        case measure => simp [intOf]; omega
      · have hne : (L[k] == 0) = false := by simpa using h0
        go_wp2
        go_ret
        exact ⟨ret_int (by first | rw [E.out, if_neg h0] | rw [he, E.out, if_neg h0]), rfl⟩
    · have e0 : orL (L.drop k) = 0 := by rw [List.drop_eq_nil_of_le (by omega)]; rfl
      go_wp2
      go_ret
      exact ⟨ret_int (by first | rfl | rw [he, e0]), rfl⟩
end
section
open Go.RowKit
attribute [local go_sem ↓] exec_load_41 exec_store_41 exec_load_36 exec_store_36
attribute [local go_sem] run_load41r run_store41i run_load36r run_store36i lt_up isRng_new rngOf_new isRange_past rangeOf_past isRange_drew rangeOf_drew fits_new fits_past fits_drew setAt_new setAt_past setAt_drew putAt_whole putAt_lit extract_whole extract_lit one_int one_bool one_slice one_ptr ones_lit onesL_nil onesL_cons isRow_new rowOf_new isRow_past rowOf_past isRow_drew rowOf_drew lt2 lt3 lt4 List.take_succ_cons List.take_zero List.drop_succ_cons List.drop_zero List.cons_append List.nil_append List.length_cons List.length_nil List.size_toArray sr_size sr_row sr_row' sr_isRow sr_isRow' sr_fits' sr_cell' sr_frozen' sr_isRange' sr_rangeOf' sr_isCells isCells_new isCells_past isCells_drew valC_size valC_ones opC_size opC_ones replyC_size
theorem lo_bounds (c : Nat) : 0 ≤ loOf c ∧ loOf c < 4294967296 := by
  have : Pm.kOf c < 16 := Nat.mod_lt _ (by decide)
  unfold loOf; omega
theorem and_lo16 : ∀ k : Fin 16, bits .and .u64 (167772161 + 65536 * (k.val : Int)) 4294967295 = 167772161 + 65536 * (k.val : Int) := by decide
theorem and_lo (c : Nat) : bits .and .u64 (loOf c) 4294967295 = loOf c := and_lo16 ⟨Pm.kOf c, Nat.mod_lt _ (by decide)⟩
theorem wrap32_lo (c : Nat) : IntKind.u32.wrap (loOf c) = loOf c := by
  have := lo_bounds c
  have e : IntKind.u32.wrap (loOf c) = loOf c % 4294967296 := rfl
  rw [e]; omega
theorem wrap64_lo (c : Nat) : IntKind.u64.wrap (loOf c) = loOf c := by
  have := lo_bounds c
  rw [IntKind.wrap_u64]; omega
attribute [local go_sem] and_lo wrap32_lo wrap64_lo
theorem v4_lo (c : Nat) (w : World) : Calls Tryz.prog 234 #[.int .u32 (loOf c)] w fun e w' => e = .returned (.agg (#[.bool false, .int .u64 0, .int .u64 (loOf c)])) ∧ Below w.heap.size w w' := by
  refine (v4_any (loOf c) w).mono ?_
  rintro e w' ⟨rfl, rfl⟩
  rw [wrap64_lo]
  exact ⟨rfl, bk5⟩
/-- addr.Right. -/
theorem addr_right (c : Nat) (w : World) : Calls Tryz.prog 177 #[.agg (#[.bool false, .int .u64 0, .int .u64 (loOf c)])] w fun e w' => e = .returned (.bool true) ∧ Below w.heap.size w w' := by
  go_enter Tryz.func177, Tryz.ntmps177
  go_upto_region 3 with (fail)
  refine region_still (by kernel_rfl) (by kernel_rfl) ?_
  repeat (first
    | go_big_quiet_skip
    | (go_big_quiet_want
       apply class_op
       · intro W hS
         have xx := alk hS.out
         go_simp
         try first
           | with_reducible rfl
           | (go_at_call 234; refine (v4_lo c _).mono ?_; rintro e w' ⟨rfl, hb⟩; exact ⟨rfl, below_next hS hb⟩)
       go_big_quiet_on
       try simp only [PT]))
  refine wpQuiet_nil ?_
  intro w1 hS1
  have xxa := alk hS1.out
  go_wp2
  go_ret
  exact ⟨rfl, bk15⟩
/-- endp.Right. -/
theorem end_right (c : Nat) (w : World) : Calls Tryz.prog 119 #[.agg (#[.bool false, .int .u64 0, .int .u64 (loOf c), .int .i64 80])] w fun e w' => e = .returned (.bool true) ∧ Below w.heap.size w w' := by
  go_enter Tryz.func119, Tryz.ntmps119
  go_wp2_with (go_at_call 177; refine (addr_right c _).mono ?_; rintro e w1 ⟨rfl, hb⟩; have hk := Keep.mk hb; have xx := alk hk.out; clear hb)
  go_ret
  exact ⟨rfl, bk15⟩
theorem info293 : (Tryz.prog.info? 293).map (·.size) = some 14 := by kernel_rfl
theorem agg293 (w : World) : (isAgg 293).run Tryz.prog w = .ok true w := by unfold isAgg; rw [Sem.run_bind, run_underlying Tryz.underlying293 w]; rfl
theorem code_calls (w : World) : Calls Tryz.prog 197 #[] w fun e w' => e = .returned (.agg (#[.string { data := #[] }, .string { data := #[97, 99, 99, 101, 112, 116] }, .string { data := #[108, 101, 97, 118, 101] }, .string { data := #[100, 105, 97, 108] }, .string { data := #[114, 101, 115, 117, 108, 116] }, .string { data := #[98, 108, 97, 109, 101] }, .string { data := #[98, 97, 110] }, .string { data := #[117, 110, 98, 97, 110] }, .string { data := #[98, 97, 110, 110, 101, 100] }, .string { data := #[116, 105, 99, 107] }, .string { data := #[108, 105, 115, 116] }, .string { data := #[112, 111, 110, 103] }, .string { data := #[119, 111, 114, 107] }, .string { data := #[108, 101, 97, 114, 110] }])) ∧ w' = w.alloc (.cells (#[.string { data := #[] }, .string { data := #[97, 99, 99, 101, 112, 116] }, .string { data := #[108, 101, 97, 118, 101] }, .string { data := #[100, 105, 97, 108] }, .string { data := #[114, 101, 115, 117, 108, 116] }, .string { data := #[98, 108, 97, 109, 101] }, .string { data := #[98, 97, 110] }, .string { data := #[117, 110, 98, 97, 110] }, .string { data := #[98, 97, 110, 110, 101, 100] }, .string { data := #[116, 105, 99, 107] }, .string { data := #[108, 105, 115, 116] }, .string { data := #[112, 111, 110, 103] }, .string { data := #[119, 111, 114, 107] }, .string { data := #[108, 101, 97, 114, 110] }]) 293) := by
  go_enter Tryz.func197, Tryz.ntmps197
  go_wp2
  exact bodyPost_ret (v := .agg _) (res_row (t := 293) Tryz.results197 _ _ _ rfl (by simp [go_sem]) (by simp [go_sem]) info293 agg293) rfl ⟨rfl, rfl⟩
theorem code_at (g : Nat) (w : World) (h : w.cell? ⟨g, 1, none⟩ = some (.string { data := #[97, 99, 99, 101, 112, 116] })) : Calls Tryz.prog 198 #[.slice (some ⟨g, 0, none⟩) 14 14, .int .i64 1] w fun e w' => e = .returned (.string { data := #[97, 99, 99, 101, 112, 116] }) ∧ w' = w := by
  go_enter Tryz.func198, Tryz.ntmps198
  go_wp2
  go_ret
  exact ⟨rfl, rfl⟩
/-- code.Call, of a call that accepts. -/
theorem code_call (w : World) : Calls Tryz.prog 143 #[.int .i64 1] w fun e w' => e = .returned (.string { data := #[97, 99, 99, 101, 112, 116] }) ∧ Below w.heap.size w w' := by
  go_enter Tryz.func143, Tryz.ntmps143
  go_wp2_with (first | (go_at_call 197; refine (code_calls _).mono ?_; rintro e w1 ⟨rfl, rfl⟩) | (go_at_call 198; refine (code_at _ _ (by simp [go_sem])).mono ?_; rintro e w1 ⟨rfl, rfl⟩))
  go_ret
  exact ⟨rfl, bk15⟩
/-- call.parts. -/
theorem call_parts (w : World) : Calls Tryz.prog 144 #[.int .i64 1] w fun e w' => e = .returned (.slice (some ⟨w.heap.size, 0, none⟩) 2 2) ∧ w' = w.alloc (.cells (#[.int .i64 0, .int .i64 3]) 247) := by
  go_enter Tryz.func144, Tryz.ntmps144
  go_wp2
  go_ret
  exact ⟨rfl, rfl⟩
/-- call.right. -/
theorem call_right0 (c : Nat) (t : Int) (h0 : 0 ≤ t) (h1 : t ≤ 1099511627776) (w : World) : Calls Tryz.prog 145 #[.agg (#[.int .i64 1, .bool false, .int .u64 0, .int .u64 (loOf c), .int .i64 80, .bool false, .int .u64 0, .int .u64 0, .int .i64 0, .int .i64 t, .int .i64 0, .bool false]), .int .i64 0] w fun e w' => e = .returned (.bool true) ∧ Below w.heap.size w w' := by
  go_enter Tryz.func145, Tryz.ntmps145
  go_wp2_with (go_at_call 119; refine (end_right c _).mono ?_; rintro e w1 ⟨rfl, hb⟩; have hk := Keep.mk hb; have xx := alk hk.out; clear hb)
  go_ret
  exact ⟨rfl, bk15⟩
/-- call.right. -/
theorem call_right3 (c : Nat) (t : Int) (h0 : 0 ≤ t) (h1 : t ≤ 1099511627776) (w : World) : Calls Tryz.prog 145 #[.agg (#[.int .i64 1, .bool false, .int .u64 0, .int .u64 (loOf c), .int .i64 80, .bool false, .int .u64 0, .int .u64 0, .int .i64 0, .int .i64 t, .int .i64 0, .bool false]), .int .i64 3] w fun e w' => e = .returned (.bool true) ∧ Below w.heap.size w w' := by
  go_enter Tryz.func145, Tryz.ntmps145
  go_wp2
  go_ret
  exact ⟨rfl, bk15⟩
/-- call.Right, of a call that accepts. -/
theorem call_right (c : Nat) (t : Int) (h0 : 0 ≤ t) (h1 : t ≤ 1099511627776) (w : World) : Calls Tryz.prog 102 #[.agg (#[.int .i64 1, .bool false, .int .u64 0, .int .u64 (loOf c), .int .i64 80, .bool false, .int .u64 0, .int .u64 0, .int .i64 0, .int .i64 t, .int .i64 0, .bool false])] w fun e w' => e = .returned (.bool true) ∧ Below w.heap.size w w' := by
  go_enter Tryz.func102, Tryz.ntmps102
  go_wp2_with (first | (go_at_call 143; refine (code_call _).mono ?_; rintro e w1 ⟨rfl, hb⟩; have hk := Keep.mk hb; have xx := alk hk.out; clear hb) | (go_at_call 144; refine (call_parts _).mono ?_; rintro e w2 ⟨rfl, rfl⟩))
  have z0 : w.heap.size < w1.heap.size := by omega
  have z00 : w.heap.size < w1.heap.size + 1 := by omega
  go_loopg [13] 2 (fun g s13 wr => ∃ k : Nat, s13 = .int .i64 k ∧ k ≤ 2 ∧ g = 2 - k ∧ Keep (w1.alloc (.cells (#[.int .i64 0, .int .i64 3]) 247)) wr)
  case atStart => exact ⟨0, rfl, by omega, rfl, ⟨Below.refl _ _⟩⟩
  case round =>
    obtain ⟨k, rfl, hk1, hg, hK⟩ := hrel
    have HG := Lib.hid hg
    clear hg
    have xx := alk hK.out
    rcases (by omega : k = 0 ∨ k = 1 ∨ k = 2) with rfl | rfl | rfl
    · go_wp2_with (go_at_call 145; refine (call_right0 c t h0 h1 _).mono ?_; rintro e w1 ⟨rfl, hb⟩; have hk := Keep.mk hb; have xx := alk hk.out; clear hb)
      go_roundg 1
      case measure => rw [HG.out]; omega
      case rel => exact ⟨1, rfl, by omega, rfl, ⟨bk15⟩⟩
    · go_wp2_with (go_at_call 145; refine (call_right3 c t h0 h1 _).mono ?_; rintro e w1 ⟨rfl, hb⟩; have hk := Keep.mk hb; have xx := alk hk.out; clear hb)
      go_roundg 0
      case measure => rw [HG.out]; omega
      case rel => exact ⟨2, rfl, by omega, rfl, ⟨bk15⟩⟩
    · go_wp2
      go_ret
      exact ⟨rfl, bk15⟩
end
section
open Go.RowKit
attribute [local go_sem ↓] exec_load_36 exec_store_36
attribute [local go_sem] run_load36r run_store36i lt_up isRng_new rngOf_new isRange_past rangeOf_past isRange_drew rangeOf_drew fits_new fits_past fits_drew setAt_new setAt_past setAt_drew putAt_whole putAt_lit extract_whole extract_lit one_int one_bool one_slice one_ptr ones_lit onesL_nil onesL_cons isRow_new rowOf_new isRow_past rowOf_past isRow_drew rowOf_drew lt2 lt3 lt4 List.take_succ_cons List.take_zero List.drop_succ_cons List.drop_zero List.cons_append List.nil_append List.length_cons List.length_nil List.size_toArray setRow_new setRow_past own_cell own_frozen own_set own_isRange own_rangeOf own_fits setAt_row sr_sr sr_size sr_row sr_row' sr_isRow sr_isRow' sr_fits' sr_cell' sr_frozen' sr_isRange' sr_rangeOf' sr_isCells isCells_new isCells_past isCells_drew valC_size valC_ones opC_size opC_ones replyC_size
theorem trie_new (w : World) : Calls Tryz.prog 238 #[] w fun e w' => e = .returned (.pointer (some ⟨w.heap.size, 0, none⟩)) ∧ w' = w.alloc (.cells (#[.pointer none, .pointer none, .int .i64 0]) 341) := by
  go_enter Tryz.func238, Tryz.ntmps238
  go_wp2
  go_ret
  exact ⟨rfl, rfl⟩
theorem index_none (t : Int) (w : World) : Calls Tryz.prog 188 #[.slice none 0 0, .int .i64 t] w fun e w' => e = .returned (.pointer (some ⟨w.heap.size, 0, none⟩)) ∧ w' = w.alloc (.cells (#[.pointer none, .pointer none, .int .i64 0]) 341) := by
  go_enter Tryz.func188, Tryz.ntmps188
  go_wp2_with (go_at_call 238; refine (trie_new _).mono ?_; rintro e w1 ⟨rfl, rfl⟩)
  go_loopg [5, 13] 0 (fun g s5 s13 wr => s5 = .pointer (some ⟨w.heap.size, 0, none⟩) ∧ s13 = .int .i64 0 ∧ wr = w.alloc (.cells (#[.pointer none, .pointer none, .int .i64 0]) 341))
  case atStart => exact ⟨rfl, rfl, rfl⟩
  case round =>
    obtain ⟨rfl, rfl, rfl⟩ := hrel
    go_wp2
    go_ret
    exact ⟨rfl, rfl⟩
theorem fam_any (c : Nat) (w : World) : Calls Tryz.prog 242 #[.agg (#[.bool false, .int .u64 0, .int .u64 (loOf c)])] w fun e w' => e = .returned (.int .i64 0) ∧ w' = w.alloc (.cells (#[.bool false, .int .u64 0, .int .u64 (loOf c)]) 34) := by
  go_enter Tryz.func242, Tryz.ntmps242
  go_wp2
  go_ret
  exact ⟨rfl, rfl⟩
theorem cover_none (g c : Nat) (w : World) (hg : g < w.heap.size) (h0 : w.cell? ⟨g, 0, none⟩ = some (.pointer none)) : Calls Tryz.prog 189 #[.pointer (some ⟨g, 0, none⟩), .agg (#[.bool false, .int .u64 0, .int .u64 (loOf c)])] w fun e w' => e = .returned (.slice none 0 0) ∧ Below w.heap.size w w' := by
  have hg2 : g < w.heap.size + 1 := by omega
  go_enter Tryz.func189, Tryz.ntmps189
  go_upto_region 4 with (go_at_call 177; refine (addr_right c _).mono ?_; rintro e w1 ⟨rfl, hb⟩; have hk := Keep.mk hb; have xx := alk hk.out; (try have zz := zs w.heap.size w1.heap.size); clear hb)
  have hg3 : g < w1.heap.size := by omega
  have hgc : w1.cell? ⟨g, 0, none⟩ = some (.pointer none) := by rw [hk.out.cell (p := ⟨g, 0, none⟩) (by simp; omega), World.cell?_of_block (w := w) (Below.heap_alloc w _ g hg)]; exact h0
  refine region_still (by kernel_rfl) (by kernel_rfl) ?_
  repeat (first
    | go_big_quiet_skip
    | (go_big_quiet_want
       apply class_op
       · intro W hS
         have xx := alk hS.out; (try have zz := zs w.heap.size W.heap.size)
         have hgW : g < W.heap.size := Nat.lt_of_lt_of_le hg3 hS.out.size
         have hcW : W.cell? ⟨g, 0, none⟩ = some (.pointer none) := by rw [hS.out.cell (p := ⟨g, 0, none⟩) hg3, hgc]
         go_simp
         try first
           | with_reducible rfl
           | (go_at_call 242; refine (fam_any c _).mono ?_; rintro e w' ⟨rfl, rfl⟩; exact ⟨rfl, below_next hS (bk5)⟩)
       go_big_quiet_on
       try simp only [PT]))
  refine wpQuiet_nil ?_
  intro w2 hS2
  have xxb := alk hS2.out; (try have zzb := zs w.heap.size w2.heap.size)
  go_wp2
  go_loopg [5, 6] 0 (fun g s5 s6 wr => s5 = .slice none 0 0 ∧ s6 = .pointer none ∧ wr = w2)
  case atStart => exact ⟨rfl, rfl, rfl⟩
  case round =>
    obtain ⟨rfl, rfl, rfl⟩ := hrel
    go_upto_region 5 with (fail)
    refine region_still (by kernel_rfl) (by kernel_rfl) ?_
    repeat (first
      | go_big_quiet_skip
      | (go_big_quiet_want
         apply class_op
         · intro W hS
           have xx := alk hS.out; (try have zz := zs w.heap.size W.heap.size)
           go_simp
           try first
             | with_reducible rfl
         go_big_quiet_on
         try simp only [PT]))
    refine wpQuiet_nil ?_
    intro w3 hS3
    have xxc := alk hS3.out; (try have zzc := zs w.heap.size w3.heap.size)
    go_wp2
    go_ret
    exact ⟨rfl, bk15⟩
/-- bans.Until. -/
theorem until_none (c : Nat) (t : Int) (w : World) : Calls Tryz.prog 140 #[.slice none 0 0, .agg (#[.bool false, .int .u64 0, .int .u64 (loOf c)]), .int .i64 t] w fun e w' => e = .returned (.int .i64 0) ∧ Below w.heap.size w w' := by
  go_enter Tryz.func140, Tryz.ntmps140
  go_wp2
  go_region_with (first | (go_at_call 188; refine (index_none t _).mono ?_; rintro e w1 ⟨rfl, rfl⟩) | (go_at_call 189; refine (cover_none _ c _ (by simp) (by simp [go_sem])).mono ?_; rintro e w1 ⟨rfl, hb⟩; have hk := Keep.mk hb; have xx := alk hk.out; (try have zz := zs w.heap.size w1.heap.size); clear hb))
  all_goals go_wp2
  all_goals go_ret
  all_goals exact ⟨rfl, bk15⟩
end
section
open Go.RowKit
attribute [local go_sem ↓] exec_load_36 exec_store_36 exec_load_75 exec_store_75
attribute [local go_sem] run_load36r run_store36i run_load75r run_store75i lt_up isRng_new rngOf_new isRange_past rangeOf_past isRange_drew rangeOf_drew fits_new fits_past fits_drew setAt_new setAt_past setAt_drew putAt_whole putAt_lit extract_whole extract_lit one_int one_bool one_slice one_ptr ones_lit onesL_nil onesL_cons isRow_new rowOf_new isRow_past rowOf_past isRow_drew rowOf_drew lt2 lt3 lt4 List.take_succ_cons List.take_zero List.drop_succ_cons List.drop_zero List.cons_append List.nil_append List.length_cons List.length_nil List.size_toArray setRow_new setRow_past own_cell own_frozen own_set own_isRange own_rangeOf own_fits setAt_row sr_sr sr_size sr_row sr_row' sr_isRow sr_isRow' sr_fits' sr_cell' sr_frozen' sr_isRange' sr_rangeOf' sr_isCells isCells_new isCells_past isCells_drew valC_size valC_ones opC_size opC_ones replyC_size
theorem peerC_ones (c : Nat) : ones (peerC c) = true := rfl
theorem lo_ne {a b : Nat} (h : Pm.kOf a ≠ Pm.kOf b) : loOf a ≠ loOf b := by unfold loOf; omega
theorem find1_no (x c b : Nat) (hne : loOf x ≠ loOf c) (w : World) (hb : b < w.heap.size) (h0 : isRow w b 36 4 = true) (h1 : rowOf w b = #[.bool false, .int .u64 0, .int .u64 (loOf c), .int .i64 80]) : Calls Tryz.prog 248 #[.agg (peerC x), .pointer (some ⟨b, 0, none⟩)] w fun e w' => e = .returned (.bool false) ∧ w' = w.alloc (.cells (peerC x) 75) := by
  have hc := isCells_row h0
  have hb2 : b < w.heap.size + 1 := by omega
  unfold peerC
  go_enter Tryz.func248, Tryz.ntmps248
  go_wp2
  go_ret
  exact ⟨rfl, rfl⟩
/-- slices.IndexFunc, where the predicate never holds. -/
theorem index_no (L : List Nat) (c b : Nat) (v : Value) (hne : ∀ x ∈ L, loOf x ≠ loOf c) (w : World) (hb : b < w.heap.size) (h0 : isRow w b 36 4 = true) (h1 : rowOf w b = #[.bool false, .int .u64 0, .int .u64 (loOf c), .int .i64 80]) (hs : Sl w v 10 (L.map peerC)) (hl : L.length ≤ 100000) :
    Calls Tryz.prog 247 #[v, .func (.func 248) #[] #[.pointer (some ⟨b, 0, none⟩)]] w fun e w' => e = .returned (.int .i64 (-1)) ∧ Below w.heap.size w w' := by
  have HS := Lib.hid hs
  obtain ⟨a, cap, rfl, q1, q2, q3⟩ := hs
  rw [List.length_map] at q1 ⊢
  go_enter Tryz.func247, Tryz.ntmps247
  go_wp2
  go_loopg [8] L.length (fun g s8 wr => ∃ k : Nat, s8 = .int .i64 k ∧ k ≤ L.length ∧ g = L.length - k ∧ Keep w wr)
  case atStart => exact ⟨0, rfl, Nat.zero_le _, rfl, ⟨Below.refl _ _⟩⟩
  case round =>
    obtain ⟨k, rfl, hk1, hg, hK⟩ := hrel
    have HG := Lib.hid hg
    clear hg
    by_cases hk : k < L.length
    · have hkz : (k : Int) < (L.length : Int) := by omega
      rcases q3 with ⟨_, q3⟩ | ⟨g, o, rfl, hg, q3⟩
      · simp at q3; subst q3; simp at hk
      · have hE := (q3 k (peerC L[k]) (by simp [hk])).block (hK.out.block g hg)
        have e1 := hE.is
        have e2 := hE.of
        have hx := hne L[k] (List.getElem_mem hk)
        clear q3
        go_wp2_with fail
        have hbr : b < wr.heap.size := Nat.lt_of_lt_of_le hb hK.out.size
        refine (find1_no _ c b hx wr hbr (by rw [(alike hK.out).1 _ _ _ hb]; exact h0) (by rw [(alike hK.out).2.1 _ hb]; exact h1)).mono ?_
        rintro e w1 ⟨rfl, rfl⟩
        go_wp2
        go_roundg (L.length - (k + 1))
        case measure => rw [HG.out]; omega
        case rel => exact ⟨k + 1, by go_num, by omega, rfl, below_next hK ((Below.refl _ _).alloc (Nat.le_refl _) _)⟩
    · have hkz : ¬ ((k : Int) < (L.length : Int)) := by omega
      go_wp2
      go_ret
      exact ⟨rfl, hK.out⟩
/-- table.Find, of nobody. -/
theorem find_no (L : List Nat) (c : Nat) (v : Value) (hn : Pm.Clear c L) (w : World) (hs : Sl w v 10 (L.map peerC)) (hl : L.length ≤ 100000) :
    Calls Tryz.prog 192 #[v, .agg (#[.bool false, .int .u64 0, .int .u64 (loOf c), .int .i64 80])] w fun e w' => e = .returned (.int .i64 (-1)) ∧ Below w.heap.size w w' := by
  have hne : ∀ x ∈ L, loOf x ≠ loOf c := fun x hx => lo_ne (hn x hx)
  have HS := Lib.hid (hs.below ((Below.refl w.heap.size w).alloc (Nat.le_refl _) (.cells (#[.bool false, .int .u64 0, .int .u64 (loOf c), .int .i64 80]) 36)))
  clear hs
  go_enter Tryz.func192, Tryz.ntmps192
  go_wp2_with (go_at_call 247; refine (index_no L c w.heap.size v hne _ (by simp) (by simp [go_sem]) (by simp [go_sem]) HS.out hl).mono ?_; rintro e w1 ⟨rfl, hb⟩; have hk := Keep.mk hb)
  go_ret
  exact ⟨rfl, bk15⟩
end
end Go.Proofs.YtnncjbkepakgpaaGreat
