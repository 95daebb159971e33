/-
  WHO IS LEFT.
  NOBODY IS TO GO.
  ALL PARTS IN ONE LIST.
-/
import Derived.Test.YtnncjbkepakgpaaGreatA07
import Derived.Test.YtnncjbkepakgpaaGreatA21
import Derived.Test.YtnncjbkepakgpaaGreatA10
import Derived.Test.YtnncjbkepakgpaaGreatA14
import Derived.Test.YtnncjbkepakgpaaGreatA06
import Derived.Test.YtnncjbkepakgpaaGreatA09
import Derived.Lib.AppendZeros
import Derived.Deep.Upon
namespace Go.Proofs.YtnncjbkepakgpaaGreat
set_option linter.unusedVariables false
set_option linter.unusedSimpArgs false
set_option maxRecDepth 100000
set_option maxHeartbeats 4000000
section
open Go.RowKit
attribute [local go_sem ↓] exec_load_75 exec_store_75
attribute [local go_sem] run_load75r run_store75i lt_up isRng_new rngOf_new isRange_past rangeOf_past isRange_drew rangeOf_drew fits_new fits_past fits_drew setAt_new setAt_past setAt_drew putAt_whole putAt_lit extract_whole extract_lit one_int one_bool one_slice one_ptr ones_lit onesL_nil onesL_cons isRow_new rowOf_new isRow_past rowOf_past isRow_drew rowOf_drew lt2 lt3 lt4 List.take_succ_cons List.take_zero List.drop_succ_cons List.drop_zero List.cons_append List.nil_append List.length_cons List.length_nil List.size_toArray setRow_new setRow_past own_cell own_frozen own_set own_isRange own_rangeOf own_fits setAt_row sr_sr sr_size sr_row sr_row' sr_isRow sr_isRow' sr_fits' sr_cell' sr_frozen' sr_isRange' sr_rangeOf' sr_isCells isCells_new isCells_past isCells_drew valC_size valC_ones opC_size opC_ones replyC_size
theorem tailLeft1 {p : Prop} (h : p := by
  obtain ⟨x1, x2, x3, x4, x5, x6, x7, x8, x9, x10, y9⟩ := alk hS.out; (try have zz := zs w.heap.size W.heap.size)
  go_simp
  try with_reducible rfl) : p := h
theorem tailLeft2 {p : Prop} (h : p := by
  obtain ⟨x1, x2, x3, x4, x5, x6, x7, x8, x9, x10, y9⟩ := alk hS.out; (try have zz := zs w.heap.size W.heap.size)
  go_simp
  try first
    | with_reducible rfl) : p := h
theorem info406 : (Tryz.prog.info? 406).map (·.size) = some 8 := by kernel_rfl
theorem agg406 (w : World) : (isAgg 406).run Tryz.prog w = .ok true w := by unfold isAgg; rw [Sem.run_bind, run_underlying Tryz.underlying406 w]; rfl
theorem info405 : (Tryz.prog.info? 405).map (·.size) = some 2 := by kernel_rfl
theorem agg405 (w : World) : (isAgg 405).run Tryz.prog w = .ok true w := by unfold isAgg; rw [Sem.run_bind, run_underlying Tryz.underlying405 w]; rfl
theorem info27 : (Tryz.prog.info? 27).map (·.size) = some 4 := by kernel_rfl
theorem agg27 (w : World) : (isAgg 27).run Tryz.prog w = .ok true w := by unfold isAgg; rw [Sem.run_bind, run_underlying Tryz.underlying27 w]; rfl
theorem turns_any (w : World) : Calls Tryz.prog 319 #[.agg (#[.int .i64 1, .int .i64 1, .int .i64 1, .int .i64 64])] w fun e w' => e = .returned (.agg (#[.int .i64 1, .int .i64 1, .int .i64 2, .int .i64 1, .int .i64 3, .int .i64 1, .int .i64 4, .int .i64 64])) ∧ Below w.heap.size w w' := by
  go_enter Tryz.func319, Tryz.ntmps319
  go_wp2
  exact bodyPost_ret (v := .agg _) (res_row (t := 406) Tryz.results319 _ _ _ rfl (by simp [go_sem]) (by simp [go_sem]) info406 agg406) rfl ⟨rfl, bk0⟩
theorem ix0 (w : World) : (Instr.index 406 (.agg #[.int .i64 1, .int .i64 1, .int .i64 2, .int .i64 1, .int .i64 3, .int .i64 1, .int .i64 4, .int .i64 64]) (.int .i64 0)).run Tryz.prog w = .ok (.agg #[.int .i64 1, .int .i64 1]) w := by kernel_rfl
theorem ix1 (w : World) : (Instr.index 406 (.agg #[.int .i64 1, .int .i64 1, .int .i64 2, .int .i64 1, .int .i64 3, .int .i64 1, .int .i64 4, .int .i64 64]) (.int .i64 1)).run Tryz.prog w = .ok (.agg #[.int .i64 2, .int .i64 1]) w := by kernel_rfl
theorem ix2 (w : World) : (Instr.index 406 (.agg #[.int .i64 1, .int .i64 1, .int .i64 2, .int .i64 1, .int .i64 3, .int .i64 1, .int .i64 4, .int .i64 64]) (.int .i64 2)).run Tryz.prog w = .ok (.agg #[.int .i64 3, .int .i64 1]) w := by kernel_rfl
theorem ix3 (w : World) : (Instr.index 406 (.agg #[.int .i64 1, .int .i64 1, .int .i64 2, .int .i64 1, .int .i64 3, .int .i64 1, .int .i64 4, .int .i64 64]) (.int .i64 3)).run Tryz.prog w = .ok (.agg #[.int .i64 4, .int .i64 64]) w := by kernel_rfl
attribute [local go_sem] ix0 ix1 ix2 ix3
def fillV (n k : Nat) : List Value := (List.range n).map fun j => .int .i64 (if j < k then (j : Int) else 0)
theorem fill_set {n k : Nat} (hk : k < n) : (fillV n k).set k (.int .i64 (k : Int)) = fillV n (k + 1) := by
  unfold fillV
  apply List.ext_getElem?
  intro j
  rw [List.getElem?_set]
  by_cases e : k = j
  · subst e; simp [hk]
  · rw [if_neg e]
    by_cases hj : j < n
    · simp only [List.getElem?_map, List.getElem?_range hj, Option.map_some, Option.some.injEq, Value.int.injEq, true_and]
      by_cases h1 : j < k
      · rw [if_pos h1, if_pos (by omega)]
      · rw [if_neg h1, if_neg (by omega)]
    · simp [hj]
theorem fill_none (n : Nat) : List.replicate n (Value.int .i64 0) = fillV n 0 := by
  unfold fillV; apply List.ext_getElem?; intro j; simp only [List.getElem?_replicate, List.getElem?_map]; by_cases hj : j < n <;> simp [hj]
theorem fill_all (n : Nat) : fillV n n = (List.range n).map intV := by
  unfold fillV
  apply List.map_congr_left
  intro j hj
  rw [if_pos (List.mem_range.1 hj)]; rfl
/-- shield.Left: nobody. -/
theorem left_law (P : List Nat) (v : Value) (w : World) (hs : Sl w v 10 (P.map peerC)) (hl : P.length ≤ 19) :
    Calls Tryz.prog 303 #[v, .agg (#[.int .i64 1, .int .i64 1, .int .i64 1, .int .i64 64]), .int .u64 1] w fun e w' => ∃ v', e = .returned v' ∧ Sl w' v' 1 (([] : List Nat).map intC) ∧ Below w.heap.size w w' := by
  obtain ⟨a, cap, rfl, q1, q2, q3⟩ := hs
  have HSv : Hid (Sl w (.slice a (P.map peerC).length cap) 10 (P.map peerC)) := Lib.hid ⟨a, cap, rfl, q1, q2, q3⟩
  rw [List.length_map] at q1 HSv ⊢
  clear q3
  have hmk := run_make_row' (P := Tryz.prog) 23 3 (.int .i64 0) 8 Tryz.underlying23 info3b rfl .i64 .i64 P.length (by omega) (by omega) (w.alloc (.cells (#[.int .i64 1, .int .i64 1, .int .i64 1, .int .i64 64]) 27))
  have hmade := Lib.hid (RowT.made (w.alloc (.cells (#[.int .i64 1, .int .i64 1, .int .i64 1, .int .i64 64]) 27)) (.int .i64 0) P.length 3)
  rw [fill_none] at hmade
  have hbm := Lib.hid (((Below.refl w.heap.size w).alloc (Nat.le_refl _) (.cells (#[.int .i64 1, .int .i64 1, .int .i64 1, .int .i64 64]) 27)).alloc (by simp) (.cells (madeCells #[.int .i64 0] P.length) 3))
  have hn0 : 0 ≤ (P.length : Int) := by omega
  have hgs : (w.alloc (.cells (#[.int .i64 1, .int .i64 1, .int .i64 1, .int .i64 64]) 27)).heap.size = w.heap.size + 1 := by simp
  rw [hgs] at hmade hmk
  have hqb : Hid (isRow ((w.alloc (.cells (#[.int .i64 1, .int .i64 1, .int .i64 1, .int .i64 64]) 27)).alloc (.cells (madeCells #[.int .i64 0] P.length) 3)) w.heap.size 27 4 = true ∧ rowOf ((w.alloc (.cells (#[.int .i64 1, .int .i64 1, .int .i64 1, .int .i64 64]) 27)).alloc (.cells (madeCells #[.int .i64 0] P.length) 3)) w.heap.size = #[.int .i64 1, .int .i64 1, .int .i64 1, .int .i64 64]) := Lib.hid ⟨by simp [go_sem], by simp [go_sem]⟩
  have hsz2 : ((w.alloc (.cells (#[.int .i64 1, .int .i64 1, .int .i64 1, .int .i64 64]) 27)).alloc (.cells (madeCells #[.int .i64 0] P.length) 3)).heap.size = w.heap.size + 2 := by simp
  go_enter Tryz.func303, Tryz.ntmps303
  go_wp2
  clear hmk
  generalize (w.alloc (.cells (#[.int .i64 1, .int .i64 1, .int .i64 1, .int .i64 64]) 27)).alloc (.cells (madeCells #[.int .i64 0] P.length) 3) = W1 at *
  go_loopg [16] P.length (fun g s16 wr => ∃ k : Nat, s16 = .int .i64 (k : Int) ∧ k + g = P.length ∧ Hid (Upto (w.heap.size + 1) W1 wr ∧ RowT wr (w.heap.size + 1) 3 (fillV P.length k)))
  case atStart => exact ⟨0, rfl, by omega, Lib.hid ⟨Upto.refl _ _, hmade.out⟩⟩
  case round =>
    obtain ⟨k, rfl, hg, HH⟩ := hrel
    have HG := Lib.hid hg
    obtain ⟨hU, hR⟩ := HH.out
    have hws := hU.size
    by_cases hk : k < P.length
    · have hkz : (k : Int) < (P.length : Int) := by omega
      have n1 : 0 ≤ (k : Int) := by omega
      have hcell := hR.at'.cell (i := k) (v := .int .i64 0) (by unfold fillV; simp [hk])
      have hfr := hR.at'.frozen k
      have hst : RowT (wr.setCell ⟨w.heap.size + 1, k, none⟩ (.int .i64 (k : Int))) (w.heap.size + 1) 3 (fillV P.length (k + 1)) := by rw [← fill_set hk]; exact hR.set k _
      have HST := Lib.hid (show Upto (w.heap.size + 1) W1 (wr.setCell ⟨w.heap.size + 1, k, none⟩ (.int .i64 (k : Int))) ∧ _ from ⟨hU.set _ _, hst⟩)
      clear hst hg hU hR
      go_wp2
      go_roundg (P.length - (k + 1))
      case measure => have := HG.out; omega
      case rel => exact ⟨k + 1, by simp, by have := HG.out; omega, HST⟩
    · obtain rfl : k = P.length := by omega
      rw [fill_all] at hR
      have hkz : ¬ ((P.length : Int) < (P.length : Int)) := by omega
      have HA0 := Lib.hid (row_sl (n := P.length) (cap := P.length) hR.at' (by simp) hR.lt (Nat.le_refl _) (by unfold maxLen; omega))
      have HB0 := Lib.hid (hbm.out.trans (hU.below (by omega) (by omega)))
      obtain ⟨x1, x2, x3, x4, x5, x6, x7, x8, x9, x10⟩ := alikeU hU
      obtain ⟨hq1, hq2⟩ := hqb.out
      have hqr : isRow wr w.heap.size 27 4 = true := by rw [x1 _ _ _ (by omega) (by omega)]; exact hq1
      have hqo : rowOf wr w.heap.size = #[.int .i64 1, .int .i64 1, .int .i64 1, .int .i64 64] := by rw [x2 _ (by omega) (by omega)]; exact hq2
      have hqc := isCells_row hqr
      clear hU hR hg x1 x2 x3 x4 x5 x6 x7 x8 x9 x10 hq1 hq2
      go_wp2_with (go_at_call 319; refine (turns_any _).mono ?_; rintro e w1 ⟨rfl, hb⟩; have HBt := Lib.hid hb; clear hb)
      go_loopg [7, 26] 4 (fun g s7 s26 wr => ∃ (t : Nat) (A : List Nat), s26 = .int .i64 (t : Int) ∧ t + g = 4 ∧ Hid (Below w.heap.size w wr ∧ Sl wr s7 1 (A.map intC) ∧ (∀ x ∈ A, x < P.length) ∧ A.length ≤ P.length ∧ (t = 4 → A = [])))
      case atStart => exact ⟨0, List.range P.length, rfl, rfl, Lib.hid ⟨HB0.out.trans (HBt.out.mono (by have := HB0.out.size; omega)), HA0.out.below HBt.out, fun x hx => List.mem_range.1 hx, by simp, fun e => by omega⟩⟩
      case round =>
        obtain ⟨t, A, rfl, hg, HH⟩ := hrel
        obtain ⟨hB, hA, hA1, hA2, hA3⟩ := HH.out
        have HB := Lib.hid hB
        have HA := Lib.hid hA
        clear hB hA
        rcases (by omega : t = 0 ∨ t = 1 ∨ t = 2 ∨ t = 3 ∨ t = 4) with rfl | rfl | rfl | rfl | rfl
        · have hwr0 : Hid (Below wr.heap.size wr (wr.alloc (.cells #[.int .i64 1, .int .i64 1] 405))) := Lib.hid ((Below.refl _ _).alloc (Nat.le_refl _) _)
          have HSP := Lib.hid ((HSv.out.below HB.out).below hwr0.out)
          have HSA := Lib.hid (HA.out.below hwr0.out)
          have hws0 := HB.out.size
          go_upto_region 10 with (fail)
          refine region_float (Keep _) [0, 4, 5, 6, 7, 8] [1, 2] [3, 9, 10, 11] (by kernel_rfl) (by kernel_rfl) (fun _ _ d _ _ h => by cases d <;> exact h) ⟨(Below.refl _ _).drew⟩ ?_
          simp only [PL]
          apply reads_op
          · intro W hS
            exact tailLeft1
          try simp only [PT]
          apply reads_op
          · intro W hS
            exact tailLeft1
          try simp only [PT]
          apply reads_op
          · intro W hS
            exact tailLeft1
          try simp only [PT]
          apply reads_op
          · intro W hS
            exact tailLeft1
          try simp only [PT]
          apply reads_op
          · intro W hS
            exact tailLeft1
          try simp only [PT]
          apply reads_op
          · intro W hS
            exact tailLeft1
          try simp only [PT]
          refine reads_nil ?_
          repeat (first
            | go_big_quiet_skip
            | (go_big_quiet_want
               apply class_op
               · intro W hS
                 exact tailLeft2
               go_big_quiet_on
               try simp only [PT]))
          refine wpQuiet_nil ?_
          intro w1 hS1
          have xxa := alk hS1.out; (try have zza := zs w.heap.size w1.heap.size)
          have hk := hS1
          refine chain_op ?_
          go_wp2_with (go_at_call 322; refine (pick_law P A _ u7 _ (HSP.out.below hS1.out) (HSA.out.below hS1.out) hA1 (by omega)).mono ?_; rintro e w2 ⟨v1, rfl, ho, hb⟩; have hk2 := Keep.mk hb; have xxb := alk hk2.out; (try have zzb := zs w.heap.size w2.heap.size); clear hb; have HO1 := Lib.hid ho; clear ho)
          refine chain_on ⟨bk0⟩ ?_
          refine chain_op ?_
          go_wp2_with (go_at_call 321; refine (first1 (pickP P A) v1 1 _ HO1.out.sl (by omega) (bk49)).mono ?_; rintro e w3 ⟨G, v2, rfl, hsG, hG0, hG1, hG2, hb⟩; have hk3 := Keep.mk hb; have HSG := Lib.hid hsG; have xxc := alk hk3.out; (try have zzc := zs w.heap.size w3.heap.size); clear hb hsG)
          refine chain_on ⟨bk0⟩ ?_
          refine chain_op ?_
          go_wp2_with (go_at_call 320; refine (drop_law A G u7 _ _ (((HSA.out.below hS1.out).below hk2.out).below hk3.out) HSG.out (fun x hx => by have := hG1 x hx; simpa [pickP] using this) (by omega) (by have := hG0; simp only [pickP, List.length_map] at this; omega)).mono ?_; rintro e w4 ⟨v3, rfl, ho, hb⟩; have hk4 := Keep.mk hb; have HO3 := Lib.hid ho; have xxd := alk hk4.out; (try have zzd := zs w.heap.size w4.heap.size); clear hb ho)
          refine chain_on ⟨bk0⟩ ?_
          refine chain_op ?_
          go_wp2
          refine chain_on ⟨bk0⟩ ?_
          refine chain_nil ?_
          go_wp2
          go_roundg 3
          case measure => omega
          case rel => exact ⟨1, keepL A G 0, rfl, by omega, Lib.hid ⟨bk0, HO3.out.sl, fun x hx => hA1 x (keep_mem A G 0 x hx), by have := keep_len A G 0; omega, (fun e => by omega)⟩⟩
        · have hwr0 : Hid (Below wr.heap.size wr (wr.alloc (.cells #[.int .i64 2, .int .i64 1] 405))) := Lib.hid ((Below.refl _ _).alloc (Nat.le_refl _) _)
          have HSP := Lib.hid ((HSv.out.below HB.out).below hwr0.out)
          have HSA := Lib.hid (HA.out.below hwr0.out)
          have hws0 := HB.out.size
          go_upto_region 10 with (fail)
          refine region_float (Keep _) [0, 4, 5, 6, 7, 8] [1, 2] [3, 9, 10, 11] (by kernel_rfl) (by kernel_rfl) (fun _ _ d _ _ h => by cases d <;> exact h) ⟨(Below.refl _ _).drew⟩ ?_
          simp only [PL]
          apply reads_op
          · intro W hS
            exact tailLeft1
          try simp only [PT]
          apply reads_op
          · intro W hS
            exact tailLeft1
          try simp only [PT]
          apply reads_op
          · intro W hS
            exact tailLeft1
          try simp only [PT]
          apply reads_op
          · intro W hS
            exact tailLeft1
          try simp only [PT]
          apply reads_op
          · intro W hS
            exact tailLeft1
          try simp only [PT]
          apply reads_op
          · intro W hS
            exact tailLeft1
          try simp only [PT]
          refine reads_nil ?_
          repeat (first
            | go_big_quiet_skip
            | (go_big_quiet_want
               apply class_op
               · intro W hS
                 exact tailLeft2
               go_big_quiet_on
               try simp only [PT]))
          refine wpQuiet_nil ?_
          intro w1 hS1
          have xxa := alk hS1.out; (try have zza := zs w.heap.size w1.heap.size)
          have hk := hS1
          refine chain_op ?_
          go_wp2_with (go_at_call 322; refine (pick_law P A _ u7 _ (HSP.out.below hS1.out) (HSA.out.below hS1.out) hA1 (by omega)).mono ?_; rintro e w2 ⟨v1, rfl, ho, hb⟩; have hk2 := Keep.mk hb; have xxb := alk hk2.out; (try have zzb := zs w.heap.size w2.heap.size); clear hb; have HO1 := Lib.hid ho; clear ho)
          refine chain_on ⟨bk0⟩ ?_
          refine chain_op ?_
          go_wp2_with (go_at_call 321; refine (first2 (pickP P A) v1 1 _ HO1.out.sl (by omega) (bk49)).mono ?_; rintro e w3 ⟨rfl, hb⟩; have hk3 := Keep.mk hb; have HSG : Hid (Sl w3 (.slice none 0 0) 1 (([] : List Nat).map intC)) := Lib.hid (Sl.nil _ _); have xxc := alk hk3.out; (try have zzc := zs w.heap.size w3.heap.size); clear hb)
          refine chain_on ⟨bk0⟩ ?_
          refine chain_op ?_
          go_wp2_with (go_at_call 320; refine (drop_law A [] u7 _ _ (((HSA.out.below hS1.out).below hk2.out).below hk3.out) HSG.out (by simp) (by omega) (by simp)).mono ?_; rintro e w4 ⟨v3, rfl, ho, hb⟩; have hk4 := Keep.mk hb; have HO3 := Lib.hid ho; have xxd := alk hk4.out; (try have zzd := zs w.heap.size w4.heap.size); clear hb ho)
          refine chain_on ⟨bk0⟩ ?_
          refine chain_op ?_
          go_wp2
          refine chain_on ⟨bk0⟩ ?_
          refine chain_nil ?_
          go_wp2
          go_roundg 2
          case measure => omega
          case rel => exact ⟨2, keepL A [] 0, rfl, by omega, Lib.hid ⟨bk0, HO3.out.sl, fun x hx => hA1 x (keep_mem A [] 0 x hx), by have := keep_len A [] 0; omega, (fun e => by omega)⟩⟩
        · have hwr0 : Hid (Below wr.heap.size wr (wr.alloc (.cells #[.int .i64 3, .int .i64 1] 405))) := Lib.hid ((Below.refl _ _).alloc (Nat.le_refl _) _)
          have HSP := Lib.hid ((HSv.out.below HB.out).below hwr0.out)
          have HSA := Lib.hid (HA.out.below hwr0.out)
          have hws0 := HB.out.size
          go_upto_region 10 with (fail)
          refine region_float (Keep _) [0, 4, 5, 6, 7, 8] [1, 2] [3, 9, 10, 11] (by kernel_rfl) (by kernel_rfl) (fun _ _ d _ _ h => by cases d <;> exact h) ⟨(Below.refl _ _).drew⟩ ?_
          simp only [PL]
          apply reads_op
          · intro W hS
            exact tailLeft1
          try simp only [PT]
          apply reads_op
          · intro W hS
            exact tailLeft1
          try simp only [PT]
          apply reads_op
          · intro W hS
            exact tailLeft1
          try simp only [PT]
          apply reads_op
          · intro W hS
            exact tailLeft1
          try simp only [PT]
          apply reads_op
          · intro W hS
            exact tailLeft1
          try simp only [PT]
          apply reads_op
          · intro W hS
            exact tailLeft1
          try simp only [PT]
          refine reads_nil ?_
          repeat (first
            | go_big_quiet_skip
            | (go_big_quiet_want
               apply class_op
               · intro W hS
                 exact tailLeft2
               go_big_quiet_on
               try simp only [PT]))
          refine wpQuiet_nil ?_
          intro w1 hS1
          have xxa := alk hS1.out; (try have zza := zs w.heap.size w1.heap.size)
          have hk := hS1
          refine chain_op ?_
          go_wp2_with (go_at_call 322; refine (pick_law P A _ u7 _ (HSP.out.below hS1.out) (HSA.out.below hS1.out) hA1 (by omega)).mono ?_; rintro e w2 ⟨v1, rfl, ho, hb⟩; have hk2 := Keep.mk hb; have xxb := alk hk2.out; (try have zzb := zs w.heap.size w2.heap.size); clear hb; have HO1 := Lib.hid ho; clear ho)
          refine chain_on ⟨bk0⟩ ?_
          refine chain_op ?_
          go_wp2_with (go_at_call 321; refine (first3 (pickP P A) v1 1 _ HO1.out.sl (by omega) (bk49)).mono ?_; rintro e w3 ⟨rfl, hb⟩; have hk3 := Keep.mk hb; have HSG : Hid (Sl w3 (.slice none 0 0) 1 (([] : List Nat).map intC)) := Lib.hid (Sl.nil _ _); have xxc := alk hk3.out; (try have zzc := zs w.heap.size w3.heap.size); clear hb)
          refine chain_on ⟨bk0⟩ ?_
          refine chain_op ?_
          go_wp2_with (go_at_call 320; refine (drop_law A [] u7 _ _ (((HSA.out.below hS1.out).below hk2.out).below hk3.out) HSG.out (by simp) (by omega) (by simp)).mono ?_; rintro e w4 ⟨v3, rfl, ho, hb⟩; have hk4 := Keep.mk hb; have HO3 := Lib.hid ho; have xxd := alk hk4.out; (try have zzd := zs w.heap.size w4.heap.size); clear hb ho)
          refine chain_on ⟨bk0⟩ ?_
          refine chain_op ?_
          go_wp2
          refine chain_on ⟨bk0⟩ ?_
          refine chain_nil ?_
          go_wp2
          go_roundg 1
          case measure => omega
          case rel => exact ⟨3, keepL A [] 0, rfl, by omega, Lib.hid ⟨bk0, HO3.out.sl, fun x hx => hA1 x (keep_mem A [] 0 x hx), by have := keep_len A [] 0; omega, (fun e => by omega)⟩⟩
        · have hwr0 : Hid (Below wr.heap.size wr (wr.alloc (.cells #[.int .i64 4, .int .i64 64] 405))) := Lib.hid ((Below.refl _ _).alloc (Nat.le_refl _) _)
          have HSP := Lib.hid ((HSv.out.below HB.out).below hwr0.out)
          have HSA := Lib.hid (HA.out.below hwr0.out)
          have hws0 := HB.out.size
          go_upto_region 10 with (fail)
          refine region_float (Keep _) [0, 4, 5, 6, 7, 8] [1, 2] [3, 9, 10, 11] (by kernel_rfl) (by kernel_rfl) (fun _ _ d _ _ h => by cases d <;> exact h) ⟨(Below.refl _ _).drew⟩ ?_
          simp only [PL]
          apply reads_op
          · intro W hS
            exact tailLeft1
          try simp only [PT]
          apply reads_op
          · intro W hS
            exact tailLeft1
          try simp only [PT]
          apply reads_op
          · intro W hS
            exact tailLeft1
          try simp only [PT]
          apply reads_op
          · intro W hS
            exact tailLeft1
          try simp only [PT]
          apply reads_op
          · intro W hS
            exact tailLeft1
          try simp only [PT]
          apply reads_op
          · intro W hS
            exact tailLeft1
          try simp only [PT]
          refine reads_nil ?_
          repeat (first
            | go_big_quiet_skip
            | (go_big_quiet_want
               apply class_op
               · intro W hS
                 exact tailLeft2
               go_big_quiet_on
               try simp only [PT]))
          refine wpQuiet_nil ?_
          intro w1 hS1
          have xxa := alk hS1.out; (try have zza := zs w.heap.size w1.heap.size)
          have hk := hS1
          refine chain_op ?_
          go_wp2_with (go_at_call 322; refine (pick_law P A _ u7 _ (HSP.out.below hS1.out) (HSA.out.below hS1.out) hA1 (by omega)).mono ?_; rintro e w2 ⟨v1, rfl, ho, hb⟩; have hk2 := Keep.mk hb; have xxb := alk hk2.out; (try have zzb := zs w.heap.size w2.heap.size); clear hb; have HO1 := Lib.hid ho; clear ho)
          refine chain_on ⟨bk0⟩ ?_
          refine chain_op ?_
          go_wp2_with (go_at_call 321; refine (first4 (pickP P A) v1 64 _ HO1.out.sl (by omega) (bk49)).mono ?_; rintro e w3 ⟨G, v2, rfl, hsG, hG0, hG1, hG2, hb⟩; have hk3 := Keep.mk hb; have HSG := Lib.hid hsG; have xxc := alk hk3.out; (try have zzc := zs w.heap.size w3.heap.size); clear hb hsG)
          refine chain_on ⟨bk0⟩ ?_
          refine chain_op ?_
          go_wp2_with (go_at_call 320; refine (drop_law A G u7 _ _ (((HSA.out.below hS1.out).below hk2.out).below hk3.out) HSG.out (fun x hx => by have := hG1 x hx; simpa [pickP] using this) (by omega) (by have := hG0; simp only [pickP, List.length_map] at this; omega)).mono ?_; rintro e w4 ⟨v3, rfl, ho, hb⟩; have hk4 := Keep.mk hb; have HO3 := Lib.hid ho; have xxd := alk hk4.out; (try have zzd := zs w.heap.size w4.heap.size); clear hb ho)
          refine chain_on ⟨bk0⟩ ?_
          refine chain_op ?_
          go_wp2
          refine chain_on ⟨bk0⟩ ?_
          refine chain_nil ?_
          go_wp2
          go_roundg 0
          case measure => omega
          case rel => exact ⟨4, keepL A G 0, rfl, by omega, Lib.hid ⟨bk0, HO3.out.sl, fun x hx => hA1 x (keep_mem A G 0 x hx), by have := keep_len A G 0; omega, (fun _ => keep_none A G 0 fun j hj => by rw [Nat.zero_add]; exact hG2 (bk49) j (by simpa [pickP] using hj))⟩⟩
        · obtain rfl := hA3 rfl
          go_wp2
          refine bodyPost_ret (results_tmp rfl _ _ _) rfl ?_
          exact ⟨_, rfl, HA.out, HB.out⟩
end
section
open Go.RowKit
attribute [local go_sem ↓] exec_load_75 exec_store_75 exec_load_36 exec_store_36
attribute [local go_sem] run_load75r run_store75i run_load36r run_store36i lt_up isRng_new rngOf_new isRange_past rangeOf_past isRange_drew rangeOf_drew fits_new fits_past fits_drew setAt_new setAt_past setAt_drew putAt_whole putAt_lit extract_whole extract_lit one_int one_bool one_slice one_ptr ones_lit onesL_nil onesL_cons isRow_new rowOf_new isRow_past rowOf_past isRow_drew rowOf_drew lt2 lt3 lt4 List.take_succ_cons List.take_zero List.drop_succ_cons List.drop_zero List.cons_append List.nil_append List.length_cons List.length_nil List.size_toArray setRow_new setRow_past own_cell own_frozen own_set own_isRange own_rangeOf own_fits setAt_row sr_sr sr_size sr_row sr_row' sr_isRow sr_isRow' sr_fits' sr_cell' sr_frozen' sr_isRange' sr_rangeOf' sr_isCells isCells_new isCells_past isCells_drew valC_size valC_ones opC_size opC_ones replyC_size
theorem hmm392 (w : World) : (Instr.makeMap 392 (some (.int .i64 0))).run Tryz.prog w = .ok (.map (some w.heap.size)) (w.alloc (.map #[] 0)) := by kernel_rfl
attribute [local go_sem] hmm392
/-- evict.came: all of them. -/
theorem came_law (P : List Nat) (v : Value) (w : World) (hs : Sl w v 10 (P.map peerC)) (hl : P.length ≤ 1000) :
    Calls Tryz.prog 302 #[v] w fun e w' => ∃ v', e = .returned v' ∧ Own w' w.heap.size 75 10 v' (P.map peerC) ∧ Below w.heap.size w w' := by
  obtain ⟨a, cap, rfl, q1, q2, q3⟩ := hs
  rw [List.length_map] at q1 ⊢
  go_enter Tryz.func302, Tryz.ntmps302
  go_wp2
  go_loopg [3, 8] P.length (fun g s3 s8 wr => ∃ k : Nat, s8 = .int .i64 (k : Int) ∧ k + g = P.length ∧ Keep w wr ∧ Hid (Own wr w.heap.size 75 10 s3 ((P.take k).map peerC)))
  case atStart => exact ⟨0, rfl, by omega, ⟨Below.refl _ _⟩, Lib.hid (Own.nil _ _ _ _)⟩
  case round =>
    obtain ⟨k, rfl, hg, hK, HO⟩ := hrel
    have HG := Lib.hid hg
    have xx := alk hK.out; (try have zz := zs w.heap.size wr.heap.size)
    by_cases hk : k < P.length
    · rcases q3 with ⟨_, q3⟩ | ⟨g, o, rfl, hg', q3⟩
      · simp at q3; subst q3; simp at hk
      have hE := q3 k (peerC P[k]) (by simp [hk])
      have e1 := hE.is
      have e2 := hE.of
      have hgr := hE.lt
      have hkz : (k : Int) < (P.length : Int) := by omega
      have n1 : 0 ≤ (k : Int) := by omega
      have hws := hK.out.size
      have htk : (P.take (k + 1)).map peerC = (P.take k).map peerC ++ [peerC P[k]] := by rw [List.take_succ_eq_append_getElem hk, List.map_append]; rfl
      unfold peerC at e2
      clear q3 hg
      go_wp2_with (at_builtin; refine app75 rfl (.tmp 14) (.tmp 16) rfl w.heap.size _ ((P.take k).map peerC) [peerC P[k]] rfl (HO.out.below (bk5)) _ _ _ rfl (sl_one _ (peerC P[k]) 75 10 _ (by simp) rfl rfl) (by simp only [List.length_map, List.length_take, List.length_singleton]; omega) (by simp; omega) ?_; intro v' w3 hown hbel hnil)
      go_roundg (P.length - (k + 1))
      case measure => have := HG.out; omega
      case rel => exact ⟨k + 1, by simp, by have := HG.out; omega, ⟨bk0⟩, Lib.hid (by rw [htk]; exact hown)⟩
    · obtain rfl : k = P.length := by omega
      have hkz : ¬ ((P.length : Int) < (P.length : Int)) := by omega
      rw [List.take_length] at HO
      go_wp2
      refine bodyPost_ret (results_tmp rfl _ _ _) rfl ?_
      exact ⟨_, rfl, HO.out, hK.out⟩
/-- evict.Candidates: nobody. -/
theorem candidates_law (P : List Nat) (v : Value) (w : World) (hs : Sl w v 10 (P.map peerC)) (hl : P.length ≤ 19) :
    Calls Tryz.prog 280 #[v, .agg (#[.int .i64 1, .int .i64 1, .int .i64 1, .int .i64 64]), .int .u64 1] w fun e w' => e = .returned (.slice none 0 0) ∧ Below w.heap.size w w' := by
  have HS := Lib.hid (hs.below ((Below.refl w.heap.size w).alloc (Nat.le_refl _) (.cells (#[.int .i64 1, .int .i64 1, .int .i64 1, .int .i64 64]) 27)))
  have hls := Lib.hid (fun g hg => hs.lt (g := g) hg)
  clear hs
  go_enter Tryz.func280, Tryz.ntmps280
  go_wp2_with (go_at_call 302; refine (came_law P v _ HS.out (by omega)).mono ?_; rintro e w1 ⟨v1, rfl, ho, hb⟩; have hk1 := Keep.mk hb; have xx := alk hk1.out; (try have zz := zs w.heap.size w1.heap.size); clear hb; have HO := Lib.hid ho; clear ho)
  refine (left_law P v1 w1 HO.out.sl hl).mono ?_
  rintro e w2 ⟨v2, rfl, hs2, hb2⟩
  have hk2 := Keep.mk hb2
  clear hb2
  obtain ⟨a2, cap2, rfl, q1, q2, q3⟩ := hs2
  simp only [List.map_nil, List.length_nil] at *
  go_wp2
  go_loopg [7, 17] 0 (fun g s7 s17 wr => s7 = .slice none 0 0 ∧ s17 = .int .i64 0 ∧ wr = w2)
  case atStart => exact ⟨rfl, rfl, rfl⟩
  case round =>
    obtain ⟨rfl, rfl, rfl⟩ := hrel
    go_wp2
    refine bodyPost_ret (results_tmp rfl _ _ _) rfl ?_
    exact ⟨rfl, bk0⟩
/-- crowd.count of nobody. -/
theorem count_none (w : World) : Calls Tryz.prog 304 #[.slice none 0 0] w fun e w' => (∃ v, e = .returned v) ∧ Below w.heap.size w w' := by
  go_enter Tryz.func304, Tryz.ntmps304
  go_wp2
  go_loopg [11] 0 (fun g s11 wr => s11 = .int .i64 0 ∧ wr = w.alloc (.map #[] 0))
  case atStart => exact ⟨rfl, rfl⟩
  case round =>
    obtain ⟨rfl, rfl⟩ := hrel
    go_wp2
    exact bodyPost_ret (results_tmp rfl _ _ _) rfl ⟨⟨_, rfl⟩, bk0⟩
/-- crowd.Pick of nobody. -/
theorem pick_none (w : World) : Calls Tryz.prog 281 #[.slice none 0 0] w fun e w' => e = .returned (.int .i64 (-1)) ∧ Below w.heap.size w w' := by
  go_enter Tryz.func281, Tryz.ntmps281
  go_wp2_with (go_at_call 304; refine (count_none _).mono ?_; rintro e w1 ⟨⟨v, rfl⟩, hb⟩; have hk1 := Keep.mk hb; clear hb)
  go_loopg [4, 11] 0 (fun g s4 s11 wr => s4 = .int .i64 (-1) ∧ s11 = .int .i64 0 ∧ wr = w1)
  case atStart => exact ⟨rfl, rfl, rfl⟩
  case round =>
    obtain ⟨rfl, rfl, rfl⟩ := hrel
    go_wp2
    refine bodyPost_ret (results_tmp rfl _ _ _) rfl ?_
    exact ⟨rfl, bk0⟩
/-- evict.Choose: nobody. -/
theorem choose_law (P : List Nat) (v : Value) (w : World) (hs : Sl w v 10 (P.map peerC)) (hl : P.length ≤ 19) :
    Calls Tryz.prog 250 #[v, .agg (#[.int .i64 1, .int .i64 1, .int .i64 1, .int .i64 64]), .int .u64 1] w fun e w' => e = .returned (.tuple #[.agg (#[.bool false, .int .u64 0, .int .u64 0, .int .i64 0]), .bool false]) ∧ Below w.heap.size w w' := by
  have HS := Lib.hid (hs.below (((Below.refl w.heap.size w).alloc (Nat.le_refl _) (.cells (#[.int .i64 1, .int .i64 1, .int .i64 1, .int .i64 64]) 27)).alloc (by simp) (.cells (#[.bool false, .int .u64 0, .int .u64 0, .int .i64 0]) 36)))
  clear hs
  go_enter Tryz.func250, Tryz.ntmps250
  go_wp2_with (first | (go_at_call 280; refine (candidates_law P v _ HS.out hl).mono ?_; rintro e w1 ⟨rfl, hb⟩; have hk1 := Keep.mk hb; have xx := alk hk1.out; (try have zz := zs w.heap.size w1.heap.size); clear hb) | (go_at_call 281; refine (pick_none _).mono ?_; rintro e w2 ⟨rfl, hb⟩; have hk2 := Keep.mk hb; have xxb := alk hk2.out; (try have zzb := zs w.heap.size w2.heap.size); clear hb))
  exact bodyPost_ret (v := .tuple #[.agg _, _]) (res_row2 (t := 36) Tryz.results250 _ _ _ rfl (by simp [go_sem, *]) (by simp [go_sem, *]) info36 agg36) rfl ⟨rfl, bk0⟩
end
section
open Go.RowKit
attribute [local go_sem ↓] exec_load_75 exec_store_75
attribute [local go_sem] run_load75r run_store75i lt_up isRng_new rngOf_new isRange_past rangeOf_past isRange_drew rangeOf_drew fits_new fits_past fits_drew setAt_new setAt_past setAt_drew putAt_whole putAt_lit extract_whole extract_lit one_int one_bool one_slice one_ptr ones_lit onesL_nil onesL_cons isRow_new rowOf_new isRow_past rowOf_past isRow_drew rowOf_drew lt2 lt3 lt4 List.take_succ_cons List.take_zero List.drop_succ_cons List.drop_zero List.cons_append List.nil_append List.length_cons List.length_nil List.size_toArray setRow_new setRow_past own_cell own_frozen own_set own_isRange own_rangeOf own_fits setAt_row sr_sr sr_size sr_row sr_row' sr_isRow sr_isRow' sr_fits' sr_cell' sr_frozen' sr_isRange' sr_rangeOf' sr_isCells isCells_new isCells_past isCells_drew valC_size valC_ones opC_size opC_ones replyC_size
theorem heap_new (w : World) (C : Array Value) (t : TypeId) : (w.drew.alloc (.cells C t)).heap[w.heap.size]? = some (.cells C t (0, 0)) := by
  show (w.heap.push _)[w.heap.size]? = _
  simp
/-- A row of slices of peers. -/
def AllAt (W : World) (b : Nat) (vs : List Value) (Ls : List (List Nat)) : Prop := RowT W b 55 vs ∧ vs.length = Ls.length ∧ ∀ (i : Nat) (v : Value) (l : List Nat), vs[i]? = some v → Ls[i]? = some l → Sl W v 10 (l.map peerC)
theorem AllAt.low {W W' : World} {b : Nat} {vs : List Value} {Ls : List (List Nat)} (h : AllAt W b vs Ls) (k : Below W.heap.size W W') : AllAt W' b vs Ls :=
  ⟨by have := h.1; unfold RowT at *; rw [k.block b h.1.lt]; exact this, h.2.1, fun i v l h1 h2 => (h.2.2 i v l h1 h2).below k⟩
theorem app_nothing {P : Program} (t e : TypeId) (i : TypeInfo) (ht : P.underlying t = some (.slice e)) (hi : P.info? e = some i) {W w : World} {B n : Nat} {v : Value} {L : List (Array Value)} (h : Own W B e n v L) (ty : TypeId) (c : Nat) :
    (Builtin.append_ #[t, t] ty #[v, .slice none 0 c]).run P w = .ok v w := by
  have hs : Src P i.size t (.slice none 0 c) 0 [] w := ⟨.inl ⟨e, ht⟩, fun _ => rfl, rfl, rfl, by simp, by simp⟩
  rcases h.1.2 with ⟨rfl, h0⟩ | ⟨g, cap, cur, rfl, _, _, hle, _⟩
  · exact run_append_nothing w t t ty e i ht hi none 0 0 (Nat.le_refl _) _ hs
  · exact run_append_nothing w t t ty e i ht hi _ _ _ hle _ hs
/-- slices.Grow of nil. -/
theorem grow_law (n : Nat) (hn : n ≤ 1000) (w : World) : Calls Tryz.prog 186 #[.slice none 0 0, .int .i64 n] w fun e w' => ∃ v', e = .returned v' ∧ Own w' w.heap.size 75 10 v' [] ∧ Below w.heap.size w w' := by
  have h1 : ¬ ((n : Int) < 0) := by omega
  have h2 : IntKind.i64.wrap (n : Int) = (n : Int) := by rw [IntKind.wrap_i64]; omega
  go_enter Tryz.func186, Tryz.ntmps186
  by_cases h0 : n = 0
  · subst h0
    go_wp2
    refine bodyPost_ret (results_tmp rfl _ _ _) rfl ⟨_, rfl, Own.nil _ _ _ _, Below.refl _ _⟩
  · have h3 : ((n : Int) > 0) := by omega
    obtain ⟨i0, hi, hz0, hz1, hz2⟩ := info_parts einfo75
    have hc := grownCap_le_maxLen w n 0 75 (by unfold maxLen; omega)
    have hg := grownCap_ge w n 0 75
    have HR := Lib.hid (Lib.run_append_nil_zeros (P := Tryz.prog) w 55 3 55 75 i0 _ .i64 .i64 Tryz.underlying55 Tryz.underlying3 hi hz0 n (by omega) (by rw [hz1]; decide) (by omega) (by rw [hz2]; omega))
    generalize grownCap w n 0 75 = cc at *
    have n1 : 0 ≤ (cc : Int) := by omega
    have hcH := Lib.hid hc
    have hgH := Lib.hid hg
    have hz3 : (Value.agg #[.bool false, .int .u64 0, .int .u64 0, .int .i64 0, .bool false, .int .i64 0, .int .i64 0, .int .i64 0, .int .i64 0, .int .i64 0]).cells = #[.bool false, .int .u64 0, .int .u64 0, .int .i64 0, .bool false, .int .i64 0, .int .i64 0, .int .i64 0, .int .i64 0, .int .i64 0] := rfl
    clear hc hg
    go_wp2_with (at_builtin; refine Lib.wpList_append_run _ rfl (.tmp 20) (.tmp 21) 55 3 rfl (.slice none 0 0) (.int .i64 n) rfl rfl _ _ HR.out ?_)
    refine bodyPost_ret (results_tmp rfl _ _ _) rfl ⟨_, rfl, ?_, bk5⟩
    refine ⟨⟨by simp [flat], .inr ⟨_, _, _, rfl, Nat.le_refl _, heap_new _ _ _, Nat.zero_le _, hcH.out, ?_, by simp [flat]⟩⟩, by simp⟩
    simp [Builtin.zeroCells]
    have := hgH.out
    omega
/-- slices.Concat. -/
theorem concat_law (b : Nat) (vs : List Value) (Ls : List (List Nat)) (w : World) (h : AllAt w b vs Ls) (hL : Ls.length ≤ 8) (hl : Ls.flatten.length ≤ 1000) :
    Calls Tryz.prog 134 #[.slice (some ⟨b, 0, none⟩) Ls.length Ls.length] w fun e w' => ∃ v', e = .returned v' ∧ Own w' w.heap.size 75 10 v' (Ls.flatten.map peerC) ∧ Below w.heap.size w w' := by
  have HA := Lib.hid h
  have hvl : vs.length = Ls.length := h.2.1
  clear h
  obtain ⟨fl, efl⟩ : ∃ fl : Nat → Nat, ∀ k, fl k = (Ls.take k).flatten.length := ⟨_, fun _ => rfl⟩
  have hfl : ∀ k : Nat, k ≤ Ls.length → fl k ≤ 1000 := fun k hk => by
    rw [efl]
    have : Ls.flatten.length = (Ls.take k).flatten.length + (Ls.drop k).flatten.length := by rw [← List.length_append, ← List.flatten_append, List.take_append_drop]
    omega
  have hstep : ∀ (k : Nat) (hk : k < Ls.length), (Ls.take (k + 1)).flatten = (Ls.take k).flatten ++ Ls[k] := fun k hk => by rw [List.take_succ_eq_append_getElem hk, List.flatten_append]; simp
  obtain ⟨FP, EP⟩ : ∃ FP : Nat → List (Array Value), Hid (∀ k, FP k = ((Ls.take k).flatten).map peerC) := ⟨_, Lib.hid fun _ => rfl⟩
  rw [show Ls.flatten.map peerC = FP Ls.length from by rw [EP.out, List.take_length]]
  have EF := Lib.hid efl
  clear efl
  obtain ⟨i75, hi75, _, _, _⟩ := info_parts einfo75
  go_enter Tryz.func134, Tryz.ntmps134
  go_wp2
  go_loopg [3, 11] Ls.length (fun g s3 s11 wr => ∃ k : Nat, s11 = .int .i64 (k : Int) ∧ k + g = Ls.length ∧ s3 = .int .i64 ((fl k : Nat) : Int) ∧ w = wr)
  case atStart => exact ⟨0, rfl, by omega, by rw [EF.out]; rfl, rfl⟩
  case round =>
    obtain ⟨k, rfl, hg, rfl, rfl⟩ := hrel
    have HG := Lib.hid hg
    by_cases hk : k < Ls.length
    · have hkz : (k : Int) < (Ls.length : Int) := by omega
      have n1 : 0 ≤ (k : Int) := by omega
      have hkv : k < vs.length := by rw [hvl]; exact hk
      have hv : vs[k]? = some vs[k] := List.getElem?_eq_getElem hkv
      have hS := HA.out.2.2 k _ Ls[k] hv (by simp [hk])
      have hcell := HA.out.1.at'.cell (i := k) hv
      have hf := hfl (k + 1) (by omega)
      have hst := hstep k hk
      have hfk : fl (k + 1) = fl k + Ls[k].length := by rw [EF.out, EF.out, hst, List.length_append]
      have hw1 : IntKind.i64.wrap ((fl k : Int) + ((Ls[k].length : Nat) : Int)) = ((fl (k + 1) : Nat) : Int) := by rw [IntKind.wrap_i64, hfk]; omega
      have hw2 : ¬ ((fl (k + 1) : Int) < 0) := by omega
      clear hst hf hg hfk
      generalize vs[k] = vk at *
      obtain ⟨ak, ck, rfl, qk⟩ := hS
      rw [List.length_map] at *
      go_wp2
      go_roundg (Ls.length - (k + 1))
      case measure => have := HG.out; omega
      case rel => exact ⟨k + 1, by simp, by have := HG.out; omega, rfl, rfl⟩
    · obtain rfl : k = Ls.length := by omega
      have hkz : ¬ ((Ls.length : Int) < (Ls.length : Int)) := by omega
      go_wp2_with (go_at_call 186; refine (grow_law (fl Ls.length) (hfl _ (Nat.le_refl _)) _).mono ?_; rintro e w1 ⟨v1, rfl, ho, hb⟩; have HO := Lib.hid ho; have hk1 := Keep.mk hb; clear hb ho)
      go_loopg [6, 27] Ls.length (fun g s6 s27 wx => ∃ k : Nat, s27 = .int .i64 (k : Int) ∧ k + g = Ls.length ∧ Keep w wx ∧ Hid (Own wx w.heap.size 75 10 s6 (FP k)))
      case atStart => exact ⟨0, rfl, by omega, hk1, Lib.hid (by rw [EP.out]; exact HO.out)⟩
      case round =>
        obtain ⟨k, rfl, hg, hK, HO2⟩ := hrel
        have HG2 := Lib.hid hg
        have xx := alk hK.out; (try have zz := zs w.heap.size wr.heap.size)
        by_cases hk : k < Ls.length
        · have hkz : (k : Int) < (Ls.length : Int) := by omega
          have n1 : 0 ≤ (k : Int) := by omega
          have hkv : k < vs.length := by rw [hvl]; exact hk
          have hv : vs[k]? = some vs[k] := List.getElem?_eq_getElem hkv
          have hS := HA.out.2.2 k _ Ls[k] hv (by simp [hk])
          have hbw := HA.out.1.lt
          have hcell := HA.out.1.at'.cell (i := k) hv
          have hf := hfl (k + 1) (by omega)
          have hst := hstep k hk
          rw [EF.out, hst, List.length_append] at hf
          have hst2 : FP (k + 1) = FP k ++ Ls[k].map peerC := by rw [EP.out, EP.out, hst, List.map_append]
          have hFl : (FP k).length = fl k := by rw [EP.out, EF.out, List.length_map]
          have hfk1 := hfl k (by omega)
          have hws := hK.out.size
          have HSk := Lib.hid (hS.below hK.out)
          have H2 := Lib.hid (And.intro hst2 (And.intro hFl (And.intro hfk1 hf)))
          clear hst hg hst2 hFl hfk1 hf
          generalize vs[k] = vk at *
          obtain ⟨ak, ck, rfl, q1, q2, q3⟩ := hS
          rw [List.length_map] at *
          rcases q3 with ⟨rfl, q3⟩ | ⟨gk, ok, rfl, hgk, q3⟩
          · have hl0 : Ls[k].length = 0 := by simpa using q3
            have han := app_nothing (w := wr) 55 75 i75 Tryz.underlying55 hi75 HO2.out
            rw [hl0] at hcell
            go_wp2_with (at_builtin; refine Lib.wpList_append_run _ rfl (.tmp 31) (.tmp 32) 55 55 rfl _ (.slice none 0 ck) rfl rfl _ _ (han _ ck) ?_)
            go_roundg (Ls.length - (k + 1))
            case measure => have := HG2.out; omega
            case rel => exact ⟨k + 1, by simp, by have := HG2.out; omega, hK, Lib.hid (by rw [H2.out.1, q3]; simpa using HO2.out)⟩
          · go_wp2_with (at_builtin; refine app75 rfl (.tmp 31) (.tmp 32) rfl w.heap.size _ _ (Ls[k].map peerC) rfl HO2.out _ _ _ rfl HSk.out (by have := H2.out.2; simp only [List.length_map]; omega) hws ?_; intro v' w3 hown hbel hnil)
            go_roundg (Ls.length - (k + 1))
            case measure => have := HG2.out; omega
            case rel => exact ⟨k + 1, by simp, by have := HG2.out; omega, ⟨bk0⟩, Lib.hid (by rw [H2.out.1]; exact hown)⟩
        · obtain rfl : k = Ls.length := by omega
          have hkz : ¬ ((Ls.length : Int) < (Ls.length : Int)) := by omega
          go_wp2
          refine bodyPost_ret (results_tmp rfl _ _ _) rfl ?_
          exact ⟨_, rfl, HO2.out, hK.out⟩
end
end Go.Proofs.YtnncjbkepakgpaaGreat
