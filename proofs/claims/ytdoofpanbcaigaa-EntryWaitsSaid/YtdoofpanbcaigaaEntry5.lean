/-
  THE WALKS of entries (layer 25): awake.
-/
import Derived.Test.YtdoofpanbcaigaaEnt
namespace Go.Proofs.Ytdoofpanbcaigaa
open Go.RowKit
set_option linter.unusedVariables false
attribute [local go_sem] lt2 lt3
attribute [local go_sem ↓] exec_load_43 exec_store_43 exec_load_86 exec_store_86
attribute [local go_sem] run_loadConf isRow_new rowOf_new isRow_past rowOf_past isRow_drew rowOf_drew run_loadEnt run_storeEnt setRow_new isRow_set rowOf_set

def confE : Array Value := #[.int .i64 0, .int .i64 0, .int .i64 0, .int .i64 0, .int .i64 0, .int .u64 0, .int .i64 0, .int .i64 0, .int .i64 0, .int .i64 0, .int .i64 0, .int .i64 0, .int .i64 0, .int .i64 2, .int .i64 100, .int .i64 0]
theorem confE_is : IsConf confE 2 100 0 := ⟨rfl, rfl, rfl, rfl⟩
theorem ae_store (w : World) : (storeConf (.pointer (some ⟨w.heap.size, 0, none⟩)) (.agg #[.int .i64 0, .int .i64 0, .int .i64 0, .int .i64 0, .int .i64 0, .int .u64 0, .int .i64 0, .int .i64 0, .int .i64 0, .int .i64 0, .int .i64 0, .int .i64 0, .int .i64 0, .int .i64 2, .int .i64 100, .int .i64 0])).run Try.prog (w.alloc (.cells #[.int .i64 0, .int .i64 0, .int .i64 0, .int .i64 0, .int .i64 0, .int .u64 0, .int .i64 0, .int .i64 0, .int .i64 0, .int .i64 0, .int .i64 0, .int .i64 0, .int .i64 0, .int .i64 0, .int .i64 0, .int .i64 0] 43)) = .ok .skip (w.alloc (.cells confE 43)) :=
  run_storeConf_new w _ confE rfl rfl (by kernel_rfl)

def e0 : Array Value := #[.bool false, .int .u64 0, .int .u64 1, .int .i64 80, .int .i64 1, .int .i64 0, .int .i64 5]
def e2 : Array Value := #[.bool false, .int .u64 0, .int .u64 1, .int .i64 80, .int .i64 1, .int .i64 2, .int .i64 104]
theorem awake25_nums : Plain.fit 5 = 5 ∧ failsOf 0 = 1 ∧ failsOf 1 = 2 ∧ Plain.next 2 100 0 2 100 0 = 104 ∧ entryOk false 0 1 80 1 0 5 = true ∧ due 1 5 5 = true ∧ due 2 5 5 = false ∧ due 1 104 103 = false ∧ due 1 104 104 = true := by decide
theorem ae_new (w : World) : Calls Try.prog 71 #[.agg #[.bool false, .int .u64 0, .int .u64 1, .int .i64 80], .int .i64 5] w fun e w' => e = .returned (.agg #[.bool false, .int .u64 0, .int .u64 1, .int .i64 80, .int .i64 1, .int .i64 0, .int .i64 5]) ∧ Below w.heap.size w w' := by
  have := enew_any false 0 1 80 5 w
  rwa [awake25_nums.1] at this
theorem ae_right (w : World) : Calls Try.prog 69 #[.agg #[.bool false, .int .u64 0, .int .u64 1, .int .i64 80, .int .i64 1, .int .i64 0, .int .i64 5]] w fun e w' => e = .returned (.bool true) ∧ Below w.heap.size w w' := by
  have := eright_any false 0 1 80 1 0 5 (by omega) (by omega) w
  rwa [awake25_nums.2.2.2.2.1] at this
theorem ae_due {st nx n : Int} {b : Bool} (h : due st nx n = b) (v6 : Bool) (hi lo port fl : Int) (w : World) : Calls Try.prog 73 #[.agg #[.bool v6, .int .u64 hi, .int .u64 lo, .int .i64 port, .int .i64 st, .int .i64 fl, .int .i64 nx], .int .i64 n] w fun e w' => e = .returned (.bool b) ∧ Below w.heap.size w w' := by
  subst h; exact edue_any v6 hi lo port st fl nx n w
theorem field_ent (v6 : Bool) (hi lo port st fl nx : Int) (w : World) : (Instr.field 86 (.agg #[.bool v6, .int .u64 hi, .int .u64 lo, .int .i64 port, .int .i64 st, .int .i64 fl, .int .i64 nx]) 1).run Try.prog w = .ok (.int .i64 st) w := by kernel_rfl

set_option maxRecDepth 100000 in
set_option maxHeartbeats 400000 in
/-- doormanlaw25.awake. -/
theorem awake25_any (w : World) : Calls Try.prog 82 #[] w fun e w' => e = .returned (.bool true) ∧ Below w.heap.size w w' := by
  have hst := ae_store w
  obtain ⟨_, _, _, _, _, N6, N7, N8, N9⟩ := awake25_nums
  have M1 : failsOf (failsOf 0) = 2 := by decide
  have M2 : Plain.next 2 100 0 2 100 0 = 104 := awake25_nums.2.2.2.1
  have hc : confE.size = 16 := rfl
  obtain ⟨r1, r2⟩ := row_new w confE 43 hc
  have hfd := field_ent false 0 1 80 3 0 104
  go_enter Try.func82, Try.ntmps82
  go_wp2_with fail
  refine (ae_new _).mono ?_; rintro e w1 ⟨rfl, hb1⟩
  obtain ⟨k1, k2⟩ := row_below hb1 r1
  rw [r2] at k2
  have B1 := Lib.hid (((Below.refl _ _).alloc (Nat.le_refl _) _).trans (hb1.mono (show w.heap.size ≤ _ by simp)))
  clear hb1 r1 r2
  go_wp2_with fail
  go_upto_region 3 with (fail)
  have hlt : w.heap.size < w1.heap.size := row_lt k1
  have a1 := row_below ((Below.refl _ w1).alloc (Nat.le_refl _) (.cells #[.bool false, .int .u64 0, .int .u64 1, .int .i64 80, .int .i64 1, .int .i64 0, .int .i64 5] 86)) k1
  rw [k2] at a1
  have a2 := row_new w1 #[.bool false, .int .u64 0, .int .u64 1, .int .i64 80, .int .i64 1, .int .i64 0, .int .i64 5] 86 (n := 7) rfl
  have a3 := Lib.hid (B1.out.alloc B1.out.size (.cells #[.bool false, .int .u64 0, .int .u64 1, .int .i64 80, .int .i64 1, .int .i64 0, .int .i64 5] 86))
  have hS0 : isRow (w1.alloc (.cells #[.bool false, .int .u64 0, .int .u64 1, .int .i64 80, .int .i64 1, .int .i64 0, .int .i64 5] 86)).drew w.heap.size 43 16 = true ∧ rowOf (w1.alloc (.cells #[.bool false, .int .u64 0, .int .u64 1, .int .i64 80, .int .i64 1, .int .i64 0, .int .i64 5] 86)).drew w.heap.size = confE ∧ isRow (w1.alloc (.cells #[.bool false, .int .u64 0, .int .u64 1, .int .i64 80, .int .i64 1, .int .i64 0, .int .i64 5] 86)).drew w1.heap.size 86 7 = true ∧ rowOf (w1.alloc (.cells #[.bool false, .int .u64 0, .int .u64 1, .int .i64 80, .int .i64 1, .int .i64 0, .int .i64 5] 86)).drew w1.heap.size = #[.bool false, .int .u64 0, .int .u64 1, .int .i64 80, .int .i64 1, .int .i64 0, .int .i64 5] ∧ Below w.heap.size w (w1.alloc (.cells #[.bool false, .int .u64 0, .int .u64 1, .int .i64 80, .int .i64 1, .int .i64 0, .int .i64 5] 86)).drew := ⟨a1.1, a1.2, a2.1, a2.2, a3.out.drew⟩
  clear k1 k2 a1 a2 a3 hst hc
  have hz0 : w1.heap.size < (w1.alloc (.cells #[.bool false, .int .u64 0, .int .u64 1, .int .i64 80, .int .i64 1, .int .i64 0, .int .i64 5] 86)).heap.size := by simp
  generalize w1.alloc (.cells #[.bool false, .int .u64 0, .int .u64 1, .int .i64 80, .int .i64 1, .int .i64 0, .int .i64 5] 86) = W0 at *
  obtain ⟨C, hC⟩ : ∃ C, C = confE := ⟨_, rfl⟩
  rw [← hC] at hS0
  have HI : IsConf C 2 100 0 := hC ▸ confE_is
  clear hC
  go_cut [3] (fun v3 wx => ∃ g : Nat, v3 = .pointer (some ⟨g, 0, none⟩) ∧ isRow wx g 86 7 = true ∧ rowOf wx g = #[.bool false, .int .u64 0, .int .u64 1, .int .i64 80, .int .i64 1, .int .i64 2, .int .i64 104] ∧ isRow wx w1.heap.size 86 7 = true ∧ rowOf wx w1.heap.size = #[.bool false, .int .u64 0, .int .u64 1, .int .i64 80, .int .i64 1, .int .i64 0, .int .i64 5] ∧ Hid (Below w.heap.size w wx))
  case first =>
    go_region_held3 (fun w' => isRow w' w.heap.size 43 16 = true ∧ rowOf w' w.heap.size = C ∧ isRow w' w1.heap.size 86 7 = true ∧ rowOf w' w1.heap.size = #[.bool false, .int .u64 0, .int .u64 1, .int .i64 80, .int .i64 1, .int .i64 0, .int .i64 5] ∧ Below w.heap.size w w')
      (first
        | with_reducible assumption
        | with_reducible exact heldCE (by assumption) (by assumption)
        | with_reducible exact heldCE_swap (by assumption) hlt hsz (Nat.le_refl _)
        | with_reducible exact heldCE (by assumption) ((Below.refl _ _).alloc (Nat.le_refl _) _)
        | with_reducible exact heldCE_set (by assumption) hlt (by assumption) (Nat.le_refl _))
      (first
        | (go_at_call 75; refine (efly_any _ _ _ _ _ _ _ _).mono ?_; rintro e w' ⟨rfl, hb'⟩;(first
            | (have hx := freshE_later hb' (by assumption); have HX := Lib.hid hx; obtain ⟨x1, x2⟩ := hx)
            | (have hx := freshE_new hb' rfl (by with_reducible assumption); have HX := Lib.hid hx; obtain ⟨x1, x2⟩ := hx)
            | (have hx := freshE_new (below_undrew' hb') rfl hz0; have HX := Lib.hid hx; obtain ⟨x1, x2⟩ := hx)
            | skip)
           have hsz : w1.heap.size < w'.heap.size := Nat.lt_of_lt_of_le (row_lt (heldCE_row (by assumption))) hb'.size)
        | (go_at_call 77; refine (efail_row HI _ _ _ _ _ _ _ _ _ (by omega) _).mono ?_; rintro e w' ⟨rfl, hb'⟩;(first
            | (have hx := freshE_later hb' (by assumption); have HX := Lib.hid hx; obtain ⟨x1, x2⟩ := hx)
            | (have hx := freshE_new hb' rfl (by with_reducible assumption); have HX := Lib.hid hx; obtain ⟨x1, x2⟩ := hx)
            | (have hx := freshE_new (below_undrew' hb') rfl hz0; have HX := Lib.hid hx; obtain ⟨x1, x2⟩ := hx)
            | skip)
           have hsz : w1.heap.size < w'.heap.size := Nat.lt_of_lt_of_le (row_lt (heldCE_row (by assumption))) hb'.size))
    all_goals go_wp2_with fail
    all_goals go_meet
    all_goals refine ⟨_, rfl, ?_, ?_, heldCE_row (by assumption), heldCE_val (by assumption), Lib.hid (heldCE_below (by assumption))⟩
    all_goals first
      | exact isRow_set x1 rfl
      | exact (row_new _ _ _ rfl).1
      | exact rowOf_set x1
      | exact (row_new _ _ _ rfl).2
  case rest =>
    obtain ⟨g, rfl, x1, x2, r1, r2, HB⟩ := hcut
    have c5 : wc.cell? ⟨g, 5, none⟩ = some (.int .i64 2) := by rw [row_cell x1, x2]; rfl
    clear hlt HI hS0 hz0
    go_wp2_with fail
    refine (ae_right _).mono ?_; rintro e w' ⟨rfl, hb'⟩
    have hS := heldEE ⟨x1, x2, r1, r2, c5, HB⟩ hb'
    clear x1 x2 r1 r2 c5 HB hb'
    obtain ⟨x1, x2, r1, r2, c5, HB⟩ := hS
    go_wp2_with fail
    refine (ae_due N6 _ _ _ _ _ _).mono ?_; rintro e w' ⟨rfl, hb'⟩
    have hS := heldEE ⟨x1, x2, r1, r2, c5, HB⟩ hb'
    clear x1 x2 r1 r2 c5 HB hb'
    obtain ⟨x1, x2, r1, r2, c5, HB⟩ := hS
    go_wp2_with fail
    refine (efly_any _ _ _ _ _ _ _ _).mono ?_; rintro e w' ⟨rfl, hb'⟩
    have hS := heldEE ⟨x1, x2, r1, r2, c5, HB⟩ hb'
    clear x1 x2 r1 r2 c5 HB hb'
    obtain ⟨x1, x2, r1, r2, c5, HB⟩ := hS
    go_wp2_with fail
    refine (ae_due N7 _ _ _ _ _ _).mono ?_; rintro e w' ⟨rfl, hb'⟩
    have hS := heldEE ⟨x1, x2, r1, r2, c5, HB⟩ hb'
    clear x1 x2 r1 r2 c5 HB hb'
    obtain ⟨x1, x2, r1, r2, c5, HB⟩ := hS
    go_wp2_with fail
    refine (ae_due N8 _ _ _ _ _ _).mono ?_; rintro e w' ⟨rfl, hb'⟩
    have hS := heldEE ⟨x1, x2, r1, r2, c5, HB⟩ hb'
    clear x1 x2 r1 r2 c5 HB hb'
    obtain ⟨x1, x2, r1, r2, c5, HB⟩ := hS
    go_wp2_with fail
    refine (ae_due N9 _ _ _ _ _ _).mono ?_; rintro e w' ⟨rfl, hb'⟩
    have hS := heldEE ⟨x1, x2, r1, r2, c5, HB⟩ hb'
    clear x1 x2 r1 r2 c5 HB hb'
    obtain ⟨x1, x2, r1, r2, c5, HB⟩ := hS
    go_wp2_with fail
    refine (egood_any _ _ _ _ _ _ _ _).mono ?_; rintro e w' ⟨rfl, hb'⟩
    have hS := heldEE ⟨x1, x2, r1, r2, c5, HB⟩ hb'
    clear x1 x2 r1 r2 c5 HB hb'
    obtain ⟨x1, x2, r1, r2, c5, HB⟩ := hS
    go_wp2
    go_ret
    exact ⟨rfl, HB.out⟩
end Go.Proofs.Ytdoofpanbcaigaa
