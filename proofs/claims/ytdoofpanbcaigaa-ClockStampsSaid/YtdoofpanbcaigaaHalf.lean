/-
  THE WALKS of layer 15 (half).
-/
import Derived.Test.YtdoofpanbcaigaaSat
import Derived.Test.YtdoofpanbcaigaaPlainHalf
import Derived.Deep.RegionHeld3
import Derived.Deep.QuietTactic
import Derived.BigQuiet
import Derived.Deep.DeepCutAuto
import Derived.ProofKit
import Derived.Lib.MinMax
namespace Go.Proofs.Ytdoofpanbcaigaa
open Go.RowKit

theorem dec_bounds (x l : Int) (h0 : 0 ≤ x) (h1 : x ≤ 1099511627776) : 0 ≤ min (x / min (max l 1) 1073741824) 41 ∧ min (x / min (max l 1) 1073741824) 41 ≤ 64 ∧
    0 ≤ x / min (max l 1) 1073741824 * min (max l 1) 1073741824 ∧ x / min (max l 1) 1073741824 * min (max l 1) 1073741824 ≤ 1099511627776 := by
  have hl : 0 < min (max l 1) 1073741824 := by omega
  generalize min (max l 1) 1073741824 = L at *
  have e : 0 ≤ x / L := Int.ediv_nonneg h0 (by omega)
  have e1 : x / L * L ≤ x := Int.ediv_mul_le x (by omega)
  have e2 : 0 ≤ x / L * L := Int.mul_nonneg e (by omega)
  omega

/-- A world behind which only new things came: what two boxes of the call's own hold. -/
theorem boxes1 {w w1 : World} {A : Array Value} {T : TypeId} (hb : Below (w.alloc (.cells A T)).heap.size (w.alloc (.cells A T)) w1) :
    (∀ i v, A[i]? = some v → w1.cell? ⟨w.heap.size, i, none⟩ = some v) ∧ (∀ o, w1.frozen? ⟨w.heap.size, o, none⟩ = false) ∧ w.heap.size < w1.heap.size := by
  have hz := hb.size
  simp at hz
  refine ⟨fun i v h => ?_, fun o => ?_, by omega⟩
  · rw [hb.cell (p := ⟨_, _, none⟩) (by simp)]; simp [h]
  · rw [hb.frozen (p := ⟨_, _, none⟩) (by simp)]; simp [go_sem]
theorem boxes2 {w w1 : World} {A B : Array Value} {T U : TypeId} (hb : Below ((w.alloc (.cells A T)).alloc (.cells B U)).heap.size ((w.alloc (.cells A T)).alloc (.cells B U)) w1) :
    (∀ i v, A[i]? = some v → w1.cell? ⟨w.heap.size, i, none⟩ = some v) ∧ (∀ o, w1.frozen? ⟨w.heap.size, o, none⟩ = false) ∧
    (∀ i v, B[i]? = some v → w1.cell? ⟨w.heap.size + 1, i, none⟩ = some v) ∧ (∀ o, w1.frozen? ⟨w.heap.size + 1, o, none⟩ = false) ∧ w.heap.size + 1 < w1.heap.size := by
  have hz := hb.size
  simp at hz
  refine ⟨fun i v h => ?_, fun o => ?_, fun i v h => ?_, fun o => ?_, by omega⟩
  · rw [hb.cell (p := ⟨_, _, none⟩) (by simp; omega)]; simp [go_sem, h]
  · rw [hb.frozen (p := ⟨_, _, none⟩) (by simp; omega)]; simp [go_sem]
  · rw [hb.cell (p := ⟨_, _, none⟩) (by simp)]; simp [go_sem, h]
  · rw [hb.frozen (p := ⟨_, _, none⟩) (by simp)]; simp [go_sem]

set_option maxHeartbeats 400000 in
/-- half.fit. -/
theorem hfit_any (p t : Int) (w : World) : Calls Try.prog 83 #[.agg #[.int .i64 p, .int .i64 t]] w fun e w' => e = .returned (.agg #[.int .i64 (Plain.fit p), .int .i64 (Plain.fit t)]) ∧ Below w.heap.size w w' := by
  have a0 := Plain.fit_lo t; have a1 := Plain.fit_hi t
  go_enter Try.func83, Try.ntmps83
  go_wp2
  go_region_held3 (fun w' => w'.cell? ⟨w.heap.size, 0, none⟩ = some (.int .i64 p) ∧ w'.cell? ⟨w.heap.size, 1, none⟩ = some (.int .i64 t)) (simp [go_sem, World.cell?_alloc_past])
    (first | (go_at_call 24; refine (fit_any _ _).mono ?_; rintro e w' ⟨rfl, rfl⟩))
  all_goals go_wp2
  all_goals exact bodyPost_ret (v := .agg #[.int .i64 (Plain.fit p), .int .i64 (Plain.fit t)]) (by simp [results, Try.results83, go_sem, Plain.fit]) rfl ⟨rfl, (((Below.refl _ _).alloc (Nat.le_refl _) _).alloc (by simp) _).drew⟩
set_option maxHeartbeats 400000 in
/-- half.Decay. -/
theorem hdecay_any (p t l n : Int) (w : World) : Calls Try.prog 21 #[.agg #[.int .i64 p, .int .i64 t], .int .i64 l, .int .i64 n] w fun e w' => e = .returned (.agg #[.int .i64 (Plain.decP p t l n), .int .i64 (Plain.decA t l n)]) ∧ Below w.heap.size w w' := by
  have a0 := Plain.fit_lo t; have a1 := Plain.fit_hi t; have b0 := Plain.fit_lo p; have b1 := Plain.fit_hi p
  go_enter Try.func21, Try.ntmps21
  go_wp2_with fail
  refine (hfit_any _ _ _).mono ?_; rintro e w1 ⟨rfl, hb⟩
  obtain ⟨k0, f0, k1, f1, hz⟩ := boxes2 hb
  have c0 := k0 0 _ rfl; have c1 := k0 1 _ rfl; have c2 := k1 0 _ rfl; have c3 := k1 1 _ rfl
  clear k0 k1
  go_wp2_with fail
  refine (sub_any _ _ _).mono ?_; rintro e w' ⟨rfl, rfl⟩
  have s0 : 0 ≤ Plain.sSub n (Plain.fit t) := Plain.fit_lo _
  have s1 : Plain.sSub n (Plain.fit t) ≤ 1099511627776 := Plain.fit_hi _
  obtain ⟨q0, q1, m0, m1⟩ := dec_bounds (Plain.sSub n (Plain.fit t)) l s0 s1
  go_wp2
  go_region
  all_goals go_wp2
  all_goals exact bodyPost_ret (v := .agg #[.int .i64 (Plain.decP p t l n), .int .i64 (Plain.decA t l n)]) (by simp [results, Try.results21, go_sem, Plain.decP, Plain.decA, Plain.decK, Plain.life, c2, c3]) rfl ⟨rfl, (((((Below.refl _ _).alloc (Nat.le_refl _) _).alloc (by simp) _).trans (hb.mono (by simp; omega))).setCell (by simp) _ |>.setCell (by simp) _ |>.setCell (by simp) _ |>.setCell (by simp) _).drew⟩

set_option maxHeartbeats 400000 in
/-- doormanref15.Decay. -/
theorem rdecay_any (p t l n : Int) (w : World) : Calls Try.prog 20 #[.agg #[.int .i64 p, .int .i64 t], .int .i64 l, .int .i64 n] w fun e w' => e = .returned (.agg #[.int .i64 (Plain.decP p t l n), .int .i64 (Plain.decA t l n)]) ∧ Below w.heap.size w w' := by
  have a0 := Plain.fit_lo t; have a1 := Plain.fit_hi t; have b0 := Plain.fit_lo p; have b1 := Plain.fit_hi p
  have n0 := Plain.fit_lo n; have n1 := Plain.fit_hi n
  go_enter Try.func20, Try.ntmps20
  go_upto_if 8 with (fail)
  go_cut [1] (fun v1 wx => v1 = .int .i64 (max l 1) ∧ wx = (w.alloc (.cells #[.int .i64 p, .int .i64 t] 23)).alloc (.cells #[.int .i64 0, .int .i64 0] 23))
  case first =>
    go_wp2
    all_goals (go_meet; exact ⟨by congr 1; omega, rfl⟩)
  case rest =>
    obtain ⟨rfl, rfl⟩ := hcut
    go_upto_if 10 with (fail)
    go_cut [1] (fun v1 wx => v1 = .int .i64 (Plain.life l) ∧ wx = (w.alloc (.cells #[.int .i64 p, .int .i64 t] 23)).alloc (.cells #[.int .i64 0, .int .i64 0] 23))
    case first =>
      go_wp2
      all_goals (go_meet; exact ⟨by unfold Plain.life; congr 1; omega, rfl⟩)
    case rest =>
      obtain ⟨rfl, rfl⟩ := hcut
      go_wp2_with (go_at_call 25; refine (rfit_any _ _).mono ?_; rintro e w' ⟨rfl, rfl⟩)
      have l0 := Plain.life_lo l; have l1 := Plain.life_hi l
      go_loopg [] (Plain.fit p).toNat (fun g wr => ∃ x y : Int, Hid (Plain.Inv p t l n x y) ∧ g = x.toNat ∧ wr = (w.alloc (.cells #[.int .i64 x, .int .i64 y] 23)).alloc (.cells #[.int .i64 0, .int .i64 0] 23))
      case atStart => exact ⟨_, _, Lib.hid (Plain.inv_start p t l n), rfl, rfl⟩
      case round =>
        obtain ⟨x, y, HI, hg, rfl⟩ := hrel
        have HG := Lib.hid hg
        clear hg
        obtain ⟨x0, x1, y0, y1⟩ := Plain.inv_bounds HI.out
        by_cases h1 : 0 < x
        · by_cases h2 : Plain.life l ≤ Plain.fit n - y
          · go_wp2
            go_roundg (x / 2).toNat
            case measure => rw [HG.out]; omega
            case rel => exact ⟨_, _, Lib.hid (Plain.inv_step HI.out h2), rfl, rfl⟩
          · obtain ⟨e1, e2⟩ := Plain.inv_end1 HI.out (Int.not_le.1 h2)
            have E1 := Lib.hid e1; have E2 := Lib.hid e2
            clear e1 e2
            go_wp2
            exact bodyPost_ret (v := .agg #[.int .i64 (Plain.decP p t l n), .int .i64 (Plain.decA t l n)]) (by simp [results, Try.results20, go_sem, ← E1.out, ← E2.out]) rfl ⟨rfl, (((Below.refl _ _).alloc (Nat.le_refl _) _).alloc (by simp) _)⟩
        · by_cases h2 : Plain.life l ≤ Plain.fit n - y
          · obtain ⟨e1, e2⟩ := Plain.inv_end2 HI.out (Int.not_lt.1 h1) h2
            have E1 := Lib.hid e1; have E2 := Lib.hid e2
            have m0 := Int.emod_nonneg (Plain.fit n - y) (show Plain.life l ≠ 0 by omega)
            have m1 := Int.emod_lt_of_pos (Plain.fit n - y) (show 0 < Plain.life l by omega)
            clear e1 e2
            go_wp2
            exact bodyPost_ret (v := .agg #[.int .i64 (Plain.decP p t l n), .int .i64 (Plain.decA t l n)]) (by simp [results, Try.results20, go_sem, ← E1.out, ← E2.out]) rfl ⟨rfl, (((Below.refl _ _).alloc (Nat.le_refl _) _).alloc (by simp) _)⟩
          · obtain ⟨e1, e2⟩ := Plain.inv_end1 HI.out (Int.not_le.1 h2)
            have E1 := Lib.hid e1; have E2 := Lib.hid e2
            clear e1 e2
            go_wp2
            exact bodyPost_ret (v := .agg #[.int .i64 (Plain.decP p t l n), .int .i64 (Plain.decA t l n)]) (by simp [results, Try.results20, go_sem, ← E1.out, ← E2.out]) rfl ⟨rfl, (((Below.refl _ _).alloc (Nat.le_refl _) _).alloc (by simp) _)⟩

theorem field_points (a b : Value) (w : World) : (Instr.field 23 (.agg #[a, b]) 0).run Try.prog w = .ok a w := by kernel_rfl

set_option maxHeartbeats 400000 in
/-- half.Left. -/
theorem left_any (p t l n : Int) (w : World) : Calls Try.prog 22 #[.agg #[.int .i64 p, .int .i64 t], .int .i64 l, .int .i64 n] w fun e w' => e = .returned (.int .i64 (Plain.decP p t l n)) ∧ Below w.heap.size w w' := by
  have hfd := field_points (.int .i64 (Plain.decP p t l n)) (.int .i64 (Plain.decA t l n))
  go_enter Try.func22, Try.ntmps22
  go_wp2_with fail
  refine (hdecay_any _ _ _ _ _).mono ?_; rintro e w1 ⟨rfl, hb⟩
  go_wp2
  go_ret
  exact ⟨rfl, ((Below.refl _ _).alloc (Nat.le_refl _) _).trans (hb.mono (by simp))⟩

theorem awake15_nums : Plain.decP 100 0 10 25 = 25 ∧ Plain.decA 0 10 25 = 20 ∧ Plain.decP 7 3 1 5 = 1 := by decide

set_option maxHeartbeats 400000 in
/-- doormanlaw15.awake. -/
theorem awake15_any (w : World) : Calls Try.prog 23 #[] w fun e w' => e = .returned (.bool true) ∧ Below w.heap.size w w' := by
  obtain ⟨e1, e2, e3⟩ := awake15_nums
  go_enter Try.func23, Try.ntmps23
  go_wp2_with fail
  refine (hdecay_any _ _ _ _ _).mono ?_; rw [e1, e2]; rintro e w1 ⟨rfl, hb⟩
  go_wp2_with fail
  refine (left_any _ _ _ _ _).mono ?_; rw [e3]; rintro e w2 ⟨rfl, hb2⟩
  go_wp2
  go_ret
  exact ⟨rfl, hb.trans (hb2.mono hb.size)⟩
/-- Two boxes of the call's own, of two cells each, hold what they held behind a callee that only makes memory. -/
theorem held22 {B0 B1 : Nat} {w W W' : World} {a b c d : Value}
    (h : W.cell? ⟨B0, 0, none⟩ = some a ∧ W.cell? ⟨B0, 1, none⟩ = some b ∧ W.cell? ⟨B1, 0, none⟩ = some c ∧ W.cell? ⟨B1, 1, none⟩ = some d ∧ B0 < W.heap.size ∧ B1 < W.heap.size ∧ Below w.heap.size w W) (hb : Below W.heap.size W W') :
    W'.cell? ⟨B0, 0, none⟩ = some a ∧ W'.cell? ⟨B0, 1, none⟩ = some b ∧ W'.cell? ⟨B1, 0, none⟩ = some c ∧ W'.cell? ⟨B1, 1, none⟩ = some d ∧ B0 < W'.heap.size ∧ B1 < W'.heap.size ∧ Below w.heap.size w W' := by
  obtain ⟨h1, h2, h3, h4, h5, h6, h7⟩ := h
  have hz := hb.size
  exact ⟨(hb.cell (p := ⟨B0, 0, none⟩) h5).trans h1, (hb.cell (p := ⟨B0, 1, none⟩) h5).trans h2, (hb.cell (p := ⟨B1, 0, none⟩) h6).trans h3, (hb.cell (p := ⟨B1, 1, none⟩) h6).trans h4, by omega, by omega, h7.trans (hb.mono h7.size)⟩

theorem held22_below {B0 B1 : Nat} {w W : World} {a b c d : Value}
    (h : W.cell? ⟨B0, 0, none⟩ = some a ∧ W.cell? ⟨B0, 1, none⟩ = some b ∧ W.cell? ⟨B1, 0, none⟩ = some c ∧ W.cell? ⟨B1, 1, none⟩ = some d ∧ B0 < W.heap.size ∧ B1 < W.heap.size ∧ Below w.heap.size w W) : Below w.heap.size w W := h.2.2.2.2.2.2

set_option maxHeartbeats 1000000 in
/-- doormanlaw15.HalfTells. -/
theorem halfTells_any (p t l n : Int) (w : World) : Calls Try.prog 3 #[.agg #[.int .i64 p, .int .i64 t], .int .i64 l, .int .i64 n] w fun e w' => e = .returned (.bool true) ∧ Below w.heap.size w w' := by
  go_enter Try.func3, Try.ntmps3
  go_wp2_with fail
  refine (rdecay_any _ _ _ _ _).mono ?_; rintro e w1 ⟨rfl, hb⟩
  obtain ⟨k0, f0, hz⟩ := boxes1 hb
  have c0 := k0 0 _ rfl; have c1 := k0 1 _ rfl
  clear k0
  have hB : Below w.heap.size w w1 := ((Below.refl _ _).alloc (Nat.le_refl _) _).trans (hb.mono (by simp))
  go_wp2_with fail
  go_region_held3 (fun w' => w'.cell? ⟨w.heap.size, 0, none⟩ = some (.int .i64 p) ∧ w'.cell? ⟨w.heap.size, 1, none⟩ = some (.int .i64 t) ∧ w'.cell? ⟨w1.heap.size, 0, none⟩ = some (.int .i64 (Plain.decP p t l n)) ∧ w'.cell? ⟨w1.heap.size, 1, none⟩ = some (.int .i64 (Plain.decA t l n)) ∧ w.heap.size < w'.heap.size ∧ w1.heap.size < w'.heap.size ∧ Below w.heap.size w w')
    (first | exact held22 (by assumption) (by assumption) | exact ⟨by simp [go_sem, c0, hz], by simp [go_sem, c1, hz], by simp [go_sem], by simp [go_sem], by simp; omega, by simp, (hB.alloc (Nat.le_of_lt hz) _).drew⟩)
    (first
      | (go_at_call 21; refine (hdecay_any _ _ _ _ _).mono ?_; rintro e w' ⟨rfl, hb'⟩)
      | (go_at_call 22; refine (left_any _ _ _ _ _).mono ?_; rintro e w' ⟨rfl, hb'⟩)
      | (go_at_call 23; refine (awake15_any _).mono ?_; rintro e w' ⟨rfl, hb'⟩))
  go_wp2
  go_ret
  exact ⟨rfl, held22_below (by assumption)⟩
end Go.Proofs.Ytdoofpanbcaigaa
