/-
  THE WALKS of layer 23 (backoff), a conf's cells under one name.
-/
import Derived.Test.YtdoofpanbcaigaaBox
import Derived.Test.YtdoofpanbcaigaaBackoff
namespace Go.Proofs.Ytdoofpanbcaigaa
open Go.RowKit
attribute [local go_sem ↓] exec_load_43 exec_store_43
attribute [local go_sem] run_loadConf isRow_new rowOf_new isRow_past rowOf_past isRow_drew rowOf_drew isRow_drewN rowOf_drewN isRow_set rowOf_set run_storeConf

/-- A conf: sixteen cells, of which three are read here. -/
structure IsConf (C : Array Value) (base cap J : Int) : Prop where
  size : C.size = 16
  base : C[13]? = some (.int .i64 base)
  cap : C[14]? = some (.int .i64 cap)
  jit : C[15]? = some (.int .i64 J)

theorem conf_cells {C : Array Value} {base cap J : Int} (h : IsConf C base cap J) : ∃ x0 x1 x2 x3 x4 x5 x6 x7 x8 x9 x10 x11 x12 : Value, C = #[x0, x1, x2, x3, x4, x5, x6, x7, x8, x9, x10, x11, x12, .int .i64 base, .int .i64 cap, .int .i64 J] := by
  obtain ⟨hs, hb, hc, hj⟩ := h
  obtain ⟨l⟩ := C
  match l, hs with
  | [x0, x1, x2, x3, x4, x5, x6, x7, x8, x9, x10, x11, x12, x13, x14, x15], _ =>
    simp at hb hc hj
    subst hb hc hj
    exact ⟨x0, x1, x2, x3, x4, x5, x6, x7, x8, x9, x10, x11, x12, rfl⟩

theorem delay_row {C : Array Value} {base cap J : Int} (h : IsConf C base cap J) (n : Int) (hn : n ≤ 9223372036854775807) (w : World) : Calls Try.prog 39 #[.agg C, .int .i64 n] w fun e w' => e = .returned (.int .i64 (Plain.delay base cap n)) ∧ Below w.heap.size w w' := by
  obtain ⟨_, _, _, _, _, _, _, _, _, _, _, _, _, rfl⟩ := conf_cells h
  exact delay_any _ _ _ _ _ _ _ _ _ _ _ _ _ _ _ _ _ hn w
theorem rdelay_row {C : Array Value} {base cap J : Int} (h : IsConf C base cap J) (n : Int) (hn : n ≤ 9223372036854775807) (w : World) : Calls Try.prog 40 #[.agg C, .int .i64 n] w fun e w' => e = .returned (.int .i64 (Plain.delay base cap n)) ∧ Below w.heap.size w w' := by
  obtain ⟨_, _, _, _, _, _, _, _, _, _, _, _, _, rfl⟩ := conf_cells h
  exact rdelay_any _ _ _ _ _ _ _ _ _ _ _ _ _ _ _ _ _ hn w
theorem jitter_row {C : Array Value} {base cap J : Int} (h : IsConf C base cap J) (j : Int) (hJ : J ≤ 9223372036854775807) (w : World) : Calls Try.prog 41 #[.agg C, .int .i64 j] w fun e w' => e = .returned (.int .i64 (Plain.jitter J j)) ∧ Below w.heap.size w w' := by
  obtain ⟨_, _, _, _, _, _, _, _, _, _, _, _, _, rfl⟩ := conf_cells h
  exact jitter_any _ _ _ _ _ _ _ _ _ _ _ _ _ _ _ _ _ hJ w
theorem rjitter_row {C : Array Value} {base cap J : Int} (h : IsConf C base cap J) (j : Int) (hJ : J ≤ 9223372036854775807) (w : World) : Calls Try.prog 42 #[.agg C, .int .i64 j] w fun e w' => e = .returned (.int .i64 (Plain.jitter J j)) ∧ Below w.heap.size w w' := by
  obtain ⟨_, _, _, _, _, _, _, _, _, _, _, _, _, rfl⟩ := conf_cells h
  exact rjitter_any _ _ _ _ _ _ _ _ _ _ _ _ _ _ _ _ _ hJ w

set_option maxHeartbeats 2000000 in
/-- backoff.Next. -/
theorem next_row {C : Array Value} {base cap J : Int} (h : IsConf C base cap J) (n now j : Int) (hn : n ≤ 9223372036854775807) (hJ : J ≤ 9223372036854775807) (w : World) :
    Calls Try.prog 43 #[.agg C, .int .i64 n, .int .i64 now, .int .i64 j] w fun e w' => e = .returned (.int .i64 (Plain.next base cap J n now j)) ∧ Below w.heap.size w w' := by
  have H := Lib.hid h
  have hr := row_new w C 43 h.size
  clear h
  go_enter Try.func43, Try.ntmps43
  go_wp2
  go_region_held3 (fun w' => isRow w' w.heap.size 43 16 = true ∧ rowOf w' w.heap.size = C ∧ Below w.heap.size w w')
    (first | assumption | exact heldR (by assumption) (by assumption) | exact ⟨hr.1, hr.2, ((Below.refl _ _).alloc (Nat.le_refl _) _).drew⟩)
    (first
      | (go_at_call 39; refine (delay_row H.out _ hn _).mono ?_; rintro e w' ⟨rfl, hb'⟩)
      | (go_at_call 41; refine (jitter_row H.out _ hJ _).mono ?_; rintro e w' ⟨rfl, hb'⟩)
      | (go_at_call 26; refine (add_any _ _ _).mono ?_; rintro e w' ⟨rfl, rfl⟩))
  all_goals go_wp2
  all_goals go_ret
  all_goals exact ⟨rfl, heldR_below (by assumption)⟩
set_option maxHeartbeats 2000000 in
/-- doormanref23.Next. -/
theorem rnext_row {C : Array Value} {base cap J : Int} (h : IsConf C base cap J) (n now j : Int) (hn : n ≤ 9223372036854775807) (hJ : J ≤ 9223372036854775807) (w : World) :
    Calls Try.prog 44 #[.agg C, .int .i64 n, .int .i64 now, .int .i64 j] w fun e w' => e = .returned (.int .i64 (Plain.next base cap J n now j)) ∧ Below w.heap.size w w' := by
  have H := Lib.hid h
  have hr := row_new w C 43 h.size
  clear h
  go_enter Try.func44, Try.ntmps44
  go_wp2
  go_region_held3 (fun w' => isRow w' w.heap.size 43 16 = true ∧ rowOf w' w.heap.size = C ∧ Below w.heap.size w w')
    (first | assumption | exact heldR (by assumption) (by assumption) | exact ⟨hr.1, hr.2, ((Below.refl _ _).alloc (Nat.le_refl _) _).drew⟩)
    (first
      | (go_at_call 40; refine (rdelay_row H.out _ hn _).mono ?_; rintro e w' ⟨rfl, hb'⟩)
      | (go_at_call 42; refine (rjitter_row H.out _ hJ _).mono ?_; rintro e w' ⟨rfl, hb'⟩)
      | (go_at_call 27; refine (radd_any _ _ _).mono ?_; rintro e w' ⟨rfl, rfl⟩))
  all_goals go_wp2
  all_goals go_ret
  all_goals exact ⟨rfl, heldR_below (by assumption)⟩

def confZ : Array Value := #[.int .i64 0, .int .i64 0, .int .i64 0, .int .i64 0, .int .i64 0, .int .u64 0, .int .i64 0, .int .i64 0, .int .i64 0, .int .i64 0, .int .i64 0, .int .i64 0, .int .i64 0, .int .i64 2, .int .i64 10, .int .i64 3]
theorem confZ_is : IsConf confZ 2 10 3 := ⟨rfl, rfl, rfl, rfl⟩

theorem aw_delay (n r : Int) (h : Plain.delay 2 10 n = r) (hn : n ≤ 9223372036854775807) (w : World) : Calls Try.prog 39 #[.agg confZ, .int .i64 n] w fun e w' => e = .returned (.int .i64 r) ∧ Below w.heap.size w w' := by
  subst h; exact delay_row confZ_is n hn w
theorem aw_next (w : World) : Calls Try.prog 43 #[.agg confZ, .int .i64 2, .int .i64 100, .int .i64 (-1)] w fun e w' => e = .returned (.int .i64 106) ∧ Below w.heap.size w w' := by
  have := next_row confZ_is 2 100 (-1) (by omega) (by omega) w
  rwa [Plain.awake23_nums.2.2.2] at this

theorem aw_store (w : World) : (storeConf (.pointer (some ⟨w.heap.size, 0, none⟩)) (.agg #[.int .i64 0, .int .i64 0, .int .i64 0, .int .i64 0, .int .i64 0, .int .u64 0, .int .i64 0, .int .i64 0, .int .i64 0, .int .i64 0, .int .i64 0, .int .i64 0, .int .i64 0, .int .i64 2, .int .i64 10, .int .i64 3])).run Try.prog (w.alloc (.cells #[.int .i64 0, .int .i64 0, .int .i64 0, .int .i64 0, .int .i64 0, .int .u64 0, .int .i64 0, .int .i64 0, .int .i64 0, .int .i64 0, .int .i64 0, .int .i64 0, .int .i64 0, .int .i64 0, .int .i64 0, .int .i64 0] 43)) = .ok .skip (w.alloc (.cells confZ 43)) :=
  run_storeConf_new w _ confZ rfl rfl (by kernel_rfl)

set_option maxRecDepth 100000 in
set_option maxHeartbeats 2000000 in
/-- doormanlaw23.awake. -/
theorem awake23_any (w : World) : Calls Try.prog 45 #[] w fun e w' => e = .returned (.bool true) ∧ Below w.heap.size w w' := by
  have hst := aw_store w
  obtain ⟨r1, r2⟩ := row_new w confZ 43 (show confZ.size = 16 from rfl)
  go_enter Try.func45, Try.ntmps45
  go_wp2_with fail
  refine (aw_delay 1 2 Plain.awake23_nums.1 (by omega) _).mono ?_; rintro e w1 ⟨rfl, hb1⟩
  obtain ⟨k1, k2⟩ := row_below hb1 r1
  rw [r2] at k2
  have B1 := Lib.hid (((Below.refl _ _).alloc (Nat.le_refl _) _).trans (hb1.mono (show w.heap.size ≤ _ by simp)))
  clear hb1 hst r1 r2
  go_wp2_with fail
  refine (aw_delay 3 8 Plain.awake23_nums.2.1 (by omega) _).mono ?_; rintro e w2 ⟨rfl, hb2⟩
  obtain ⟨m1, m2⟩ := row_below hb2 k1
  rw [k2] at m2
  have B2 := Lib.hid (B1.out.trans (hb2.mono B1.out.size))
  clear hb2 B1 k1 k2
  go_wp2_with fail
  refine (aw_delay 9 10 Plain.awake23_nums.2.2.1 (by omega) _).mono ?_; rintro e w3 ⟨rfl, hb3⟩
  obtain ⟨n1, n2⟩ := row_below hb3 m1
  rw [m2] at n2
  have B3 := Lib.hid (B2.out.trans (hb3.mono B2.out.size))
  clear hb3 B2 m1 m2
  go_wp2_with fail
  refine (aw_next _).mono ?_; rintro e w4 ⟨rfl, hb4⟩
  have B4 := Lib.hid (B3.out.trans (hb4.mono B3.out.size))
  clear hb4 B3 n1 n2
  go_wp2
  go_ret
  exact ⟨rfl, B4.out⟩
end Go.Proofs.Ytdoofpanbcaigaa
