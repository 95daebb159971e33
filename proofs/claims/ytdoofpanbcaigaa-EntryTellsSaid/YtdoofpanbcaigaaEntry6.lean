/-
  THE WALK of doormanlaw25.EntryTells.
-/
import Derived.Test.YtdoofpanbcaigaaEntry5
import Derived.Test.YtdoofpanbcaigaaClass
namespace Go.Proofs.Ytdoofpanbcaigaa
open Go.RowKit
set_option linter.unusedVariables false
attribute [local go_sem] lt2 lt3
attribute [local go_sem ↓] exec_load_43 exec_store_43 exec_load_86 exec_store_86
attribute [local go_sem] run_loadConf isRow_new rowOf_new isRow_past rowOf_past isRow_drew rowOf_drew run_loadEnt

/-- What the three boxes of EntryTells hold. -/
def HoldT (g : Nat) (C : Array Value) (v6 : Bool) (hi lo port st fl nx n j : Int) (w W : World) : Prop := isRow W g 43 16 = true ∧ rowOf W g = C ∧ isRow W (g + 1) 86 7 = true ∧ rowOf W (g + 1) = #[.bool v6, .int .u64 hi, .int .u64 lo, .int .i64 port, .int .i64 st, .int .i64 fl, .int .i64 nx] ∧ W.cell? ⟨g + 1, 0, none⟩ = some (.bool v6) ∧ W.cell? ⟨g + 1, 1, none⟩ = some (.int .u64 hi) ∧ W.cell? ⟨g + 1, 2, none⟩ = some (.int .u64 lo) ∧ W.cell? ⟨g + 1, 3, none⟩ = some (.int .i64 port) ∧ W.cell? ⟨g + 1 + 1, 0, none⟩ = some (.int .i64 n) ∧ W.cell? ⟨g + 1 + 1, 1, none⟩ = some (.int .i64 j) ∧ g + 1 + 1 < W.heap.size ∧ Below w.heap.size w W
theorem holdT {g : Nat} {C : Array Value} {v6 : Bool} {hi lo port st fl nx n j : Int} {w W W' : World} (h : HoldT g C v6 hi lo port st fl nx n j w W) (hb : Below W.heap.size W W') : HoldT g C v6 hi lo port st fl nx n j w W' := by
  obtain ⟨h1, h2, h3, h4, h5, h6, h7, h8, h9, h10, hz, hB⟩ := h
  obtain ⟨k1, k2⟩ := row_below hb h1
  obtain ⟨k3, k4⟩ := row_below hb h3
  have l3 := row_lt h3
  exact ⟨k1, k2.trans h2, k3, k4.trans h4, (hb.cell (p := ⟨g + 1, 0, none⟩) l3).trans h5, (hb.cell (p := ⟨g + 1, 1, none⟩) l3).trans h6, (hb.cell (p := ⟨g + 1, 2, none⟩) l3).trans h7, (hb.cell (p := ⟨g + 1, 3, none⟩) l3).trans h8, (hb.cell (p := ⟨g + 1 + 1, 0, none⟩) hz).trans h9, (hb.cell (p := ⟨g + 1 + 1, 1, none⟩) hz).trans h10, Nat.lt_of_lt_of_le hz hb.size, hB.trans (hb.mono hB.size)⟩
theorem holdT_start (w : World) (C : Array Value) (v6 : Bool) (hi lo port st fl nx n j : Int) (T : TypeId) (hC : C.size = 16) : HoldT w.heap.size C v6 hi lo port st fl nx n j w (((w.alloc (.cells C 43)).alloc (.cells #[.bool v6, .int .u64 hi, .int .u64 lo, .int .i64 port, .int .i64 st, .int .i64 fl, .int .i64 nx] 86)).alloc (.cells #[.int .i64 n, .int .i64 j] T)).drew := by
  generalize hE : (#[.bool v6, .int .u64 hi, .int .u64 lo, .int .i64 port, .int .i64 st, .int .i64 fl, .int .i64 nx] : Array Value) = E
  have hE7 : E.size = 7 := by subst hE; rfl
  have hb : Below w.heap.size w (((w.alloc (.cells C 43)).alloc (.cells E 86)).alloc (.cells #[.int .i64 n, .int .i64 j] T)) := (((Below.refl _ _).alloc (Nat.le_refl _) _).alloc (by simp) _).alloc (by simp; omega) _
  have r1 := row_below (((Below.refl _ (w.alloc (.cells C 43))).alloc (Nat.le_refl _) (.cells E 86)).alloc (by simp) (.cells #[.int .i64 n, .int .i64 j] T)) (row_new w C 43 hC).1
  have r2 := row_below ((Below.refl _ ((w.alloc (.cells C 43)).alloc (.cells E 86))).alloc (Nat.le_refl _) (.cells #[.int .i64 n, .int .i64 j] T)) (row_new (w.alloc (.cells C 43)) E 86 hE7).1
  rw [(row_new w C 43 hC).2] at r1
  rw [(row_new (w.alloc (.cells C 43)) E 86 hE7).2] at r2
  have e : (w.alloc (.cells C 43)).heap.size = w.heap.size + 1 := by simp
  rw [e] at r2
  have c : ∀ i, (((w.alloc (.cells C 43)).alloc (.cells E 86)).alloc (.cells #[.int .i64 n, .int .i64 j] T)).cell? ⟨w.heap.size + 1, i, none⟩ = E[i]? := fun i => by rw [row_cell r2.1, r2.2]
  have H : HoldT w.heap.size C v6 hi lo port st fl nx n j w (((w.alloc (.cells C 43)).alloc (.cells E 86)).alloc (.cells #[.int .i64 n, .int .i64 j] T)) := by
    subst hE
    exact ⟨r1.1, r1.2, r2.1, r2.2, c 0, c 1, c 2, c 3, by simp [go_sem], by simp [go_sem], by simp, hb⟩
  exact holdT H (Below.refl _ _).drew

set_option maxRecDepth 100000 in
set_option maxHeartbeats 8000000 in
/-- doormanlaw25.EntryTells. -/
theorem entryTells_any {C : Array Value} {base cap J : Int} (h : IsConf C base cap J) (hJ : J ≤ 9223372036854775807) (v6 : Bool) (hi lo port st fl nx : Int) (h0 : 0 ≤ lo) (h1 : lo < 18446744073709551616) (n j : Int) (w : World) :
    Calls Try.prog 18 #[.agg C, .agg #[.bool v6, .int .u64 hi, .int .u64 lo, .int .i64 port, .int .i64 st, .int .i64 fl, .int .i64 nx], .agg #[.int .i64 n, .int .i64 j]] w fun e w' => e = .returned (.bool true) ∧ Below w.heap.size w w' := by
  have H := Lib.hid h
  have hn := h.size
  have HS := holdT_start w C v6 hi lo port st fl nx n j 28 hn
  clear h
  go_enter Try.func18, Try.ntmps18
  go_upto_region 1 with (fail)
  simp only [List.append_eq, List.cons_append, List.nil_append]
  refine region_class (HoldT w.heap.size C v6 hi lo port st fl nx n j w) (by kernel_rfl) (by kernel_rfl) HS ?_
  repeat (first
    | go_big_quiet_skip
    | (go_big_quiet_want
       apply class_op
       · intro W hS
         have hK := hS
         obtain ⟨r1, q1, r2, q2, c0, c1, c2, c3, l0, l1, hz, -⟩ := hS
         go_simp
         try first
           | with_reducible rfl
           | (go_at_call 69; refine (eright_any v6 hi lo port st fl nx h0 h1 _).mono ?_; rintro e w' ⟨rfl, hb'⟩; exact ⟨rfl, holdT hK hb'⟩)
           | (go_at_call 70; refine (reright_any v6 hi lo port st fl nx h0 h1 _).mono ?_; rintro e w' ⟨rfl, hb'⟩; exact ⟨rfl, holdT hK hb'⟩)
           | (go_at_call 71; refine (enew_any v6 hi lo port _ _).mono ?_; rintro e w' ⟨rfl, hb'⟩; exact ⟨rfl, holdT hK hb'⟩)
           | (go_at_call 72; refine (renew_any v6 hi lo port _ _).mono ?_; rintro e w' ⟨rfl, hb'⟩; exact ⟨rfl, holdT hK hb'⟩)
           | (go_at_call 73; refine (edue_any v6 hi lo port st fl nx _ _).mono ?_; rintro e w' ⟨rfl, hb'⟩; exact ⟨rfl, holdT hK hb'⟩)
           | (go_at_call 74; refine (redue_any v6 hi lo port st fl nx _ _).mono ?_; rintro e w' ⟨rfl, hb'⟩; exact ⟨rfl, holdT hK hb'⟩)
           | (go_at_call 75; refine (efly_any v6 hi lo port st fl nx _).mono ?_; rintro e w' ⟨rfl, hb'⟩; exact ⟨rfl, holdT hK hb'⟩)
           | (go_at_call 76; refine (restate_any v6 hi lo port st fl nx _ _).mono ?_; rintro e w' ⟨rfl, hb'⟩; exact ⟨rfl, holdT hK hb'⟩)
           | (go_at_call 77; refine (efail_row H.out v6 hi lo port st fl nx _ _ hJ _).mono ?_; rintro e w' ⟨rfl, hb'⟩; exact ⟨rfl, holdT hK hb'⟩)
           | (go_at_call 78; refine (refail_row H.out v6 hi lo port st fl nx _ _ hJ _).mono ?_; rintro e w' ⟨rfl, hb'⟩; exact ⟨rfl, holdT hK hb'⟩)
           | (go_at_call 79; refine (egood_any v6 hi lo port st fl nx _).mono ?_; rintro e w' ⟨rfl, hb'⟩; exact ⟨rfl, holdT hK hb'⟩)
           | (go_at_call 80; refine (regood_any v6 hi lo port st fl nx _).mono ?_; rintro e w' ⟨rfl, hb'⟩; exact ⟨rfl, holdT hK hb'⟩)
           | (go_at_call 81; refine (edown_any v6 hi lo port st fl nx _).mono ?_; rintro e w' ⟨rfl, hb'⟩; exact ⟨rfl, holdT hK hb'⟩)
           | (go_at_call 82; refine (awake25_any _).mono ?_; rintro e w' ⟨rfl, hb'⟩; exact ⟨rfl, holdT hK hb'⟩)
       go_big_quiet_on
       try simp only [Act.put, List.setIfInBounds_toArray, List.set_cons_zero, List.set_cons_succ]))
  refine wpQuiet_nil ?_

  intro w' hS
  go_wp2
  go_ret
  exact ⟨rfl, hS.2.2.2.2.2.2.2.2.2.2.2⟩
end Go.Proofs.Ytdoofpanbcaigaa
