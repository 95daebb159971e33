/-
  THE WALKS of entries (layer 25): Fail.
-/
import Derived.Test.YtdoofpanbcaigaaEntry3
import Derived.Test.YtdoofpanbcaigaaBackoff2
namespace Go.Proofs.Ytdoofpanbcaigaa
open Go.RowKit
set_option linter.unusedVariables false
attribute [local go_sem] lt2 lt3
attribute [local go_sem ↓] exec_load_43 exec_store_43
attribute [local go_sem] run_loadConf isRow_new rowOf_new isRow_past rowOf_past isRow_drew rowOf_drew

/-- How many failures there are behind one more. -/
def failsOf (fl : Int) : Int := min (max fl 0) 999 + 1
theorem failsOf_bounds (fl : Int) : 1 ≤ failsOf fl ∧ failsOf fl ≤ 1000 := by unfold failsOf; omega

theorem boxes3 {w w1 : World} {A B C : Array Value} {T U V : TypeId} (hb : Below (((w.alloc (.cells A T)).alloc (.cells B U)).alloc (.cells C V)).heap.size (((w.alloc (.cells A T)).alloc (.cells B U)).alloc (.cells C V)) w1) :
    (∀ i v, B[i]? = some v → w1.cell? ⟨w.heap.size + 1, i, none⟩ = some v) ∧ (∀ o, w1.frozen? ⟨w.heap.size + 1, o, none⟩ = false) ∧
    (∀ i v, C[i]? = some v → w1.cell? ⟨w.heap.size + 1 + 1, i, none⟩ = some v) ∧ (∀ o, w1.frozen? ⟨w.heap.size + 1 + 1, o, none⟩ = false) ∧ w.heap.size + 1 + 1 < w1.heap.size := by
  have hz := hb.size
  simp at hz
  refine ⟨fun i v h => ?_, fun o => ?_, fun i v h => ?_, fun o => ?_, by omega⟩
  · rw [hb.cell (p := ⟨_, _, none⟩) (by simp <;> omega)]; simp [go_sem, h]
  · rw [hb.frozen (p := ⟨_, _, none⟩) (by simp <;> omega)]; simp [go_sem]
  · rw [hb.cell (p := ⟨_, _, none⟩) (by simp)]; simp [go_sem, h]
  · rw [hb.frozen (p := ⟨_, _, none⟩) (by simp)]; simp [go_sem]

theorem below_undrew' {W W' : World} (hb : Below W.drew.heap.size W.drew W') : Below W.heap.size W W' := (Below.refl W.heap.size W).drew.trans hb

set_option maxHeartbeats 2000000 in
/-- entry.Fail. -/
theorem efail_row {C : Array Value} {base cap J : Int} (h : IsConf C base cap J) (v6 : Bool) (hi lo port st fl nx : Int) (n j : Int) (hJ : J ≤ 9223372036854775807) (w : World) :
    Calls Try.prog 77 #[.agg C, .agg #[.bool v6, .int .u64 hi, .int .u64 lo, .int .i64 port, .int .i64 st, .int .i64 fl, .int .i64 nx], .int .i64 n, .int .i64 j] w fun e w' => e = .returned (.agg #[.bool v6, .int .u64 hi, .int .u64 lo, .int .i64 port, .int .i64 1, .int .i64 (failsOf fl), .int .i64 (Plain.next base cap J (failsOf fl) n j)]) ∧ Below w.heap.size w w' := by
  have H := Lib.hid h
  have hn := h.size
  have F : Hid (min (max fl 0) 999 + 1 = failsOf fl) := Lib.hid rfl
  obtain ⟨f1, f2⟩ := failsOf_bounds fl
  have g1 : 0 ≤ min (max fl 0) 999 := by omega
  have g2 : min (max fl 0) 999 ≤ 999 := by omega
  clear h
  go_enter Try.func77, Try.ntmps77
  go_wp2_with fail
  refine (next_row H.out (failsOf fl) n j (by omega) hJ _).mono ?_; rintro e w1 ⟨rfl, hb⟩
  obtain ⟨k1, m1, k2, m2, hz⟩ := boxes3 hb
  have c0 : w1.cell? ⟨w.heap.size + 1, 0, none⟩ = some (.bool v6) := k1 0 _ rfl
  have c1 : w1.cell? ⟨w.heap.size + 1, 1, none⟩ = some (.int .u64 hi) := k1 1 _ rfl
  have c2 : w1.cell? ⟨w.heap.size + 1, 2, none⟩ = some (.int .u64 lo) := k1 2 _ rfl
  have c3 : w1.cell? ⟨w.heap.size + 1, 3, none⟩ = some (.int .i64 port) := k1 3 _ rfl
  have c4 : w1.cell? ⟨w.heap.size + 1, 4, none⟩ = some (.int .i64 1) := k1 4 _ rfl
  have c5 : w1.cell? ⟨w.heap.size + 1, 5, none⟩ = some (.int .i64 (failsOf fl)) := k1 5 _ rfl
  have c6 : w1.cell? ⟨w.heap.size + 1, 6, none⟩ = some (.int .i64 nx) := k1 6 _ rfl
  have d0 : w1.cell? ⟨w.heap.size + 1 + 1, 0, none⟩ = some (.bool false) := k2 0 _ rfl
  have d1 : w1.cell? ⟨w.heap.size + 1 + 1, 1, none⟩ = some (.int .u64 0) := k2 1 _ rfl
  have d2 : w1.cell? ⟨w.heap.size + 1 + 1, 2, none⟩ = some (.int .u64 0) := k2 2 _ rfl
  have d3 : w1.cell? ⟨w.heap.size + 1 + 1, 3, none⟩ = some (.int .i64 0) := k2 3 _ rfl
  have d4 : w1.cell? ⟨w.heap.size + 1 + 1, 4, none⟩ = some (.int .i64 0) := k2 4 _ rfl
  have d5 : w1.cell? ⟨w.heap.size + 1 + 1, 5, none⟩ = some (.int .i64 0) := k2 5 _ rfl
  have d6 : w1.cell? ⟨w.heap.size + 1 + 1, 6, none⟩ = some (.int .i64 0) := k2 6 _ rfl
  have HB : Hid (Below w.heap.size w w1) := Lib.hid (((((Below.refl _ _).alloc (Nat.le_refl _) _).alloc (by simp) _).alloc (by simp; omega) _).trans (hb.mono (by simp; omega)))
  clear hb k1 k2
  go_wp2
  exact bodyPost_ret (v := .agg #[.bool v6, .int .u64 hi, .int .u64 lo, .int .i64 port, .int .i64 1, .int .i64 (failsOf fl), .int .i64 (Plain.next base cap J (failsOf fl) n j)]) (by simp [results, Try.results77, go_sem, d0, d1, d2, d3, d4, d5, d6]) rfl ⟨rfl, by repeat' (first | (with_reducible exact HB.out) | (with_reducible exact Below.refl _ _) | (with_reducible apply Below.drew) | (with_reducible refine Below.alloc ?_ ?_ _) | (with_reducible refine Below.setCell ?_ ?_ _) | (with_reducible exact Nat.le_refl _) | (simp; done) | (simp; omega))⟩

theorem rnext_at {C : Array Value} {base cap J m fl : Int} (h : IsConf C base cap J) (hm : m = failsOf fl) (now j : Int) (hJ : J ≤ 9223372036854775807) (w : World) :
    Calls Try.prog 44 #[.agg C, .int .i64 m, .int .i64 now, .int .i64 j] w fun e w' => e = .returned (.int .i64 (Plain.next base cap J (failsOf fl) now j)) ∧ Below w.heap.size w w' := by
  subst hm
  exact rnext_row h (failsOf fl) now j (by have := failsOf_bounds fl; omega) hJ w

set_option maxRecDepth 100000 in
set_option maxHeartbeats 4000000 in
/-- doormanref25.Fail. -/
theorem refail_row {C : Array Value} {base cap J : Int} (h : IsConf C base cap J) (v6 : Bool) (hi lo port st fl nx : Int) (n j : Int) (hJ : J ≤ 9223372036854775807) (w : World) :
    Calls Try.prog 78 #[.agg C, .agg #[.bool v6, .int .u64 hi, .int .u64 lo, .int .i64 port, .int .i64 st, .int .i64 fl, .int .i64 nx], .int .i64 n, .int .i64 j] w fun e w' => e = .returned (.agg #[.bool v6, .int .u64 hi, .int .u64 lo, .int .i64 port, .int .i64 1, .int .i64 (failsOf fl), .int .i64 (Plain.next base cap J (failsOf fl) n j)]) ∧ Below w.heap.size w w' := by
  obtain ⟨x0, x1, x2, x3, x4, x5, x6, x7, x8, x9, x10, x11, x12, rfl⟩ := conf_cells h
  have H := Lib.hid h
  obtain ⟨f1, f2⟩ := failsOf_bounds fl
  clear h
  have F : (fl ≤ 0 ∧ Hid ((1 : Int) = failsOf fl)) ∨ (0 < fl ∧ fl < 1000 ∧ Hid (fl + 1 = failsOf fl)) ∨ (0 < fl ∧ 1000 ≤ fl ∧ Hid ((1000 : Int) = failsOf fl)) := by
    rcases Int.lt_or_le 0 fl with a | a
    · rcases Int.lt_or_le fl 1000 with b | b
      · exact Or.inr (Or.inl ⟨a, b, Lib.hid (by unfold failsOf; omega)⟩)
      · exact Or.inr (Or.inr ⟨a, b, Lib.hid (by unfold failsOf; omega)⟩)
    · exact Or.inl ⟨a, Lib.hid (by unfold failsOf; omega)⟩
  rcases F with ⟨a, F⟩ | ⟨a, b, F⟩ | ⟨a, b, F⟩
  all_goals go_enter Try.func78, Try.ntmps78
  all_goals go_upto_region 6 with (fail)
  all_goals
    go_region_with (first
      | (go_at_call 44; refine (rnext_at H.out F.out n j hJ _).mono ?_; rintro e w' ⟨rfl, hb'⟩; obtain ⟨k1, m1, k2, m2, hz⟩ := boxes3 (below_undrew' hb')
         have c0 : w'.cell? ⟨w.heap.size + 1, 0, none⟩ = some (.bool v6) := k1 0 _ rfl
         have c1 : w'.cell? ⟨w.heap.size + 1, 1, none⟩ = some (.int .u64 hi) := k1 1 _ rfl
         have c2 : w'.cell? ⟨w.heap.size + 1, 2, none⟩ = some (.int .u64 lo) := k1 2 _ rfl
         have c3 : w'.cell? ⟨w.heap.size + 1, 3, none⟩ = some (.int .i64 port) := k1 3 _ rfl
         have d0 : w'.cell? ⟨w.heap.size + 1 + 1, 0, none⟩ = some (.bool false) := k2 0 _ rfl
         have d1 : w'.cell? ⟨w.heap.size + 1 + 1, 1, none⟩ = some (.int .u64 0) := k2 1 _ rfl
         have d2 : w'.cell? ⟨w.heap.size + 1 + 1, 2, none⟩ = some (.int .u64 0) := k2 2 _ rfl
         have d3 : w'.cell? ⟨w.heap.size + 1 + 1, 3, none⟩ = some (.int .i64 0) := k2 3 _ rfl
         have d4 : w'.cell? ⟨w.heap.size + 1 + 1, 4, none⟩ = some (.int .i64 0) := k2 4 _ rfl
         have d5 : w'.cell? ⟨w.heap.size + 1 + 1, 5, none⟩ = some (.int .i64 0) := k2 5 _ rfl
         have d6 : w'.cell? ⟨w.heap.size + 1 + 1, 6, none⟩ = some (.int .i64 0) := k2 6 _ rfl
         have HB : Hid (Below w.heap.size w w') := Lib.hid (((((Below.refl _ _).alloc (Nat.le_refl _) _).alloc (by simp) _).alloc (by simp; omega) _).trans ((below_undrew' hb').mono (by simp; omega)))
         clear hb' k1 k2))
    all_goals go_wp2
    all_goals exact bodyPost_ret (v := .agg #[.bool v6, .int .u64 hi, .int .u64 lo, .int .i64 port, .int .i64 1, .int .i64 (failsOf fl), .int .i64 (Plain.next base cap J (failsOf fl) n j)]) (by simp [results, Try.results78, go_sem, d0, d1, d2, d3, d4, d5, d6, ← F.out]) rfl ⟨rfl, by repeat' (first | (with_reducible exact HB.out) | (with_reducible exact Below.refl _ _) | (with_reducible apply Below.drew) | (with_reducible refine Below.alloc ?_ ?_ _) | (with_reducible refine Below.setCell ?_ ?_ _) | (with_reducible exact Nat.le_refl _) | (simp; done) | (simp; omega))⟩
end Go.Proofs.Ytdoofpanbcaigaa
