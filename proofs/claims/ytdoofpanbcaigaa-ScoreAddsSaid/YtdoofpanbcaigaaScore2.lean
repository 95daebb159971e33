/-
  THE WALKS of layer 16 (score): Add.
-/
import Derived.Test.YtdoofpanbcaigaaScore
namespace Go.Proofs.Ytdoofpanbcaigaa
open Go.RowKit

set_option maxHeartbeats 400000 in
/-- score.Add. -/
theorem sadd_any (p t pts l n : Int) (w : World) : Calls Try.prog 53 #[.agg #[.int .i64 p, .int .i64 t], .int .i64 pts, .int .i64 l, .int .i64 n] w fun e w' => e = .returned (.agg #[.int .i64 (Plain.addP p t pts l n), .int .i64 (Plain.decA t l n)]) ∧ Below w.heap.size w w' := by
  go_enter Try.func53, Try.ntmps53
  go_wp2_with fail
  refine (hdecay_any _ _ _ _ _).mono ?_; rintro e w1 ⟨rfl, hb⟩
  obtain ⟨k0, f0, k1, f1, hz⟩ := boxes2 hb
  have c0 : w1.cell? ⟨w.heap.size, 0, none⟩ = some (.int .i64 p) := k0 0 _ rfl
  have c1 : w1.cell? ⟨w.heap.size, 1, none⟩ = some (.int .i64 t) := k0 1 _ rfl
  have c2 : w1.cell? ⟨w.heap.size + 1, 0, none⟩ = some (.int .i64 0) := k1 0 _ rfl
  have c3 : w1.cell? ⟨w.heap.size + 1, 1, none⟩ = some (.int .i64 0) := k1 1 _ rfl
  clear k0 k1
  have HB : Hid (Below w.heap.size w w1) := Lib.hid ((((Below.refl _ _).alloc (Nat.le_refl _) _).alloc (by simp) _).trans (hb.mono (by simp; omega)))
  clear hb
  go_wp2_with fail
  go_region_with (first
      | (go_at_call 30; refine (mul_any _ _ _).mono ?_; rintro e w' ⟨rfl, rfl⟩)
      | (go_at_call 26; refine (add_any _ _ _).mono ?_; rintro e w' ⟨rfl, rfl⟩))
  all_goals go_wp2
  all_goals exact bodyPost_ret (v := .agg #[.int .i64 (Plain.addP p t pts l n), .int .i64 (Plain.decA t l n)]) (by simp [results, Try.results53, go_sem, Plain.addP, c2, c3]) rfl ⟨rfl, by repeat (first | (with_reducible exact HB.out) | (with_reducible apply Below.drew) | (with_reducible refine Below.setCell ?_ (by simp) _))⟩

set_option maxHeartbeats 400000 in
/-- doormanref16.Add. -/
theorem rsadd_any (p t pts l n : Int) (w : World) : Calls Try.prog 54 #[.agg #[.int .i64 p, .int .i64 t], .int .i64 pts, .int .i64 l, .int .i64 n] w fun e w' => e = .returned (.agg #[.int .i64 (Plain.addP p t pts l n), .int .i64 (Plain.decA t l n)]) ∧ Below w.heap.size w w' := by
  obtain ⟨p0, p1⟩ := Plain.decP_bounds p t l n
  have p2 := Plain.fit_hi p
  have q0 := Plain.fit_lo pts
  have q1 := Plain.fit_hi pts
  have E := Lib.hid (Plain.addP_ref p t pts l n)
  by_cases c : 16777216 < Plain.fit pts
  · have M : Hid (min (Plain.fit pts) 16777216 = 16777216) := Lib.hid (by omega)
    go_enter Try.func54, Try.ntmps54
    go_wp2_with fail
    refine (rdecay_any _ _ _ _ _).mono ?_; rintro e w1 ⟨rfl, hb⟩
    obtain ⟨k0, f0, k1, f1, hz⟩ := boxes2 hb
    have c0 : w1.cell? ⟨w.heap.size, 0, none⟩ = some (.int .i64 p) := k0 0 _ rfl
    have c1 : w1.cell? ⟨w.heap.size, 1, none⟩ = some (.int .i64 t) := k0 1 _ rfl
    have c2 : w1.cell? ⟨w.heap.size + 1, 0, none⟩ = some (.int .i64 0) := k1 0 _ rfl
    have c3 : w1.cell? ⟨w.heap.size + 1, 1, none⟩ = some (.int .i64 0) := k1 1 _ rfl
    clear k0 k1
    have HB : Hid (Below w.heap.size w w1) := Lib.hid ((((Below.refl _ _).alloc (Nat.le_refl _) _).alloc (by simp) _).trans (hb.mono (by simp; omega)))
    clear hb
    go_wp2_with (go_at_call 25; refine (rfit_any _ _).mono ?_; rintro e w' ⟨rfl, rfl⟩)
    exact bodyPost_ret (v := .agg #[.int .i64 (Plain.addP p t pts l n), .int .i64 (Plain.decA t l n)]) (by simp [results, Try.results54, go_sem, ← E.out, M.out, c2, c3]) rfl ⟨rfl, by repeat (first | (with_reducible exact HB.out) | (with_reducible apply Below.drew) | (with_reducible refine Below.setCell ?_ (by simp) _))⟩
  · have M : Hid (min (Plain.fit pts) 16777216 = Plain.fit pts) := Lib.hid (by omega)
    go_enter Try.func54, Try.ntmps54
    go_wp2_with fail
    refine (rdecay_any _ _ _ _ _).mono ?_; rintro e w1 ⟨rfl, hb⟩
    obtain ⟨k0, f0, k1, f1, hz⟩ := boxes2 hb
    have c0 : w1.cell? ⟨w.heap.size, 0, none⟩ = some (.int .i64 p) := k0 0 _ rfl
    have c1 : w1.cell? ⟨w.heap.size, 1, none⟩ = some (.int .i64 t) := k0 1 _ rfl
    have c2 : w1.cell? ⟨w.heap.size + 1, 0, none⟩ = some (.int .i64 0) := k1 0 _ rfl
    have c3 : w1.cell? ⟨w.heap.size + 1, 1, none⟩ = some (.int .i64 0) := k1 1 _ rfl
    clear k0 k1
    have HB : Hid (Below w.heap.size w w1) := Lib.hid ((((Below.refl _ _).alloc (Nat.le_refl _) _).alloc (by simp) _).trans (hb.mono (by simp; omega)))
    clear hb
    go_wp2_with (go_at_call 25; refine (rfit_any _ _).mono ?_; rintro e w' ⟨rfl, rfl⟩)
    exact bodyPost_ret (v := .agg #[.int .i64 (Plain.addP p t pts l n), .int .i64 (Plain.decA t l n)]) (by simp [results, Try.results54, go_sem, ← E.out, M.out, c2, c3]) rfl ⟨rfl, by repeat (first | (with_reducible exact HB.out) | (with_reducible apply Below.drew) | (with_reducible refine Below.setCell ?_ (by simp) _))⟩

end Go.Proofs.Ytdoofpanbcaigaa
