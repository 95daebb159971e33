/-
  THE WALKS of ends and entries (layers 9 and 25): Right.
-/
import Derived.Test.YtdoofpanbcaigaaEntry
import Derived.Test.YtdoofpanbcaigaaClass
namespace Go.Proofs.Ytdoofpanbcaigaa
open Go.RowKit
set_option linter.unusedVariables false
attribute [local go_sem] lt2 lt3

/-- May an end be? -/
def endOk (v6 : Bool) (hi lo port : Int) : Bool := addrOk v6 hi lo && (decide (1 ≤ port) && decide (port ≤ 65535))

set_option maxHeartbeats 1000000 in
/-- endp.Right. -/
theorem end_any (v6 : Bool) (hi lo port : Int) (h0 : 0 ≤ lo) (h1 : lo < 18446744073709551616) (w : World) : Calls Try.prog 87 #[.agg #[.bool v6, .int .u64 hi, .int .u64 lo, .int .i64 port]] w fun e w' => e = .returned (.bool (endOk v6 hi lo port)) ∧ Below w.heap.size w w' := by
  have E : Hid (endOk v6 hi lo port = (addrOk v6 hi lo && (decide (1 ≤ port) && decide (port ≤ 65535)))) := Lib.hid rfl
  go_enter Try.func87, Try.ntmps87
  go_wp2_with fail
  refine (addr_any _ _ _ h0 h1 _).mono ?_; rintro e w1 ⟨rfl, hb⟩
  obtain ⟨k0, f0, hz⟩ := boxes1 hb
  have c3 : w1.cell? ⟨w.heap.size, 3, none⟩ = some (.int .i64 port) := k0 3 _ rfl
  have HB : Hid (Below w.heap.size w w1) := Lib.hid (((Below.refl _ _).alloc (Nat.le_refl _) _).trans (hb.mono (by simp)))
  clear hb k0 f0
  generalize addrOk v6 hi lo = A at *
  cases A <;> by_cases hp : 1 ≤ port
  all_goals go_wp2
  all_goals go_ret
  all_goals exact ⟨ret_bool (by rw [E.out, Bool.eq_iff_iff]; simp <;> omega), HB.out⟩

set_option maxHeartbeats 1000000 in
/-- doormanref09.Right. -/
theorem rend_any (v6 : Bool) (hi lo port : Int) (h0 : 0 ≤ lo) (h1 : lo < 18446744073709551616) (w : World) : Calls Try.prog 88 #[.agg #[.bool v6, .int .u64 hi, .int .u64 lo, .int .i64 port]] w fun e w' => e = .returned (.bool (endOk v6 hi lo port)) ∧ Below w.heap.size w w' := by
  have E : Hid (endOk v6 hi lo port = (addrOk v6 hi lo && (decide (1 ≤ port) && decide (port ≤ 65535)))) := Lib.hid rfl
  go_enter Try.func88, Try.ntmps88
  go_wp2_with fail
  refine (raddr_any _ _ _ h0 h1 _).mono ?_; rintro e w1 ⟨rfl, hb⟩
  obtain ⟨k0, f0, hz⟩ := boxes1 hb
  have c3 : w1.cell? ⟨w.heap.size, 3, none⟩ = some (.int .i64 port) := k0 3 _ rfl
  have HB : Hid (Below w.heap.size w w1) := Lib.hid (((Below.refl _ _).alloc (Nat.le_refl _) _).trans (hb.mono (by simp)))
  clear hb k0 f0
  generalize addrOk v6 hi lo = A at *
  cases A <;> by_cases hp : 0 < port
  all_goals go_wp2
  all_goals go_ret
  all_goals exact ⟨ret_bool (by rw [E.out, Bool.eq_iff_iff]; simp <;> omega), HB.out⟩

/-- An entry's box holds what it held, and nothing old has turned. -/
theorem held7 {B0 : Nat} {w W W' : World} {a b c d e f g : Value} (h : W.cell? ⟨B0, 0, none⟩ = some a ∧ W.cell? ⟨B0, 1, none⟩ = some b ∧ W.cell? ⟨B0, 2, none⟩ = some c ∧ W.cell? ⟨B0, 3, none⟩ = some d ∧ W.cell? ⟨B0, 4, none⟩ = some e ∧ W.cell? ⟨B0, 5, none⟩ = some f ∧ W.cell? ⟨B0, 6, none⟩ = some g ∧ B0 < W.heap.size ∧ Below w.heap.size w W) (hb : Below W.heap.size W W') :
    W'.cell? ⟨B0, 0, none⟩ = some a ∧ W'.cell? ⟨B0, 1, none⟩ = some b ∧ W'.cell? ⟨B0, 2, none⟩ = some c ∧ W'.cell? ⟨B0, 3, none⟩ = some d ∧ W'.cell? ⟨B0, 4, none⟩ = some e ∧ W'.cell? ⟨B0, 5, none⟩ = some f ∧ W'.cell? ⟨B0, 6, none⟩ = some g ∧ B0 < W'.heap.size ∧ Below w.heap.size w W' := by
  obtain ⟨h1, h2, h3, h4, h5, h6, h7, hs, hB⟩ := h
  have hz := hb.size
  exact ⟨(hb.cell (p := ⟨B0, 0, none⟩) hs).trans h1, (hb.cell (p := ⟨B0, 1, none⟩) hs).trans h2, (hb.cell (p := ⟨B0, 2, none⟩) hs).trans h3, (hb.cell (p := ⟨B0, 3, none⟩) hs).trans h4, (hb.cell (p := ⟨B0, 4, none⟩) hs).trans h5, (hb.cell (p := ⟨B0, 5, none⟩) hs).trans h6, (hb.cell (p := ⟨B0, 6, none⟩) hs).trans h7, by omega, hB.trans (hb.mono hB.size)⟩
theorem held7_below {B0 : Nat} {w W : World} {a b c d e f g : Value} (h : W.cell? ⟨B0, 0, none⟩ = some a ∧ W.cell? ⟨B0, 1, none⟩ = some b ∧ W.cell? ⟨B0, 2, none⟩ = some c ∧ W.cell? ⟨B0, 3, none⟩ = some d ∧ W.cell? ⟨B0, 4, none⟩ = some e ∧ W.cell? ⟨B0, 5, none⟩ = some f ∧ W.cell? ⟨B0, 6, none⟩ = some g ∧ B0 < W.heap.size ∧ Below w.heap.size w W) : Below w.heap.size w W := h.2.2.2.2.2.2.2.2

/-- May an entry be? -/
def entryOk (v6 : Bool) (hi lo port st fl nx : Int) : Bool := endOk v6 hi lo port && (decide (1 ≤ st) && decide (st ≤ 3) && (decide (0 ≤ fl) && decide (fl ≤ 1000)) && decide (nx = Plain.fit nx))

set_option maxRecDepth 10000 in
set_option maxHeartbeats 4000000 in
/-- entry.Right. -/
theorem eright_any (v6 : Bool) (hi lo port st fl nx : Int) (h0 : 0 ≤ lo) (h1 : lo < 18446744073709551616) (w : World) : Calls Try.prog 69 #[.agg #[.bool v6, .int .u64 hi, .int .u64 lo, .int .i64 port, .int .i64 st, .int .i64 fl, .int .i64 nx]] w fun e w' => e = .returned (.bool (entryOk v6 hi lo port st fl nx)) ∧ Below w.heap.size w w' := by
  have E : Hid (entryOk v6 hi lo port st fl nx = (endOk v6 hi lo port && (decide (1 ≤ st) && decide (st ≤ 3) && (decide (0 ≤ fl) && decide (fl ≤ 1000)) && decide (nx = Plain.fit nx)))) := Lib.hid rfl
  have H := fun w => (end_any v6 hi lo port h0 h1 w)
  generalize endOk v6 hi lo port = A at *
  cases b1 : decide (1 ≤ st)
  case' false => cases A
  case' true => cases b2 : decide (st ≤ 3)
  case' true.false => cases A
  case' true.true => cases A
  case' true.true.true => cases f1 : decide (0 ≤ fl)
  case' true.true.true.true => cases f2 : decide (fl ≤ 1000)
  all_goals go_enter Try.func69, Try.ntmps69
  all_goals go_upto_region 2 with (fail)
  all_goals
    refine region_class (fun w' : World => w'.cell? ⟨w.heap.size, 0, none⟩ = some (.bool v6) ∧ w'.cell? ⟨w.heap.size, 1, none⟩ = some (.int .u64 hi) ∧ w'.cell? ⟨w.heap.size, 2, none⟩ = some (.int .u64 lo) ∧ w'.cell? ⟨w.heap.size, 3, none⟩ = some (.int .i64 port) ∧ w'.cell? ⟨w.heap.size, 4, none⟩ = some (.int .i64 st) ∧ w'.cell? ⟨w.heap.size, 5, none⟩ = some (.int .i64 fl) ∧ w'.cell? ⟨w.heap.size, 6, none⟩ = some (.int .i64 nx) ∧ w.heap.size < w'.heap.size ∧ Below w.heap.size w w') (by kernel_rfl) (by kernel_rfl) ⟨by simp [go_sem], by simp [go_sem], by simp [go_sem], by simp [go_sem], by simp [go_sem], by simp [go_sem], by simp [go_sem], by simp, ((Below.refl _ _).alloc (Nat.le_refl _) _).drew⟩ ?_
    repeat (first
      | go_big_quiet_skip
      | (go_big_quiet_want
         apply class_op
         · intro W hS
           try dsimp only at hS
           go_simp
           try first
             | with_reducible rfl
             | (go_at_call 87; refine (H _).mono ?_; rintro e w' ⟨rfl, hb'⟩; exact ⟨rfl, held7 hS hb'⟩)
             | (go_at_call 24; refine (fit_any _ _).mono ?_; rintro e w' ⟨rfl, rfl⟩; exact ⟨rfl, hS⟩)
         go_big_quiet_on
         try simp only [Act.put, List.setIfInBounds_toArray, List.set_cons_zero, List.set_cons_succ]))

    refine wpQuiet_nil ?_
    intro w' hS
    try dsimp only at hS
    go_wp2
    go_ret
    exact ⟨ret_bool (by rw [E.out, Bool.eq_iff_iff]; simp_all <;> omega), held7_below hS⟩
end Go.Proofs.Ytdoofpanbcaigaa
