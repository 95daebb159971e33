/-
  PROVED: 'doorman/doormanlaw16.ScoreAdds' returns true for any score, any two points and three ints (at one tick points come to what they are together, in any order; later they are worth no more), and the arguments read behind the call as before. CONDITIONS: none but the form's own.
-/
import Derived.Test.YtdoofpanbcaigaaScore5
import Derived.Test.YtdoofpanbcaigaaOpen
import Derived.WalkKit
import Derived.ProofKit
import Derived.OpenShut
namespace Go.Proofs.Ytdoofpanbcaigaa.scoreAdds
open Go.ChangeShapes Go.WideShapes Go.ChangeAt Go.RowKit
set_option linter.unusedVariables false

theorem own : ownKnob Try.prog.godebug = none := by kernel_rfl
theorem laidOut : laidOutB Try.prog = true := by kernel_rfl

set_option maxRecDepth 100000 in
theorem lifted (os : Os) (started : os.Started) (H : Type) (enc : TypeId × Value → H) :
    ReturnsInHanded {} Try.checked os 14 .any (Rows.scoreAddsSpec.pre6 enc Try.prog Try.f14 Rows.scoreAddsRow.domain false) (Rows.scoreAddsSpec.post enc Try.prog Try.f14 false true false false) := by
  refine returnsInHanded_of_change (C := Try.checked) own started (by kernel_rfl) Try.func14
    (ChangeSpec.witness6 (enc := enc) (C := Try.checked) false ⟨#[], #[.agg #[.int .i64 0, .int .i64 0], .agg #[.int .i64 0, .int .i64 0], .agg #[.int .i64 0, .int .i64 0, .int .i64 0]], []⟩ 8 (by kernel_rfl) (by kernel_rfl) (by kernel_rfl) (by kernel_rfl)) ?_
  intro W base args ds gs before hval0 hW hcnd _
  have hval : ∀ (j : Nat) t v, Try.f14.params[j]? = some t → args[j]? = some v → Value.okWide Try.prog W .any base t v := hval0
  have hW' := hW
  obtain ⟨p, q, hA0, hV, rfl, hfz, hnd⟩ := hW
  have hA : DataW.TrodAll enc Try.prog W 0 (fun _ => true) true Try.f14.params.toList args.toList ds p := hA0
  rw [Try.params14] at hA hval
  obtain ⟨v0, vs0, d0, ds0, p0, q0, hargs, rfl, rfl, h0, r0⟩ := trodAll_cons hA
  obtain ⟨v1, vs1, d1, ds1, p1, q1, rfl, rfl, rfl, h1, r1⟩ := trodAll_cons r0
  obtain ⟨v2, vs2, d2, ds2, p2, q2, rfl, rfl, rfl, h2, r2⟩ := trodAll_cons r1
  obtain ⟨rfl, rfl, rfl⟩ := trodAll_nil r2
  obtain rfl : args = #[v0, v1, v2] := by cases args; simp_all
  obtain ⟨rfl, rfl⟩ := trodVars_none hV
  have k0 := h0
  have lt0 : ∀ x ∈ p0, x.block < W.heap.size := by obtain ⟨m, hm⟩ := k0; exact DataW.trod_lt m _ _ _ hm
  have k1 := h1
  have lt1 : ∀ x ∈ p1, x.block < W.heap.size := by obtain ⟨m, hm⟩ := k1; exact DataW.trod_lt m _ _ _ hm
  have k2 := h2
  have lt2 : ∀ x ∈ p2, x.block < W.heap.size := by obtain ⟨m, hm⟩ := k2; exact DataW.trod_lt m _ _ _ hm
  obtain ⟨c0, rfl, y0_0⟩ := open_flat (f := 6) (l := [.int .i64, .int .i64]) (by kernel_rfl) (by kernel_rfl) (hval 0 23 v0 rfl rfl) h0
  obtain ⟨a0_0, c0, rfl, w0_0, y0_1⟩ := fits_int y0_0
  obtain ⟨a0_1, c0, rfl, w0_1, y0_2⟩ := fits_int y0_1
  obtain rfl := fits_nil y0_2
  clear y0_0 y0_1 y0_2 h0
  obtain ⟨c1, rfl, y1_0⟩ := open_flat (f := 6) (l := [.int .i64, .int .i64]) (by kernel_rfl) (by kernel_rfl) (hval 1 28 v1 rfl rfl) h1
  obtain ⟨a1_0, c1, rfl, w1_0, y1_1⟩ := fits_int y1_0
  obtain ⟨a1_1, c1, rfl, w1_1, y1_2⟩ := fits_int y1_1
  obtain rfl := fits_nil y1_2
  clear y1_0 y1_1 y1_2 h1
  obtain ⟨c2, rfl, y2_0⟩ := open_flat (f := 6) (l := [.int .i64, .int .i64, .int .i64]) (by kernel_rfl) (by kernel_rfl) (hval 2 58 v2 rfl rfl) h2
  obtain ⟨a2_0, c2, rfl, w2_0, y2_1⟩ := fits_int y2_0
  obtain ⟨a2_1, c2, rfl, w2_1, y2_2⟩ := fits_int y2_1
  obtain ⟨a2_2, c2, rfl, w2_2, y2_3⟩ := fits_int y2_2
  obtain rfl := fits_nil y2_3
  clear y2_0 y2_1 y2_2 y2_3 h2
  clear hA0 hval0
  refine (scoreAdds_any a0_0 a0_1 a1_0 a1_1 a2_0 a2_1 a2_2 W).mono fun e W' ⟨he, bel⟩ => ?_
  subst he
  exact ⟨_, rfl, _, _, _, [], _, [], hW', trodAll_mk1 (shut_bool Try.underlying4 _), (trodAll_cons_mk (Below.trod laidOut (by kernel_rfl) (of_decide_eq_true (by kernel_rfl)) k0 bel lt0) (trodAll_cons_mk (Below.trod laidOut (by kernel_rfl) (of_decide_eq_true (by kernel_rfl)) k1 bel lt1) (trodAll_cons_mk (Below.trod laidOut (by kernel_rfl) (of_decide_eq_true (by kernel_rfl)) k2 bel lt2) trodAll_mk0))), rfl, bel.frame _, fun h => by cases h⟩

theorem over : Rows.scoreAddsRow.holds Try.pinned (OpenSpec.ofChange Rows.scoreAddsSpec) :=
  OpenClaim.holds_of_wide 14 Try.f14 rfl rfl rfl rfl rfl rfl rfl ⟨rfl, rfl, rfl, rfl, rfl⟩ rfl rfl rfl rfl rfl (by kernel_rfl) Try.func14 (by kernel_rfl)
    (of_decide_eq_true (by kernel_rfl)) (by unfold Func.isWrapper; first | (rw [if_pos (by decide +kernel)]; kernel_rfl) | (rw [if_neg (by decide +kernel)]; exact ⟨rfl, rfl⟩))
    (fun os started H enc _ => lifted os started H enc)

/-- THE STATEMENT. -/
theorem proved : Rows.ScoreAddsSaid := over
#print axioms proved
end Go.Proofs.Ytdoofpanbcaigaa.scoreAdds
