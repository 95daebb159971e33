/-
  PROVED: 'doorman/doormanlaw25.EntryWaits' returns true for any conf, entry and row of acts (an entry that may be stays one whatever becomes of it, and waits as its failures say), and the arguments read behind the call as before. CONDITIONS: none but the form's own.
-/
import Derived.Test.YtdoofpanbcaigaaEntry7
import Derived.Test.YtdoofpanbcaigaaOpen
import Derived.WalkKit
import Derived.ProofKit
import Derived.OpenShut
namespace Go.Proofs.Ytdoofpanbcaigaa.entryWaits
open Go.ChangeShapes Go.WideShapes Go.ChangeAt Go.RowKit
set_option linter.unusedVariables false

theorem own : ownKnob Try.prog.godebug = none := by kernel_rfl
theorem laidOut : laidOutB Try.prog = true := by kernel_rfl

set_option maxRecDepth 100000 in
theorem lifted (os : Os) (started : os.Started) (H : Type) (enc : TypeId × Value → H) :
    ReturnsInHanded {} Try.checked os 19 .any (Rows.entryWaitsSpec.pre6 enc Try.prog Try.f19 Rows.entryWaitsRow.domain false) (Rows.entryWaitsSpec.post enc Try.prog Try.f19 false true false false) := by
  refine returnsInHanded_of_change (C := Try.checked) own started (by kernel_rfl) Try.func19
    (ChangeSpec.witness6 (enc := enc) (C := Try.checked) false ⟨#[], #[.agg #[.int .i64 0, .int .i64 0, .int .i64 0, .int .i64 0, .int .i64 0, .int .u64 0, .int .i64 0, .int .i64 0, .int .i64 0, .int .i64 0, .int .i64 0, .int .i64 0, .int .i64 0, .int .i64 0, .int .i64 0, .int .i64 0], .agg #[.bool false, .int .u64 0, .int .u64 0, .int .i64 0, .int .i64 0, .int .i64 0, .int .i64 0], .slice none 0 0], []⟩ 8 (by kernel_rfl) (by kernel_rfl) (by kernel_rfl) (by kernel_rfl)) ?_
  intro W base args ds gs before hval0 hW hcnd _
  have hval : ∀ (j : Nat) t v, Try.f19.params[j]? = some t → args[j]? = some v → Value.okWide Try.prog W .any base t v := hval0
  have hW' := hW
  obtain ⟨p, q, hA0, hV, rfl, hfz, hnd⟩ := hW
  have hA : DataW.TrodAll enc Try.prog W 0 (fun _ => true) true Try.f19.params.toList args.toList ds p := hA0
  rw [Try.params19] at hA hval
  obtain ⟨v0, vs0, d0, ds0, p0, q0, hargs, rfl, rfl, h0, r0⟩ := trodAll_cons hA
  obtain ⟨v1, vs1, d1, ds1, p1, q1, rfl, rfl, rfl, h1, r1⟩ := trodAll_cons r0
  obtain ⟨v2, vs2, d2, ds2, p2, q2, rfl, rfl, rfl, h2, r2⟩ := trodAll_cons r1
  obtain ⟨rfl, rfl, rfl⟩ := trodAll_nil r2
  obtain rfl : args = #[v0, v1, v2] := by cases args; simp_all
  obtain ⟨rfl, rfl⟩ := trodVars_none hV
  have k0 := h0
  have lt0 : ∀ x ∈ p0, x.block < W.heap.size := by obtain ⟨m, hm⟩ := k0; exact DataW.trod_lt m _ _ _ hm
  have k1 := h1
  have lt1 : ∀ x ∈ p1, x.block < W.heap.size := by obtain ⟨m, hm⟩ := k1; exact DataW.trod_lt m _ _ _ hm
  have k2 := h2
  have lt2 : ∀ x ∈ p2, x.block < W.heap.size := by obtain ⟨m, hm⟩ := k2; exact DataW.trod_lt m _ _ _ hm
  obtain ⟨c0, rfl, y0_0⟩ := open_flat (f := 6) (l := [.int .i64, .int .i64, .int .i64, .int .i64, .int .i64, .int .u64, .int .i64, .int .i64, .int .i64, .int .i64, .int .i64, .int .i64, .int .i64, .int .i64, .int .i64, .int .i64]) (by kernel_rfl) (by kernel_rfl) (hval 0 43 v0 rfl rfl) h0
  obtain ⟨a0_0, c0, rfl, w0_0, y0_1⟩ := fits_int y0_0
  obtain ⟨a0_1, c0, rfl, w0_1, y0_2⟩ := fits_int y0_1
  obtain ⟨a0_2, c0, rfl, w0_2, y0_3⟩ := fits_int y0_2
  obtain ⟨a0_3, c0, rfl, w0_3, y0_4⟩ := fits_int y0_3
  obtain ⟨a0_4, c0, rfl, w0_4, y0_5⟩ := fits_int y0_4
  obtain ⟨a0_5, c0, rfl, w0_5, y0_6⟩ := fits_int y0_5
  obtain ⟨a0_6, c0, rfl, w0_6, y0_7⟩ := fits_int y0_6
  obtain ⟨a0_7, c0, rfl, w0_7, y0_8⟩ := fits_int y0_7
  obtain ⟨a0_8, c0, rfl, w0_8, y0_9⟩ := fits_int y0_8
  obtain ⟨a0_9, c0, rfl, w0_9, y0_10⟩ := fits_int y0_9
  obtain ⟨a0_10, c0, rfl, w0_10, y0_11⟩ := fits_int y0_10
  obtain ⟨a0_11, c0, rfl, w0_11, y0_12⟩ := fits_int y0_11
  obtain ⟨a0_12, c0, rfl, w0_12, y0_13⟩ := fits_int y0_12
  obtain ⟨a0_13, c0, rfl, w0_13, y0_14⟩ := fits_int y0_13
  obtain ⟨a0_14, c0, rfl, w0_14, y0_15⟩ := fits_int y0_14
  obtain ⟨a0_15, c0, rfl, w0_15, y0_16⟩ := fits_int y0_15
  obtain rfl := fits_nil y0_16
  clear y0_0 y0_1 y0_2 y0_3 y0_4 y0_5 y0_6 y0_7 y0_8 y0_9 y0_10 y0_11 y0_12 y0_13 y0_14 y0_15 y0_16 h0
  obtain ⟨c1, rfl, y1_0⟩ := open_flat (f := 6) (l := [.bool, .int .u64, .int .u64, .int .i64, .int .i64, .int .i64, .int .i64]) (by kernel_rfl) (by kernel_rfl) (hval 1 86 v1 rfl rfl) h1
  obtain ⟨a1_0, c1, rfl, y1_1⟩ := fits_bool y1_0
  obtain ⟨a1_1, c1, rfl, w1_1, y1_2⟩ := fits_int y1_1
  obtain ⟨a1_2, c1, rfl, w1_2, y1_3⟩ := fits_int y1_2
  obtain ⟨a1_3, c1, rfl, w1_3, y1_4⟩ := fits_int y1_3
  obtain ⟨a1_4, c1, rfl, w1_4, y1_5⟩ := fits_int y1_4
  obtain ⟨a1_5, c1, rfl, w1_5, y1_6⟩ := fits_int y1_5
  obtain ⟨a1_6, c1, rfl, w1_6, y1_7⟩ := fits_int y1_6
  obtain rfl := fits_nil y1_7
  clear y1_0 y1_1 y1_2 y1_3 y1_4 y1_5 y1_6 y1_7 h1
  obtain ⟨a2, len2, cap2, rfl⟩ := okWide_slice Try.underlying94 (hval 2 94 v2 rfl rfl)
  clear h2
  clear hA0 hval0
  refine (entryWaits_any (base := a0_13) (cap := a0_14) (J := a0_15) ⟨rfl, rfl, rfl, rfl⟩ (i64_of_wf w0_15).2 a1_0 a1_1 a1_2 a1_3 a1_4 a1_5 a1_6 (u64_of_wf w1_2).1 (u64_of_wf w1_2).2 a2 len2 cap2 W (open_rows (f := 4) Try.underlying94 (by kernel_rfl) (by kernel_rfl) k2)).mono fun e W' ⟨he, bel⟩ => ?_
  subst he
  exact ⟨_, rfl, _, _, _, [], _, [], hW', trodAll_mk1 (shut_bool Try.underlying4 _), (trodAll_cons_mk (Below.trod laidOut (by kernel_rfl) (of_decide_eq_true (by kernel_rfl)) k0 bel lt0) (trodAll_cons_mk (Below.trod laidOut (by kernel_rfl) (of_decide_eq_true (by kernel_rfl)) k1 bel lt1) (trodAll_cons_mk (Below.trod laidOut (by kernel_rfl) (of_decide_eq_true (by kernel_rfl)) k2 bel lt2) trodAll_mk0))), rfl, bel.frame _, fun h => by cases h⟩

theorem over : Rows.entryWaitsRow.holds Try.pinned (OpenSpec.ofChange Rows.entryWaitsSpec) :=
  OpenClaim.holds_of_wide 19 Try.f19 rfl rfl rfl rfl rfl rfl rfl ⟨rfl, rfl, rfl, rfl, rfl⟩ rfl rfl rfl rfl rfl (by kernel_rfl) Try.func19 (by kernel_rfl)
    (of_decide_eq_true (by kernel_rfl)) (by unfold Func.isWrapper; first | (rw [if_pos (by decide +kernel)]; kernel_rfl) | (rw [if_neg (by decide +kernel)]; exact ⟨rfl, rfl⟩))
    (fun os started H enc _ => lifted os started H enc)

/-- THE STATEMENT. -/
theorem proved : Rows.EntryWaitsSaid := over
#print axioms proved
end Go.Proofs.Ytdoofpanbcaigaa.entryWaits
