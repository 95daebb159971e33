/-
  MIXING.
-/
import Derived.Test.YtnncjbkepakgpaaGreatA03
import Derived.Test.YtnncjbkepakgpaaGreatA09
import Derived.Laws.BitsAllLaws
import Derived.Lib.MinMax
namespace Go.Proofs.YtnncjbkepakgpaaGreat
set_option linter.unusedVariables false
set_option linter.unusedSimpArgs false
set_option maxHeartbeats 4000000
open Go.RowKit
attribute [local go_sem ↓] exec_load_36 exec_store_36
attribute [local go_sem] run_load36r run_store36i lt_up isRng_new rngOf_new isRange_past rangeOf_past isRange_drew rangeOf_drew fits_new fits_past fits_drew setAt_new setAt_past setAt_drew putAt_whole putAt_lit extract_whole extract_lit one_int one_bool one_slice one_ptr ones_lit onesL_nil onesL_cons isRow_new rowOf_new isRow_past rowOf_past isRow_drew rowOf_drew lt2 lt3 lt4 List.take_succ_cons List.take_zero List.drop_succ_cons List.drop_zero List.cons_append List.nil_append List.length_cons List.length_nil List.size_toArray sr_size sr_row sr_row' sr_isRow sr_isRow' sr_fits' sr_cell' sr_frozen' sr_isRange' sr_rangeOf' sr_isCells isCells_new isCells_past isCells_drew valC_size valC_ones opC_size opC_ones replyC_size
open Plain
theorem xor_toI (X Y : BitVec 64) : bits .xor .u64 (toI X) (toI Y) = toI (X ^^^ Y) := by
  unfold toI
  have e : bits .xor .u64 (X.toNat : Int) (Y.toNat : Int) = IntKind.u64.wrap ((BitVec.ofInt 64 (X.toNat : Int) ^^^ BitVec.ofInt 64 (Y.toNat : Int)).toNat : Int) := rfl
  rw [e, BitVec.ofInt_natCast, BitVec.ofInt_natCast, BitVec.ofNat_toNat, BitVec.ofNat_toNat, IntKind.wrap_u64]
  simp
  have := (X ^^^ Y).isLt
  simp at this
  omega
theorem or_toI (X Y : BitVec 64) : bits .or .u64 (toI X) (toI Y) = toI (X ||| Y) := by
  unfold toI
  have e : bits .or .u64 (X.toNat : Int) (Y.toNat : Int) = IntKind.u64.wrap ((BitVec.ofInt 64 (X.toNat : Int) ||| BitVec.ofInt 64 (Y.toNat : Int)).toNat : Int) := rfl
  rw [e, BitVec.ofInt_natCast, BitVec.ofInt_natCast, BitVec.ofNat_toNat, BitVec.ofNat_toNat, IntKind.wrap_u64]
  simp
  have := (X ||| Y).isLt
  simp at this
  omega
theorem d30 (X : BitVec 64) : toI X / (1073741824 : Int) = toI (X >>> 30) := toI_shr X 30
theorem t30 (X : BitVec 64) : (toI X).tdiv (1073741824 : Int) = toI (X >>> 30) := (Int.tdiv_eq_ediv_of_nonneg (toI_lo X)).trans (d30 X)
theorem d27 (X : BitVec 64) : toI X / (134217728 : Int) = toI (X >>> 27) := toI_shr X 27
theorem t27 (X : BitVec 64) : (toI X).tdiv (134217728 : Int) = toI (X >>> 27) := (Int.tdiv_eq_ediv_of_nonneg (toI_lo X)).trans (d27 X)
theorem d31 (X : BitVec 64) : toI X / (2147483648 : Int) = toI (X >>> 31) := toI_shr X 31
theorem t31 (X : BitVec 64) : (toI X).tdiv (2147483648 : Int) = toI (X >>> 31) := (Int.tdiv_eq_ediv_of_nonneg (toI_lo X)).trans (d31 X)
theorem d57 (X : BitVec 64) : toI X / (144115188075855872 : Int) = toI (X >>> 57) := toI_shr X 57
theorem t57 (X : BitVec 64) : (toI X).tdiv (144115188075855872 : Int) = toI (X >>> 57) := (Int.tdiv_eq_ediv_of_nonneg (toI_lo X)).trans (d57 X)
theorem m1 (X : BitVec 64) : IntKind.u64.wrap (toI X * (13787848793156543929 : Int)) = toI (X * 13787848793156543929#64) := (IntKind.wrap_u64 _).trans (toI_mul X _ _ (by decide))
theorem m2 (X : BitVec 64) : IntKind.u64.wrap (toI X * (10723151780598845931 : Int)) = toI (X * 10723151780598845931#64) := (IntKind.wrap_u64 _).trans (toI_mul X _ _ (by decide))
theorem a1 (X : BitVec 64) : IntKind.u64.wrap (toI X + (11400714819323198485 : Int)) = toI (X + 11400714819323198485#64) := (IntKind.wrap_u64 _).trans (toI_add X _ _ (by decide))
theorem s7 (X : BitVec 64) : IntKind.u64.wrap (toI X * (128 : Int)) = toI (X <<< 7) := (IntKind.wrap_u64 _).trans (toI_shl X)
theorem wrap_toI (X : BitVec 64) : IntKind.u64.wrap (toI X) = toI X := (IntKind.wrap_u64 _).trans (Int.emod_eq_of_lt (toI_lo X) (toI_hi X))
theorem a7 (X : BitVec 64) : IntKind.u64.wrap (toI (X <<< 7) + toI (X >>> 57)) = toI (rotB X) := by
  rw [IntKind.wrap_u64, toI_add _ _ _ rfl, rot_add]
/-- mix.One. -/
theorem one_any (X : BitVec 64) (w : World) : Calls Tryz.prog 235 #[.int .u64 (toI X)] w fun e w' => e = .returned (.int .u64 (toI (oneB X))) ∧ w = w' := by
  go_enter Tryz.func235, Tryz.ntmps235
  go_wp2
  go_ret
  exact ⟨ret_int (by simp only [xor_toI, d30, d27, d31, m1, m2]; rfl), rfl⟩
/-- math/bits.RotateLeft64, by seven. -/
theorem rot_any (X : BitVec 64) (w : World) : Calls Tryz.prog 236 #[.int .u64 (toI X), .int .i64 7] w fun e w' => e = .returned (.int .u64 (toI (rotB X))) ∧ w = w' := by
  have h4 : bits .and .u64 7 63 = 7 := by decide
  go_enter Tryz.func236, Tryz.ntmps236
  go_wp2
  go_ret
  exact ⟨ret_int (by simp only [s7, d57, or_toI]; rfl), rfl⟩
theorem ofB_take {K : BitVec 64} {L : List (BitVec 64)} {k : Nat} (h : k < L.length) : ofB K (L.take (k + 1)) = stepB (ofB K (L.take k)) L[k] := by
  rw [List.take_succ_eq_append_getElem h, ofB_snoc]
/-- mix.Of, of no slice. -/
theorem of_nil (K : BitVec 64) (w : World) : Calls Tryz.prog 178 #[.int .u64 (toI K), .slice none 0 0] w fun e w' => e = .returned (.int .u64 (toI (ofB K []))) ∧ w = w' := by
  go_enter Tryz.func178, Tryz.ntmps178
  go_wp2_with (go_at_call 235; rw [a1]; refine (one_any _ _).mono ?_; rintro e w' ⟨rfl, rfl⟩)
  go_loop [5, 13] (fun vh vi => vh = .int .u64 (toI (oneB (K + 11400714819323198485#64))) ∧ vi = .int .i64 0) (fun _ i => 0)
  case atStart => exact ⟨rfl, rfl⟩
  case round =>
    obtain ⟨rfl, rfl⟩ := hrel
    go_wp2
    go_ret
    exact ⟨rfl, rfl⟩
/-- mix.Of, of a slice that lies somewhere. -/
theorem of_some (K : BitVec 64) (L : List (BitVec 64)) (b off cap : Nat) (w : World) (hm : L.length ≤ maxLen) (hc : ∀ k (h : k < L.length), w.cell? ⟨b, off + k, none⟩ = some (.int .u64 (toI L[k]))) :
    Calls Tryz.prog 178 #[.int .u64 (toI K), .slice (some ⟨b, off, none⟩) L.length cap] w fun e w' => e = .returned (.int .u64 (toI (ofB K L))) ∧ w = w' := by
  unfold maxLen at hm
  have HC := Lib.hid hc
  clear hc
  go_enter Tryz.func178, Tryz.ntmps178
  go_wp2_with (go_at_call 235; rw [a1]; refine (one_any _ _).mono ?_; rintro e w' ⟨rfl, rfl⟩)
  go_loop [5, 13] (fun vh vi => ∃ k : Nat, k ≤ L.length ∧ vh = .int .u64 (toI (ofB K (L.take k))) ∧ vi = .int .i64 k) (fun _ i => L.length - (intOf i).toNat)
  case atStart => exact ⟨0, Nat.zero_le _, rfl, rfl⟩
  case round =>
    obtain ⟨k, hk, rfl, rfl⟩ := hrel
    by_cases hlt : k < L.length
    · have hcell := HC.out k hlt
      have E := Lib.hid (ofB_take (K := K) hlt)
      go_wp2_with (first
        | (go_at_call 236; refine (rot_any _ _).mono ?_; rintro e w' ⟨rfl, rfl⟩)
        | (go_at_call 235; rw [a1]; refine (one_any _ _).mono ?_; rintro e w' ⟨rfl, rfl⟩)
        | (go_at_call 235; rw [xor_toI]; refine (one_any _ _).mono ?_; rintro e w' ⟨rfl, rfl⟩))
      go_round
      case rel => exact ⟨k + 1, by omega, by rw [E.out]; rfl, by go_num⟩
      case measure => simp [intOf]; omega
    · go_wp2
      go_ret
      exact ⟨ret_int (by rw [List.take_of_length_le (by omega)]), rfl⟩
/-- Brought below n. -/
def belowB (h : BitVec 64) (n : Int) : Int := if n < 1 ∨ 2147483648 < n then 0 else toI h / 4294967296 * n / 4294967296
theorem below_bounds (h : BitVec 64) (n : Int) (c1 : ¬ n < 1) (c2 : ¬ 2147483648 < n) : 0 ≤ toI h / 4294967296 * n ∧ toI h / 4294967296 * n < 9223372036854775808 := by
  have h0 := toI_lo h; have h1 := toI_hi h
  have q0 : 0 ≤ toI h / 4294967296 := by omega
  have q1 : toI h / 4294967296 ≤ 4294967295 := by omega
  have m1 : toI h / 4294967296 * n ≤ 4294967295 * n := Int.mul_le_mul_of_nonneg_right q1 (by omega)
  exact ⟨Int.mul_nonneg q0 (by omega), by omega⟩
theorem below_spell (h : BitVec 64) (n : Int) (c1 : ¬ n < 1) (c2 : ¬ 2147483648 < n) : wrap64 (IntKind.u64.wrap (toI h / 4294967296 * n) / 4294967296) = belowB h n := by
  obtain ⟨m0, m1⟩ := below_bounds h n c1 c2
  rw [IntKind.wrap_u64, Int.emod_eq_of_lt m0 (by omega), IntWalk.wrap64_in _ ⟨by omega, by omega⟩]
  unfold belowB
  rw [if_neg (by omega)]
/-- mix.Below. -/
theorem below_any (h : BitVec 64) (n : Int) (w : World) : Calls Tryz.prog 124 #[.int .u64 (toI h), .int .i64 n] w fun e w' => e = .returned (.int .i64 (belowB h n)) ∧ w = w' := by
  have h0 := toI_lo h; have h1 := toI_hi h
  by_cases c1 : n < 1
  · have E : Hid (0 = belowB h n) := Lib.hid (by unfold belowB; rw [if_pos (Or.inl c1)])
    go_enter Tryz.func124, Tryz.ntmps124
    go_wp2
    go_ret
    exact ⟨ret_int E.out, rfl⟩
  · by_cases c2 : 2147483648 < n
    · have E : Hid (0 = belowB h n) := Lib.hid (by unfold belowB; rw [if_pos (Or.inr c2)])
      go_enter Tryz.func124, Tryz.ntmps124
      go_wp2
      go_ret
      exact ⟨ret_int E.out, rfl⟩
    · go_enter Tryz.func124, Tryz.ntmps124
      go_wp2
      go_ret
      exact ⟨ret_int (below_spell h n (by omega) (by omega)), rfl⟩
theorem belowB_in (h : BitVec 64) (n : Int) (c1 : 1 ≤ n) (c2 : n ≤ 2147483648) : belowB h n = toI h / 4294967296 * n / 4294967296 := by
  unfold belowB; rw [if_neg (by omega)]
theorem belowB_lo (h : BitVec 64) (n : Int) (c1 : 1 ≤ n) (c2 : n ≤ 2147483648) : 0 ≤ belowB h n := by
  rw [belowB_in h n c1 c2]
  have := (below_bounds h n (by omega) (by omega)).1
  omega
theorem belowB_hi (h : BitVec 64) (n : Int) (c1 : 1 ≤ n) (c2 : n ≤ 2147483648) : belowB h n < n := by
  rw [belowB_in h n c1 c2]
  have h1 := toI_hi h
  have q1 : toI h / 4294967296 ≤ 4294967295 := by omega
  have m1 : toI h / 4294967296 * n ≤ 4294967295 * n := Int.mul_le_mul_of_nonneg_right q1 (by omega)
  omega
end Go.Proofs.YtnncjbkepakgpaaGreat
