/-
  THE WALKS of layer 10 (mix).
-/
import Derived.Test.YtdoofpanbcaigaaSat
import Derived.Test.YtdoofpanbcaigaaPlainMix
import Derived.Laws.BitsAllLaws
import Derived.Lib.MinMax
namespace Go.Proofs.Ytdoofpanbcaigaa
open Go.RowKit Plain

theorem xor_toI (X Y : BitVec 64) : bits .xor .u64 (toI X) (toI Y) = toI (X ^^^ Y) := by
  unfold toI
  have e : bits .xor .u64 (X.toNat : Int) (Y.toNat : Int) = IntKind.u64.wrap ((BitVec.ofInt 64 (X.toNat : Int) ^^^ BitVec.ofInt 64 (Y.toNat : Int)).toNat : Int) := rfl
  rw [e, BitVec.ofInt_natCast, BitVec.ofInt_natCast, BitVec.ofNat_toNat, BitVec.ofNat_toNat, IntKind.wrap_u64]
  simp
  have := (X ^^^ Y).isLt
  simp at this
  omega
theorem or_toI (X Y : BitVec 64) : bits .or .u64 (toI X) (toI Y) = toI (X ||| Y) := by
  unfold toI
  have e : bits .or .u64 (X.toNat : Int) (Y.toNat : Int) = IntKind.u64.wrap ((BitVec.ofInt 64 (X.toNat : Int) ||| BitVec.ofInt 64 (Y.toNat : Int)).toNat : Int) := rfl
  rw [e, BitVec.ofInt_natCast, BitVec.ofInt_natCast, BitVec.ofNat_toNat, BitVec.ofNat_toNat, IntKind.wrap_u64]
  simp
  have := (X ||| Y).isLt
  simp at this
  omega

theorem d30 (X : BitVec 64) : toI X / (1073741824 : Int) = toI (X >>> 30) := toI_shr X 30
theorem t30 (X : BitVec 64) : (toI X).tdiv (1073741824 : Int) = toI (X >>> 30) := (Int.tdiv_eq_ediv_of_nonneg (toI_lo X)).trans (d30 X)
theorem d27 (X : BitVec 64) : toI X / (134217728 : Int) = toI (X >>> 27) := toI_shr X 27
theorem t27 (X : BitVec 64) : (toI X).tdiv (134217728 : Int) = toI (X >>> 27) := (Int.tdiv_eq_ediv_of_nonneg (toI_lo X)).trans (d27 X)
theorem d31 (X : BitVec 64) : toI X / (2147483648 : Int) = toI (X >>> 31) := toI_shr X 31
theorem t31 (X : BitVec 64) : (toI X).tdiv (2147483648 : Int) = toI (X >>> 31) := (Int.tdiv_eq_ediv_of_nonneg (toI_lo X)).trans (d31 X)
theorem d57 (X : BitVec 64) : toI X / (144115188075855872 : Int) = toI (X >>> 57) := toI_shr X 57
theorem t57 (X : BitVec 64) : (toI X).tdiv (144115188075855872 : Int) = toI (X >>> 57) := (Int.tdiv_eq_ediv_of_nonneg (toI_lo X)).trans (d57 X)
theorem m1 (X : BitVec 64) : IntKind.u64.wrap (toI X * (13787848793156543929 : Int)) = toI (X * 13787848793156543929#64) := (IntKind.wrap_u64 _).trans (toI_mul X _ _ (by decide))
theorem m2 (X : BitVec 64) : IntKind.u64.wrap (toI X * (10723151780598845931 : Int)) = toI (X * 10723151780598845931#64) := (IntKind.wrap_u64 _).trans (toI_mul X _ _ (by decide))
theorem a1 (X : BitVec 64) : IntKind.u64.wrap (toI X + (11400714819323198485 : Int)) = toI (X + 11400714819323198485#64) := (IntKind.wrap_u64 _).trans (toI_add X _ _ (by decide))
theorem s7 (X : BitVec 64) : IntKind.u64.wrap (toI X * (128 : Int)) = toI (X <<< 7) := (IntKind.wrap_u64 _).trans (toI_shl X)

theorem wrap_toI (X : BitVec 64) : IntKind.u64.wrap (toI X) = toI X := (IntKind.wrap_u64 _).trans (Int.emod_eq_of_lt (toI_lo X) (toI_hi X))
theorem a7 (X : BitVec 64) : IntKind.u64.wrap (toI (X <<< 7) + toI (X >>> 57)) = toI (rotB X) := by
  rw [IntKind.wrap_u64, toI_add _ _ _ rfl, rot_add]

set_option maxHeartbeats 400000 in
/-- mix.One. -/
theorem one_any (X : BitVec 64) (w : World) : Calls Try.prog 36 #[.int .u64 (toI X)] w fun e w' => e = .returned (.int .u64 (toI (oneB X))) ∧ w = w' := by
  go_enter Try.func36, Try.ntmps36
  go_wp2
  go_ret
  exact ⟨ret_int (by simp only [xor_toI, d30, d27, d31, m1, m2]; rfl), rfl⟩
set_option maxHeartbeats 400000 in
/-- doormanref10.One. -/
theorem rone_any (X : BitVec 64) (w : World) : Calls Try.prog 46 #[.int .u64 (toI X)] w fun e w' => e = .returned (.int .u64 (toI (oneB X))) ∧ w = w' := by
  go_enter Try.func46, Try.ntmps46
  go_wp2
  go_ret
  exact ⟨ret_int (by simp only [wrap_toI, xor_toI, t30, t27, t31, m1, m2]; rfl), rfl⟩
set_option maxHeartbeats 400000 in
/-- math/bits.RotateLeft64, by seven. -/
theorem rot_any (X : BitVec 64) (w : World) : Calls Try.prog 84 #[.int .u64 (toI X), .int .i64 7] w fun e w' => e = .returned (.int .u64 (toI (rotB X))) ∧ w = w' := by
  have h4 : bits .and .u64 7 63 = 7 := by decide
  go_enter Try.func84, Try.ntmps84
  go_wp2
  go_ret
  exact ⟨ret_int (by simp only [s7, d57, or_toI]; rfl), rfl⟩

theorem ofB_take {K : BitVec 64} {L : List (BitVec 64)} {k : Nat} (h : k < L.length) : ofB K (L.take (k + 1)) = stepB (ofB K (L.take k)) L[k] := by
  rw [List.take_succ_eq_append_getElem h, ofB_snoc]

set_option maxHeartbeats 400000 in
/-- mix.Of, of no slice. -/
theorem of_nil (K : BitVec 64) (w : World) : Calls Try.prog 37 #[.int .u64 (toI K), .slice none 0 0] w fun e w' => e = .returned (.int .u64 (toI (ofB K []))) ∧ w = w' := by
  go_enter Try.func37, Try.ntmps37
  go_wp2_with (go_at_call 36; rw [a1]; refine (one_any _ _).mono ?_; rintro e w' ⟨rfl, rfl⟩)
  go_loop [5, 13] (fun vh vi => vh = .int .u64 (toI (oneB (K + 11400714819323198485#64))) ∧ vi = .int .i64 0) (fun _ i => 0)
  case atStart => exact ⟨rfl, rfl⟩
  case round =>
    obtain ⟨rfl, rfl⟩ := hrel
    go_wp2
    go_ret
    exact ⟨rfl, rfl⟩

set_option maxHeartbeats 400000 in
/-- mix.Of, of a slice that lies somewhere. -/
theorem of_some (K : BitVec 64) (L : List (BitVec 64)) (b off cap : Nat) (w : World) (hm : L.length ≤ maxLen) (hc : ∀ k (h : k < L.length), w.cell? ⟨b, off + k, none⟩ = some (.int .u64 (toI L[k]))) :
    Calls Try.prog 37 #[.int .u64 (toI K), .slice (some ⟨b, off, none⟩) L.length cap] w fun e w' => e = .returned (.int .u64 (toI (ofB K L))) ∧ w = w' := by
  unfold maxLen at hm
  have HC := Lib.hid hc
  clear hc
  go_enter Try.func37, Try.ntmps37
  go_wp2_with (go_at_call 36; rw [a1]; refine (one_any _ _).mono ?_; rintro e w' ⟨rfl, rfl⟩)
  go_loop [5, 13] (fun vh vi => ∃ k : Nat, k ≤ L.length ∧ vh = .int .u64 (toI (ofB K (L.take k))) ∧ vi = .int .i64 k) (fun _ i => L.length - (intOf i).toNat)
  case atStart => exact ⟨0, Nat.zero_le _, rfl, rfl⟩
  case round =>
    obtain ⟨k, hk, rfl, rfl⟩ := hrel
    by_cases hlt : k < L.length
    · have hcell := HC.out k hlt
      have E := Lib.hid (ofB_take (K := K) hlt)
      go_wp2_with (first
        | (go_at_call 84; refine (rot_any _ _).mono ?_; rintro e w' ⟨rfl, rfl⟩)
        | (go_at_call 36; rw [a1]; refine (one_any _ _).mono ?_; rintro e w' ⟨rfl, rfl⟩)
        | (go_at_call 36; rw [xor_toI]; refine (one_any _ _).mono ?_; rintro e w' ⟨rfl, rfl⟩))
      go_round
      case rel => exact ⟨k + 1, by omega, by rw [E.out]; rfl, by go_num⟩
      case measure => simp [intOf]; omega
    · go_wp2
      go_ret
      exact ⟨ret_int (by rw [List.take_of_length_le (by omega)]), rfl⟩

set_option maxHeartbeats 400000 in
/-- doormanref10.Of, of no slice. -/
theorem rof_nil (K : BitVec 64) (w : World) : Calls Try.prog 47 #[.int .u64 (toI K), .slice none 0 0] w fun e w' => e = .returned (.int .u64 (toI (ofB K []))) ∧ w = w' := by
  go_enter Try.func47, Try.ntmps47
  go_wp2_with (go_at_call 46; rw [a1]; refine (rone_any _ _).mono ?_; rintro e w' ⟨rfl, rfl⟩)
  go_loop [5, 6] (fun vh vi => vh = .int .u64 (toI (oneB (K + 11400714819323198485#64))) ∧ vi = .int .i64 0) (fun _ i => 0)
  case atStart => exact ⟨rfl, rfl⟩
  case round =>
    obtain ⟨rfl, rfl⟩ := hrel
    go_wp2
    go_ret
    exact ⟨rfl, rfl⟩

set_option maxHeartbeats 400000 in
/-- doormanref10.Of, of a slice that lies somewhere. -/
theorem rof_some (K : BitVec 64) (L : List (BitVec 64)) (b off cap : Nat) (w : World) (hm : L.length ≤ maxLen) (hc : ∀ k (h : k < L.length), w.cell? ⟨b, off + k, none⟩ = some (.int .u64 (toI L[k]))) :
    Calls Try.prog 47 #[.int .u64 (toI K), .slice (some ⟨b, off, none⟩) L.length cap] w fun e w' => e = .returned (.int .u64 (toI (ofB K L))) ∧ w = w' := by
  unfold maxLen at hm
  have HC := Lib.hid hc
  clear hc
  go_enter Try.func47, Try.ntmps47
  go_wp2_with (go_at_call 46; rw [a1]; refine (rone_any _ _).mono ?_; rintro e w' ⟨rfl, rfl⟩)
  go_loop [5, 6] (fun vh vi => ∃ k : Nat, k ≤ L.length ∧ vh = .int .u64 (toI (ofB K (L.take k))) ∧ vi = .int .i64 k) (fun _ i => L.length - (intOf i).toNat)
  case atStart => exact ⟨0, Nat.zero_le _, rfl, rfl⟩
  case round =>
    obtain ⟨k, hk, rfl, rfl⟩ := hrel
    by_cases hlt : k < L.length
    · have hcell := HC.out k hlt
      have E := Lib.hid (ofB_take (K := K) hlt)
      go_wp2_with (first
        | (go_at_call 46; rw [a1]; refine (rone_any _ _).mono ?_; rintro e w' ⟨rfl, rfl⟩)
        | (go_at_call 46; rw [s7, t57]; rw [wrap_toI]; rw [a7]; rw [xor_toI]; refine (rone_any _ _).mono ?_; rintro e w' ⟨rfl, rfl⟩))
      go_round
      case rel => exact ⟨k + 1, by omega, by rw [E.out]; rfl, by go_num⟩
      case measure => simp [intOf]; omega
    · go_wp2
      go_ret
      exact ⟨ret_int (by rw [List.take_of_length_le (by omega)]), rfl⟩

/-- Brought below n. -/
def belowB (h : BitVec 64) (n : Int) : Int := if n < 1 ∨ 2147483648 < n then 0 else toI h / 4294967296 * n / 4294967296

theorem below_bounds (h : BitVec 64) (n : Int) (c1 : ¬ n < 1) (c2 : ¬ 2147483648 < n) : 0 ≤ toI h / 4294967296 * n ∧ toI h / 4294967296 * n < 9223372036854775808 := by
  have h0 := toI_lo h; have h1 := toI_hi h
  have q0 : 0 ≤ toI h / 4294967296 := by omega
  have q1 : toI h / 4294967296 ≤ 4294967295 := by omega
  have m1 : toI h / 4294967296 * n ≤ 4294967295 * n := Int.mul_le_mul_of_nonneg_right q1 (by omega)
  exact ⟨Int.mul_nonneg q0 (by omega), by omega⟩
theorem below_spell (h : BitVec 64) (n : Int) (c1 : ¬ n < 1) (c2 : ¬ 2147483648 < n) : wrap64 (IntKind.u64.wrap (toI h / 4294967296 * n) / 4294967296) = belowB h n := by
  obtain ⟨m0, m1⟩ := below_bounds h n c1 c2
  rw [IntKind.wrap_u64, Int.emod_eq_of_lt m0 (by omega), IntWalk.wrap64_in _ ⟨by omega, by omega⟩]
  unfold belowB
  rw [if_neg (by omega)]

set_option maxHeartbeats 400000 in
/-- mix.Below. -/
theorem below_any (h : BitVec 64) (n : Int) (w : World) : Calls Try.prog 38 #[.int .u64 (toI h), .int .i64 n] w fun e w' => e = .returned (.int .i64 (belowB h n)) ∧ w = w' := by
  have h0 := toI_lo h; have h1 := toI_hi h
  by_cases c1 : n < 1
  · have E : Hid (0 = belowB h n) := Lib.hid (by unfold belowB; rw [if_pos (Or.inl c1)])
    go_enter Try.func38, Try.ntmps38
    go_wp2
    go_ret
    exact ⟨ret_int E.out, rfl⟩
  · by_cases c2 : 2147483648 < n
    · have E : Hid (0 = belowB h n) := Lib.hid (by unfold belowB; rw [if_pos (Or.inr c2)])
      go_enter Try.func38, Try.ntmps38
      go_wp2
      go_ret
      exact ⟨ret_int E.out, rfl⟩
    · go_enter Try.func38, Try.ntmps38
      go_wp2
      go_ret
      exact ⟨ret_int (below_spell h n (by omega) (by omega)), rfl⟩

set_option maxHeartbeats 400000 in
/-- doormanref10.Below. -/
theorem rbelow_any (h : BitVec 64) (n : Int) (w : World) : Calls Try.prog 50 #[.int .u64 (toI h), .int .i64 n] w fun e w' => e = .returned (.int .i64 (belowB h n)) ∧ w = w' := by
  have h0 := toI_lo h; have h1 := toI_hi h
  by_cases c1 : n < 1
  · have E : Hid (0 = belowB h n) := Lib.hid (by unfold belowB; rw [if_pos (Or.inl c1)])
    go_enter Try.func50, Try.ntmps50
    go_wp2
    go_ret
    exact ⟨ret_int E.out, rfl⟩
  · by_cases c2 : 2147483648 < n
    · have E : Hid (0 = belowB h n) := Lib.hid (by unfold belowB; rw [if_pos (Or.inr c2)])
      go_enter Try.func50, Try.ntmps50
      go_wp2
      go_ret
      exact ⟨ret_int E.out, rfl⟩
    · obtain ⟨m0, m1⟩ := below_bounds h n c1 c2
      go_enter Try.func50, Try.ntmps50
      go_wp2
      go_ret
      exact ⟨ret_int (by unfold belowB; rw [if_neg (by omega)]), rfl⟩

theorem belowB_in (h : BitVec 64) (n : Int) (c1 : 1 ≤ n) (c2 : n ≤ 2147483648) : belowB h n = toI h / 4294967296 * n / 4294967296 := by
  unfold belowB; rw [if_neg (by omega)]
theorem belowB_lo (h : BitVec 64) (n : Int) (c1 : 1 ≤ n) (c2 : n ≤ 2147483648) : 0 ≤ belowB h n := by
  rw [belowB_in h n c1 c2]
  have := (below_bounds h n (by omega) (by omega)).1
  omega
theorem belowB_hi (h : BitVec 64) (n : Int) (c1 : 1 ≤ n) (c2 : n ≤ 2147483648) : belowB h n < n := by
  rw [belowB_in h n c1 c2]
  have h1 := toI_hi h
  have q1 : toI h / 4294967296 ≤ 4294967295 := by omega
  have m1 : toI h / 4294967296 * n ≤ 4294967295 * n := Int.mul_le_mul_of_nonneg_right q1 (by omega)
  omega
theorem belowB_mono {h k : BitVec 64} (hk : toI h ≤ toI k) (n : Int) (c1 : 1 ≤ n) (c2 : n ≤ 2147483648) : belowB h n ≤ belowB k n := by
  rw [belowB_in h n c1 c2, belowB_in k n c1 c2]
  have q1 : toI h / 4294967296 ≤ toI k / 4294967296 := by omega
  have m1 : toI h / 4294967296 * n ≤ toI k / 4294967296 * n := Int.mul_le_mul_of_nonneg_right q1 (by omega)
  omega

theorem awake10_nums : toI (oneB 0#64) = 0 ∧ toI (oneB 1#64) = 6238072747940578789 ∧ toI (oneB 2#64) = 15839785061582574730 ∧ toI (ofB 1#64 []) = 10451216379200822465 ∧ toI (ofB 2#64 []) = 10905525725756348110 ∧ belowB 9223372036854775808#64 10 = 5 := by
  decide
theorem lit0 : (0 : Int) = toI 0#64 := by decide
theorem lit1 : (1 : Int) = toI 1#64 := by decide
theorem lit2 : (2 : Int) = toI 2#64 := by decide
theorem lit63 : (9223372036854775808 : Int) = toI 9223372036854775808#64 := by decide
theorem one_lit {z : Int} {X : BitVec 64} {r : Int} (hz : z = toI X) (hr : toI (oneB X) = r) (w : World) : Calls Try.prog 36 #[.int .u64 z] w fun e w' => e = .returned (.int .u64 r) ∧ w = w' := by
  subst hz hr; exact one_any X w
theorem of_lit {z : Int} {X : BitVec 64} {r : Int} (hz : z = toI X) (hr : toI (ofB X []) = r) (w : World) : Calls Try.prog 37 #[.int .u64 z, .slice none 0 0] w fun e w' => e = .returned (.int .u64 r) ∧ w = w' := by
  subst hz hr; exact of_nil X w
theorem below_lit {z : Int} {X : BitVec 64} {n r : Int} (hz : z = toI X) (hr : belowB X n = r) (w : World) : Calls Try.prog 38 #[.int .u64 z, .int .i64 n] w fun e w' => e = .returned (.int .i64 r) ∧ w = w' := by
  subst hz hr; exact below_any X n w

set_option maxHeartbeats 400000 in
/-- doormanlaw10.awake. -/
theorem awake10_any (w : World) : Calls Try.prog 35 #[] w fun e w' => e = .returned (.bool true) ∧ w = w' := by
  go_enter Try.func35, Try.ntmps35
  go_wp2_with fail
  refine (one_lit lit0 awake10_nums.1 _).mono ?_; rintro e w' ⟨rfl, rfl⟩
  go_wp2_with fail
  refine (one_lit lit1 awake10_nums.2.1 _).mono ?_; rintro e w' ⟨rfl, rfl⟩
  go_wp2_with fail
  refine (one_lit lit2 awake10_nums.2.2.1 _).mono ?_; rintro e w' ⟨rfl, rfl⟩
  go_wp2_with fail
  refine (below_lit lit63 awake10_nums.2.2.2.2.2 _).mono ?_; rintro e w' ⟨rfl, rfl⟩
  go_wp2_with fail
  refine (of_lit lit1 awake10_nums.2.2.2.1 _).mono ?_; rintro e w' ⟨rfl, rfl⟩
  go_wp2_with fail
  refine (of_lit lit2 awake10_nums.2.2.2.2.1 _).mono ?_; rintro e w' ⟨rfl, rfl⟩
  go_wp2
  go_ret
  exact ⟨rfl, rfl⟩

set_option maxHeartbeats 400000 in
/-- doormanlaw10.MixBelow. -/
theorem mixBelow_any (a b : BitVec 64) (n : Int) (w : World) : Calls Try.prog 9 #[.int .u64 (toI a), .int .u64 (toI b), .int .i64 n] w fun e w' => e = .returned (.bool true) ∧ w = w' := by
  by_cases c1 : n < 1
  · have e0 : belowB a n = 0 := by unfold belowB; rw [if_pos (Or.inl c1)]
    go_enter Try.func9, Try.ntmps9
    go_wp2_with (first
      | (go_at_call 38; refine (below_any _ _ _).mono ?_; rw [e0]; rintro e w' ⟨rfl, rfl⟩)
      | (go_at_call 35; refine (awake10_any _).mono ?_; rintro e w' ⟨rfl, rfl⟩))
    go_ret
    exact ⟨rfl, rfl⟩
  · by_cases c2 : 2147483648 < n
    · have e0 : belowB a n = 0 := by unfold belowB; rw [if_pos (Or.inr c2)]
      go_enter Try.func9, Try.ntmps9
      go_wp2_with (first
        | (go_at_call 38; refine (below_any _ _ _).mono ?_; rw [e0]; rintro e w' ⟨rfl, rfl⟩)
        | (go_at_call 35; refine (awake10_any _).mono ?_; rintro e w' ⟨rfl, rfl⟩))
      go_ret
      exact ⟨rfl, rfl⟩
    · by_cases h : toI a ≤ toI b
      · have l0 := belowB_lo a n (by omega) (by omega)
        have l1 := belowB_hi b n (by omega) (by omega)
        have l2 := belowB_mono h n (by omega) (by omega)
        have e1 : min (toI a) (toI b) = toI a := by omega
        have e2 : max (toI a) (toI b) = toI b := by omega
        go_enter Try.func9, Try.ntmps9
        go_wp2_with (first
          | (go_at_call 38; refine (below_any _ _ _).mono ?_; rintro e w' ⟨rfl, rfl⟩)
          | (go_at_call 35; refine (awake10_any _).mono ?_; rintro e w' ⟨rfl, rfl⟩))
        go_ret
        exact ⟨rfl, rfl⟩
      · have l0 := belowB_lo b n (by omega) (by omega)
        have l1 := belowB_hi a n (by omega) (by omega)
        have l2 := @belowB_mono b a (by omega) n (by omega) (by omega)
        have e1 : min (toI a) (toI b) = toI b := by omega
        have e2 : max (toI a) (toI b) = toI a := by omega
        go_enter Try.func9, Try.ntmps9
        go_wp2_with (first
          | (go_at_call 38; refine (below_any _ _ _).mono ?_; rintro e w' ⟨rfl, rfl⟩)
          | (go_at_call 35; refine (awake10_any _).mono ?_; rintro e w' ⟨rfl, rfl⟩))
        go_ret
        exact ⟨rfl, rfl⟩

/-- A uint64 that is well formed is a number of 64 bits. -/
theorem u64_toI {x : Int} (h : (Lit.int .u64 x).wf = true) : ∃ X : BitVec 64, x = toI X := by
  simp [Lit.wf, IntKind.min, IntKind.max, IntKind.signed, IntKind.bits] at h
  exact ⟨BitVec.ofInt 64 x, (toI_ofInt (by omega) (by omega)).symm⟩
theorem mixBelow_int (a b n : Int) (ha : (Lit.int .u64 a).wf = true) (hb : (Lit.int .u64 b).wf = true) (w : World) : Calls Try.prog 9 #[.int .u64 a, .int .u64 b, .int .i64 n] w fun e w' => e = .returned (.bool true) ∧ Below w.heap.size w w' := by
  obtain ⟨A, rfl⟩ := u64_toI ha
  obtain ⟨B, rfl⟩ := u64_toI hb
  exact (mixBelow_any A B n w).mono fun e w' ⟨h, h'⟩ => ⟨h, h' ▸ Below.refl _ _⟩
end Go.Proofs.Ytdoofpanbcaigaa
