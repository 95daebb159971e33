/-
  THE WALK of "doorman/doormanlaw10.MixTells", and of a subnet, mixed by a key.
-/
import Derived.Test.YtdoofpanbcaigaaMix2
namespace Go.Proofs.Ytdoofpanbcaigaa
open Go.RowKit Plain

theorem toU (n : Int) : IntKind.u64.wrap n = toI (BitVec.ofInt 64 n) := by
  rw [IntKind.wrap_u64]
  unfold toI
  rw [BitVec.toNat_ofInt]
  omega

theorem toI4 : toI 4#64 = 4 := by decide
theorem toI6 : toI 6#64 = 6 := by decide
/-- A subnet, mixed by a key. -/
def netB (K : BitVec 64) (v6 : Bool) (hi lo : BitVec 64) (n : Int) : BitVec 64 := ofB K [if v6 then 6#64 else 4#64, hi, lo, BitVec.ofInt 64 n]
theorem four_cells (x a b : BitVec 64) (n : Int) (w : World) (o : Obj) (k : Nat) (hk : k < [x, a, b, BitVec.ofInt 64 n].length) :
    ((w.alloc o).alloc (.cells #[.int .u64 (toI x), .int .u64 (toI a), .int .u64 (toI b), .int .u64 (IntKind.u64.wrap n)] 33)).cell? ⟨w.heap.size + 1, 0 + k, none⟩ = some (.int .u64 (toI [x, a, b, BitVec.ofInt 64 n][k])) := by
  rw [toU]
  match k, hk with
  | 0, _ => simp [go_sem]
  | 1, _ => simp [go_sem]
  | 2, _ => simp [go_sem]
  | 3, _ => simp [go_sem]

set_option maxHeartbeats 400000 in
/-- mix.Net. -/
theorem net_any (K : BitVec 64) (v6 : Bool) (hi lo : BitVec 64) (n : Int) (w : World) : Calls Try.prog 48 #[.int .u64 (toI K), .agg #[.bool v6, .int .u64 (toI hi), .int .u64 (toI lo), .int .i64 n]] w fun e w' => e = .returned (.int .u64 (toI (netB K v6 hi lo n))) ∧ Below w.heap.size w w' := by
  cases v6 with
  | false =>
    have HF := Lib.hid (four_cells 4#64 hi lo n)
    go_enter Try.func48, Try.ntmps48
    go_wp2_with fail
    refine (of_some K [4#64, hi, lo, BitVec.ofInt 64 n] _ 0 4 _ (by unfold maxLen; simp) (fun k hk => by simpa [toI4] using HF.out w (.cells #[] 33) k hk)).mono ?_
    rintro e w' ⟨rfl, rfl⟩
    go_wp2
    go_ret
    exact ⟨rfl, ((Below.refl _ _).alloc (Nat.le_refl _) _).alloc (by simp) _⟩
  | true =>
    have HF := Lib.hid (four_cells 6#64 hi lo n)
    go_enter Try.func48, Try.ntmps48
    go_wp2_with fail
    refine (of_some K [6#64, hi, lo, BitVec.ofInt 64 n] _ 0 4 _ (by unfold maxLen; simp) (fun k hk => by simpa [toI6] using HF.out w (.cells #[] 33) k hk)).mono ?_
    rintro e w' ⟨rfl, rfl⟩
    go_wp2
    go_ret
    exact ⟨rfl, ((Below.refl _ _).alloc (Nat.le_refl _) _).alloc (by simp) _⟩

set_option maxHeartbeats 400000 in
/-- doormanref10.Net. -/
theorem rnet_any (K : BitVec 64) (v6 : Bool) (hi lo : BitVec 64) (n : Int) (w : World) : Calls Try.prog 49 #[.int .u64 (toI K), .agg #[.bool v6, .int .u64 (toI hi), .int .u64 (toI lo), .int .i64 n]] w fun e w' => e = .returned (.int .u64 (toI (netB K v6 hi lo n))) ∧ Below w.heap.size w w' := by
  cases v6 with
  | false =>
    have HF := Lib.hid (four_cells 4#64 hi lo n)
    go_enter Try.func49, Try.ntmps49
    go_wp2_with fail
    refine (rof_some K [4#64, hi, lo, BitVec.ofInt 64 n] _ 0 4 _ (by unfold maxLen; simp) (fun k hk => by simpa [toI4] using HF.out w (.cells #[] 33) k hk)).mono ?_
    rintro e w' ⟨rfl, rfl⟩
    go_wp2
    go_ret
    exact ⟨rfl, ((Below.refl _ _).alloc (Nat.le_refl _) _).alloc (by simp) _⟩
  | true =>
    have HF := Lib.hid (four_cells 6#64 hi lo n)
    go_enter Try.func49, Try.ntmps49
    go_wp2_with fail
    refine (rof_some K [6#64, hi, lo, BitVec.ofInt 64 n] _ 0 4 _ (by unfold maxLen; simp) (fun k hk => by simpa [toI6] using HF.out w (.cells #[] 33) k hk)).mono ?_
    rintro e w' ⟨rfl, rfl⟩
    go_wp2
    go_ret
    exact ⟨rfl, ((Below.refl _ _).alloc (Nat.le_refl _) _).alloc (by simp) _⟩

set_option maxHeartbeats 400000 in
/-- mix.Of, of a slice without a letter. -/
theorem of_zero (K : BitVec 64) (x : Option Addr) (cap : Nat) (w : World) : Calls Try.prog 37 #[.int .u64 (toI K), .slice x 0 cap] w fun e w' => e = .returned (.int .u64 (toI (ofB K []))) ∧ w = w' := by
  go_enter Try.func37, Try.ntmps37
  go_wp2_with (go_at_call 36; rw [a1]; refine (one_any _ _).mono ?_; rintro e w' ⟨rfl, rfl⟩)
  go_loop [5, 13] (fun vh vi => vh = .int .u64 (toI (oneB (K + 11400714819323198485#64))) ∧ vi = .int .i64 0) (fun _ i => 0)
  case atStart => exact ⟨rfl, rfl⟩
  case round =>
    obtain ⟨rfl, rfl⟩ := hrel
    go_wp2
    go_ret
    exact ⟨rfl, rfl⟩

/-- mix.Of, of a slice that came in. -/
theorem of_row (K : BitVec 64) (L : List (BitVec 64)) (x : Addr) (n cap : Nat) (W : World) (hn : n = L.length) (hm : L.length ≤ 100) (hc : ∀ k (hk : k < L.length), W.cell? (x.add k) = some (.int .u64 (toI L[k]))) :
    Calls Try.prog 37 #[.int .u64 (toI K), .slice (some x) n cap] W fun e w' => e = .returned (.int .u64 (toI (ofB K L))) ∧ W = w' := by
  subst hn
  by_cases h : 0 < L.length
  · obtain ⟨b, off, rfl⟩ := row_block hc h
    exact of_some K L b off cap W (by unfold maxLen; omega) (fun k hk => by have := hc k hk; rwa [add_is] at this)
  · have : L = [] := List.eq_nil_of_length_eq_zero (by omega)
    subst this
    exact of_zero K (some x) cap W

set_option maxHeartbeats 400000 in
/-- doormanref10.Of, of a slice without a letter. -/
theorem rof_zero (K : BitVec 64) (x : Option Addr) (cap : Nat) (w : World) : Calls Try.prog 47 #[.int .u64 (toI K), .slice x 0 cap] w fun e w' => e = .returned (.int .u64 (toI (ofB K []))) ∧ w = w' := by
  go_enter Try.func47, Try.ntmps47
  go_wp2_with (go_at_call 46; rw [a1]; refine (rone_any _ _).mono ?_; rintro e w' ⟨rfl, rfl⟩)
  go_loop [5, 6] (fun vh vi => vh = .int .u64 (toI (oneB (K + 11400714819323198485#64))) ∧ vi = .int .i64 0) (fun _ i => 0)
  case atStart => exact ⟨rfl, rfl⟩
  case round =>
    obtain ⟨rfl, rfl⟩ := hrel
    go_wp2
    go_ret
    exact ⟨rfl, rfl⟩

/-- doormanref10.Of, of a slice that came in. -/
theorem rof_row (K : BitVec 64) (L : List (BitVec 64)) (x : Addr) (n cap : Nat) (W : World) (hn : n = L.length) (hm : L.length ≤ 100) (hc : ∀ k (hk : k < L.length), W.cell? (x.add k) = some (.int .u64 (toI L[k]))) :
    Calls Try.prog 47 #[.int .u64 (toI K), .slice (some x) n cap] W fun e w' => e = .returned (.int .u64 (toI (ofB K L))) ∧ W = w' := by
  subst hn
  by_cases h : 0 < L.length
  · obtain ⟨b, off, rfl⟩ := row_block hc h
    exact rof_some K L b off cap W (by unfold maxLen; omega) (fun k hk => by have := hc k hk; rwa [add_is] at this)
  · have : L = [] := List.eq_nil_of_length_eq_zero (by omega)
    subst this
    exact rof_zero K (some x) cap W

/-- What the statement's region holds of the world: the subnet's box, and that nothing old has turned. -/
theorem held4 {B0 : Nat} {w W W' : World} {a b c d : Value}
    (h : W.cell? ⟨B0, 0, none⟩ = some a ∧ W.cell? ⟨B0, 1, none⟩ = some b ∧ W.cell? ⟨B0, 2, none⟩ = some c ∧ W.cell? ⟨B0, 3, none⟩ = some d ∧ B0 < W.heap.size ∧ Below w.heap.size w W) (hb : Below W.heap.size W W') :
    W'.cell? ⟨B0, 0, none⟩ = some a ∧ W'.cell? ⟨B0, 1, none⟩ = some b ∧ W'.cell? ⟨B0, 2, none⟩ = some c ∧ W'.cell? ⟨B0, 3, none⟩ = some d ∧ B0 < W'.heap.size ∧ Below w.heap.size w W' := by
  obtain ⟨h1, h2, h3, h4, h5, h7⟩ := h
  have hz := hb.size
  exact ⟨(hb.cell (p := ⟨B0, 0, none⟩) h5).trans h1, (hb.cell (p := ⟨B0, 1, none⟩) h5).trans h2, (hb.cell (p := ⟨B0, 2, none⟩) h5).trans h3, (hb.cell (p := ⟨B0, 3, none⟩) h5).trans h4, by omega, h7.trans (hb.mono h7.size)⟩
theorem held4_below {B0 : Nat} {w W : World} {a b c d : Value}
    (h : W.cell? ⟨B0, 0, none⟩ = some a ∧ W.cell? ⟨B0, 1, none⟩ = some b ∧ W.cell? ⟨B0, 2, none⟩ = some c ∧ W.cell? ⟨B0, 3, none⟩ = some d ∧ B0 < W.heap.size ∧ Below w.heap.size w W) : Below w.heap.size w W := h.2.2.2.2.2

theorem row_still {w W : World} {x : Addr} {L : List (BitVec 64)} (hc : ∀ k (hk : k < L.length), w.cell? (x.add k) = some (.int .u64 (toI L[k]))) (hb : Below w.heap.size w W) :
    ∀ k (hk : k < L.length), W.cell? (x.add k) = some (.int .u64 (toI L[k])) := by
  intro k hk
  obtain ⟨b, off, rfl⟩ := row_block hc (by omega)
  have := hc k hk
  rw [add_is] at this ⊢
  rw [hb.cell (p := ⟨b, off + k, none⟩) (cell_lt this), this]

set_option maxHeartbeats 1000000 in
/-- doormanlaw10.MixTells, at a slice that lies somewhere. -/
theorem mixTells_some (K : BitVec 64) (L : List (BitVec 64)) (x : Addr) (cap : Nat) (v6 : Bool) (hi lo : BitVec 64) (n : Int) (w : World) (hm : L.length ≤ 100) (hc : ∀ k (hk : k < L.length), w.cell? (x.add k) = some (.int .u64 (toI L[k]))) :
    Calls Try.prog 12 #[.int .u64 (toI K), .slice (some x) L.length cap, .agg #[.bool v6, .int .u64 (toI hi), .int .u64 (toI lo), .int .i64 n]] w fun e w' => e = .returned (.bool true) ∧ Below w.heap.size w w' := by
  have HC := Lib.hid hc
  clear hc
  have hn : ¬ (100 : Int) < (L.length : Int) := by omega
  go_enter Try.func12, Try.ntmps12
  go_wp2_with fail
  go_region_held3 (fun w' => w'.cell? ⟨w.heap.size, 0, none⟩ = some (.bool v6) ∧ w'.cell? ⟨w.heap.size, 1, none⟩ = some (.int .u64 (toI hi)) ∧ w'.cell? ⟨w.heap.size, 2, none⟩ = some (.int .u64 (toI lo)) ∧ w'.cell? ⟨w.heap.size, 3, none⟩ = some (.int .i64 n) ∧ w.heap.size < w'.heap.size ∧ Below w.heap.size w w')
    (first | assumption | exact held4 (by assumption) (by assumption) | exact ⟨by simp [go_sem], by simp [go_sem], by simp [go_sem], by simp [go_sem], by simp, ((Below.refl _ _).alloc (Nat.le_refl _) _).drew⟩)
    (first
      | (go_at_call 36; refine (one_any _ _).mono ?_; rintro e w' ⟨rfl, rfl⟩)
      | (go_at_call 46; refine (rone_any _ _).mono ?_; rintro e w' ⟨rfl, rfl⟩)
      | (go_at_call 37; refine (of_row _ L _ _ _ _ rfl hm (row_still HC.out (held4_below (by assumption)))).mono ?_; rintro e w' ⟨rfl, rfl⟩)
      | (go_at_call 47; refine (rof_row _ L _ _ _ _ rfl hm (row_still HC.out (held4_below (by assumption)))).mono ?_; rintro e w' ⟨rfl, rfl⟩)
      | (go_at_call 48; refine (net_any _ _ _ _ _ _).mono ?_; rintro e w' ⟨rfl, hb'⟩)
      | (go_at_call 49; refine (rnet_any _ _ _ _ _ _).mono ?_; rintro e w' ⟨rfl, hb'⟩)
      | (go_at_call 38; refine (below_any _ _ _).mono ?_; rintro e w' ⟨rfl, rfl⟩)
      | (go_at_call 50; refine (rbelow_any _ _ _).mono ?_; rintro e w' ⟨rfl, rfl⟩)
      | (go_at_call 35; refine (awake10_any _).mono ?_; rintro e w' ⟨rfl, rfl⟩))
  all_goals go_wp2
  all_goals go_ret
  all_goals exact ⟨rfl, held4_below (by assumption)⟩

set_option maxHeartbeats 1000000 in
/-- doormanlaw10.MixTells, at no slice. -/
theorem mixTells_none (K : BitVec 64) (v6 : Bool) (hi lo : BitVec 64) (n : Int) (w : World) :
    Calls Try.prog 12 #[.int .u64 (toI K), .slice none 0 0, .agg #[.bool v6, .int .u64 (toI hi), .int .u64 (toI lo), .int .i64 n]] w fun e w' => e = .returned (.bool true) ∧ Below w.heap.size w w' := by
  go_enter Try.func12, Try.ntmps12
  go_wp2_with fail
  go_region_held3 (fun w' => w'.cell? ⟨w.heap.size, 0, none⟩ = some (.bool v6) ∧ w'.cell? ⟨w.heap.size, 1, none⟩ = some (.int .u64 (toI hi)) ∧ w'.cell? ⟨w.heap.size, 2, none⟩ = some (.int .u64 (toI lo)) ∧ w'.cell? ⟨w.heap.size, 3, none⟩ = some (.int .i64 n) ∧ w.heap.size < w'.heap.size ∧ Below w.heap.size w w')
    (first | assumption | exact held4 (by assumption) (by assumption) | exact ⟨by simp [go_sem], by simp [go_sem], by simp [go_sem], by simp [go_sem], by simp, ((Below.refl _ _).alloc (Nat.le_refl _) _).drew⟩)
    (first
      | (go_at_call 36; refine (one_any _ _).mono ?_; rintro e w' ⟨rfl, rfl⟩)
      | (go_at_call 46; refine (rone_any _ _).mono ?_; rintro e w' ⟨rfl, rfl⟩)
      | (go_at_call 37; refine (of_nil _ _).mono ?_; rintro e w' ⟨rfl, rfl⟩)
      | (go_at_call 47; refine (rof_nil _ _).mono ?_; rintro e w' ⟨rfl, rfl⟩)
      | (go_at_call 48; refine (net_any _ _ _ _ _ _).mono ?_; rintro e w' ⟨rfl, hb'⟩)
      | (go_at_call 49; refine (rnet_any _ _ _ _ _ _).mono ?_; rintro e w' ⟨rfl, hb'⟩)
      | (go_at_call 38; refine (below_any _ _ _).mono ?_; rintro e w' ⟨rfl, rfl⟩)
      | (go_at_call 50; refine (rbelow_any _ _ _).mono ?_; rintro e w' ⟨rfl, rfl⟩)
      | (go_at_call 35; refine (awake10_any _).mono ?_; rintro e w' ⟨rfl, rfl⟩))
  all_goals go_wp2
  all_goals go_ret
  all_goals exact ⟨rfl, held4_below (by assumption)⟩

set_option maxHeartbeats 400000 in
/-- doormanlaw10.MixTells, at a long slice. -/
theorem mixTells_long (K : Int) (a : Option Addr) (m cap : Nat) (v6 : Bool) (hi lo n : Int) (w : World) (hn : 100 < m) :
    Calls Try.prog 12 #[.int .u64 K, .slice a m cap, .agg #[.bool v6, .int .u64 hi, .int .u64 lo, .int .i64 n]] w fun e w' => e = .returned (.bool true) ∧ Below w.heap.size w w' := by
  have hl : (100 : Int) < (m : Int) := by omega
  go_enter Try.func12, Try.ntmps12
  go_wp2_with (go_at_call 35; refine (awake10_any _).mono ?_; rintro e w' ⟨rfl, rfl⟩)
  go_ret
  exact ⟨rfl, (Below.refl _ _).alloc (Nat.le_refl _) _⟩

theorem mixTells_int (K : Int) (s : Option Addr) (m cap : Nat) (zs : List Int) (v6 : Bool) (hi lo n : Int) (wk : (Lit.int .u64 K).wf = true) (wh : (Lit.int .u64 hi).wf = true) (wl : (Lit.int .u64 lo).wf = true) (w : World) (h : IsRow .u64 w s m cap zs) :
    Calls Try.prog 12 #[.int .u64 K, .slice s m cap, .agg #[.bool v6, .int .u64 hi, .int .u64 lo, .int .i64 n]] w fun e w' => e = .returned (.bool true) ∧ Below w.heap.size w w' := by
  by_cases hn : 100 < m
  · exact mixTells_long K s m cap v6 hi lo n w hn
  · obtain ⟨K, rfl⟩ := u64_toI wk
    obtain ⟨hi, rfl⟩ := u64_toI wh
    obtain ⟨lo, rfl⟩ := u64_toI wl
    rcases row_toI h with ⟨rfl, rfl, rfl⟩ | ⟨x, L, rfl, rfl, _, hc⟩
    · exact mixTells_none K v6 hi lo n w
    · exact mixTells_some K L x cap v6 hi lo n w (by omega) hc
end Go.Proofs.Ytdoofpanbcaigaa
