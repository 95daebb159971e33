/-
  THE PART OF A CALL.
  TAPE: RESERVE.
  TAPE: A PART IS READ.
  THE LIST WITH ONE MORE.
  WHAT IS TO BE WRITTEN.
-/
import Derived.Test.YtnncjbkepakgpaaGreatA07
import Derived.Test.YtnncjbkepakgpaaGreatA17
import Derived.Test.YtnncjbkepakgpaaGreatA14
import Derived.Test.YtnncjbkepakgpaaGreatA09
import Derived.Deep.LoopGhost
import Derived.Test.YtnncjbkepakgpaaGreatA06
import Derived.Lib.MinMax
import Derived.Test.YtnncjbkepakgpaaGreatA10
namespace Go.Proofs.YtnncjbkepakgpaaGreat
set_option linter.unusedVariables false
set_option linter.unusedSimpArgs false
set_option maxRecDepth 100000
set_option maxHeartbeats 4000000
section
open Go.RowKit
attribute [local go_sem ↓] exec_load_36 exec_store_36 exec_load_203 exec_store_203 exec_load_41 exec_store_41 exec_load_29 exec_store_29
attribute [local go_sem] run_load36r run_store36i run_load203r run_store203i run_load41r run_store41i run_load29r run_store29i lt_up isRng_new rngOf_new isRange_past rangeOf_past isRange_drew rangeOf_drew fits_new fits_past fits_drew setAt_new setAt_past setAt_drew putAt_whole putAt_lit extract_whole extract_lit one_int one_bool one_slice one_ptr ones_lit onesL_nil onesL_cons isRow_new rowOf_new isRow_past rowOf_past isRow_drew rowOf_drew lt2 lt3 lt4 List.take_succ_cons List.take_zero List.drop_succ_cons List.drop_zero List.cons_append List.nil_append List.length_cons List.length_nil List.size_toArray setRow_new setRow_past own_cell own_frozen own_set own_isRange own_rangeOf own_fits setAt_row sr_sr sr_size sr_row sr_row' sr_isRow sr_isRow' sr_fits' sr_cell' sr_frozen' sr_isRange' sr_rangeOf' sr_isCells isCells_new isCells_past isCells_drew valC_size valC_ones opC_size opC_ones replyC_size
open Plain
def net32 (c : Nat) : BitVec 64 := ofB 1#64 [4#64, 0#64, BitVec.ofInt 64 (loOf c), BitVec.ofInt 64 32]
theorem four32 (c : Nat) (W : World) (g : Nat) (hg : isCells W g = true) (hr : rowOf W g = #[.int .u64 4, .int .u64 0, .int .u64 (loOf c), .int .u64 32]) (k : Nat) (hk : k < [4#64, 0#64, BitVec.ofInt 64 (loOf c), BitVec.ofInt 64 32].length) : W.cell? ⟨g, 0 + k, none⟩ = some (.int .u64 (toI [4#64, 0#64, BitVec.ofInt 64 (loOf c), BitVec.ofInt 64 32][k])) := by
  have e4 : toI 4#64 = 4 := by decide
  have e0 : toI 0#64 = 0 := by decide
  have en : toI (BitVec.ofInt 64 32) = 32 := by decide
  have wn : IntKind.u64.wrap 32 = 32 := by decide
  have ex : toI (BitVec.ofInt 64 (loOf c)) = loOf c := toI_ofInt (by have : Pm.kOf c < 16 := Nat.mod_lt _ (by decide); simp only [loOf, grp]; omega) (by have : Pm.kOf c < 16 := Nat.mod_lt _ (by decide); simp only [loOf, grp]; omega)
  rw [own_cell _ hg, hr]
  match k, hk with
  | 0, _ => simp [e4]
  | 1, _ => simp [e0]
  | 2, _ => simp [ex]
  | 3, _ => simp; decide
/-- mix.Net. -/
theorem net_32 (c : Nat) (w : World) : Calls Tryz.prog 125 #[.int .u64 1, .agg (#[.bool false, .int .u64 0, .int .u64 (loOf c), .int .i64 32])] w fun e w' => e = .returned (.int .u64 (toI (net32 c))) ∧ Below w.heap.size w w' := by
  have e1 : (1 : Int) = toI 1#64 := by decide
  go_enter Tryz.func125, Tryz.ntmps125
  go_wp2_with fail
  rw [e1]
  refine (of_some 1#64 [4#64, 0#64, BitVec.ofInt 64 (loOf c), BitVec.ofInt 64 32] _ 0 4 _ (by unfold maxLen; simp) (fun k hk => four32 c _ _ (by simp [go_sem]) (by simp [go_sem]) k hk)).mono ?_
  rintro e w' ⟨rfl, rfl⟩
  go_wp2
  go_ret
  exact ⟨rfl, bk15⟩
def net16 (c : Nat) : BitVec 64 := ofB 1#64 [4#64, 0#64, BitVec.ofInt 64 (grp c), BitVec.ofInt 64 16]
theorem four16 (c : Nat) (W : World) (g : Nat) (hg : isCells W g = true) (hr : rowOf W g = #[.int .u64 4, .int .u64 0, .int .u64 (grp c), .int .u64 16]) (k : Nat) (hk : k < [4#64, 0#64, BitVec.ofInt 64 (grp c), BitVec.ofInt 64 16].length) : W.cell? ⟨g, 0 + k, none⟩ = some (.int .u64 (toI [4#64, 0#64, BitVec.ofInt 64 (grp c), BitVec.ofInt 64 16][k])) := by
  have e4 : toI 4#64 = 4 := by decide
  have e0 : toI 0#64 = 0 := by decide
  have en : toI (BitVec.ofInt 64 16) = 16 := by decide
  have wn : IntKind.u64.wrap 16 = 16 := by decide
  have ex : toI (BitVec.ofInt 64 (grp c)) = grp c := toI_ofInt (by have : Pm.kOf c < 16 := Nat.mod_lt _ (by decide); simp only [loOf, grp]; omega) (by have : Pm.kOf c < 16 := Nat.mod_lt _ (by decide); simp only [loOf, grp]; omega)
  rw [own_cell _ hg, hr]
  match k, hk with
  | 0, _ => simp [e4]
  | 1, _ => simp [e0]
  | 2, _ => simp [ex]
  | 3, _ => simp; decide
/-- mix.Net. -/
theorem net_16 (c : Nat) (w : World) : Calls Tryz.prog 125 #[.int .u64 1, .agg (#[.bool false, .int .u64 0, .int .u64 (grp c), .int .i64 16])] w fun e w' => e = .returned (.int .u64 (toI (net16 c))) ∧ Below w.heap.size w w' := by
  have e1 : (1 : Int) = toI 1#64 := by decide
  go_enter Tryz.func125, Tryz.ntmps125
  go_wp2_with fail
  rw [e1]
  refine (of_some 1#64 [4#64, 0#64, BitVec.ofInt 64 (grp c), BitVec.ofInt 64 16] _ 0 4 _ (by unfold maxLen; simp) (fun k hk => four16 c _ _ (by simp [go_sem]) (by simp [go_sem]) k hk)).mono ?_
  rintro e w' ⟨rfl, rfl⟩
  go_wp2
  go_ret
  exact ⟨rfl, bk15⟩
theorem parts_any (n : Int) (h0 : 1 ≤ n) (h1 : n ≤ 8) (w : World) : Calls Tryz.prog 79 #[.int .i64 n] w fun e w' => e = .returned (.int .i64 n) ∧ w = w' := by
  go_enter Tryz.func79, Tryz.ntmps79
  go_wp2
  go_ret
  exact ⟨ret_int (by omega), rfl⟩
/-- The part of a caller, of S parts. -/
def prt (S c : Nat) : Nat := (belowB (net32 c) S).toNat
theorem prt_int (S c : Nat) (h0 : 1 ≤ S) (h1 : S ≤ 8) : (prt S c : Int) = belowB (net32 c) S := by
  have := belowB_lo (net32 c) (S : Int) (by omega) (by omega)
  unfold prt; omega
theorem prt_lt (S c : Nat) (h0 : 1 ≤ S) (h1 : S ≤ 8) : prt S c < S := by
  have := belowB_hi (net32 c) (S : Int) (by omega) (by omega)
  have := prt_int S c h0 h1
  omega
/-- shard.Of. -/
theorem of_any (S c : Nat) (h0 : 1 ≤ S) (h1 : S ≤ 8) (w : World) : Calls Tryz.prog 80 #[.agg (#[.bool false, .int .u64 0, .int .u64 (loOf c)]), .int .u64 1, .int .i64 S] w fun e w' => e = .returned (.int .i64 (prt S c)) ∧ Below w.heap.size w w' := by
  have hp := prt_int S c h0 h1
  go_enter Tryz.func80, Tryz.ntmps80
  go_wp2_with (first | (go_at_call 126; refine (full_any c _).mono ?_; rintro e w1 ⟨rfl, hb⟩; have hk := Keep.mk hb; have xx := alk hk.out; (try have zz := zs w.heap.size w1.heap.size); clear hb) | (go_at_call 125; refine (net_32 c _).mono ?_; rintro e w1 ⟨rfl, hb⟩; have hk := Keep.mk hb; have xx := alk hk.out; (try have zz := zs w.heap.size w1.heap.size); clear hb) | (go_at_call 79; refine (parts_any S (by omega) (by omega) _).mono ?_; rintro e w' ⟨rfl, rfl⟩) | (go_at_call 124; refine (below_any (net32 c) S _).mono ?_; rintro e w' ⟨rfl, rfl⟩))
  go_ret
  exact ⟨ret_int hp.symm, bk15⟩
/-- door.part. -/
theorem part_any (most S c : Nat) (h0 : 1 ≤ S) (h1 : S ≤ 8) (w : World) : Calls Tryz.prog 190 #[.agg (doorC most S c)] w fun e w' => e = .returned (.int .i64 (prt S c)) ∧ Below w.heap.size w w' := by
  have ed : doorC most S c = #[.int .i64 most, .int .i64 4, .int .i64 S, .int .i64 64, .int .i64 64, .int .u64 1, .int .i64 1, .int .i64 1, .int .i64 1, .int .i64 64, .int .i64 100, .int .i64 100, .int .i64 1000, .int .i64 2, .int .i64 64, .int .i64 4, .int .i64 1, .bool false, .int .u64 0, .int .u64 (loOf c), .int .i64 80, .bool false, .int .u64 0, .int .u64 0, .int .i64 0, .int .i64 (Pm.tOf c), .int .i64 0, .bool false] := rfl
  rw [ed]
  go_enter Tryz.func190, Tryz.ntmps190
  go_wp2_with (go_at_call 80; refine (of_any S c h0 h1 _).mono ?_; rintro e w1 ⟨rfl, hb⟩; have hk := Keep.mk hb; have xx := alk hk.out; (try have zz := zs w.heap.size w1.heap.size); clear hb)
  go_ret
  exact ⟨rfl, bk15⟩
end
section
open Go.RowKit
attribute [local go_sem ↓] exec_load_101 exec_store_101 exec_load_103 exec_store_103
attribute [local go_sem] run_load101r run_store101i run_load103r run_store103i lt_up isRng_new rngOf_new isRange_past rangeOf_past isRange_drew rangeOf_drew fits_new fits_past fits_drew setAt_new setAt_past setAt_drew putAt_whole putAt_lit extract_whole extract_lit one_int one_bool one_slice one_ptr ones_lit onesL_nil onesL_cons isRow_new rowOf_new isRow_past rowOf_past isRow_drew rowOf_drew lt2 lt3 lt4 List.take_succ_cons List.take_zero List.drop_succ_cons List.drop_zero List.cons_append List.nil_append List.length_cons List.length_nil List.size_toArray setRow_new setRow_past own_cell own_frozen own_set own_isRange own_rangeOf own_fits setAt_row sr_sr sr_size sr_row sr_row' sr_isRow sr_isRow' sr_fits' sr_cell' sr_frozen' sr_isRange' sr_rangeOf' sr_isCells isCells_new isCells_past isCells_drew valC_size valC_ones opC_size opC_ones replyC_size f103_num f103_nowho f103_who f103_bans
theorem meth_Lock (a : Addr) (w : World) : (method 586 280 (.pointer (some a)) "Lock").run Tryz.prog w = .ok (425, .pointer (some a)) w := by kernel_rfl
theorem ahead_Lock (a : Addr) (w : World) : (nilAhead 586 280 (.pointer (some a)) "Lock").run Tryz.prog w = .ok (some false) w := by kernel_rfl
theorem meth_Share (a : Addr) (w : World) : (method 586 280 (.pointer (some a)) "Share").run Tryz.prog w = .ok (427, .pointer (some a)) w := by kernel_rfl
theorem ahead_Share (a : Addr) (w : World) : (nilAhead 586 280 (.pointer (some a)) "Share").run Tryz.prog w = .ok (some false) w := by kernel_rfl
theorem meth_Free (a : Addr) (w : World) : (method 586 280 (.pointer (some a)) "Free").run Tryz.prog w = .ok (423, .pointer (some a)) w := by kernel_rfl
theorem ahead_Free (a : Addr) (w : World) : (nilAhead 586 280 (.pointer (some a)) "Free").run Tryz.prog w = .ok (some false) w := by kernel_rfl
theorem meth_Drop (a : Addr) (w : World) : (method 586 280 (.pointer (some a)) "Drop").run Tryz.prog w = .ok (422, .pointer (some a)) w := by kernel_rfl
theorem ahead_Drop (a : Addr) (w : World) : (nilAhead 586 280 (.pointer (some a)) "Drop").run Tryz.prog w = .ok (some false) w := by kernel_rfl
theorem meth_Load (a : Addr) (w : World) : (method 586 280 (.pointer (some a)) "Load").run Tryz.prog w = .ok (424, .pointer (some a)) w := by kernel_rfl
theorem ahead_Load (a : Addr) (w : World) : (nilAhead 586 280 (.pointer (some a)) "Load").run Tryz.prog w = .ok (some false) w := by kernel_rfl
theorem meth_Store (a : Addr) (w : World) : (method 586 280 (.pointer (some a)) "Store").run Tryz.prog w = .ok (428, .pointer (some a)) w := by kernel_rfl
theorem ahead_Store (a : Addr) (w : World) : (nilAhead 586 280 (.pointer (some a)) "Store").run Tryz.prog w = .ok (some false) w := by kernel_rfl
theorem meth_Swap (a : Addr) (w : World) : (method 586 280 (.pointer (some a)) "Swap").run Tryz.prog w = .ok (429, .pointer (some a)) w := by kernel_rfl
theorem ahead_Swap (a : Addr) (w : World) : (nilAhead 586 280 (.pointer (some a)) "Swap").run Tryz.prog w = .ok (some false) w := by kernel_rfl
attribute [local go_sem] meth_Lock ahead_Lock meth_Share ahead_Share meth_Free ahead_Free meth_Drop ahead_Drop meth_Load ahead_Load meth_Store ahead_Store meth_Swap ahead_Swap
/-- What a code tells that reads a tape. -/
def Tells {α : Type} (T : Nat) (m : Pm.Tp α) (ret : α → Value → World → Prop) (L : List Pm.Val) (w : World) (e : Ending) (w' : World) : Prop := match m L with
  | .done a r => ∃ v, e = .returned v ∧ ret a v w' ∧ TapeAt w' T r ∧ Upto T w w'
  | .pause o => e = .panicked [{ v := pauseV (opC o), recovered := false }] ∧ Upto T w w'
  | .bad => True
theorem tells_done {α : Type} {T : Nat} {m : Pm.Tp α} {ret : α → Value → World → Prop} {L r : List Pm.Val} {w w' : World} {e : Ending} {a : α} (h : m L = .done a r) (v : Value) (h1 : e = .returned v) (h2 : ret a v w') (h3 : TapeAt w' T r) (h4 : Upto T w w') : Tells T m ret L w e w' := by
  unfold Tells; rw [h]; exact ⟨v, h1, h2, h3, h4⟩
theorem tells_pause {α : Type} {T : Nat} {m : Pm.Tp α} {ret : α → Value → World → Prop} {L : List Pm.Val} {w w' : World} {e : Ending} {o : Pm.Op} (h : m L = .pause o) (h1 : e = .panicked [{ v := pauseV (opC o), recovered := false }]) (h4 : Upto T w w') : Tells T m ret L w e w' := by
  unfold Tells; rw [h]; exact ⟨h1, h4⟩
theorem isOne_iff (s : Pm.Val) : isOne s = decide (s = .num 1) := by
  cases s with
  | num n => by_cases h : n = 1 <;> simp [isOne, h]
  | who c => simp [isOne]
theorem reserve_nil (most : Int) : Pm.reserve most [] = .pause .inn := rfl
theorem reserve_full {most n : Int} (h : most ≤ n) (r : List Pm.Val) : Pm.reserve most (.num n :: r) = .done false r := by rw [Pm.reserve.eq_def]; simp [h]
theorem reserve_swap {most n : Int} (h : ¬ most ≤ n) : Pm.reserve most [.num n] = .pause (.swap n) := by rw [Pm.reserve.eq_def]; simp [h]
theorem reserve_one {most n : Int} (h : ¬ most ≤ n) {s : Pm.Val} (h1 : isOne s = true) (r : List Pm.Val) : Pm.reserve most (.num n :: s :: r) = .done true r := by
  rw [isOne_iff] at h1
  rw [Pm.reserve.eq_def]; simp at h1; simp [h, h1]
theorem reserve_more {most n : Int} (h : ¬ most ≤ n) {s : Pm.Val} (h1 : isOne s = false) (r : List Pm.Val) : Pm.reserve most (.num n :: s :: r) = Pm.reserve most r := by
  rw [isOne_iff] at h1
  rw [Pm.reserve.eq_def]; simp at h1; simp [h, h1]
theorem keepU {T : Nat} {w w1 w2 : World} (h : Upto T w w1) (hT : T < w.heap.size) (k : Below w1.heap.size w1 w2) : Upto T w w2 := h.trans (Upto.of_below k)
/-- tape.Reserve. -/
theorem reserve_law (T : Nat) (L : List Pm.Val) (most : Nat) (hnb : Pm.reserve most L ≠ .bad) (w : World) (h : TapeAt w T L) (hs : ∀ n : Int, .num n ∈ L → 0 ≤ n) (hmost : most ≤ 1000) :
    Calls Tryz.prog 193 #[.iface 280 (.pointer (some ⟨T, 0, none⟩)), .int .i64 most, .bool true] w (Tells T (Pm.reserve most) (fun b v _ => v = .bool b) L w) := by
  have HT := Lib.hid h
  have hlt := h.lt
  clear h
  go_enter Tryz.func193, Tryz.ntmps193
  go_wp2
  go_loopg [8] L.length (fun g s8 wr => ∃ r : List Pm.Val, r.length = g ∧ Pm.reserve most r = Pm.reserve most L ∧ (∀ n : Int, .num n ∈ r → 0 ≤ n) ∧ Hid (TapeAt wr T r ∧ Upto T w wr ∧ isRow wr w.heap.size 101 3 = true ∧ rowOf wr w.heap.size = #[.int .i64 1, .int .i64 0, .int .i64 0] ∧ w.heap.size < wr.heap.size))
  case atStart => exact ⟨L, rfl, rfl, hs, Lib.hid ⟨HT.out.below (bk5), Upto.of_below (bk5), by simp [go_sem], by simp [go_sem], by simp⟩⟩
  case round =>
    obtain ⟨r, hg, he, hsr, HH⟩ := hrel
    obtain ⟨hA, hU, r1, r2', r3⟩ := HH.out
    have HA := Lib.hid hA
    have HU := Lib.hid hU
    have hcw := isCells_row r1
    have n0 : ¬ (w.heap.size = T) := by omega
    have n1 : ¬ (wr.heap.size = T) := by have := hA.lt; omega
    clear hA hU
    cases r with
    | nil =>
      go_wp2_with (go_at_call 424; refine (t_load_inn T [] _ HA.out).mono ?_; rintro e w1 ⟨hu, rfl⟩)
      exact ⟨rfl, tells_pause (he ▸ reserve_nil _) rfl (HU.out.trans hu)⟩
    | cons v1 r1' =>
      cases v1 with
      | who c => exact absurd (he ▸ rfl) hnb
      | num n =>
        by_cases hm : (most : Int) ≤ n
        · go_wp2_with (go_at_call 424; refine (t_load_inn T (.num n :: r1') _ HA.out).mono ?_; rintro e w1 ⟨hu, rfl, hA1⟩)
          exact bodyPost_ret (results_tmp rfl _ _ _) rfl (tells_done (he ▸ reserve_full hm _) _ rfl rfl hA1 (HU.out.trans hu))
        · have hn1 : 0 ≤ n := hsr n (by simp)
          have hm' : ¬ ((n : Int) ≥ (most : Int)) := hm
          have hw : IntKind.i64.wrap (n + 1) = n + 1 := by rw [IntKind.wrap_i64]; omega
          cases r1' with
          | nil =>
            go_wp2_with (first | (go_at_call 424; refine (t_load_inn T [.num n] _ HA.out).mono ?_; rintro e w1 ⟨hu, rfl, hA1⟩; obtain ⟨x1, x2, x3, x4, x5, x6, x7, x8, x9, x10, y9⟩ := alkU hu; (try have zz := zs w.heap.size w1.heap.size); have HA1 := Lib.hid hA1; clear hA1) | (go_at_call 429; refine (t_swap T [] n _ HA1.out).mono ?_; rintro e w2 ⟨hu2, rfl⟩))
            exact ⟨rfl, tells_pause (he ▸ reserve_swap (by omega)) rfl (HU.out.trans (hu.trans hu2))⟩
          | cons s r2 =>
            have HN := Lib.hid hsr
            clear hsr
            cases hone : isOne s with
            | true =>
              go_wp2_with (first | (go_at_call 424; refine (t_load_inn T (.num n :: s :: r2) _ HA.out).mono ?_; rintro e w1 ⟨hu, rfl, hA1⟩; obtain ⟨x1, x2, x3, x4, x5, x6, x7, x8, x9, x10, y9⟩ := alkU hu; (try have zz := zs w.heap.size w1.heap.size); have HA1 := Lib.hid hA1; clear hA1) | (go_at_call 429; refine (t_swap T (s :: r2) n _ HA1.out).mono ?_; rintro e w2 ⟨hu2, rfl, hA2⟩))
              exact bodyPost_ret (results_tmp rfl _ _ _) rfl (tells_done (he ▸ reserve_one (by omega) hone r2) _ rfl (by simp [hone]) hA2 (HU.out.trans (hu.trans hu2)))
            | false =>
              go_wp2_with (first | (go_at_call 424; refine (t_load_inn T (.num n :: s :: r2) _ HA.out).mono ?_; rintro e w1 ⟨hu, rfl, hA1⟩; obtain ⟨x1, x2, x3, x4, x5, x6, x7, x8, x9, x10, y9⟩ := alkU hu; (try have zz := zs w.heap.size w1.heap.size); have HA1 := Lib.hid hA1; clear hA1) | (go_at_call 429; refine (t_swap T (s :: r2) n _ HA1.out).mono ?_; rintro e w2 ⟨hu2, rfl, hA2⟩; obtain ⟨x1b, x2b, x3b, x4b, x5b, x6b, x7b, x8b, x9b, x10b, y9b⟩ := alkU hu2; (try have zzb := zs w.heap.size w2.heap.size)))
              go_roundg r2.length
              case measure => rw [← hg]; simp only [List.length_cons]; omega
              case rel => exact ⟨r2, rfl, (reserve_more (by omega) hone r2).symm.trans he, fun n hn => HN.out n (by simp [hn]), Lib.hid ⟨hA2, HU.out.trans (hu.trans hu2), by rw [x1b _ _ _ (by omega) n0, x1 _ _ _ r3 n0]; exact r1, by rw [x2b _ (by omega) n0, x2 _ r3 n0]; exact r2', by omega⟩⟩
end
section
open Go.RowKit
attribute [local go_sem ↓] exec_load_101 exec_store_101 exec_load_103 exec_store_103 exec_load_75 exec_store_75
attribute [local go_sem] run_load101r run_store101i run_load103r run_store103i run_load75r run_store75i lt_up isRng_new rngOf_new isRange_past rangeOf_past isRange_drew rangeOf_drew fits_new fits_past fits_drew setAt_new setAt_past setAt_drew putAt_whole putAt_lit extract_whole extract_lit one_int one_bool one_slice one_ptr ones_lit onesL_nil onesL_cons isRow_new rowOf_new isRow_past rowOf_past isRow_drew rowOf_drew lt2 lt3 lt4 List.take_succ_cons List.take_zero List.drop_succ_cons List.drop_zero List.cons_append List.nil_append List.length_cons List.length_nil List.size_toArray setRow_new setRow_past own_cell own_frozen own_set own_isRange own_rangeOf own_fits setAt_row sr_sr sr_size sr_row sr_row' sr_isRow sr_isRow' sr_fits' sr_cell' sr_frozen' sr_isRange' sr_rangeOf' sr_isCells isCells_new isCells_past isCells_drew valC_size valC_ones opC_size opC_ones replyC_size meth_Lock ahead_Lock meth_Share ahead_Share meth_Free ahead_Free meth_Drop ahead_Drop meth_Load ahead_Load meth_Store ahead_Store meth_Swap ahead_Swap f103_num f103_nowho f103_who f103_bans f103_0 f103_1 f103_2
theorem TapeAt.low {T B : Nat} {L : List Pm.Val} {W W' : World} (h : TapeAt W T L) (hT : T < B) (k : Below B W W') : TapeAt W' T L := by
  obtain ⟨h1, h2, v, h3, h4, h5⟩ := h
  refine ⟨Nat.lt_of_lt_of_le h1 k.size, by rw [k.frozen (p := ⟨T, 0, none⟩) hT]; exact h2, v, by rw [k.cell (p := ⟨T, 0, none⟩) hT]; exact h3, h4.same k.size fun g hg _ => k.block g (by have := h5 g hg; omega), h5⟩
theorem Upto.low {T : Nat} {w W W' : World} (h : Upto T w W) (k : Below w.heap.size W W') : Upto T w W' :=
  ⟨k.os.trans h.os, k.tape.trans h.tape, k.output.trans h.output, Nat.le_trans h.size k.size, fun g hg hT => (k.block g hg).trans (h.block g hg hT)⟩
theorem read_nil (p : Nat) : Pm.read p [] = .pause (.size p) := rfl
theorem read_num (p : Nat) {n : Int} (h0 : 0 ≤ n) (h1 : n ≤ 19) (r : List Pm.Val) : Pm.read p (.num n :: r) = Pm.readFrom p n.toNat [] r := by
  show (if 0 ≤ n ∧ n ≤ 19 then Pm.readFrom p n.toNat [] else Pm.no) r = _
  rw [if_pos ⟨h0, h1⟩]
theorem read_bad (p : Nat) {n : Int} (h : ¬ (0 ≤ n ∧ n ≤ 19)) (r : List Pm.Val) : Pm.read p (.num n :: r) = .bad := by
  show (if 0 ≤ n ∧ n ≤ 19 then Pm.readFrom p n.toNat [] else Pm.no) r = _
  rw [if_neg h]; rfl
theorem readFrom_nil (p m : Nat) (acc : List Nat) : Pm.readFrom p (m + 1) acc [] = .pause (.slot p acc.length) := rfl
theorem readFrom_who (p m : Nat) (acc : List Nat) (c : Nat) (r : List Pm.Val) : Pm.readFrom p (m + 1) acc (.who c :: r) = Pm.readFrom p m (acc ++ [c]) r := rfl
theorem readFrom_num (p m : Nat) (acc : List Nat) (n : Int) (r : List Pm.Val) : Pm.readFrom p (m + 1) acc (.num n :: r) = .bad := rfl
theorem readFrom_done (p : Nat) (acc : List Nat) (r : List Pm.Val) : Pm.readFrom p 0 acc r = .done acc r := rfl
/-- tape.Read. -/
theorem read_law (T p : Nat) (L : List Pm.Val) (hnb : Pm.read p L ≠ .bad) (w : World) (h : TapeAt w T L) :
    Calls Tryz.prog 191 #[.iface 280 (.pointer (some ⟨T, 0, none⟩)), .int .i64 p] w (Tells T (Pm.read p) (fun l v W => Own W w.heap.size 75 10 v (l.map peerC) ∧ l.length ≤ 19) L w) := by
  have HT := Lib.hid h
  have hlt := h.lt
  clear h
  have hz0 : Own w w.heap.size 75 10 (.slice none 0 0) [] := Own.nil _ _ _ _
  go_enter Tryz.func191, Tryz.ntmps191
  go_upto_region 2 with (fail)
  cases L with
  | nil =>
    refine region_keep [9] [0, 1, 2, 3, 4, 5] [6, 7, 8] (by kernel_rfl) (by kernel_rfl) (fun _ _ d _ _ h => by cases d <;> exact h) ?_
    simp only [PL]
    apply first_op
    · intro W; go_simp; try with_reducible rfl
    try simp only [PT]
    refine first_nil ?_
    repeat (first
      | go_big_quiet_skip
      | (go_big_quiet_want
         apply class_op
         · intro W hS
           have xx := alk hS.out; (try have zz := zs w.heap.size W.heap.size)
           go_simp
           try first
             | with_reducible rfl
             | (go_at_call 245; refine (size_any p _).mono ?_; rintro e w' ⟨rfl, rfl⟩; exact ⟨rfl, below_next hS (bk5)⟩)
         go_big_quiet_on
         try simp only [PT]))
    refine wpQuiet_nil ?_
    intro w1 hS1
    have xxa := alk hS1.out; (try have zza := zs w.heap.size w1.heap.size)
    go_wp2_with (go_at_call 424; refine (t_load_size T [] p _ (HT.out.below hS1.out)).mono ?_; rintro e w2 ⟨hu, rfl⟩)
    exact ⟨rfl, tells_pause (read_nil p) rfl ((Upto.of_below hS1.out).trans hu)⟩
  | cons v0 r0 =>
    cases v0 with
    | who c => exact absurd rfl hnb
    | num n =>
      have hn : 0 ≤ n ∧ n ≤ 19 := Classical.byContradiction fun hc => hnb (read_bad p hc r0)
      obtain ⟨n0, n1⟩ := hn
      obtain ⟨N, rfl⟩ : ∃ N : Nat, n = (N : Int) := ⟨n.toNat, by omega⟩
      have hE : Hid (Pm.read p (.num (N : Int) :: r0) = Pm.readFrom p N [] r0) := Lib.hid (by rw [read_num p n0 n1]; simp)
      have hN : N ≤ 19 := by omega
      refine region_keep [9] [0, 1, 2, 3, 4, 5] [6, 7, 8] (by kernel_rfl) (by kernel_rfl) (fun _ _ d _ _ h => by cases d <;> exact h) ?_
      simp only [PL]
      apply first_op
      · intro W; go_simp; try with_reducible rfl
      try simp only [PT]
      refine first_nil ?_
      repeat (first
        | go_big_quiet_skip
        | (go_big_quiet_want
           apply class_op
           · intro W hS
             have xx := alk hS.out; (try have zz := zs w.heap.size W.heap.size)
             go_simp
             try first
               | with_reducible rfl
               | (go_at_call 245; refine (size_any p _).mono ?_; rintro e w' ⟨rfl, rfl⟩; exact ⟨rfl, below_next hS (bk5)⟩)
           go_big_quiet_on
           try simp only [PT]))
      refine wpQuiet_nil ?_
      intro w1 hS1
      have xxa := alk hS1.out; (try have zza := zs w.heap.size w1.heap.size)
      go_wp2_with (go_at_call 424; refine (t_load_size T (.num (N : Int) :: r0) p _ (HT.out.below hS1.out)).mono ?_; rintro e w2 ⟨hu, rfl, hA⟩)
      have hmx : max (N : Int) 0 = N := by omega
      try rw [hmx]
      have HU0 := Lib.hid ((Upto.of_below (T := T) hS1.out).trans hu)
      have HA0 := Lib.hid hA
      clear hA
      go_loopg [5, 16] N (fun g s5 s16 wr => ∃ (acc : List Nat) (r : List Pm.Val), s16 = .int .i64 acc.length ∧ acc.length + g = N ∧ Pm.readFrom p g acc r = Pm.readFrom p N [] r0 ∧ Hid (TapeAt wr T r ∧ Upto T w wr ∧ Own wr w.heap.size 75 10 s5 (acc.map peerC)))
      case atStart => exact ⟨[], r0, rfl, by simp, rfl, Lib.hid ⟨HA0.out, HU0.out, Own.nil _ _ _ _⟩⟩
      case round =>
        obtain ⟨acc, r, rfl, hg, he, HH⟩ := hrel
        obtain ⟨hA, hU, hO⟩ := HH.out
        have HA := Lib.hid hA
        have HU := Lib.hid hU
        have HO := Lib.hid hO
        have hTl := hA.lt
        clear hA hU hO
        cases gk with
        | zero =>
          have hj : ¬ ((acc.length : Int) < (N : Int)) := by omega
          go_wp2
          refine bodyPost_ret (results_tmp rfl _ _ _) rfl ?_
          exact tells_done (hE.out.trans (he ▸ readFrom_done p acc r)) _ rfl ⟨HO.out, by omega⟩ HA.out HU.out
        | succ m =>
          have hj : (acc.length : Int) < (N : Int) := by omega
          go_upto_region 5 with (fail)
          cases r with
          | nil =>
            refine region_keep [0] [1, 2, 3, 4, 5, 6, 7] [8, 9, 10, 11, 12] (by kernel_rfl) (by kernel_rfl) (fun _ _ d _ _ h => by cases d <;> exact h) ?_
            simp only [PL]
            apply first_op
            · intro W; go_simp; try with_reducible rfl
            try simp only [PT]
            refine first_nil ?_
            repeat (first
              | go_big_quiet_skip
              | (go_big_quiet_want
                 apply class_op
                 · intro W hS
                   have xx := alk hS.out; (try have zz := zs w.heap.size W.heap.size)
                   go_simp
                   try first
                     | with_reducible rfl
                     | (go_at_call 246; refine (slot_any p acc.length _).mono ?_; rintro e w' ⟨rfl, rfl⟩; exact ⟨rfl, below_next hS (bk5)⟩)
                 go_big_quiet_on
                 try simp only [PT]))
            refine wpQuiet_nil ?_
            intro w1 hS1
            have xxa := alk hS1.out; (try have zza := zs w.heap.size w1.heap.size)
            go_wp2_with (go_at_call 424; refine (t_load_slot T [] p acc.length _ (HA.out.below hS1.out)).mono ?_; rintro e w2 ⟨hu, rfl⟩)
            exact ⟨rfl, tells_pause (hE.out.trans (he ▸ readFrom_nil p m acc)) rfl (HU.out.trans ((Upto.of_below hS1.out).trans hu))⟩
          | cons v r' =>
            cases v with
            | num q => exact absurd (hE.out.trans (he ▸ readFrom_num p m acc q r')) hnb
            | who c =>
              refine region_keep [0] [1, 2, 3, 4, 5, 6, 7] [8, 9, 10, 11, 12] (by kernel_rfl) (by kernel_rfl) (fun _ _ d _ _ h => by cases d <;> exact h) ?_
              simp only [PL]
              apply first_op
              · intro W; go_simp; try with_reducible rfl
              try simp only [PT]
              refine first_nil ?_
              repeat (first
                | go_big_quiet_skip
                | (go_big_quiet_want
                   apply class_op
                   · intro W hS
                     have xx := alk hS.out; (try have zz := zs w.heap.size W.heap.size)
                     go_simp
                     try first
                       | with_reducible rfl
                       | (go_at_call 246; refine (slot_any p acc.length _).mono ?_; rintro e w' ⟨rfl, rfl⟩; exact ⟨rfl, below_next hS (bk5)⟩)
                   go_big_quiet_on
                   try simp only [PT]))
              refine wpQuiet_nil ?_
              intro w1 hS1
              have xxa := alk hS1.out; (try have zza := zs w.heap.size w1.heap.size)
              go_wp2_with fail
              refine (t_load_slot T (.who c :: r') p acc.length _ (HA.out.below hS1.out)).mono ?_
              rintro e w2 ⟨hu, rfl, hA1⟩
              have HUa := Lib.hid ((Upto.of_below (T := T) hS1.out).trans hu)
              have HO1 := Lib.hid (HO.out.upto HUa.out hlt)
              have HA1 := Lib.hid hA1
              have hsz := HUa.out.size
              have hw2 : w.heap.size ≤ w2.heap.size := Nat.le_trans HU.out.size hsz
              have hsl := Lib.hid (sl_one w2 (peerC c) 75 10 _ rfl rfl rfl)
              have HE2 := Lib.hid he
              clear hA1 hE he
              have hO2 := Lib.hid (HO1.out.below ((Below.refl _ _).alloc (Nat.le_refl _) (.cells (peerC c) 75)))
              dsimp only [valC]
              go_wp2_with (at_builtin; refine app75 rfl (.tmp 19) (.tmp 29) rfl w.heap.size _ (acc.map peerC) [peerC c] rfl hO2.out _ _ _ rfl hsl.out (by simp; omega) (by simp; omega) ?_; intro v' w3 hown hbel hnil)
              go_roundg m
              case measure => omega
              case rel =>
                refine ⟨acc ++ [c], r', by simp, by simp only [List.length_append, List.length_singleton]; omega, (readFrom_who p m acc c r').symm.trans HE2.out, Lib.hid ⟨?_, ?_, by simpa using hown⟩⟩
                · exact (HA1.out.below ((Below.refl _ _).alloc (Nat.le_refl _) _)).low hlt hbel
                · exact ((HU.out.trans HUa.out).trans (Upto.of_below ((Below.refl _ _).alloc (Nat.le_refl _) _))).low hbel
end
section
open Go.RowKit
attribute [local go_sem ↓] exec_load_203 exec_store_203 exec_load_75 exec_store_75 exec_load_36 exec_store_36
attribute [local go_sem] run_load203r run_store203i run_load75r run_store75i run_load36r run_store36i lt_up isRng_new rngOf_new isRange_past rangeOf_past isRange_drew rangeOf_drew fits_new fits_past fits_drew setAt_new setAt_past setAt_drew putAt_whole putAt_lit extract_whole extract_lit one_int one_bool one_slice one_ptr ones_lit onesL_nil onesL_cons isRow_new rowOf_new isRow_past rowOf_past isRow_drew rowOf_drew lt2 lt3 lt4 List.take_succ_cons List.take_zero List.drop_succ_cons List.drop_zero List.cons_append List.nil_append List.length_cons List.length_nil List.size_toArray setRow_new setRow_past own_cell own_frozen own_set own_isRange own_rangeOf own_fits setAt_row sr_sr sr_size sr_row sr_row' sr_isRow sr_isRow' sr_fits' sr_cell' sr_frozen' sr_isRange' sr_rangeOf' sr_isCells isCells_new isCells_past isCells_drew valC_size valC_ones opC_size opC_ones replyC_size
theorem tailWith1 {p : Prop} (h : p := by
  have xx := alk hS.out; (try have zz := zs w.heap.size W.heap.size)
  go_simp
  try with_reducible rfl) : p := h
/-- door.with. -/
theorem with_any (most S c : Nat) (l : List Nat) (v : Value) (w : World) (hs : Sl w v 10 (l.map peerC)) (hl : l.length ≤ 1000) :
    Calls Tryz.prog 195 #[.agg (doorC most S c), v] w fun e w' => ∃ v', e = .returned v' ∧ Own w' w.heap.size 75 10 v' ((l ++ [c]).map peerC) ∧ Below w.heap.size w w' := by
  have ht : Pm.tOf c ≤ 16 := by unfold Pm.tOf; split <;> omega
  have ed : doorC most S c = #[.int .i64 most, .int .i64 4, .int .i64 S, .int .i64 64, .int .i64 64, .int .u64 1, .int .i64 1, .int .i64 1, .int .i64 1, .int .i64 64, .int .i64 100, .int .i64 100, .int .i64 1000, .int .i64 2, .int .i64 64, .int .i64 4, .int .i64 1, .bool false, .int .u64 0, .int .u64 (loOf c), .int .i64 80, .bool false, .int .u64 0, .int .u64 0, .int .i64 0, .int .i64 (Pm.tOf c), .int .i64 0, .bool false] := rfl
  rw [ed]
  have HS := Lib.hid (hs.below ((Below.refl w.heap.size w).alloc (Nat.le_refl _) (.cells (#[.int .i64 most, .int .i64 4, .int .i64 S, .int .i64 64, .int .i64 64, .int .u64 1, .int .i64 1, .int .i64 1, .int .i64 1, .int .i64 64, .int .i64 100, .int .i64 100, .int .i64 1000, .int .i64 2, .int .i64 64, .int .i64 4, .int .i64 1, .bool false, .int .u64 0, .int .u64 (loOf c), .int .i64 80, .bool false, .int .u64 0, .int .u64 0, .int .i64 0, .int .i64 (Pm.tOf c), .int .i64 0, .bool false]) 203)))
  clear hs
  go_enter Tryz.func195, Tryz.ntmps195
  go_upto_region 1 with (fail)
  refine region_float (Keep (w.alloc (.cells (#[.int .i64 most, .int .i64 4, .int .i64 S, .int .i64 64, .int .i64 64, .int .u64 1, .int .i64 1, .int .i64 1, .int .i64 1, .int .i64 64, .int .i64 100, .int .i64 100, .int .i64 1000, .int .i64 2, .int .i64 64, .int .i64 4, .int .i64 1, .bool false, .int .u64 0, .int .u64 (loOf c), .int .i64 80, .bool false, .int .u64 0, .int .u64 0, .int .i64 0, .int .i64 (Pm.tOf c), .int .i64 0, .bool false]) 203))) [2, 3, 4, 5, 6, 7] [0] [1, 8, 9, 10, 11] (by kernel_rfl) (by kernel_rfl) (fun _ _ d _ _ h => by cases d <;> exact h) ⟨(Below.refl _ _).drew⟩ ?_
  simp only [PL]
  apply reads_op
  · intro W hS
    exact tailWith1
  try simp only [PT]
  apply reads_op
  · intro W hS
    exact tailWith1
  try simp only [PT]
  apply reads_op
  · intro W hS
    exact tailWith1
  try simp only [PT]
  apply reads_op
  · intro W hS
    exact tailWith1
  try simp only [PT]
  apply reads_op
  · intro W hS
    exact tailWith1
  try simp only [PT]
  apply reads_op
  · intro W hS
    exact tailWith1
  try simp only [PT]
  refine reads_nil ?_
  repeat (first
    | go_big_quiet_skip
    | (go_big_quiet_want
       apply class_op
       · intro W hS
         have xx := alk hS.out; (try have zz := zs w.heap.size W.heap.size)
         go_simp
         try first
           | with_reducible rfl
       go_big_quiet_on
       try simp only [PT]))
  refine wpQuiet_nil ?_
  intro w1 hS1
  have xxa := alk hS1.out; (try have zza := zs w.heap.size w1.heap.size)
  have hk := hS1
  refine chain_op ?_
  go_wp2_with (go_at_call 113; refine (clone113 v (l.map peerC) _ (HS.out.below hS1.out) (by simp; omega)).mono ?_; rintro e w2 ⟨v1, rfl, ho, hb⟩; have hk2 := Keep.mk hb; have xxb := alk hk2.out; (try have zzb := zs w.heap.size w2.heap.size); clear hb; have HO := Lib.hid ho; clear ho)
  refine chain_on ⟨bk0⟩ ?_
  refine chain_op ?_
  go_wp2_with (go_at_call 210; refine (peer_any 0 (loOf c) 80 (Pm.tOf c) (by omega) (by omega) _).mono ?_; rintro e w3 ⟨rfl, rfl⟩)
  refine chain_on ⟨bk0⟩ ?_
  refine chain_op ?_
  go_wp2
  refine chain_on ⟨bk0⟩ ?_
  refine chain_op ?_
  go_wp2_with (at_builtin; refine app75 rfl (.tmp 6) (.tmp 14) rfl _ _ (l.map peerC) [peerC c] rfl (HO.out.below (bk0)) _ _ _ rfl (sl_one _ (peerC c) 75 10 _ (by simp) rfl rfl) (by simp; omega) (by simp; omega) ?_; intro v' w3 hown hbel hnil)
  refine chain_on ⟨bk0⟩ ?_
  refine chain_op ?_
  go_wp2
  refine chain_on ⟨bk0⟩ ?_
  refine chain_nil ?_
  go_wp2
  refine bodyPost_ret (results_tmp rfl _ _ _) rfl ⟨_, rfl, ?_, bk0⟩
  have := hown.weaken (B' := w.heap.size) (by omega)
  simpa using this
end
section
open Go.RowKit
attribute [local go_sem ↓] exec_load_75 exec_store_75
attribute [local go_sem] run_load75r run_store75i lt_up isRng_new rngOf_new isRange_past rangeOf_past isRange_drew rangeOf_drew fits_new fits_past fits_drew setAt_new setAt_past setAt_drew putAt_whole putAt_lit extract_whole extract_lit one_int one_bool one_slice one_ptr ones_lit onesL_nil onesL_cons isRow_new rowOf_new isRow_past rowOf_past isRow_drew rowOf_drew lt2 lt3 lt4 List.take_succ_cons List.take_zero List.drop_succ_cons List.drop_zero List.cons_append List.nil_append List.length_cons List.length_nil List.size_toArray setRow_new setRow_past own_cell own_frozen own_set own_isRange own_rangeOf own_fits setAt_row sr_sr sr_size sr_row sr_row' sr_isRow sr_isRow' sr_fits' sr_cell' sr_frozen' sr_isRange' sr_rangeOf' sr_isCells isCells_new isCells_past isCells_drew valC_size valC_ones opC_size opC_ones replyC_size
theorem peer_neq (x : Nat) (w : World) : (binOp .neq 75 (.agg (peerC x)) (.agg (peerC x))).run Tryz.prog w = .ok (.bool false) w := by
  unfold peerC
  simp [go_sem]
/-- shard.Writes. -/
theorem writes_any (l : List Nat) (c : Nat) (v v' : Value) (w : World) (hs : Sl w v 10 (l.map peerC)) (hs' : Sl w v' 10 ((l ++ [c]).map peerC)) (hl : l.length ≤ 1000) :
    Calls Tryz.prog 249 #[v, v'] w fun e w' => ∃ r, e = .returned r ∧ Own w' w.heap.size 3 1 r [#[.int .i64 l.length]] ∧ Below w.heap.size w w' := by
  obtain ⟨a, cap, rfl, q1, q2, q3⟩ := hs
  obtain ⟨a', cap', rfl, q1', q2', q3'⟩ := hs'
  rw [List.length_map] at q1 q1' ⊢
  rcases q3' with ⟨_, q3'⟩ | ⟨g', o', rfl, hg', q3'⟩
  · simp at q3'
  have hlen : (((l ++ [c]).map peerC).length) = l.length + 1 := by simp
  rw [hlen]
  clear hlen
  have hz0 : Own w w.heap.size 3 1 (.slice none 0 0) [] := Own.nil _ _ _ _
  go_enter Tryz.func249, Tryz.ntmps249
  go_wp2
  go_loopg [5, 10] (l.length + 1) (fun g s5 s10 wr => ∃ k : Nat, s10 = .int .i64 k ∧ k + g = l.length + 1 ∧ Keep w wr ∧ ((k ≤ l.length ∧ s5 = .slice none 0 0) ∨ (k = l.length + 1 ∧ Hid (Own wr w.heap.size 3 1 s5 [#[.int .i64 l.length]]))))
  case atStart => exact ⟨0, rfl, by omega, ⟨Below.refl _ _⟩, .inl ⟨Nat.zero_le _, rfl⟩⟩
  case round =>
    obtain ⟨k, rfl, hg, hK, hD⟩ := hrel
    have HG := Lib.hid hg
    have hws := hK.out.size
    rcases hD with ⟨hk, rfl⟩ | ⟨rfl, HO⟩
    · have hkz : (k : Int) < (l.length : Int) + 1 := by omega
      have hE' := fun C h => (q3' k C h).block (hK.out.block g' hg')
      by_cases hk2 : k < l.length
      · rcases q3 with ⟨_, q3⟩ | ⟨g0, o0, rfl, hg0, q3⟩
        · simp at q3; subst q3; simp at hk2
        · have hE := (q3 k (peerC l[k]) (by simp [hk2])).block (hK.out.block g0 hg0)
          have e1 := hE.is
          have e2 := hE.of
          have hE2 := hE' (peerC l[k]) (by simp [List.getElem?_append_left, hk2])
          have e1' := hE2.is
          have e2' := hE2.of
          have hg0r : g0 < wr.heap.size := Nat.lt_of_lt_of_le hg0 hK.out.size
          have hg0s : g0 < wr.heap.size + 1 := by omega
          have hb : ¬ ((k : Int) ≥ (l.length : Int)) := by omega
          have hkz2 : (k : Int) < (l.length : Int) := by omega
          have pn := peer_neq l[k]
          have po : ones (peerC l[k]) = true := rfl
          have ps : (peerC l[k]).size = 10 := rfl
          clear q3 q3' hE' hg
          generalize peerC l[k] = CK at *
          go_upto_region 5 with (fail)
          refine region_still (by kernel_rfl) (by kernel_rfl) ?_
          repeat (first
            | go_big_quiet_skip
            | (go_big_quiet_want
               apply class_op
               · intro W hS
                 have xx := alk hS.out; (try have zz := zs w.heap.size W.heap.size)
                 go_simp
                 try first
                   | with_reducible rfl
               go_big_quiet_on
               try simp only [PT]))
          refine wpQuiet_nil ?_
          intro w1 hS1
          have xxa := alk hS1.out; (try have zza := zs w.heap.size w1.heap.size)
          go_wp2
          go_roundg (l.length - k)
          case measure => have := HG.out; omega
          case rel => exact ⟨k + 1, by simp, by have := HG.out; omega, ⟨bk0⟩, .inl ⟨by omega, rfl⟩⟩
      · obtain rfl : k = l.length := by omega
        have hE2 := hE' (peerC c) (by simp)
        have e1' := hE2.is
        have e2' := hE2.of
        have hb : ((l.length : Int) ≥ (l.length : Int)) := by omega
        have po : ones (peerC c) = true := rfl
        have ps : (peerC c).size = 10 := rfl
        have hlo : ¬ ((l.length : Int) < 0) := by omega
        clear q3 q3' hE' hg
        generalize peerC c = CK at *
        go_upto_region 5 with (fail)
        refine region_still (by kernel_rfl) (by kernel_rfl) ?_
        repeat (first
          | go_big_quiet_skip
          | (go_big_quiet_want
             apply class_op
             · intro W hS
               have xx := alk hS.out; (try have zz := zs w.heap.size W.heap.size)
               go_simp
               try first
                 | with_reducible rfl
             go_big_quiet_on
             try simp only [PT]))
        refine wpQuiet_nil ?_
        intro w1 hS1
        have xxa := alk hS1.out; (try have zza := zs w.heap.size w1.heap.size)
        have hb0 : w.heap.size ≤ w1.heap.size := by have := hK.out.size; have := hS1.out.size; simp at this; omega
        have hO0 := Lib.hid (Own.nil w1 w.heap.size 3 1)
        go_wp2_with (at_builtin; refine app3 rfl (.tmp 27) (.tmp 29) rfl w.heap.size _ [] [#[.int .i64 l.length]] rfl (Own.nil _ _ _ _) _ _ _ rfl (sl_one _ #[.int .i64 l.length] 3 1 _ (by simp) rfl rfl) (by simp) (by simp; omega) ?_; intro v' w3 hown hbel hnil)
        go_roundg 0
        case measure => have := HG.out; omega
        case rel => exact ⟨l.length + 1, by simp, by omega, ⟨bk0⟩, .inr ⟨rfl, Lib.hid (by simpa using hown)⟩⟩
    · have hj : ¬ (((l.length + 1 : Nat) : Int) < (l.length : Int) + 1) := by omega
      go_wp2
      refine bodyPost_ret (results_tmp rfl _ _ _) rfl ?_
      exact ⟨_, rfl, HO.out, hK.out⟩
end
end Go.Proofs.YtnncjbkepakgpaaGreat
