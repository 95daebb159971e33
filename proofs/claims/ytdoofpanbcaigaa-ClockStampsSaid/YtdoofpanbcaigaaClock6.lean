/-
  THE WALKS of layer 46 (clock): Stamps.
-/
import Derived.Test.YtdoofpanbcaigaaStamp
namespace Go.Proofs.Ytdoofpanbcaigaa
open Go.RowKit
set_option linter.unusedVariables false

theorem info3c : (Try.prog.info? 3).map (fun i => (i.zero, i.size, i.bytes)) = some (some (.int .i64 0), 1, 8) := by kernel_rfl
theorem info80c : (Try.prog.info? 80).map (fun i => (i.zero, i.size, i.bytes)) = some (some (.slice none 0 0), 1, 24) := by kernel_rfl
theorem cell_one (w : World) (x : Value) (T : TypeId) : ∀ (j : Nat) (u : Value), [x][j]? = some u → (w.alloc (.cells #[x] T)).cell? ((⟨w.heap.size, 0, none⟩ : Addr).add j) = some u := by
  intro j u h
  cases j with
  | zero => simp at h; subst h; unfold Addr.add; simp [go_sem]
  | succ j => simp at h

/-- How wide a clock is. -/
def nn (n : Int) : Nat := if 1 ≤ n ∧ n ≤ 8 then n.toNat else 0
theorem nn_le (n : Int) : nn n ≤ 8 := by unfold nn; split <;> omega
/-- How many of the first t steps that happened ahead of step k, or are it, x did. -/
noncomputable def cntV (A : Nat → Array Value) (k x t : Nat) : Int := (Plain.cnt (fun i => Plain.rb (ldOf A) i k && intAt (A i) 0 == (x : Int)) t : Nat)
theorem cntV_zero (A : Nat → Array Value) (k x : Nat) : cntV A k x 0 = 0 := rfl
theorem cntV_bounds (A : Nat → Array Value) (k x t : Nat) : 0 ≤ cntV A k x t ∧ cntV A k x t ≤ t := by
  have := Plain.cnt_le (fun i => Plain.rb (ldOf A) i k && intAt (A i) 0 == (x : Int)) t
  unfold cntV; omega
theorem cntV_succ (A : Nat → Array Value) (k x t : Nat) : cntV A k x (t + 1) = cntV A k x t + (if (Plain.rb (ldOf A) t k && intAt (A t) 0 == (x : Int)) then 1 else 0) := by
  unfold cntV
  rw [show Plain.cnt (fun i => Plain.rb (ldOf A) i k && intAt (A i) 0 == (x : Int)) (t + 1) = Plain.cnt (fun i => Plain.rb (ldOf A) i k && intAt (A i) 0 == (x : Int)) t + (if (Plain.rb (ldOf A) t k && intAt (A t) 0 == (x : Int)) then 1 else 0) from rfl]
  split <;> simp
theorem who_at {W : World} {b : Addr} {n : Nat} {A : Nat → Array Value} (h : LogAt W b n A) (hS : ∀ i, i < n → IsStep (A i)) {t : Nat} (ht : t < n) : W.cell? (b.add (t * 37)) = some (.int .i64 (intAt (A t) 0)) := by
  have h0 := range_at (h t ht).1 (show 0 < 37 by omega)
  rw [(h t ht).2, (hS t ht).who] at h0
  exact h0

set_option maxRecDepth 100000 in
set_option maxHeartbeats 8000000 in
/-- clock.Stamps. -/
theorem stamps_any (a : Option Addr) (b : Addr) (N cp : Nat) (A : Nat → Array Value) (hA : 0 < N → a = some b) (hN : N ≤ 1000) (hS : ∀ i, i < N → IsStep (A i)) (n : Int) (w : World) (hL : LogAt w b N A) :
    Calls Try.prog 65 #[.slice a N cp, .int .i64 n] w fun e w' => ∃ v hs, e = .returned v ∧ SlAt w' v N (nn n) hs (fun k x => cntV A k x N) ∧ Below w.heap.size w w' := by
  have HP := Lib.hid (past_any a b N cp A hA hN hS w hL)
  obtain ⟨i0, hi, hz0, hz1, hz2⟩ := info_parts info80c
  go_enter Try.func65, Try.ntmps65
  go_upto_region 1 with (fail)
  go_cut [17] (fun v wx => ∃ c : Bool, v = .bool c ∧ Hid (c = true ↔ (n < 1 ∨ 8 < n)) ∧ w = wx)
  case first =>
    go_wp2
    all_goals go_meet
    all_goals exact ⟨_, rfl, Lib.hid (by simp; try omega), rfl⟩
  case rest =>
   obtain ⟨c, rfl, HC, rfl⟩ := hcut
   go_upto_if 17 with (fail)
   go_cut [1] (fun v1 wx => v1 = .int .i64 (nn n : Nat) ∧ w = wx)
   case first =>
    cases c
    · have e : Hid ((nn n : Int) = n) := Lib.hid (by have := HC.out; simp at this; unfold nn; rw [if_pos (by omega)]; omega)
      go_wp2
      go_meet
      exact ⟨by rw [e.out], rfl⟩
    · have e : Hid (nn n = 0) := Lib.hid (by have := HC.out; simp at this; unfold nn; rw [if_neg (by omega)])
      go_wp2
      go_meet
      exact ⟨by rw [e.out]; rfl, rfl⟩
   case rest =>
    obtain ⟨rfl, rfl⟩ := hcut
    have hm8 := nn_le n
    generalize hme : nn n = m at hm8 ⊢
    have HM := Lib.hid hme
    clear hme
    go_wp2_with fail
    refine HP.out.mono ?_; rintro e w1 ⟨rfl, gs, hp⟩
    have HQ := Lib.hid hp
    clear hp HP
    go_wp2_with fail
    go_loopg [5, 21] N (fun g s5 s21 wr => ∃ (k : Nat) (v : Value) (hs : Nat → Nat), s21 = .int .i64 k ∧ v = s5 ∧ k ≤ N ∧ g = N - k ∧ Hid (StOut w1 wr m k v hs (fun k x => cntV A k x N)))
    case atStart => exact ⟨0, _, fun _ => 0, rfl, rfl, Nat.zero_le _, rfl, Lib.hid ⟨Below.refl _ _, World.ownsRow_nil _ _ _ _, fun j hj => absurd hj (Nat.not_lt_zero _), fun i j _ hj => absurd hj (Nat.not_lt_zero _), fun j hj => absurd hj (Nat.not_lt_zero _)⟩⟩
    case round =>
      obtain ⟨k, v, hs, rfl, rfl, hk1, hg, HO⟩ := hrel
      have HG := Lib.hid hg
      clear hg
      by_cases hk : k < N
      · have hkz : (k : Int) < (N : Int) := by omega
        obtain rfl := hA (by omega)
        have t1 : wr.cell? ⟨w.heap.size, k, none⟩ = some (.slice (some ⟨gs k, 0, none⟩) N N) := by
          rw [HO.out.below.cell (p := ⟨w.heap.size, k, none⟩) HQ.out.top.lt]
          simpa [rowV, hk] using HQ.out.top.cell hk
        have hmk := run_make_row' (P := Try.prog) 80 3 (.int .i64 0) 8 Try.underlying80 info3c rfl .i64 .i64 m (by omega) (by omega)
        have HI := Lib.hid (stIn_start HO.out)
        go_wp2_with fail
        clear hmk t1 HO
        generalize wr.alloc (.cells (madeCells #[.int .i64 0] m) 3) = W2 at *
        generalize wr.heap.size = G at *
        go_loopg [29] N (fun g s29 wi => ∃ t : Nat, s29 = .int .i64 t ∧ t ≤ N ∧ g = N - t ∧ Hid (StIn w1 wi m k v hs (fun k x => cntV A k x N) G (fun x => cntV A k x t)))
        case atStart => exact ⟨0, rfl, Nat.zero_le _, rfl, HI⟩
        case round =>
          obtain ⟨t, rfl, ht1, hgt, HI1⟩ := hrel
          have HGT := Lib.hid hgt
          clear hgt HI
          by_cases ht : t < N
          · have htz : (t : Int) < (N : Int) := by omega
            have c1 : wr.cell? ⟨gs k, t, none⟩ = some (.bool (Plain.rb (ldOf A) t k)) := by
              rw [HI1.out.out.below.cell (p := ⟨gs k, t, none⟩) (HQ.out.done k hk).lt]
              exact (HQ.out.done k hk).cell ht
            have c2 := who_at (log_below hL (HQ.out.below.trans (HI1.out.out.below.mono HQ.out.below.size))) hS ht
            have hc := fun x => cntV_succ A k x t
            cases hr : Plain.rb (ldOf A) t k
            · rw [hr] at c1
              simp only [hr, Bool.false_and, Bool.false_eq_true, if_false, Int.add_zero] at hc
              have HC := Lib.hid hc
              generalize intAt (A t) 0 = wh at *
              clear hc
              go_wp2
              go_roundg (N - (t + 1))
              case measure => rw [HGT.out]; omega
              case rel => exact ⟨t + 1, rfl, by omega, rfl, Lib.hid (stIn_same HI1.out fun x _ => HC.out x)⟩
            · rw [hr] at c1
              simp only [hr, Bool.true_and] at hc
              have HC := Lib.hid hc
              generalize intAt (A t) 0 = wh at *
              clear hc
              by_cases w0 : wh < 0
              · go_wp2
                go_roundg (N - (t + 1))
                case measure => rw [HGT.out]; omega
                case rel => exact ⟨t + 1, rfl, by omega, rfl, Lib.hid (stIn_same HI1.out fun x _ => by rw [HC.out x, show (wh == (x : Int)) = false by simp; omega]; simp)⟩
              · by_cases w1' : (m : Int) ≤ wh
                · go_wp2
                  go_roundg (N - (t + 1))
                  case measure => rw [HGT.out]; omega
                  case rel => exact ⟨t + 1, rfl, by omega, rfl, Lib.hid (stIn_same HI1.out fun x hx => by rw [HC.out x, show (wh == (x : Int)) = false by simp; omega]; simp)⟩
                · obtain ⟨x, rfl⟩ : ∃ x : Nat, wh = x := ⟨wh.toNat, by omega⟩
                  have hx : x < m := by omega
                  have c3 : wr.cell? ⟨G, x, none⟩ = some (.int .i64 (cntV A k x t)) := HI1.out.row.cell hx
                  have c4 : wr.frozen? ⟨G, x, none⟩ = false := HI1.out.row.frozen x
                  obtain ⟨b0, b1⟩ := cntV_bounds A k x t
                  have HX : Hid (∀ y, y < m → cntV A k y (t + 1) = if y = x then cntV A k x t + 1 else cntV A k y t) := Lib.hid fun y hy => by
                    rw [HC.out y]
                    by_cases e : y = x
                    · subst e; simp
                    · rw [show ((x : Int) == (y : Int)) = false by simp; omega]; simp [e]
                  generalize cntV A k x t = c at *
                  go_wp2
                  go_roundg (N - (t + 1))
                  case measure => rw [HGT.out]; omega
                  case rel => exact ⟨t + 1, rfl, by omega, rfl, Lib.hid (stIn_set HI1.out HX.out)⟩
          · obtain rfl : t = N := by omega
            have hown := HI1.out.out.own
            have hz1s := HI1.out.out.below.size
            go_wp2_with (first
              | (at_builtin; refine wpList_append_own _ rfl (.tmp 56) (.tmp 58) 77 rfl w1.heap.size 80 i0 (.slice none 0 0) 1 24 Try.underlying77 hi hz0 hz1 hz2 rfl (by decide) _ _ _ rfl (hown.alloc _) ⟨wr.heap.size, 0, none⟩ 1 1 [.slice (some ⟨G, 0, none⟩) m m] rfl rfl (cell_one _ _ _) (by intro u hu; simp at hu; subst hu; rfl) (by unfold maxLen; omega) (by omega) (by simp; omega) ?_; intro v1 w3 hown1 hgrow1 hnil1))
            go_roundg (t - (k + 1))
            case measure => rw [HG.out]; omega
            case rel => exact ⟨k + 1, v1, fun j => if j = k then G else hs j, rfl, rfl, by omega, rfl, Lib.hid (st_more HI1.out.out HI1.out.row HI1.out.lo HI1.out.new hown1 hgrow1)⟩
      · obtain rfl : k = N := by omega
        go_wp2
        go_ret
        exact ⟨v, hs, rfl, by rw [HM.out]; exact sl_of HO.out, HQ.out.below.trans (HO.out.below.mono HQ.out.below.size)⟩
end Go.Proofs.Ytdoofpanbcaigaa
