/-
  THE WALKS of layer 46 (clock): Stamps by the document.
-/
import Derived.Test.YtdoofpanbcaigaaClock6
import Derived.Test.YtdoofpanbcaigaaTail
namespace Go.Proofs.Ytdoofpanbcaigaa
open Go.RowKit
set_option linter.unusedVariables false

theorem cell_one' (w : World) (x : Value) (T : TypeId) (g : Nat) (hg : g = w.heap.size) : ∀ (j : Nat) (u : Value), [x][j]? = some u → (w.alloc (.cells #[x] T)).cell? ((⟨g, 0, none⟩ : Addr).add j) = some u := by
  subst hg; exact cell_one w x T
theorem st_val {w1 W : World} {n' k : Nat} {v : Value} {hs : Nat → Nat} {val val' : Nat → Nat → Int} (h : StOut w1 W n' k v hs val) (e : ∀ j x, j < k → x < n' → val' j x = val j x) : StOut w1 W n' k v hs val' :=
  ⟨h.below, h.own, h.lo, h.rise, fun j hj => (h.rows j hj).congr fun x hx => by rw [e j x hj hx]⟩
theorem st_set {w1 W : World} {n' N k x : Nat} {v : Value} {hs : Nat → Nat} {val val' : Nat → Nat → Int} {u : Int} (h : StOut w1 W n' N v hs val) (hk : k < N) (e : ∀ j y, j < N → y < n' → val' j y = if j = k ∧ y = x then u else val j y) :
    StOut w1 (W.setCell ⟨hs k, x, none⟩ (.int .i64 u)) n' N v hs val' := by
  refine ⟨h.below.setCell (h.lo k hk) _, own_other h.own (h.rows k hk) (fun q _ hq => Below.heap_setCell W _ _ q hq), h.lo, h.rise, fun j hj => ?_⟩
  by_cases e1 : j = k
  · subst e1
    refine ((h.rows j hj).set x _).congr fun y hy => ?_
    rw [e j y hj hy]
    by_cases e2 : y = x <;> simp [e2]
  · have hne : hs j ≠ hs k := by
      rcases Nat.lt_or_gt_of_ne e1 with h' | h'
      · have := h.rise j k h' hk; omega
      · have := h.rise k j h' hj; omega
    refine ((h.rows j hj).setOther hne _).congr fun y hy => ?_
    rw [e j y hj hy]; simp [e1]

theorem st_cell {w1 W : World} {n' N k go cap : Nat} {hs : Nat → Nat} {val : Nat → Nat → Int} (h : StOut w1 W n' N (.slice (some ⟨go, 0, none⟩) N cap) hs val) (hk : k < N) : W.cell? ⟨go, k, none⟩ = some (.slice (some ⟨hs k, 0, none⟩) n' n') := by
  obtain ⟨a, g, cap2, e1, e2, e3, -⟩ := sl_of h
  rw [e2 (by omega)] at e1
  injection e1 with e4 e5 e6
  injection e4 with e4
  injection e4 with e4
  subst e4
  exact e3 k hk

set_option maxRecDepth 100000 in
set_option maxHeartbeats 8000000 in
/-- doormanref46.Stamps. -/
theorem rstamps_any (a : Option Addr) (b : Addr) (N cp : Nat) (A : Nat → Array Value) (hA : 0 < N → a = some b) (hN : N ≤ 1000) (hS : ∀ i, i < N → IsStep (A i)) (n : Int) (w : World) (hL : LogAt w b N A) :
    Calls Try.prog 66 #[.slice a N cp, .int .i64 n] w fun e w' => ∃ v hs, e = .returned v ∧ SlAt w' v N (nn n) hs (fun k x => cntV A k x N) ∧ Below w.heap.size w w' := by
  obtain ⟨i0, hi, hz0, hz1, hz2⟩ := info_parts info80c
  go_enter Try.func66, Try.ntmps66
  go_upto_region 1 with (fail)
  go_cut [15] (fun v wx => ∃ c : Bool, v = .bool c ∧ Hid (c = true ↔ (n < 1 ∨ 8 < n)) ∧ w = wx)
  case first =>
    go_wp2
    all_goals go_meet
    all_goals exact ⟨_, rfl, Lib.hid (by simp; try omega), rfl⟩
  case rest =>
   obtain ⟨c, rfl, HC, rfl⟩ := hcut
   go_upto_if 15 with (fail)
   go_cut [1] (fun v1 wx => v1 = .int .i64 (nn n : Nat) ∧ w = wx)
   case first =>
    cases c
    · have e : Hid ((nn n : Int) = n) := Lib.hid (by have := HC.out; simp at this; unfold nn; rw [if_pos (by omega)]; omega)
      go_wp2
      go_meet
      exact ⟨by rw [e.out], rfl⟩
    · have e : Hid (nn n = 0) := Lib.hid (by have := HC.out; simp at this; unfold nn; rw [if_neg (by omega)])
      go_wp2
      go_meet
      exact ⟨by rw [e.out]; rfl, rfl⟩
   case rest =>
    obtain ⟨rfl, rfl⟩ := hcut
    have hm8 := nn_le n
    generalize hme : nn n = m at hm8 ⊢
    have HM := Lib.hid hme
    clear hme
    go_wp2_with fail
    go_loopg [5, 6] N (fun g s5 s6 wr => ∃ (k : Nat) (v : Value) (hs : Nat → Nat), s6 = .int .i64 k ∧ v = s5 ∧ k ≤ N ∧ g = N - k ∧ Hid (StOut w wr m k v hs (fun _ _ => 0)))
    case atStart =>
      exact ⟨0, _, fun _ => 0, rfl, rfl, Nat.zero_le _, rfl, Lib.hid ⟨(Below.refl _ _).alloc (Nat.le_refl _) _, ⟨rfl, .inr ⟨w.heap.size, 0, #[], rfl, Nat.le_refl _, (MapKept.heap_alloc w _).1, Nat.le_refl _, Nat.zero_le _, rfl, rfl⟩⟩,
        fun j hj => absurd hj (Nat.not_lt_zero _), fun i j _ hj => absurd hj (Nat.not_lt_zero _), fun j hj => absurd hj (Nat.not_lt_zero _)⟩⟩
    case round =>
      obtain ⟨k, v, hs, rfl, rfl, hk1, hg, HO⟩ := hrel
      have HG := Lib.hid hg
      clear hg
      by_cases hk : k < N
      · have hkz : (k : Int) < (N : Int) := by omega
        have hmk := run_make_row' (P := Try.prog) 80 3 (.int .i64 0) 8 Try.underlying80 info3c rfl .i64 .i64 m (by omega) (by omega)
        have HI := Lib.hid (stIn_start HO.out)
        have hown := HI.out.out.own
        have hzs := HO.out.below.size
        go_wp2_with (first
          | (at_builtin; refine wpList_append_own _ rfl (.tmp 23) (.tmp 26) 77 rfl w.heap.size 80 i0 (.slice none 0 0) 1 24 Try.underlying77 hi hz0 hz1 hz2 rfl (by decide) _ _ _ rfl (hown.alloc _) ⟨wr.heap.size + 1, 0, none⟩ 1 1 [.slice (some ⟨wr.heap.size, 0, none⟩) m m] rfl rfl (cell_one' _ _ _ _ (by simp)) (by intro u hu; simp at hu; subst hu; rfl) (by unfold maxLen; omega) (by omega) (by simp; omega) ?_; intro v1 w3 hown1 hgrow1 hnil1))
        go_roundg (N - (k + 1))
        case measure => rw [HG.out]; omega
        case rel => exact ⟨k + 1, v1, fun j => if j = k then wr.heap.size else hs j, rfl, rfl, by omega, rfl, Lib.hid (st_more HI.out.out HI.out.row HI.out.lo HI.out.new hown1 hgrow1)⟩
      · obtain rfl : k = N := by omega
        have HO1 := Lib.hid (st_val (val' := fun j x => cntV A j x 0) HO.out (fun j x _ _ => cntV_zero A j x))
        clear HO HG
        obtain ⟨a', go, cap', rfl, hago, -, -⟩ := sl_of HO1.out
        go_wp2_with fail
        go_loopg [7] k (fun g s7 wr => ∃ i : Nat, s7 = .int .i64 i ∧ i ≤ k ∧ g = k - i ∧ Hid (StOut w wr m k (.slice a' k cap') hs (fun j x => cntV A j x i)))
        case atStart => exact ⟨0, rfl, Nat.zero_le _, rfl, HO1⟩
        case round =>
          obtain ⟨i, rfl, hi1, hgi, HO2⟩ := hrel
          have HGI := Lib.hid hgi
          clear hgi HO1
          by_cases hik : i < k
          · have hikz : (i : Int) < (k : Int) := by omega
            obtain rfl := hA (by omega)
            obtain rfl := hago (by omega)
            have HF := Lib.hid (from_any (some b) b k cp A (fun _ => rfl) hN hS (i : Int) wr (log_below hL HO2.out.below))
            go_wp2_with fail
            refine HF.out.mono ?_; rintro e w2 ⟨rfl, hb2, hr2⟩
            have HFR : Hid (w2.rowIs wr.heap.size 4 k (fun j => .bool (Plain.rb (ldOf A) i j))) := Lib.hid (hr2.congr fun j _ => by simp [fromV, hik])
            have HHS : Hid (∀ j, j < k → hs j < wr.heap.size) := Lib.hid fun j hj => (HO2.out.rows j hj).lt
            have HO3 := Lib.hid (st_val (val' := fun j x => if j < i then cntV A j x (i + 1) else cntV A j x i) (st_below HO2.out hb2) (fun j x _ _ => by
              by_cases e : j < i
              · rw [if_pos e, cntV_succ, Plain.rb_gt e]; simp
              · rw [if_neg e]))
            clear hb2 hr2 HF HO2
            generalize wr.heap.size = F at *
            go_wp2_with fail
            go_loopg [9] (k - i) (fun g s9 wi => ∃ q : Nat, s9 = .int .i64 q ∧ i ≤ q ∧ q ≤ k ∧ g = k - q ∧ Hid (StOut w wi m k (.slice (some ⟨go, 0, none⟩) k cap') hs (fun j x => if j < q then cntV A j x (i + 1) else cntV A j x i)) ∧ Hid (wi.rowIs F 4 k (fun j => .bool (Plain.rb (ldOf A) i j))))
            case atStart => exact ⟨i, rfl, Nat.le_refl _, by omega, rfl, HO3, HFR⟩
            case round =>
              obtain ⟨q, rfl, hiq, hqk, hgq, HO4, HFR1⟩ := hrel
              have HGQ := Lib.hid hgq
              clear hgq HO3 HFR
              by_cases hq : q < k
              · have hqz : (q : Int) < (k : Int) := by omega
                have c1 : wr.cell? ⟨F, q, none⟩ = some (.bool (Plain.rb (ldOf A) i q)) := HFR1.out.cell hq
                have c2 := who_at (log_below hL HO4.out.below) hS hik
                have hc := fun x => cntV_succ A q x i
                have hsame : (∀ x, x < m → cntV A q x (i + 1) = cntV A q x i) → Hid (StOut w wr m k (.slice (some ⟨go, 0, none⟩) k cap') hs (fun j x => if j < q + 1 then cntV A j x (i + 1) else cntV A j x i)) := fun e => Lib.hid (st_val HO4.out fun j x _ hx => by
                  by_cases e1 : j = q
                  · subst e1; simp [e x hx]
                  · by_cases e2 : j < q
                    · simp [e2, show j < q + 1 by omega]
                    · simp [e2, show ¬ j < q + 1 by omega])
                have HSAME := Lib.hid hsame
                clear hsame
                cases hr : Plain.rb (ldOf A) i q
                · rw [hr] at c1
                  simp only [hr, Bool.false_and, Bool.false_eq_true, if_false, Int.add_zero] at hc
                  have HX := HSAME.out fun x _ => hc x
                  generalize intAt (A i) 0 = wh at *
                  clear hc HSAME
                  go_wp2
                  go_roundg (k - (q + 1))
                  case measure => rw [HGQ.out]; omega
                  case rel => exact ⟨q + 1, rfl, by omega, by omega, rfl, HX, HFR1⟩
                · rw [hr] at c1
                  simp only [hr, Bool.true_and] at hc
                  have HC1 := Lib.hid hc
                  generalize intAt (A i) 0 = wh at *
                  clear hc
                  by_cases w0 : wh < 0
                  · have HX := HSAME.out fun x _ => by rw [HC1.out x, show (wh == (x : Int)) = false by simp; omega]; simp
                    clear HSAME
                    go_wp2
                    go_roundg (k - (q + 1))
                    case measure => rw [HGQ.out]; omega
                    case rel => exact ⟨q + 1, rfl, by omega, by omega, rfl, HX, HFR1⟩
                  · by_cases w1' : (m : Int) ≤ wh
                    · have HX := HSAME.out fun x hx => by rw [HC1.out x, show (wh == (x : Int)) = false by simp; omega]; simp
                      clear HSAME
                      go_wp2
                      go_roundg (k - (q + 1))
                      case measure => rw [HGQ.out]; omega
                      case rel => exact ⟨q + 1, rfl, by omega, by omega, rfl, HX, HFR1⟩
                    · obtain ⟨x, rfl⟩ : ∃ x : Nat, wh = x := ⟨wh.toNat, by omega⟩
                      have hx : x < m := by omega
                      have c3 := st_cell HO4.out hq
                      have c4 : wr.cell? ⟨hs q, x, none⟩ = some (.int .i64 (cntV A q x i)) := by simpa using (HO4.out.rows q hq).cell hx
                      have c5 : wr.frozen? ⟨hs q, x, none⟩ = false := (HO4.out.rows q hq).frozen x
                      obtain ⟨b0, b1⟩ := cntV_bounds A q x i
                      have HX : Hid (∀ j y, j < k → y < m → (if j < q + 1 then cntV A j y (i + 1) else cntV A j y i) = if j = q ∧ y = x then cntV A q x i + 1 else (if j < q then cntV A j y (i + 1) else cntV A j y i)) := Lib.hid fun j y _ hy => by
                        by_cases e1 : j = q
                        · subst e1
                          rw [if_pos (by omega), HC1.out y]
                          by_cases e : y = x
                          · subst e; simp
                          · rw [show ((x : Int) == (y : Int)) = false by simp; omega]; simp [e]
                        · by_cases e2 : j < q
                          · simp [e1, e2, show j < q + 1 by omega]
                          · simp [e1, e2, show ¬ j < q + 1 by omega]
                      clear HSAME HC1
                      generalize cntV A q x i = c at *
                      go_upto_region 16 with (fail)
                      refine region_class_tail (fun W' => W' = wr.drew) _ 13 _ rfl (by kernel_rfl) (by kernel_rfl) (by kernel_rfl) rfl ?_
                      simp only [List.take_succ_cons, List.take_zero]
                      repeat (first
                        | go_big_quiet_skip
                        | (go_big_quiet_want
                           apply class_op
                           · intro W hS
                             subst hS
                             go_simp
                             try first
                               | with_reducible rfl
                           go_big_quiet_on
                           try simp only [Act.put, List.setIfInBounds_toArray, List.set_cons_zero, List.set_cons_succ]))
                      refine wpQuiet_nil ?_
                      intro w4 hS4
                      subst hS4
                      go_wp2
                      go_roundg (k - (q + 1))
                      case measure => rw [HGQ.out]; omega
                      case rel => exact ⟨q + 1, rfl, by omega, by omega, rfl, Lib.hid (st_set (st_below HO4.out (Below.refl _ _).drew) hq HX.out), Lib.hid (HFR1.out.drew.setOther (show F ≠ hs q by have := HHS.out q hq; omega) _)⟩
              · obtain rfl : q = k := by omega
                go_wp2
                go_roundg (q - (i + 1))
                case measure => rw [HGI.out]; omega
                case rel => exact ⟨i + 1, rfl, by omega, rfl, Lib.hid (st_val HO4.out fun j x hj _ => by rw [if_pos hj])⟩
          · obtain rfl : i = k := by omega
            go_wp2
            go_ret
            exact ⟨.slice a' i cap', hs, rfl, by rw [HM.out]; exact sl_of HO2.out, HO2.out.below⟩
end Go.Proofs.Ytdoofpanbcaigaa
