/-
  THE         refine region_class (fun W' => Below w2.heap.size w2 W') (by kernel_rfl) (by kernel_rfl) HS0 ?_
        repeat (first
          | go_big_quiet_skip
          | (go_big_quiet_want
             apply class_op
             · intro W hS'
               have hK := hS'
               obtain ⟨q1, q3⟩ := sl_facts (sl_below HT1.out hK) hk
               obtain ⟨q2, q4⟩ := sl_facts (sl_below HT2.out hK) hk
               go_simp
               try first
                 | with_reducible rfl
                 | (go_at_call 67; refine (ints_any (some ⟨hs k, 0, none⟩) (some ⟨hs' k, 0, none⟩) (hs k) (hs' k) m m m (fun x => cntV A k x N) (by omega) (fun _ => rfl) (fun _ => rfl) _ (fun j hj => q3.cell hj) (fun j hj => q4.cell hj)).mono ?_; rintro e w' ⟨rfl, hb'⟩; exact ⟨rfl, hK.trans (hb'.mono hK.size)⟩)
             go_big_quiet_on
             try simp only [Act.put, List.setIfInBounds_toArray, List.set_cons_zero, List.set_cons_succ]))
        refine wpQuiet_nil ?_
 of doormanlaw46.ClockStamps.
-/
import Derived.Test.YtdoofpanbcaigaaClock10
namespace Go.Proofs.Ytdoofpanbcaigaa
open Go.RowKit
set_option linter.unusedVariables false

theorem sl_facts {W : World} {g N n' cap : Nat} {hs : Nat → Nat} {val : Nat → Nat → Int} (h : SlAt W (.slice (some ⟨g, 0, none⟩) N cap) N n' hs val) {k : Nat} (hk : k < N) :
    W.cell? ⟨g, k, none⟩ = some (.slice (some ⟨hs k, 0, none⟩) n' n') ∧ W.rowIs (hs k) 3 n' (fun x => .int .i64 (val k x)) := by
  obtain ⟨a, g', cap', e1, e2, e3, e4⟩ := h
  rw [e2 (by omega)] at e1
  injection e1 with e5 e6 e7
  injection e5 with e5
  injection e5 with e5
  subst e5
  exact ⟨e3 k hk, e4 k hk⟩
/-- How many of the first t steps are of the one that did step i. -/
def nthV (A : Nat → Array Value) (i t : Nat) : Int := (Plain.cnt (fun j => intAt (A j) 0 == intAt (A i) 0) t : Nat)
theorem nthV_succ (A : Nat → Array Value) (i t : Nat) : nthV A i (t + 1) = nthV A i t + (if intAt (A t) 0 == intAt (A i) 0 then 1 else 0) := by
  unfold nthV
  rw [show Plain.cnt (fun j => intAt (A j) 0 == intAt (A i) 0) (t + 1) = Plain.cnt (fun j => intAt (A j) 0 == intAt (A i) 0) t + (if intAt (A t) 0 == intAt (A i) 0 then 1 else 0) from rfl]
  split <;> simp
theorem nthV_bounds (A : Nat → Array Value) (i t : Nat) : 0 ≤ nthV A i t ∧ nthV A i t ≤ t := by
  have := Plain.cnt_le (fun j => intAt (A j) 0 == intAt (A i) 0) t
  unfold nthV; omega
theorem clock_says {A : Nat → Array Value} {N i k x : Nat} (hx : intAt (A i) 0 = (x : Int)) (hik : i ≤ k) (hk : k < N) : Plain.rb (ldOf A) i k = decide (nthV A i (i + 1) ≤ cntV A k x N) := by
  have hw : ∀ m k, m < k → intAt (A m) 0 = intAt (A k) 0 → ldOf A m k = true := fun m k _ e => by simp [ldOf, leads, e]
  rw [Plain.clock_law (who := fun j => intAt (A j) 0) hw hik]
  have e1 : cntV A k x N = (Plain.cnt (fun j => Plain.rb (ldOf A) j k && intAt (A j) 0 == intAt (A i) 0) (k + 1) : Nat) := by
    unfold cntV
    rw [hx, Plain.cnt_stop _ (show k + 1 ≤ N by omega) (fun j h1 h2 => by rw [Plain.rb_gt (by omega)]; rfl)]
  rw [e1]
  unfold nthV
  simp only [Int.ofNat_le]

set_option maxRecDepth 100000 in
set_option maxHeartbeats 8000000 in
/-- doormanlaw46.ClockStamps. -/
theorem clockStamps_any (a : Option Addr) (b : Addr) (N cp : Nat) (A : Nat → Array Value) (hA : 0 < N → a = some b) (hc : N ≤ cp) (hc2 : cp ≤ maxLen) (hS : ∀ i, i < N → IsStep (A i)) (n : Int) (w : World) (hL : LogAt w b N A) :
    Calls Try.prog 16 #[.slice a N cp, .int .i64 n] w fun e w' => e = .returned (.bool true) ∧ Below w.heap.size w w' := by
  have hcz : N ≤ 9223372036854775807 := Nat.le_trans hc (Nat.le_trans hc2 (by decide))
  clear hc hc2
  by_cases h40 : 40 < N
  · have hd : (40 : Int) < (N : Int) := by omega
    go_enter Try.func16, Try.ntmps16
    go_wp2_with fail
    refine (awake46_any _).mono ?_; rintro e w' ⟨rfl, hb⟩
    have HB := Lib.hid hb
    clear hb
    go_wp2
    go_ret
    exact ⟨rfl, HB.out⟩
  · have hd : ¬ (40 : Int) < (N : Int) := by omega
    go_enter Try.func16, Try.ntmps16
    go_wp2_with fail
    refine (stamps_any a b N cp A hA (by omega) hS n w hL).mono ?_; rintro e w1 ⟨v, hs, rfl, hs1, hb1⟩
    have HT := Lib.hid hs1
    have HB1 := Lib.hid hb1
    clear hs1 hb1
    go_wp2_with fail
    refine (rstamps_any a b N cp A hA (by omega) hS n w1 (log_below hL HB1.out)).mono ?_; rintro e w2 ⟨v', hs', rfl, hs2, hb2⟩
    have hs1 := sl_below HT.out hb2
    have HB2 := Lib.hid (HB1.out.trans (hb2.mono HB1.out.size))
    have HL2 := Lib.hid (log_below hL HB2.out)
    clear hb2 HT HB1
    have hm8 := nn_le n
    have HM : Hid (1 ≤ n → n ≤ 8 → (nn n : Int) = n) := Lib.hid fun h1 h2 => by unfold nn; rw [if_pos ⟨h1, h2⟩]; omega
    generalize nn n = m at *
    obtain ⟨a1, g1, cap1, rfl, ha1, hc1, hr1⟩ := hs1
    obtain ⟨a2, g2, cap2, rfl, ha2, hc2, hr2⟩ := hs2
    have HT1 := Lib.hid (show SlAt w2 (.slice a1 N cap1) N m hs (fun k x => cntV A k x N) from ⟨a1, g1, cap1, rfl, ha1, hc1, hr1⟩)
    have HT2 := Lib.hid (show SlAt w2 (.slice a2 N cap2) N m hs' (fun k x => cntV A k x N) from ⟨a2, g2, cap2, rfl, ha2, hc2, hr2⟩)
    clear hc1 hr1 hc2 hr2
    go_wp2_with fail
    go_loopg [7] N (fun g s7 wr => ∃ k : Nat, s7 = .int .i64 k ∧ k ≤ N ∧ g = N - k ∧ Hid (Below w2.heap.size w2 wr))
    case atStart => exact ⟨0, rfl, Nat.zero_le _, rfl, Lib.hid (Below.refl _ _)⟩
    case round =>
      obtain ⟨k, rfl, hkN, hg, HB⟩ := hrel
      have HG := Lib.hid hg
      clear hg
      by_cases hk : k < N
      · have hkz : (k : Int) < (N : Int) := by omega
        obtain rfl := ha1 (by omega)
        obtain rfl := ha2 (by omega)
        have HS0 := HB.out.drew
        go_upto_region 9 with (fail)
        refine region_class (fun W' => Below w2.heap.size w2 W') (by kernel_rfl) (by kernel_rfl) HS0 ?_
        repeat (first
          | go_big_quiet_skip
          | (go_big_quiet_want
             apply class_op
             · intro W hS'
               have hK := hS'
               obtain ⟨q1, q3⟩ := sl_facts (sl_below HT1.out hK) hk
               obtain ⟨q2, q4⟩ := sl_facts (sl_below HT2.out hK) hk
               go_simp
               try first
                 | with_reducible rfl
                 | (go_at_call 67; refine (ints_any (some ⟨hs k, 0, none⟩) (some ⟨hs' k, 0, none⟩) (hs k) (hs' k) m m m (fun x => cntV A k x N) (by omega) (fun _ => rfl) (fun _ => rfl) _ (fun j hj => q3.cell hj) (fun j hj => q4.cell hj)).mono ?_; rintro e w' ⟨rfl, hb'⟩; exact ⟨rfl, hK.trans (hb'.mono hK.size)⟩)
             go_big_quiet_on
             try simp only [Act.put, List.setIfInBounds_toArray, List.set_cons_zero, List.set_cons_succ]))
        refine wpQuiet_nil ?_
        intro w3 hS3
        have HB3 := Lib.hid hS3
        clear hS3 HS0
        go_wp2
        go_roundg (N - (k + 1))
        case measure => rw [HG.out]; omega
        case rel => exact ⟨k + 1, rfl, by omega, rfl, HB3⟩
      · go_wp2_with fail
        clear HG hkN hk
        go_loopg [8] N (fun g s8 wr => ∃ i : Nat, s8 = .int .i64 i ∧ i ≤ N ∧ g = N - i ∧ Hid (Below w2.heap.size w2 wr))
        case atStart => exact ⟨0, rfl, Nat.zero_le _, rfl, HB⟩
        case round =>
          obtain ⟨i, rfl, hiN, hg, HB4⟩ := hrel
          have HG := Lib.hid hg
          clear hg HB
          by_cases hi : i < N
          · have hiz : (i : Int) < (N : Int) := by omega
            obtain rfl := hA (by omega)
            obtain rfl := ha1 (by omega)
            have c2 := who_at (log_below HL2.out HB4.out) hS hi
            have hnx := nthV_succ A i
            have hsay := fun (k x : Nat) (hx : intAt (A i) 0 = (x : Int)) (h1 : i ≤ k) (h2 : k < N) => clock_says (A := A) hx h1 h2
            have HNX := Lib.hid hnx
            have HSAY := Lib.hid hsay
            clear hnx hsay
            generalize hwh : intAt (A i) 0 = wh at *
            have HWH := Lib.hid hwh
            clear hwh
            have next : ∀ (g : Nat), g = N - i → N - (i + 1) < g := fun g e => by omega
            by_cases b1 : n < 1
            · go_wp2
              go_roundg (N - (i + 1))
              case measure => exact next _ HG.out
              case rel => exact ⟨i + 1, rfl, by omega, rfl, HB4⟩
            · by_cases b2 : 8 < n
              · go_wp2
                go_roundg (N - (i + 1))
                case measure => exact next _ HG.out
                case rel => exact ⟨i + 1, rfl, by omega, rfl, HB4⟩
              · by_cases b3 : wh < 0
                · go_wp2
                  go_roundg (N - (i + 1))
                  case measure => exact next _ HG.out
                  case rel => exact ⟨i + 1, rfl, by omega, rfl, HB4⟩
                · by_cases b4 : n ≤ wh
                  · go_wp2
                    go_roundg (N - (i + 1))
                    case measure => exact next _ HG.out
                    case rel => exact ⟨i + 1, rfl, by omega, rfl, HB4⟩
                  · obtain ⟨x, rfl⟩ : ∃ x : Nat, wh = x := ⟨wh.toNat, by omega⟩
                    have hmn := HM.out (by omega) (by omega)
                    have hx : x < m := by omega
                    have hxz : (x : Int) < (m : Int) := by omega
                    clear hmn next
                    go_wp2_with fail
                    go_loopg [10, 11] (i + 1) (fun g s10 s11 wx => wx = wr ∧ ∃ t : Nat, s11 = .int .i64 t ∧ s10 = .int .i64 (nthV A i t) ∧ t ≤ i + 1 ∧ g = i + 1 - t)
                    case atStart => exact ⟨rfl, 0, rfl, rfl, Nat.zero_le _, rfl⟩
                    case round =>
                      obtain ⟨rfl, t, rfl, rfl, ht1, hg3⟩ := hrel
                      have HG3 := Lib.hid hg3
                      clear hg3 c2
                      by_cases ht : t ≤ i
                      · have htz : (t : Int) ≤ (i : Int) := by omega
                        have htz2 : (t : Int) < (N : Int) := by omega
                        have c3 := who_at (log_below HL2.out HB4.out) hS (show t < N by omega)
                        have hq := HNX.out t
                        obtain ⟨n0, n1⟩ := nthV_bounds A i t
                        generalize intAt (A t) 0 = y at *
                        have HQ := Lib.hid hq
                        clear hq
                        generalize nthV A i t = q at *
                        by_cases hy : y = (x : Int)
                        · subst hy
                          have HQ2 : Hid (nthV A i (t + 1) = q + 1) := Lib.hid (by rw [HQ.out]; simp)
                          clear HQ
                          go_wp2
                          go_roundg (i + 1 - (t + 1))
                          case measure => rw [HG3.out]; omega
                          case rel => exact ⟨rfl, t + 1, rfl, by rw [HQ2.out], by omega, rfl⟩
                        · have HQ2 : Hid (nthV A i (t + 1) = q) := Lib.hid (by rw [HQ.out]; simp [hy])
                          clear HQ
                          go_wp2
                          go_roundg (i + 1 - (t + 1))
                          case measure => rw [HG3.out]; omega
                          case rel => exact ⟨rfl, t + 1, rfl, by rw [HQ2.out], by omega, rfl⟩
                      · obtain rfl : t = i + 1 := by omega
                        have hnz : ¬ ((i + 1 : Nat) : Int) ≤ (i : Int) := by omega
                        generalize nthV A i (i + 1) = q at *
                        have HF := Lib.hid (from_any (some b) b N cp A (fun _ => rfl) (by omega) hS (i : Int) wr (log_below HL2.out HB4.out))
                        clear HG3
                        go_wp2_with fail
                        refine HF.out.mono ?_; rintro e w4 ⟨rfl, hb4, hr4⟩
                        have HFR : Hid (w4.rowIs wr.heap.size 4 N (fun j => .bool (Plain.rb (ldOf A) i j))) := Lib.hid (hr4.congr fun j _ => by simp [fromV, hi])
                        have HB5 := Lib.hid (HB4.out.trans (hb4.mono HB4.out.size))
                        have HT3 := Lib.hid (sl_below HT1.out HB5.out)
                        clear hb4 hr4 HF HB4
                        generalize wr.heap.size = F at *
                        go_wp2_with fail
                        go_loopg [13] (N - i) (fun g s13 wx => ∃ k : Nat, s13 = .int .i64 k ∧ i ≤ k ∧ k ≤ N ∧ g = N - k ∧ ∃ d : Nat, w4.drewN d = wx)
                        case atStart => exact ⟨i, rfl, Nat.le_refl _, by omega, rfl, 0, rfl⟩
                        case round =>
                          obtain ⟨k, rfl, hik, hkN, hg4, d, rfl⟩ := hrel
                          have HG4 := Lib.hid hg4
                          clear hg4
                          by_cases hk : k < N
                          · have hkz : (k : Int) < (N : Int) := by omega
                            have c4 := HFR.out.cell hk
                            obtain ⟨c5, hrow⟩ := sl_facts HT3.out hk
                            have c6 := hrow.cell hx
                            have hs6 := HSAY.out k x rfl hik hk
                            generalize cntV A k x N = c at *
                            cases hB : Plain.rb (ldOf A) i k
                            · rw [hB] at c4 hs6
                              have hle : ¬ q ≤ c := by simpa using hs6.symm
                              clear hs6 hrow
                              go_upto_region 26 with (fail)
                              go_quiet (fail)
                              go_wp2
                              go_roundg (N - (k + 1))
                              case measure => rw [HG4.out]; omega
                              case rel => exact ⟨k + 1, rfl, by omega, by omega, rfl, d + nq, rfl⟩
                            · rw [hB] at c4 hs6
                              have hle : q ≤ c := by simpa using hs6.symm
                              clear hs6 hrow
                              go_upto_region 26 with (fail)
                              go_quiet (fail)
                              go_wp2
                              go_roundg (N - (k + 1))
                              case measure => rw [HG4.out]; omega
                              case rel => exact ⟨k + 1, rfl, by omega, by omega, rfl, d + nq, rfl⟩
                          · go_wp2
                            go_roundg (N - (i + 1))
                            case measure => rw [HG.out]; omega
                            case rel => exact ⟨i + 1, rfl, by omega, rfl, Lib.hid (below_drewN HB5.out d)⟩
          · clear HG hiN
            go_wp2_with fail
            refine (awake46_any _).mono ?_; rintro e w5 ⟨rfl, hb⟩
            have HB5 := Lib.hid (HB4.out.trans (hb.mono HB4.out.size))
            clear hb
            go_wp2
            go_ret
            exact ⟨rfl, HB2.out.trans (HB5.out.mono HB2.out.size)⟩

theorem clockStamps_rows {a : Option Addr} {len cap : Nat} {w : World} (h : IsRows stepLeaves w a len cap) (n : Int) :
    Calls Try.prog 16 #[.slice a len cap, .int .i64 n] w fun e w' => e = .returned (.bool true) ∧ Below w.heap.size w w' := by
  obtain ⟨b, A, h1, h2, h3, h4, h5⟩ := log_of_rows h
  exact clockStamps_any a b len cap A h1 h4 h5 h3 n w h2
end Go.Proofs.Ytdoofpanbcaigaa
