/-
  THE WALKS of layer 46 (clock): Before, both ways; From.
-/
import Derived.Test.YtdoofpanbcaigaaClock3
import Derived.Test.YtdoofpanbcaigaaTail
namespace Go.Proofs.Ytdoofpanbcaigaa
open Go.RowKit
set_option linter.unusedVariables false
attribute [local go_sem ↓] exec_load_75
attribute [local go_sem] run_loadStep

/-- Did a step happen ahead of another one? -/
noncomputable def before (A : Nat → Array Value) (n : Nat) (i k : Int) : Bool := decide (0 ≤ i) && (decide (i < k) && (decide (k < (n : Int)) && Plain.rb (ldOf A) i.toNat k.toNat))
theorem log_part {W : World} {b : Addr} {n m : Nat} {A : Nat → Array Value} (h : LogAt W b n A) (hm : m ≤ n) : LogAt W b m A := fun i hi => h i (by omega)

set_option maxRecDepth 100000 in
set_option maxHeartbeats 2000000 in
/-- clock.Before. -/
theorem before_any (a : Option Addr) (b : Addr) (n cp : Nat) (A : Nat → Array Value) (hA : 0 < n → a = some b) (hn : n ≤ 1000) (hc : n ≤ cp) (hc2 : cp ≤ maxLen) (hS : ∀ i, i < n → IsStep (A i)) (i k : Int) (w : World) (hL : LogAt w b n A) :
    Calls Try.prog 63 #[.slice a n cp, .int .i64 i, .int .i64 k] w fun e w' => e = .returned (.bool (before A n i k)) ∧ Below w.heap.size w w' := by
  have hcz : cp ≤ 9223372036854775807 := Nat.le_trans hc2 (by decide)
  by_cases c0 : i < 0
  · have E : Hid (before A n i k = false) := Lib.hid (by simp [before, show ¬ 0 ≤ i by omega])
    generalize before A n i k = B at *
    go_enter Try.func63, Try.ntmps63
    go_wp2
    go_ret
    exact ⟨ret_bool E.out.symm, Below.refl _ _⟩
  · by_cases c1 : (n : Int) ≤ k
    · have E : Hid (before A n i k = false) := Lib.hid (by simp [before, show ¬ k < (n : Int) by omega])
      generalize before A n i k = B at *
      go_enter Try.func63, Try.ntmps63
      go_wp2
      go_ret
      exact ⟨ret_bool E.out.symm, Below.refl _ _⟩
    · by_cases c2 : k ≤ i
      · have E : Hid (before A n i k = false) := Lib.hid (by simp [before, show ¬ i < k by omega])
        generalize before A n i k = B at *
        go_enter Try.func63, Try.ntmps63
        go_wp2
        go_ret
        exact ⟨ret_bool E.out.symm, Below.refl _ _⟩
      · obtain ⟨i, rfl⟩ : ∃ m : Nat, i = m := ⟨i.toNat, by omega⟩
        obtain ⟨k, rfl⟩ : ∃ m : Nat, k = m := ⟨k.toNat, by omega⟩
        have E : Hid (before A n i k = Plain.rb (ldOf A) i k) := Lib.hid (by simp [before, show i < k by omega, show k < n by omega])
        generalize before A n i k = B at *
        obtain rfl := hA (by omega)
        have hP := past_any (some b) b (k + 1) cp A (fun _ => rfl) (by omega) (fun j hj => hS j (by omega)) w (log_part hL (by omega))
        have HP := Lib.hid hP
        have hk1 : ((k : Int) + 1) ≤ (cp : Int) := by omega
        have hk2 : ((k : Int) + 1).toNat = k + 1 := by omega
        have HC := Lib.hid c2
        clear hP hS hL hc hc2
        go_enter Try.func63, Try.ntmps63
        go_wp2_with fail
        refine HP.out.mono ?_; rintro e w1 ⟨rfl, gs, hp⟩
        have t1 : w1.cell? ⟨w.heap.size, k, none⟩ = some (.slice (some ⟨gs k, 0, none⟩) (k + 1) (k + 1)) := by simpa [rowV] using hp.top.cell (show k < k + 1 by omega)
        have t2 : w1.cell? ⟨gs k, i, none⟩ = some (.bool (Plain.rb (ldOf A) i k)) := (hp.done k (by omega)).cell (show i < k + 1 by have := HC.out; omega)
        have HB := Lib.hid hp.below
        have i1 : (i : Int) < (k : Int) + 1 := by have := HC.out; omega
        have i2 : (k : Int) < (k : Int) + 1 := by omega
        clear hp HP
        go_wp2
        go_ret
        exact ⟨ret_bool E.out.symm, HB.out⟩

/-- Of each place, whether the step at i happened ahead of it, or is it. -/
noncomputable def fromV (A : Nat → Array Value) (n : Nat) (i : Int) (j : Nat) : Bool := decide (0 ≤ i) && decide (i < (n : Int)) && Plain.rb (ldOf A) i.toNat j
structure FromAt (w W : World) (n i : Nat) (ld : Nat → Nat → Bool) (k : Nat) : Prop where
  below : Below w.heap.size w W
  row : W.rowIs w.heap.size 4 n (fun j => .bool (decide (j < k) && Plain.rb ld i j))
structure FromIn (w W : World) (n i : Nat) (ld : Nat → Nat → Bool) (k t : Nat) : Prop where
  below : Below w.heap.size w W
  row : W.rowIs w.heap.size 4 n (fun j => .bool (if j = k then Plain.fb ld i k t else decide (j < k) && Plain.rb ld i j))
theorem from_start (w : World) {n i : Nat} (ld : Nat → Nat → Bool) (hi : i < n) : FromAt w (w.alloc (.cells ((madeCells #[.bool false] n).setIfInBounds i (.bool true)) 4)) n i ld (i + 1) := by
  refine ⟨(Below.refl _ _).alloc (Nat.le_refl _) _, ?_⟩
  have h := (World.rowIs_made w (.bool false) n 4).set i (.bool true)
  rw [World.setCell_alloc_at _ _ _ _ _ rfl] at h
  refine h.congr fun j hj => ?_
  by_cases e : j = i
  · subst e; simp [Plain.rb_self]
  · by_cases e2 : j < i
    · simp [e, Plain.rb_gt e2]
    · simp [e, show ¬ j < i + 1 by omega]
theorem from_in {w W : World} {n i k : Nat} {ld : Nat → Nat → Bool} (h : FromAt w W n i ld k) : FromIn w W n i ld k i :=
  ⟨h.below, h.row.congr fun j hj => by
    by_cases e : j = k
    · subst e; simp [Plain.fb_start]
    · simp [e]⟩
theorem from_out {w W : World} {n i k t : Nat} {ld : Nat → Nat → Bool} (h : FromIn w W n i ld k t) (e : Plain.fb ld i k t = Plain.rb ld i k) : FromAt w W n i ld (k + 1) :=
  ⟨h.below, h.row.congr fun j hj => by
    by_cases e1 : j = k
    · subst e1; simp [e]
    · by_cases e2 : j < k
      · simp [e1, e2, show j < k + 1 by omega]
      · simp [e1, e2, show ¬ j < k + 1 by omega]⟩
theorem from_below {w W W' : World} {n i k t : Nat} {ld : Nat → Nat → Bool} (h : FromIn w W n i ld k t) (hb : Below W.heap.size W W') : FromIn w W' n i ld k t :=
  ⟨h.below.trans (hb.mono h.below.size), row_keep h.row hb⟩
theorem from_step {w W : World} {n i k t : Nat} {ld : Nat → Nat → Bool} (h : FromIn w W n i ld k t) {v : Bool} (hv : v = Plain.fb ld i k (t + 1)) : FromIn w (W.setCell ⟨w.heap.size, k, none⟩ (.bool v)) n i ld k (t + 1) :=
  ⟨h.below.setCell (Nat.le_refl _) _, (h.row.set k _).congr fun j hj => by
    by_cases e : j = k
    · subst e; simp [hv]
    · simp [e]⟩

theorem from_facts {w W : World} {b : Addr} {n i k t : Nat} {A : Nat → Array Value} (h : FromIn w W n i (ldOf A) k t) (hL : LogAt w b n A) (ht : t < k) (hk : k < n) :
    W.cell? ⟨w.heap.size, t, none⟩ = some (.bool (Plain.rb (ldOf A) i t)) ∧ isRange W (b.add (t * 37)) 37 = true ∧ rangeOf W (b.add (t * 37)) 37 = A t ∧ isRange W (b.add (k * 37)) 37 = true ∧ rangeOf W (b.add (k * 37)) 37 = A k := by
  have hl := log_below hL h.below
  exact ⟨by simpa [show t ≠ k by omega, ht] using h.row.cell (show t < n by omega), (hl t (by omega)).1, (hl t (by omega)).2, (hl k hk).1, (hl k hk).2⟩

set_option maxRecDepth 100000 in
set_option maxHeartbeats 4000000 in
/-- doormanref46.From. -/
theorem from_any (a : Option Addr) (b : Addr) (n cp : Nat) (A : Nat → Array Value) (hA : 0 < n → a = some b) (hn : n ≤ 1000) (hS : ∀ i, i < n → IsStep (A i)) (i : Int) (w : World) (hL : LogAt w b n A) :
    Calls Try.prog 68 #[.slice a n cp, .int .i64 i] w fun e w' => e = .returned (.slice (some ⟨w.heap.size, 0, none⟩) n n) ∧ Below w.heap.size w w' ∧ w'.rowIs w.heap.size 4 n (fun j => .bool (fromV A n i j)) := by
  have hmk := run_make_row' (P := Try.prog) 81 4 (.bool false) 1 Try.underlying81 info4c rfl .i64 .i64 n (by omega) (by omega)
  by_cases c0 : i < 0
  · have E : Hid (∀ j, fromV A n i j = false) := Lib.hid fun j => by simp [fromV, show ¬ 0 ≤ i by omega]
    go_enter Try.func68, Try.ntmps68
    go_wp2
    go_ret
    exact ⟨rfl, (Below.refl _ _).alloc (Nat.le_refl _) _, (World.rowIs_made w (.bool false) n 4).congr fun j _ => by rw [E.out]⟩
  · by_cases c1 : (n : Int) ≤ i
    · have E : Hid (∀ j, fromV A n i j = false) := Lib.hid fun j => by simp [fromV, show ¬ i < (n : Int) by omega]
      go_enter Try.func68, Try.ntmps68
      go_wp2
      go_ret
      exact ⟨rfl, (Below.refl _ _).alloc (Nat.le_refl _) _, (World.rowIs_made w (.bool false) n 4).congr fun j _ => by rw [E.out]⟩
    · obtain ⟨i, rfl⟩ : ∃ m : Nat, i = m := ⟨i.toNat, by omega⟩
      have E : Hid (∀ j, fromV A n i j = Plain.rb (ldOf A) i j) := Lib.hid fun j => by simp [fromV, show i < n by omega]
      have hi : i < n := by omega
      have hiz : (i : Int) < (n : Int) := by omega
      obtain rfl := hA (by omega)
      have HS0 := Lib.hid (from_start w (ldOf A) hi)
      have f2 := (World.rowIs_made w (.bool false) n 4).cell hi
      have f3 : (madeCells #[Value.bool false] n)[i]? = some (.bool false) := by
        have := f2
        rwa [World.cell?_alloc_new] at this
      go_enter Try.func68, Try.ntmps68
      go_wp2
      clear hmk f2 f3
      generalize w.alloc (.cells ((madeCells #[.bool false] n).setIfInBounds i (.bool true)) 4) = W0 at *
      go_loopg [6] (n - (i + 1)) (fun g s6 wr => ∃ k : Nat, s6 = .int .i64 k ∧ i < k ∧ k ≤ n ∧ g = n - k ∧ Hid (FromAt w wr n i (ldOf A) k))
      case atStart => exact ⟨i + 1, rfl, by omega, by omega, rfl, HS0⟩
      case round =>
        obtain ⟨k, rfl, hik, hkn, hg, HF⟩ := hrel
        have HG := Lib.hid hg
        clear hg HS0
        by_cases hk : k < n
        · have hkz : (k : Int) < (n : Int) := by omega
          have HF1 := Lib.hid (from_in HF.out)
          clear HF
          go_wp2_with fail
          go_loopg [7] (k - i) (fun g s7 wi => ∃ t : Nat, s7 = .int .i64 t ∧ i ≤ t ∧ t ≤ k ∧ g = k - t ∧ Hid (FromIn w wi n i (ldOf A) k t))
          case atStart => exact ⟨i, rfl, by omega, by omega, rfl, HF1⟩
          case round =>
            obtain ⟨t, rfl, hit, htk, hgt, HF2⟩ := hrel
            have HGT := Lib.hid hgt
            clear hgt HF1
            by_cases ht : t < k
            · have htz : (t : Int) < (k : Int) := by omega
              have htn : t < n := by omega
              have htnz : (t : Int) < (n : Int) := by omega
              have c2 : wr.cell? ⟨w.heap.size, k, none⟩ = some (.bool (Plain.fb (ldOf A) i k t)) := by simpa using HF2.out.row.cell hk
              cases hf : Plain.fb (ldOf A) i k t
              · rw [hf] at c2
                have c4 : wr.cell? ⟨w.heap.size, t, none⟩ = some (.bool (Plain.rb (ldOf A) i t)) := by simpa [show t ≠ k by omega, ht] using HF2.out.row.cell htn
                have c3 : wr.frozen? ⟨w.heap.size, k, none⟩ = false := HF2.out.row.frozen k
                have hst := Plain.fb_step hit hf
                have HF3 := from_below HF2.out (Below.refl _ _).drew
                have hlg := log_below hL HF3.below
                cases hr : Plain.rb (ldOf A) i t
                · rw [hr] at c4
                  rw [hr, Bool.false_and] at hst
                  have HST := Lib.hid hst
                  clear hst hlg
                  go_upto_region 11 with (fail)
                  refine region_class_tail (fun W' => FromIn w W' n i (ldOf A) k t) _ 18 _ rfl (by kernel_rfl) (by kernel_rfl) (by kernel_rfl) HF3 ?_
                  simp only [List.take_succ_cons, List.take_zero]
                  repeat (first
                    | go_big_quiet_skip
                    | (go_big_quiet_want
                       apply class_op
                       · intro W hS'
                         have hK := hS'
                         obtain ⟨q1, q2, q3, q4, q5⟩ := from_facts hK hL ht hk
                         go_simp
                         try first
                           | with_reducible rfl
                           | (go_at_call 62; refine (rleads_any (hS _ htn) (hS _ hk) _).mono ?_; rintro e w' ⟨rfl, hb'⟩; exact ⟨rfl, from_below hK hb'⟩)
                       go_big_quiet_on
                       try simp only [Act.put, List.setIfInBounds_toArray, List.set_cons_zero, List.set_cons_succ]))
                  refine wpQuiet_nil ?_
                  intro w2 hS2
                  have HF5 := Lib.hid hS2
                  have c2 : w2.cell? ⟨w.heap.size, k, none⟩ = some (.bool (Plain.fb (ldOf A) i k t)) := by simpa using HF5.out.row.cell hk
                  have c3 : w2.frozen? ⟨w.heap.size, k, none⟩ = false := HF5.out.row.frozen k
                  rw [hf] at c2
                  clear hS2 HF3
                  go_wp2
                  go_roundg (k - (t + 1))
                  case measure => rw [HGT.out]; omega
                  case rel => exact ⟨t + 1, rfl, by omega, by omega, rfl, Lib.hid (from_step HF5.out HST.out.symm)⟩
                · rw [hr] at c4
                  rw [hr, Bool.true_and] at hst
                  have HST := Lib.hid hst
                  clear hst hlg
                  go_upto_region 11 with (fail)
                  refine region_class_tail (fun W' => FromIn w W' n i (ldOf A) k t) _ 18 _ rfl (by kernel_rfl) (by kernel_rfl) (by kernel_rfl) HF3 ?_
                  simp only [List.take_succ_cons, List.take_zero]
                  repeat (first
                    | go_big_quiet_skip
                    | (go_big_quiet_want
                       apply class_op
                       · intro W hS'
                         have hK := hS'
                         obtain ⟨q1, q2, q3, q4, q5⟩ := from_facts hK hL ht hk
                         go_simp
                         try first
                           | with_reducible rfl
                           | (go_at_call 62; refine (rleads_any (hS _ htn) (hS _ hk) _).mono ?_; rintro e w' ⟨rfl, hb'⟩; exact ⟨rfl, from_below hK hb'⟩)
                       go_big_quiet_on
                       try simp only [Act.put, List.setIfInBounds_toArray, List.set_cons_zero, List.set_cons_succ]))
                  refine wpQuiet_nil ?_
                  intro w2 hS2
                  have HF5 := Lib.hid hS2
                  have c2 : w2.cell? ⟨w.heap.size, k, none⟩ = some (.bool (Plain.fb (ldOf A) i k t)) := by simpa using HF5.out.row.cell hk
                  have c3 : w2.frozen? ⟨w.heap.size, k, none⟩ = false := HF5.out.row.frozen k
                  rw [hf] at c2
                  clear hS2 HF3
                  go_wp2
                  go_roundg (k - (t + 1))
                  case measure => rw [HGT.out]; omega
                  case rel => exact ⟨t + 1, rfl, by omega, by omega, rfl, Lib.hid (from_step HF5.out HST.out.symm)⟩
              · rw [hf] at c2
                go_wp2
                go_roundg (n - (k + 1))
                case measure => rw [HG.out]; omega
                case rel => exact ⟨k + 1, rfl, by omega, by omega, rfl, Lib.hid (from_out HF2.out (by rw [hf, Plain.fb_true (by omega) hf]))⟩
            · obtain rfl : t = k := by omega
              go_wp2
              go_roundg (n - (t + 1))
              case measure => rw [HG.out]; omega
              case rel => exact ⟨t + 1, rfl, by omega, by omega, rfl, Lib.hid (from_out HF2.out (Plain.fb_end hik))⟩
        · obtain rfl : k = n := by omega
          go_wp2
          go_ret
          exact ⟨rfl, HF.out.below, HF.out.row.congr fun j hj => by rw [E.out]; simp [hj]⟩
end Go.Proofs.Ytdoofpanbcaigaa
