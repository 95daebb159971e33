/-
  THE WALKS of layer 46 (clock): awake.
-/
import Derived.Test.YtdoofpanbcaigaaClock7
namespace Go.Proofs.Ytdoofpanbcaigaa
open Go.RowKit
set_option linter.unusedVariables false

theorem log_below' {w W : World} {b : Addr} {n : Nat} {A : Nat → Array Value} (h : LogAt w b n A) (hb : Below w.heap.size w W) : LogAt W b n A := log_below h hb
/-- A log that the call itself lays. -/
theorem log_new (w : World) (C : Array Value) (T : TypeId) (n : Nat) (hC : C.size = n * 37) : LogAt (w.alloc (.cells C T)) ⟨w.heap.size, 0, none⟩ n (fun i => C.extract (i * 37) (i * 37 + 37)) := by
  intro i hi
  have hlen : (C.extract (i * 37) (i * 37 + 37)).toList.length = 37 := by simp; omega
  have h := range_of (W := w.alloc (.cells C T)) (p := (⟨w.heap.size, 0, none⟩ : Addr).add (i * 37)) (n := 37) hlen (fun k v hk => by
    have hk' : k < 37 := by
      have := (List.getElem?_eq_some_iff.1 hk).1
      rw [hlen] at this; exact this
    rw [Go.Deep.add_add]
    have e : (⟨w.heap.size, 0, none⟩ : Addr).add (i * 37 + k) = ⟨w.heap.size, i * 37 + k, none⟩ := by unfold Addr.add; split <;> simp_all
    rw [e, World.cell?_alloc_new]
    rw [Array.getElem?_toList, Array.getElem?_extract] at hk
    rw [if_pos (by omega)] at hk
    exact hk)
  rw [Array.toArray_toList] at h
  exact h

def steps3 : Array Value := #[.int .i64 0, .int .i64 0, .int .i64 3, .int .i64 1, .int .i64 0, .int .i64 0, .int .i64 0, .int .i64 0, .int .i64 0, .int .i64 0, .bool false, .int .u64 0, .int .u64 0, .int .i64 0, .bool false, .int .i64 0, .int .i64 0, .int .i64 0, .int .i64 0, .int .i64 0, .slice none 0 0, .slice none 0 0, .bool false, .int .i64 0, .bool false, .int .u64 0, .int .u64 0, .int .i64 0, .bool false, .int .i64 0, .int .i64 0, .int .i64 0, .int .i64 0, .int .i64 0, .slice none 0 0, .slice none 0 0, .bool false, .int .i64 1, .int .i64 0, .int .i64 1, .int .i64 1, .int .i64 0, .int .i64 0, .int .i64 0, .int .i64 0, .int .i64 0, .int .i64 0, .bool false, .int .u64 0, .int .u64 0, .int .i64 0, .bool false, .int .i64 0, .int .i64 0, .int .i64 0, .int .i64 0, .int .i64 0, .slice none 0 0, .slice none 0 0, .bool false, .int .i64 0, .bool false, .int .u64 0, .int .u64 0, .int .i64 0, .bool false, .int .i64 0, .int .i64 0, .int .i64 0, .int .i64 0, .int .i64 0, .slice none 0 0, .slice none 0 0, .bool false, .int .i64 2, .int .i64 0, .int .i64 0, .int .i64 0, .int .i64 0, .int .i64 0, .int .i64 0, .int .i64 0, .int .i64 0, .int .i64 0, .bool false, .int .u64 0, .int .u64 0, .int .i64 0, .bool false, .int .i64 0, .int .i64 0, .int .i64 0, .int .i64 0, .int .i64 0, .slice none 0 0, .slice none 0 0, .bool false, .int .i64 0, .bool false, .int .u64 0, .int .u64 0, .int .i64 0, .bool false, .int .i64 0, .int .i64 0, .int .i64 0, .int .i64 0, .int .i64 0, .slice none 0 0, .slice none 0 0, .bool false]
def A3 (i : Nat) : Array Value := steps3.extract (i * 37) (i * 37 + 37)
theorem A3_steps : ∀ i, i < 3 → IsStep (A3 i) := fun i hi =>
  match i, hi with
  | 0, _ => ⟨by kernel_rfl, by kernel_rfl, by kernel_rfl, by kernel_rfl, by kernel_rfl, by kernel_rfl, by kernel_rfl, by kernel_rfl⟩
  | 1, _ => ⟨by kernel_rfl, by kernel_rfl, by kernel_rfl, by kernel_rfl, by kernel_rfl, by kernel_rfl, by kernel_rfl, by kernel_rfl⟩
  | 2, _ => ⟨by kernel_rfl, by kernel_rfl, by kernel_rfl, by kernel_rfl, by kernel_rfl, by kernel_rfl, by kernel_rfl, by kernel_rfl⟩
theorem ld01 : ldOf A3 0 1 = true := by kernel_rfl
theorem ld02 : ldOf A3 0 2 = false := by kernel_rfl
theorem ld12 : ldOf A3 1 2 = false := by kernel_rfl
theorem who0 : intAt (A3 0) 0 = 0 := by kernel_rfl
theorem who1 : intAt (A3 1) 0 = 1 := by kernel_rfl
theorem who2 : intAt (A3 2) 0 = 2 := by kernel_rfl
theorem rb01 : Plain.rb (ldOf A3) 0 1 = true := Plain.rb_true.2 (.step (.refl 0) (by omega) ld01)
theorem rb12 : Plain.rb (ldOf A3) 1 2 = false := by
  cases h : Plain.rb (ldOf A3) 1 2 with
  | false => rfl
  | true =>
    obtain ⟨m, h1, h2, h3, _⟩ := (Plain.rb_true.1 h).last (by omega)
    obtain rfl : m = 1 := by omega
    rw [ld12] at h3; cases h3
theorem rb02 : Plain.rb (ldOf A3) 0 2 = false := by
  cases h : Plain.rb (ldOf A3) 0 2 with
  | false => rfl
  | true =>
    obtain ⟨m, h1, h2, h3, _⟩ := (Plain.rb_true.1 h).last (by omega)
    have : m = 0 ∨ m = 1 := by omega
    rcases this with rfl | rfl
    · rw [ld02] at h3; cases h3
    · rw [ld12] at h3; cases h3
theorem before01 : before A3 3 0 1 = true := by
  have e : (1 : Int).toNat = 1 := rfl
  simp [before, e, rb01]
theorem before12 : before A3 3 1 2 = false := by
  have e : (2 : Int).toNat = 2 := rfl
  have e1 : (1 : Int).toNat = 1 := rfl
  simp [before, e, e1, rb12]
theorem cnt1 : cntV A3 1 0 3 = 1 := by
  rw [cntV_succ, cntV_succ, cntV_succ, cntV_zero, rb01, who0, who1, who2]; simp
theorem cnt2 : cntV A3 2 0 3 = 0 := by
  rw [cntV_succ, cntV_succ, cntV_succ, cntV_zero, rb02, who0, who1, who2]; simp

set_option maxRecDepth 100000 in
set_option maxHeartbeats 4000000 in
/-- doormanlaw46.awake. -/
theorem awake46_any (w : World) : Calls Try.prog 60 #[] w fun e w' => e = .returned (.bool true) ∧ Below w.heap.size w w' := by
  have hL : LogAt (w.alloc (.cells steps3 75)) ⟨w.heap.size, 0, none⟩ 3 A3 := log_new w steps3 75 3 (by kernel_rfl)
  have HS := stamps_any (some ⟨w.heap.size, 0, none⟩) ⟨w.heap.size, 0, none⟩ 3 3 A3 (fun _ => rfl) (by omega) A3_steps 3 _ hL
  have HB0 : Hid (Below w.heap.size w (w.alloc (.cells steps3 75))) := Lib.hid ((Below.refl _ _).alloc (Nat.le_refl _) _)
  have HL := Lib.hid hL
  have HS1 := Lib.hid HS
  clear hL HS
  go_enter Try.func60, Try.ntmps60
  go_wp2_with fail
  refine Calls.mono HS1.out ?_; rintro e w1 ⟨v, hs, rfl, hsl, hb⟩
  have HB1 := Lib.hid (HB0.out.trans (hb.mono HB0.out.size))
  have HL1 := Lib.hid (log_below' HL.out hb)
  clear hb HS1 HB0 HL
  obtain ⟨a', g, cap, rfl, hag, hc, hr⟩ := hsl
  obtain rfl := hag (by omega)
  have HC := Lib.hid (show SlAt w1 (.slice (some ⟨g, 0, none⟩) 3 cap) 3 (nn 3) hs (fun k x => cntV A3 k x 3) from ⟨_, g, cap, rfl, fun _ => rfl, hc, hr⟩)
  clear hag hc hr
  go_wp2_with fail
  refine (before_any (some ⟨w.heap.size, 0, none⟩) ⟨w.heap.size, 0, none⟩ 3 3 A3 (fun _ => rfl) (by omega) (by omega) (by decide) A3_steps 0 1 _ HL1.out).mono ?_; rw [before01]; rintro e w2 ⟨rfl, hb⟩
  have HB2 := Lib.hid (HB1.out.trans (hb.mono HB1.out.size))
  have HL2 := Lib.hid (log_below' HL1.out hb)
  have HC2 := Lib.hid (sl_below HC.out hb)
  clear hb HB1 HL1 HC
  go_wp2_with fail
  refine (before_any (some ⟨w.heap.size, 0, none⟩) ⟨w.heap.size, 0, none⟩ 3 3 A3 (fun _ => rfl) (by omega) (by omega) (by decide) A3_steps 1 2 _ HL2.out).mono ?_; rw [before12]; rintro e w3 ⟨rfl, hb⟩
  have HB3 := Lib.hid (HB2.out.trans (hb.mono HB2.out.size))
  have hC3 := sl_below HC2.out hb
  obtain ⟨a', g', cap', e1, hag, hc, hr⟩ := hC3
  obtain rfl := hag (by omega)
  injection e1 with e4 e5 e6
  injection e4 with e4
  injection e4 with e4
  subst e4
  have c1 : w3.cell? ⟨g, 1, none⟩ = some (.slice (some ⟨hs 1, 0, none⟩) 3 3) := hc 1 (by omega)
  have c2 : w3.cell? ⟨g, 2, none⟩ = some (.slice (some ⟨hs 2, 0, none⟩) 3 3) := hc 2 (by omega)
  have d1 : w3.cell? ⟨hs 1, 0, none⟩ = some (.int .i64 1) := by
    have := (hr 1 (by omega)).cell (show 0 < nn 3 by decide)
    rw [show (fun k x => cntV A3 k x 3) 1 0 = 1 from cnt1] at this
    exact this
  have d2 : w3.cell? ⟨hs 2, 0, none⟩ = some (.int .i64 0) := by
    have := (hr 2 (by omega)).cell (show 0 < nn 3 by decide)
    rw [show (fun k x => cntV A3 k x 3) 2 0 = 0 from cnt2] at this
    exact this
  clear hb HB2 HL2 HC2 hc hr hag
  go_wp2
  go_ret
  exact ⟨rfl, HB3.out⟩
end Go.Proofs.Ytdoofpanbcaigaa
