/-
  A LOG THAT CAME IN; THE WALK of doormanlaw46.ClockTells.
-/
import Derived.Test.YtdoofpanbcaigaaClock8
namespace Go.Proofs.Ytdoofpanbcaigaa
open Go.RowKit
set_option linter.unusedVariables false
attribute [local go_sem ↓] exec_load_75
attribute [local go_sem] run_loadStep

/-- A step's leaves. -/
def stepLeaves : List Leaf := [.int .i64, .int .i64, .int .i64, .int .i64, .int .i64, .int .i64, .int .i64, .int .i64, .int .i64, .int .i64, .bool, .int .u64, .int .u64, .int .i64, .bool, .int .i64, .int .i64, .int .i64, .int .i64, .int .i64, .any, .any, .bool, .int .i64, .bool, .int .u64, .int .u64, .int .i64, .bool, .int .i64, .int .i64, .int .i64, .int .i64, .int .i64, .any, .any, .bool]
theorem log_of_rows {W : World} {a : Option Addr} {len cap : Nat} (h : IsRows stepLeaves W a len cap) :
    ∃ b A, (0 < len → a = some b) ∧ LogAt W b len A ∧ (∀ i, i < len → IsStep (A i)) ∧ len ≤ cap ∧ cap ≤ maxLen := by
  rcases h with ⟨rfl, rfl, rfl⟩ | ⟨b, rfl, h1, h2, hrow⟩
  · exact ⟨⟨0, 0, none⟩, fun _ => #[], fun h => absurd h (Nat.lt_irrefl _), fun i hi => absurd hi (Nat.not_lt_zero _), fun i hi => absurd hi (Nat.not_lt_zero _), Nat.le_refl _, Nat.zero_le _⟩
  · have key : ∀ i, i < len → isRange W (b.add (i * 37)) 37 = true ∧ IsStep (rangeOf W (b.add (i * 37)) 37) := fun i hi => by
      obtain ⟨cs, hfit, hcell⟩ := hrow i hi
      have hlen : cs.length = 37 := fits_length hfit
      obtain ⟨k1, k2⟩ := range_of (W := W) (p := b.add (i * 37)) hlen (fun k v hk => by
        rw [Go.Deep.add_add]; exact hcell k v hk)
      refine ⟨k1, ?_⟩
      rw [k2]
      clear hcell k1 k2 hlen
      unfold stepLeaves at hfit
      have hf0 := hfit
      obtain ⟨x0, cs, rfl, -, hf1⟩ := fits_int hf0
      obtain ⟨x1, cs, rfl, -, hf2⟩ := fits_int hf1
      obtain ⟨x2, cs, rfl, -, hf3⟩ := fits_int hf2
      obtain ⟨x3, cs, rfl, -, hf4⟩ := fits_int hf3
      obtain ⟨x4, cs, rfl, -, hf5⟩ := fits_int hf4
      obtain ⟨x5, cs, rfl, -, hf6⟩ := fits_int hf5
      obtain ⟨x6, cs, rfl, -, hf7⟩ := fits_int hf6
      obtain ⟨x7, cs, rfl, -, hf8⟩ := fits_int hf7
      obtain ⟨x8, cs, rfl, -, hf9⟩ := fits_int hf8
      obtain ⟨x9, cs, rfl, -, hf10⟩ := fits_int hf9
      obtain ⟨x10, cs, rfl, hf11⟩ := fits_bool hf10
      obtain ⟨x11, cs, rfl, -, hf12⟩ := fits_int hf11
      obtain ⟨x12, cs, rfl, -, hf13⟩ := fits_int hf12
      obtain ⟨x13, cs, rfl, -, hf14⟩ := fits_int hf13
      obtain ⟨x14, cs, rfl, hf15⟩ := fits_bool hf14
      obtain ⟨x15, cs, rfl, -, hf16⟩ := fits_int hf15
      obtain ⟨x16, cs, rfl, -, hf17⟩ := fits_int hf16
      obtain ⟨x17, cs, rfl, -, hf18⟩ := fits_int hf17
      obtain ⟨x18, cs, rfl, -, hf19⟩ := fits_int hf18
      obtain ⟨x19, cs, rfl, -, hf20⟩ := fits_int hf19
      obtain ⟨x20, cs, rfl, hf21⟩ := fits_any hf20
      obtain ⟨x21, cs, rfl, hf22⟩ := fits_any hf21
      obtain ⟨x22, cs, rfl, hf23⟩ := fits_bool hf22
      obtain ⟨x23, cs, rfl, -, hf24⟩ := fits_int hf23
      obtain ⟨x24, cs, rfl, hf25⟩ := fits_bool hf24
      obtain ⟨x25, cs, rfl, -, hf26⟩ := fits_int hf25
      obtain ⟨x26, cs, rfl, -, hf27⟩ := fits_int hf26
      obtain ⟨x27, cs, rfl, -, hf28⟩ := fits_int hf27
      obtain ⟨x28, cs, rfl, hf29⟩ := fits_bool hf28
      obtain ⟨x29, cs, rfl, -, hf30⟩ := fits_int hf29
      obtain ⟨x30, cs, rfl, -, hf31⟩ := fits_int hf30
      obtain ⟨x31, cs, rfl, -, hf32⟩ := fits_int hf31
      obtain ⟨x32, cs, rfl, -, hf33⟩ := fits_int hf32
      obtain ⟨x33, cs, rfl, -, hf34⟩ := fits_int hf33
      obtain ⟨x34, cs, rfl, hf35⟩ := fits_any hf34
      obtain ⟨x35, cs, rfl, hf36⟩ := fits_any hf35
      obtain ⟨x36, cs, rfl, hf37⟩ := fits_bool hf36
      obtain rfl := fits_nil hf37
      exact ⟨rfl, rfl, rfl, rfl, rfl, rfl, rfl, rfl⟩
    exact ⟨b, fun i => rangeOf W (b.add (i * 37)) 37, fun _ => rfl, fun i hi => ⟨(key i hi).1, rfl⟩, fun i hi => (key i hi).2, h1, h2⟩

set_option maxRecDepth 100000 in
set_option maxHeartbeats 4000000 in
/-- doormanlaw46.ClockTells. -/
theorem clockTells_any (a : Option Addr) (b : Addr) (N cp : Nat) (A : Nat → Array Value) (hA : 0 < N → a = some b) (hc : N ≤ cp) (hc2 : cp ≤ maxLen) (hS : ∀ i, i < N → IsStep (A i)) (i k : Int) (w : World) (hL : LogAt w b N A) :
    Calls Try.prog 15 #[.slice a N cp, .int .i64 i, .int .i64 k] w fun e w' => e = .returned (.bool true) ∧ Below w.heap.size w w' := by
  have hcz : N ≤ 9223372036854775807 := Nat.le_trans hc (Nat.le_trans hc2 (by decide))
  by_cases h40 : 40 < N
  · have hd : (40 : Int) < (N : Int) := by omega
    clear hc hc2
    go_enter Try.func15, Try.ntmps15
    go_wp2_with fail
    refine (awake46_any _).mono ?_; rintro e w' ⟨rfl, hb⟩
    have HB := Lib.hid hb
    clear hb
    go_wp2
    go_ret
    exact ⟨rfl, HB.out⟩
  · have HC := Lib.hid hc
    have HC2 := Lib.hid hc2
    clear hc hc2
    go_enter Try.func15, Try.ntmps15
    go_wp2_with fail
    go_loopg [7] N (fun g s7 wr => ∃ x : Nat, s7 = .int .i64 x ∧ x ≤ N ∧ g = N - x ∧ Hid (Below w.heap.size w wr))
    case atStart => exact ⟨0, rfl, Nat.zero_le _, rfl, Lib.hid (Below.refl _ _)⟩
    case round =>
      obtain ⟨x, rfl, hxN, hg, HB⟩ := hrel
      have HG := Lib.hid hg
      clear hg
      by_cases hx1 : x + 1 < N
      · have hx : x < N := by omega
        have hz : (x : Int) + 1 < (N : Int) := by omega
        have hz2 : (x : Int) < (N : Int) := by omega
        have hz3 : ((x : Int) + 1).toNat = x + 1 := by omega
        have hz4 : IntKind.i64.wrap ((x : Int) + 1) = (x : Int) + 1 := by rw [IntKind.wrap_i64]; omega
        have hz5 : (0 : Int) ≤ (x : Int) + 1 := by omega
        have hz6 : ¬ ((x : Int) + 1 < 0) := by omega
        obtain rfl := hA (by omega)
        have HS0 := HB.out.drew
        go_upto_region 6 with (fail)
        refine region_class (fun W' => Below w.heap.size w W') (by kernel_rfl) (by kernel_rfl) HS0 ?_
        repeat (first
          | go_big_quiet_skip
          | (go_big_quiet_want
             apply class_op
             · intro W hS'
               have hK := hS'
               obtain ⟨l1, l2⟩ := log_below hL hK x hx
               obtain ⟨l3, l4⟩ := log_below hL hK (x + 1) hx1
               go_simp
               try first
                 | with_reducible rfl
                 | (go_at_call 61; refine (leads_any (hS _ hx) (hS _ hx1) _).mono ?_; rintro e w' ⟨rfl, hb'⟩; exact ⟨rfl, hK.trans (hb'.mono hK.size)⟩)
                 | (go_at_call 62; refine (rleads_any (hS _ hx) (hS _ hx1) _).mono ?_; rintro e w' ⟨rfl, hb'⟩; exact ⟨rfl, hK.trans (hb'.mono hK.size)⟩)
             go_big_quiet_on
             try simp only [Act.put, List.setIfInBounds_toArray, List.set_cons_zero, List.set_cons_succ]))
        refine wpQuiet_nil ?_
        intro w2 hS2
        have HB2 := Lib.hid hS2
        clear hS2 HS0
        go_wp2
        go_roundg (N - (x + 1))
        case measure => rw [HG.out]; omega
        case rel => exact ⟨x + 1, rfl, by omega, rfl, HB2⟩
      · have hz : ¬ (x : Int) + 1 < (N : Int) := by omega
        go_wp2_with fail
        refine (before_any a b N cp A hA (by omega) HC.out HC2.out hS i k _ (log_below hL HB.out)).mono ?_; rintro e w2 ⟨rfl, hb⟩
        have HB2 := Lib.hid (HB.out.trans (hb.mono HB.out.size))
        clear hb
        go_wp2_with fail
        refine (rbefore_any a b N cp A hA (by omega) hS i k _ (log_below hL HB2.out)).mono ?_; rintro e w3 ⟨rfl, hb⟩
        have HB3 := Lib.hid (HB2.out.trans (hb.mono HB2.out.size))
        clear hb
        go_wp2_with fail
        refine (awake46_any _).mono ?_; rintro e w4 ⟨rfl, hb⟩
        have HB4 := Lib.hid (HB3.out.trans (hb.mono HB3.out.size))
        clear hb
        go_wp2
        go_ret
        exact ⟨rfl, HB4.out⟩
end Go.Proofs.Ytdoofpanbcaigaa
