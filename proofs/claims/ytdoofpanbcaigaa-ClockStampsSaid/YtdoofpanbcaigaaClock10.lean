/-
  THE WALKS of doormanlaw46.ClockTells and ClockAhead, over a log that came in.
-/
import Derived.Test.YtdoofpanbcaigaaClock9
namespace Go.Proofs.Ytdoofpanbcaigaa
open Go.RowKit
set_option linter.unusedVariables false

theorem clockTells_rows {a : Option Addr} {len cap : Nat} {w : World} (h : IsRows stepLeaves w a len cap) (i k : Int) :
    Calls Try.prog 15 #[.slice a len cap, .int .i64 i, .int .i64 k] w fun e w' => e = .returned (.bool true) ∧ Below w.heap.size w w' := by
  obtain ⟨b, A, h1, h2, h3, h4, h5⟩ := log_of_rows h
  exact clockTells_any a b len cap A h1 h4 h5 h3 i k w h2

theorem before_trans {A : Nat → Array Value} {N : Nat} {i k m : Int} (h1 : before A N i k = true) (h2 : before A N k m = true) : before A N i m = true := by
  simp only [before, Bool.and_eq_true, decide_eq_true_eq] at *
  obtain ⟨a1, a2, a3, a4⟩ := h1
  obtain ⟨b1, b2, b3, b4⟩ := h2
  exact ⟨a1, by omega, b3, Plain.rb_true.2 ((Plain.rb_true.1 a4).trans (Plain.rb_true.1 b4))⟩
theorem before_irrefl (A : Nat → Array Value) (N : Nat) (i : Int) : before A N i i = false := by simp [before]
theorem before_asym {A : Nat → Array Value} {N : Nat} {i k : Int} (h : before A N i k = true) : before A N k i = false := by
  simp only [before, Bool.and_eq_true, decide_eq_true_eq] at h
  have : ¬ k < i := by omega
  simp [before, this]

theorem below_next {w W W' : World} (h : Hid (Below w.heap.size w W)) (hb : Below W.heap.size W W') : Hid (Below w.heap.size w W') := Lib.hid (h.out.trans (hb.mono h.out.size))

set_option maxRecDepth 100000 in
set_option maxHeartbeats 4000000 in
/-- doormanlaw46.ClockAhead. -/
theorem clockAhead_any (a : Option Addr) (b : Addr) (N cp : Nat) (A : Nat → Array Value) (hA : 0 < N → a = some b) (hc : N ≤ cp) (hc2 : cp ≤ maxLen) (hS : ∀ i, i < N → IsStep (A i)) (i k m : Int) (w : World) (hL : LogAt w b N A) :
    Calls Try.prog 17 #[.slice a N cp, .agg #[.int .i64 i, .int .i64 k, .int .i64 m]] w fun e w' => e = .returned (.bool true) ∧ Below w.heap.size w w' := by
  by_cases h30 : 30 < N
  · have hd : (30 : Int) < (N : Int) := by omega
    clear hc hc2
    go_enter Try.func17, Try.ntmps17
    go_wp2_with fail
    refine (awake46_any _).mono ?_; rintro e w' ⟨rfl, hb⟩
    have HB := Lib.hid (((Below.refl w.heap.size w).alloc (Nat.le_refl _) _).trans (hb.mono (by simp)))
    clear hb
    go_wp2
    go_ret
    exact ⟨rfl, HB.out⟩
  · have HC := Lib.hid hc
    have HC2 := Lib.hid hc2
    have hd : ¬ (30 : Int) < (N : Int) := by omega
    have HB : Hid (Below w.heap.size w (w.alloc (.cells #[.int .i64 i, .int .i64 k, .int .i64 m] 58)).drew) := Lib.hid ((Below.refl w.heap.size w).alloc (Nat.le_refl _) _).drew
    have h4 := before_irrefl A N i
    cases h1 : before A N i k
    case' true =>
      have h5 := before_asym h1
      cases h2 : before A N k m
    case' true.true => have h3 := before_trans h1 h2
    all_goals
      clear hc hc2
      go_enter Try.func17, Try.ntmps17
      go_upto_region 3 with (fail)
      go_quiet (fail)
      have HB0 : Hid (Below w.heap.size w ((w.alloc (.cells #[.int .i64 i, .int .i64 k, .int .i64 m] 58)).drewN nq)) := Lib.hid (below_drewN ((Below.refl w.heap.size w).alloc (Nat.le_refl _) _) nq)
      clear HB
      go_wp2_with (first
        | (go_at_call 63; refine (before_any a b N cp A hA (by omega) HC.out HC2.out hS _ _ _ (log_below hL (Hid.out (by assumption)))).mono ?_; rintro e w' ⟨rfl, hb'⟩
           have HB1 := below_next (by assumption) hb'
           clear hb')
        | (go_at_call 60; refine (awake46_any _).mono ?_; rintro e w' ⟨rfl, hb'⟩
           have HB1 := below_next (by assumption) hb'
           clear hb'))
      go_ret
      exact ⟨rfl, Hid.out (by assumption)⟩

theorem clockAhead_rows {a : Option Addr} {len cap : Nat} {w : World} (h : IsRows stepLeaves w a len cap) (i k m : Int) :
    Calls Try.prog 17 #[.slice a len cap, .agg #[.int .i64 i, .int .i64 k, .int .i64 m]] w fun e w' => e = .returned (.bool true) ∧ Below w.heap.size w w' := by
  obtain ⟨b, A, h1, h2, h3, h4, h5⟩ := log_of_rows h
  exact clockAhead_any a b len cap A h1 h4 h5 h3 i k m w h2
end Go.Proofs.Ytdoofpanbcaigaa
