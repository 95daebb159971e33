/-
  THE WALKS of layer 46 (clock): Before by the document; the comparison of two rows of numbers.
-/
import Derived.Test.YtdoofpanbcaigaaClock4
namespace Go.Proofs.Ytdoofpanbcaigaa
open Go.RowKit
set_option linter.unusedVariables false

set_option maxRecDepth 100000 in
set_option maxHeartbeats 2000000 in
/-- doormanref46.Before. -/
theorem rbefore_any (a : Option Addr) (b : Addr) (n cp : Nat) (A : Nat → Array Value) (hA : 0 < n → a = some b) (hn : n ≤ 1000) (hS : ∀ i, i < n → IsStep (A i)) (i k : Int) (w : World) (hL : LogAt w b n A) :
    Calls Try.prog 64 #[.slice a n cp, .int .i64 i, .int .i64 k] w fun e w' => e = .returned (.bool (before A n i k)) ∧ Below w.heap.size w w' := by
  by_cases c0 : i < 0
  · have E : Hid (before A n i k = false) := Lib.hid (by simp [before, show ¬ 0 ≤ i by omega])
    generalize before A n i k = B at *
    go_enter Try.func64, Try.ntmps64
    go_wp2
    go_ret
    exact ⟨ret_bool E.out.symm, Below.refl _ _⟩
  · by_cases c2 : k ≤ i
    · have E : Hid (before A n i k = false) := Lib.hid (by simp [before, show ¬ i < k by omega])
      generalize before A n i k = B at *
      go_enter Try.func64, Try.ntmps64
      go_wp2
      go_ret
      exact ⟨ret_bool E.out.symm, Below.refl _ _⟩
    · by_cases c1 : (n : Int) ≤ k
      · have E : Hid (before A n i k = false) := Lib.hid (by simp [before, show ¬ k < (n : Int) by omega])
        generalize before A n i k = B at *
        go_enter Try.func64, Try.ntmps64
        go_wp2
        go_ret
        exact ⟨ret_bool E.out.symm, Below.refl _ _⟩
      · obtain ⟨i, rfl⟩ : ∃ m : Nat, i = m := ⟨i.toNat, by omega⟩
        obtain ⟨k, rfl⟩ : ∃ m : Nat, k = m := ⟨k.toNat, by omega⟩
        have hkn : k < n := by omega
        have hkz : (k : Int) < (n : Int) := by omega
        have E : Hid (before A n i k = fromV A n i k) := Lib.hid (by simp [before, fromV, show i < k by omega, show k < n by omega, show i < n by omega])
        generalize before A n i k = B at *
        have HP := Lib.hid (from_any a b n cp A hA hn hS i w hL)
        clear hL hS hA
        go_enter Try.func64, Try.ntmps64
        go_wp2_with fail
        refine HP.out.mono ?_; rintro e w1 ⟨rfl, hb, hr⟩
        have t1 : w1.cell? ⟨w.heap.size, k, none⟩ = some (.bool (fromV A n i k)) := hr.cell hkn
        have HB := Lib.hid hb
        generalize fromV A n i k = V at *
        clear hb hr HP
        go_wp2
        go_ret
        exact ⟨ret_bool E.out.symm, HB.out⟩

set_option maxRecDepth 100000 in
set_option maxHeartbeats 2000000 in
/-- doormansame.Ints, of two rows that hold the same numbers. -/
theorem ints_any (a c : Option Addr) (g h n cp cp' : Nat) (f : Nat → Int) (hn : n ≤ 1000) (ha : 0 < n → a = some ⟨g, 0, none⟩) (hc : 0 < n → c = some ⟨h, 0, none⟩) (w : World) (hg : ∀ j, j < n → w.cell? ⟨g, j, none⟩ = some (.int .i64 (f j))) (hh : ∀ j, j < n → w.cell? ⟨h, j, none⟩ = some (.int .i64 (f j))) :
    Calls Try.prog 67 #[.slice a n cp, .slice c n cp'] w fun e w' => e = .returned (.bool true) ∧ Below w.heap.size w w' := by
  go_enter Try.func67, Try.ntmps67
  go_wp2
  go_loopg [5] n (fun k s5 wr => ∃ i : Nat, s5 = .int .i64 i ∧ i ≤ n ∧ k = n - i ∧ ∃ q : Nat, w.drewN q = wr)
  case atStart => exact ⟨0, rfl, Nat.zero_le _, rfl, 0, rfl⟩
  case round =>
    obtain ⟨i, rfl, hi, hk, q, rfl⟩ := hrel
    have HK := Lib.hid hk
    clear hk
    by_cases hlt : i < n
    · have hlz : (i : Int) < (n : Int) := by omega
      obtain rfl := ha (by omega)
      obtain rfl := hc (by omega)
      have c1 := hg i hlt
      have c2 := hh i hlt
      generalize f i = v at *
      go_upto_region 6 with (fail)
      go_quiet (fail)
      go_wp2
      go_roundg (n - (i + 1))
      case measure => rw [HK.out]; omega
      case rel => exact ⟨i + 1, rfl, by omega, rfl, q + nq, rfl⟩
    · go_wp2
      go_ret
      exact ⟨rfl, below_drewN (Below.refl _ _) _⟩
end Go.Proofs.Ytdoofpanbcaigaa
