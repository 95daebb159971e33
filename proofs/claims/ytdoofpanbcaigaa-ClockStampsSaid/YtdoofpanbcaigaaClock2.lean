/-
  THE WALKS of layer 46 (clock): merge.
-/
import Derived.Test.YtdoofpanbcaigaaClock
import Derived.Test.YtdoofpanbcaigaaPlainClock
import Derived.Deep.OwnRows
import Derived.Deep.LoopGhost
import Derived.Deep.Light
namespace Go.Proofs.Ytdoofpanbcaigaa
open Go.RowKit
set_option linter.unusedVariables false

/-- Only block g may have turned. -/
structure Only (g : Nat) (w w' : World) : Prop where
  os : w'.os = w.os
  tape : w'.tape = w.tape
  output : w'.output = w.output
  size : w'.heap.size = w.heap.size
  block : ∀ k, k ≠ g → w'.heap[k]? = w.heap[k]?
theorem Only.refl (g : Nat) (w : World) : Only g w w := ⟨rfl, rfl, rfl, rfl, fun _ _ => rfl⟩
theorem Only.setCell {g : Nat} {w w' : World} (h : Only g w w') (i : Nat) (v : Value) : Only g w (w'.setCell ⟨g, i, none⟩ v) :=
  ⟨h.os, h.tape, h.output, by simpa [World.setCell] using h.size, fun k hk => (Below.heap_setCell w' ⟨g, i, none⟩ v k hk).trans (h.block k hk)⟩
theorem Only.below {g B : Nat} {w w' : World} (h : Only g w w') (hB : B ≤ g) : Below B w w' := ⟨h.os, h.tape, h.output, by rw [h.size]; exact Nat.le_refl _, fun k hk => h.block k (by omega)⟩

set_option maxHeartbeats 2000000 in
/-- clock.merge. -/
theorem merge_any (g h n : Nat) (f f2 : Nat → Bool) (hgh : g ≠ h) (hn : n ≤ 9223372036854775807) (w : World) (hg : w.rowIs g 4 n (fun j => .bool (f j))) (hh : w.rowIs h 4 n (fun j => .bool (f2 j))) :
    Calls Try.prog 89 #[.slice (some ⟨g, 0, none⟩) n n, .slice (some ⟨h, 0, none⟩) n n] w fun e w' => e = .returned (.tuple #[]) ∧ w'.rowIs g 4 n (fun j => .bool (f j || f2 j)) ∧ Only g w w' := by
  go_enter Try.func89, Try.ntmps89
  go_wp2
  go_loopg [8] n (fun k s8 wr => ∃ i : Nat, s8 = .int .i64 i ∧ i ≤ n ∧ k = n - i ∧ Hid (wr.rowIs g 4 n (fun j => .bool (if j < i then f j || f2 j else f j)) ∧ wr.rowIs h 4 n (fun j => .bool (f2 j)) ∧ Only g w wr))
  case atStart => exact ⟨0, rfl, Nat.zero_le _, rfl, Lib.hid ⟨hg.congr (fun j _ => by simp), hh, Only.refl _ _⟩⟩
  case round =>
    obtain ⟨i, rfl, hi, hk, HS⟩ := hrel
    have HK := Lib.hid hk
    clear hk hg hh
    by_cases hlt : i < n
    · have hlz : (i : Int) < (n : Int) := by omega
      have c1 : wr.cell? ⟨h, i, none⟩ = some (.bool (f2 i)) := HS.out.2.1.cell hlt
      have c2 : wr.cell? ⟨g, i, none⟩ = some (.bool (f i)) := by simpa using HS.out.1.cell hlt
      have c3 : wr.frozen? ⟨g, i, none⟩ = false := HS.out.1.frozen i
      have hv : ∀ v : Bool, v = (f i || f2 i) → Hid ((wr.setCell ⟨g, i, none⟩ (.bool v)).rowIs g 4 n (fun j => .bool (if j < i + 1 then f j || f2 j else f j)) ∧ (wr.setCell ⟨g, i, none⟩ (.bool v)).rowIs h 4 n (fun j => .bool (f2 j)) ∧ Only g w (wr.setCell ⟨g, i, none⟩ (.bool v))) := fun v hv => by
        obtain ⟨h1, h2, h3⟩ := HS.out
        refine Lib.hid ⟨(h1.set i _).congr fun j hj => ?_, h2.setOther (by simpa using hgh.symm) _, h3.setCell i _⟩
        by_cases e : j = i
        · subst e; simp [hv]
        · by_cases e2 : j < i
          · simp [e, e2, show j < i + 1 by omega]
          · simp [e, e2, show ¬ j < i + 1 by omega]
      have HV := Lib.hid hv
      clear hv
      cases h1 : f i <;> cases h2 : f2 i <;> rw [h1] at c2 <;> rw [h2] at c1
      all_goals go_wp2
      all_goals go_roundg (n - (i + 1))
      all_goals first
        | (show (_ : Nat) < _; rw [HK.out]; omega)
        | exact ⟨i + 1, rfl, by omega, rfl, HV.out _ (by simp [h1, h2])⟩
    · have hlz : ¬ (i : Int) < (n : Int) := by omega
      go_wp2
      refine bodyPost_end (results_none rfl _ _ _) rfl ?_
      obtain ⟨h1, h2, h3⟩ := HS.out
      exact ⟨rfl, h1.congr (fun j hj => by rw [if_pos (by omega)]), h3⟩
end Go.Proofs.Ytdoofpanbcaigaa
