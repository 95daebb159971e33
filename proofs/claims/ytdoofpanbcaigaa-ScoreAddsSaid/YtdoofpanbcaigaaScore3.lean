/-
  THE WALKS of layer 16 (score): awake, ScoreTells.
-/
import Derived.Test.YtdoofpanbcaigaaScore2
namespace Go.Proofs.Ytdoofpanbcaigaa
open Go.RowKit

theorem lt2 (n : Nat) : n < n + 1 + 1 := by omega
theorem lt3 (n : Nat) : n < n + 1 + 1 + 1 := by omega
attribute [local go_sem] lt2 lt3

theorem sadd_lit {p t pts l n r a : Int} (h : Plain.addP p t pts l n = r) (h' : Plain.decA t l n = a) (w : World) : Calls Try.prog 53 #[.agg #[.int .i64 p, .int .i64 t], .int .i64 pts, .int .i64 l, .int .i64 n] w fun e w' => e = .returned (.agg #[.int .i64 r, .int .i64 a]) ∧ Below w.heap.size w w' := by
  subst h h'; exact sadd_any p t pts l n w
theorem reached_lit {p t l : Int} {r : Bool} (h : Plain.reached p l = r) (w : World) : Calls Try.prog 55 #[.agg #[.int .i64 p, .int .i64 t], .int .i64 l] w fun e w' => e = .returned (.bool r) ∧ Below w.heap.size w w' := by
  subst h; exact reached_any p t l w
theorem whole_lit {p t r : Int} (h : Plain.whole p = r) (hp0 : -9223372036854775808 ≤ p) (hp1 : p ≤ 9223372036854775807) (w : World) : Calls Try.prog 57 #[.agg #[.int .i64 p, .int .i64 t]] w fun e w' => e = .returned (.int .i64 r) ∧ Below w.heap.size w w' := by
  subst h; exact whole_any p t hp0 hp1 w
theorem bcell {W w1 : World} (hb : Below W.heap.size W w1) : (∀ b o, b < W.heap.size → w1.cell? ⟨b, o, none⟩ = W.cell? ⟨b, o, none⟩) ∧ (∀ b o, b < W.heap.size → w1.frozen? ⟨b, o, none⟩ = W.frozen? ⟨b, o, none⟩) :=
  ⟨fun b o h => hb.cell (p := ⟨b, o, none⟩) h, fun b o h => hb.frozen (p := ⟨b, o, none⟩) h⟩
/-- score.Penalty of the kind 4 lays one box. -/
theorem penalty4 (w : World) : Calls Try.prog 51 #[.int .i64 4] w fun e w' => e = .returned (.int .i64 50) ∧ w.alloc (.cells #[.int .i64 0, .int .i64 1, .int .i64 10, .int .i64 20, .int .i64 50, .int .i64 100] 101) = w' := by
  go_enter Try.func51, Try.ntmps51
  go_wp2
  go_ret
  exact ⟨rfl, rfl⟩

set_option maxHeartbeats 1000000 in
/-- doormanlaw16.awake. -/
theorem awake16_any (w : World) : Calls Try.prog 59 #[] w fun e w' => e = .returned (.bool true) ∧ Below w.heap.size w w' := by
  obtain ⟨n1, n2, n3, n4, n5, n6, n7⟩ := Plain.awake16_nums
  have N1 := Lib.hid n1; have N2 := Lib.hid n2; have N3 := Lib.hid n3; have N4 := Lib.hid n4; have N5 := Lib.hid n5; have N6 := Lib.hid n6; have N7 := Lib.hid n7
  clear n1 n2 n3 n4 n5 n6 n7
  go_enter Try.func59, Try.ntmps59
  go_wp2_with fail
  refine (penalty4 _).mono ?_; rintro e w1 ⟨rfl, rfl⟩
  go_wp2_with fail
  refine (sadd_lit N2.out N3.out _).mono ?_; rintro e w2 ⟨rfl, hb2⟩
  have HB : Hid (Below w.heap.size w w2) := Lib.hid (((Below.refl _ _).alloc (Nat.le_refl _) _).trans (hb2.mono (by simp)))
  clear hb2
  go_wp2_with fail
  go_upto_region 2 with (fail)
  go_cut [2] (fun v2 wx => ∃ g : Nat, v2 = .pointer (some ⟨g, 0, none⟩) ∧ wx.cell? ⟨g, 0, none⟩ = some (.int .i64 6553600) ∧ wx.cell? ⟨g, 1, none⟩ = some (.int .i64 0) ∧ wx.cell? ⟨w2.heap.size, 0, none⟩ = some (.int .i64 3276800) ∧ wx.cell? ⟨w2.heap.size, 1, none⟩ = some (.int .i64 0) ∧ g < wx.heap.size ∧ w2.heap.size < wx.heap.size ∧ Hid (Below w.heap.size w wx))
  case first =>
    go_region_with (first
      | (go_at_call 51; refine (penalty4 _).mono ?_; rintro e w' ⟨rfl, rfl⟩)
      | (go_at_call 53; refine (sadd_lit N4.out N3.out _).mono ?_; rintro e w' ⟨rfl, hb'⟩; obtain ⟨hc, hf⟩ := bcell hb'; have hz := hb'.size; simp at hz))
    all_goals
      have hlt : w2.heap.size < w'.heap.size := by omega
      have hW : Below w.heap.size w w' := by
        refine Below.trans ?_ (hb'.mono ?_)
        · repeat (first | (with_reducible exact HB.out) | (with_reducible apply Below.drew) | (with_reducible refine Below.alloc ?_ ?_ _))
          all_goals (have := HB.out.size; simp; omega)
        · have := HB.out.size; simp; omega
      have hws := HB.out.size
      have HW := Lib.hid hW
      clear hW hb'
      go_wp2_with fail
      go_meet
      refine ⟨_, rfl, ?_, ?_, ?_, ?_, ?_, ?_, Lib.hid ?_⟩
    all_goals first
      | (simp [go_sem, hc, hlt]; done)
      | (simp [go_sem]; done)
      | (simp; omega)
      | (with_reducible exact HW.out.alloc HW.out.size _)
      | (with_reducible refine Below.setCell (Below.setCell HW.out ?_ _) ?_ _) <;> (simp; omega)
  case rest =>
    obtain ⟨g, rfl, c0, c1, d0, d1, hg, h2, HW⟩ := hcut
    go_wp2_with fail
    refine (reached_lit N5.out _).mono ?_; rintro e w3 ⟨rfl, hb3⟩
    have c0' := (hb3.cell (p := ⟨g, 0, none⟩) hg).trans c0
    have c1' := (hb3.cell (p := ⟨g, 1, none⟩) hg).trans c1
    have hg3 : g < w3.heap.size := by have := hb3.size; omega
    have W3 := Lib.hid (HW.out.trans (hb3.mono HW.out.size))
    clear hb3 HW c0 c1 d0 d1 hg h2
    go_wp2_with fail
    refine (reached_lit N6.out _).mono ?_; rintro e w4 ⟨rfl, hb4⟩
    have c0 := (hb4.cell (p := ⟨g, 0, none⟩) hg3).trans c0'
    have c1 := (hb4.cell (p := ⟨g, 1, none⟩) hg3).trans c1'
    have W4 := Lib.hid (W3.out.trans (hb4.mono W3.out.size))
    clear hb4 W3 c0' c1' hg3
    go_wp2_with fail
    refine (whole_lit N7.out (by omega) (by omega) _).mono ?_; rintro e w5 ⟨rfl, hb5⟩
    have W5 := Lib.hid (W4.out.trans (hb5.mono W4.out.size))
    clear hb5 W4 c0 c1
    go_wp2
    go_ret
    exact ⟨rfl, W5.out⟩
end Go.Proofs.Ytdoofpanbcaigaa
