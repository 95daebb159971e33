/-
  THE WALK of doormanlaw16.ScoreAdds.
-/
import Derived.Test.YtdoofpanbcaigaaScore3
namespace Go.Proofs.Ytdoofpanbcaigaa
open Go.RowKit
attribute [local go_sem] lt2 lt3

/-- What stays held of a world that began as wc: a score's box, a triple's box, and that nothing of wc has turned. -/
theorem held5 {g h : Nat} {wc W W' : World} {a b c d e : Value}
    (k : W.cell? ⟨g, 0, none⟩ = some a ∧ W.cell? ⟨g, 1, none⟩ = some b ∧ W.cell? ⟨h, 0, none⟩ = some c ∧ W.cell? ⟨h, 1, none⟩ = some d ∧ W.cell? ⟨h, 2, none⟩ = some e ∧ g < W.heap.size ∧ h < W.heap.size ∧ Below wc.heap.size wc W) (hb : Below W.heap.size W W') :
    W'.cell? ⟨g, 0, none⟩ = some a ∧ W'.cell? ⟨g, 1, none⟩ = some b ∧ W'.cell? ⟨h, 0, none⟩ = some c ∧ W'.cell? ⟨h, 1, none⟩ = some d ∧ W'.cell? ⟨h, 2, none⟩ = some e ∧ g < W'.heap.size ∧ h < W'.heap.size ∧ Below wc.heap.size wc W' := by
  obtain ⟨h1, h2, h3, h4, h5, h6, h7, h8⟩ := k
  have hz := hb.size
  exact ⟨(hb.cell (p := ⟨g, 0, none⟩) h6).trans h1, (hb.cell (p := ⟨g, 1, none⟩) h6).trans h2, (hb.cell (p := ⟨h, 0, none⟩) h7).trans h3, (hb.cell (p := ⟨h, 1, none⟩) h7).trans h4, (hb.cell (p := ⟨h, 2, none⟩) h7).trans h5, by omega, by omega, h8.trans (hb.mono h8.size)⟩
/-- A fresh box of a score, not yet stored into: its cells, that they may be written, and that it is none of wc's. -/
def Fresh (wc W : World) (g : Nat) : Prop := W.cell? ⟨g, 0, none⟩ = some (.int .i64 0) ∧ W.cell? ⟨g, 1, none⟩ = some (.int .i64 0) ∧ (∀ o, W.frozen? ⟨g, o, none⟩ = false) ∧ g < W.heap.size ∧ wc.heap.size ≤ g
theorem fresh_later {wc W W' : World} {g : Nat} (hb : Below W.heap.size W W') (k : Hid (Fresh wc W g)) : Fresh wc W' g := by
  obtain ⟨h1, h2, h3, h4, h5⟩ := k.out
  have hz := hb.size
  exact ⟨(hb.cell (p := ⟨g, 0, none⟩) h4).trans h1, (hb.cell (p := ⟨g, 1, none⟩) h4).trans h2, fun o => (hb.frozen (p := ⟨g, o, none⟩) h4).trans (h3 o), by omega, h5⟩
theorem fresh_new {wc W W' : World} (hb : Below (W.alloc (.cells #[.int .i64 0, .int .i64 0] 23)).heap.size (W.alloc (.cells #[.int .i64 0, .int .i64 0] 23)) W') (hS : wc.heap.size ≤ W.heap.size) : Fresh wc W' W.heap.size := by
  obtain ⟨k0, f0, hz⟩ := boxes1 hb
  exact ⟨k0 0 _ rfl, k0 1 _ rfl, f0, hz, hS⟩
theorem below_undrew {W W' : World} (hb : Below W.drew.heap.size W.drew W') : Below W.heap.size W W' := (Below.refl W.heap.size W).drew.trans hb
theorem held5_size {g h : Nat} {wc W : World} {a b c d e : Value} (k : W.cell? ⟨g, 0, none⟩ = some a ∧ W.cell? ⟨g, 1, none⟩ = some b ∧ W.cell? ⟨h, 0, none⟩ = some c ∧ W.cell? ⟨h, 1, none⟩ = some d ∧ W.cell? ⟨h, 2, none⟩ = some e ∧ g < W.heap.size ∧ h < W.heap.size ∧ Below wc.heap.size wc W) : wc.heap.size ≤ W.heap.size := k.2.2.2.2.2.2.2.size
theorem held5_below {g h : Nat} {wc W : World} {a b c d e : Value} (k : W.cell? ⟨g, 0, none⟩ = some a ∧ W.cell? ⟨g, 1, none⟩ = some b ∧ W.cell? ⟨h, 0, none⟩ = some c ∧ W.cell? ⟨h, 1, none⟩ = some d ∧ W.cell? ⟨h, 2, none⟩ = some e ∧ g < W.heap.size ∧ h < W.heap.size ∧ Below wc.heap.size wc W) : Below wc.heap.size wc W := k.2.2.2.2.2.2.2
theorem below_swap {wc W : World} {o o' : Obj} (k : Below wc.heap.size wc (W.alloc o)) (h : wc.heap.size ≤ W.heap.size) : Below wc.heap.size wc (W.alloc o') := by
  refine ⟨k.os, k.tape, k.output, ?_, fun i hi => ?_⟩
  · have := k.size; simpa using this
  · rw [Below.heap_alloc W o' i (by omega), ← Below.heap_alloc W o i (by omega)]; exact k.block i hi
theorem held5_set {g h y : Nat} {wc W : World} {a b c d e u v : Value} (k : W.cell? ⟨g, 0, none⟩ = some a ∧ W.cell? ⟨g, 1, none⟩ = some b ∧ W.cell? ⟨h, 0, none⟩ = some c ∧ W.cell? ⟨h, 1, none⟩ = some d ∧ W.cell? ⟨h, 2, none⟩ = some e ∧ g < W.heap.size ∧ h < W.heap.size ∧ Below wc.heap.size wc W) (hg : g < wc.heap.size) (hh : h < wc.heap.size) (hy : wc.heap.size ≤ y) :
    ((W.setCell ⟨y, 0, none⟩ u).setCell ⟨y, 1, none⟩ v).cell? ⟨g, 0, none⟩ = some a ∧ ((W.setCell ⟨y, 0, none⟩ u).setCell ⟨y, 1, none⟩ v).cell? ⟨g, 1, none⟩ = some b ∧ ((W.setCell ⟨y, 0, none⟩ u).setCell ⟨y, 1, none⟩ v).cell? ⟨h, 0, none⟩ = some c ∧ ((W.setCell ⟨y, 0, none⟩ u).setCell ⟨y, 1, none⟩ v).cell? ⟨h, 1, none⟩ = some d ∧ ((W.setCell ⟨y, 0, none⟩ u).setCell ⟨y, 1, none⟩ v).cell? ⟨h, 2, none⟩ = some e ∧ g < ((W.setCell ⟨y, 0, none⟩ u).setCell ⟨y, 1, none⟩ v).heap.size ∧ h < ((W.setCell ⟨y, 0, none⟩ u).setCell ⟨y, 1, none⟩ v).heap.size ∧ Below wc.heap.size wc ((W.setCell ⟨y, 0, none⟩ u).setCell ⟨y, 1, none⟩ v) := by
  obtain ⟨h1, h2, h3, h4, h5, h6, h7, h8⟩ := k
  have ng : ∀ (i j : Nat), (⟨y, i, none⟩ : Addr) ≠ ⟨g, j, none⟩ := fun i j e => by injection e; omega
  have nh : ∀ (i j : Nat), (⟨y, i, none⟩ : Addr) ≠ ⟨h, j, none⟩ := fun i j e => by injection e; omega
  have sg : ∀ j, ((W.setCell ⟨y, 0, none⟩ u).setCell ⟨y, 1, none⟩ v).cell? ⟨g, j, none⟩ = W.cell? ⟨g, j, none⟩ := fun j => by rw [World.cell?_setCell_other _ _ _ _ (ng 1 j), World.cell?_setCell_other _ _ _ _ (ng 0 j)]
  have sh : ∀ j, ((W.setCell ⟨y, 0, none⟩ u).setCell ⟨y, 1, none⟩ v).cell? ⟨h, j, none⟩ = W.cell? ⟨h, j, none⟩ := fun j => by rw [World.cell?_setCell_other _ _ _ _ (nh 1 j), World.cell?_setCell_other _ _ _ _ (nh 0 j)]
  exact ⟨(sg 0).trans h1, (sg 1).trans h2, (sh 0).trans h3, (sh 1).trans h4, (sh 2).trans h5, by simpa [World.setCell] using h6, by simpa [World.setCell] using h7, (h8.setCell hy _).setCell hy _⟩
/-- A stored box reads as it was stored. -/
theorem stored_is {wc W : World} {y : Nat} {u v : Value} (k : Fresh wc W y) : ((W.setCell ⟨y, 0, none⟩ u).setCell ⟨y, 1, none⟩ v).cell? ⟨y, 0, none⟩ = some u ∧ ((W.setCell ⟨y, 0, none⟩ u).setCell ⟨y, 1, none⟩ v).cell? ⟨y, 1, none⟩ = some v := by
  obtain ⟨h1, h2, _⟩ := k
  have n01 : (⟨y, 0, none⟩ : Addr) ≠ ⟨y, 1, none⟩ := fun e => by injection e; omega
  refine ⟨?_, ?_⟩
  · rw [World.cell?_setCell_other _ _ _ _ n01.symm, World.cell?_setCell_same _ _ _ h1]
  · rw [World.cell?_setCell_same _ _ _ (by rw [World.cell?_setCell_other _ _ _ _ n01]; exact h2)]

theorem close5 {g h : Nat} {w wc W : World} {a b c d e : Value} (k : W.cell? ⟨g, 0, none⟩ = some a ∧ W.cell? ⟨g, 1, none⟩ = some b ∧ W.cell? ⟨h, 0, none⟩ = some c ∧ W.cell? ⟨h, 1, none⟩ = some d ∧ W.cell? ⟨h, 2, none⟩ = some e ∧ g < W.heap.size ∧ h < W.heap.size ∧ Below wc.heap.size wc W) (hB : Hid (Below w.heap.size w wc)) :
    W.cell? ⟨g, 0, none⟩ = some a ∧ W.cell? ⟨g, 1, none⟩ = some b ∧ W.cell? ⟨h, 0, none⟩ = some c ∧ W.cell? ⟨h, 1, none⟩ = some d ∧ W.cell? ⟨h, 2, none⟩ = some e ∧ g < W.heap.size ∧ h < W.heap.size ∧ Hid (Below w.heap.size w W) := by
  obtain ⟨h1, h2, h3, h4, h5, h6, h7, h8⟩ := k
  exact ⟨h1, h2, h3, h4, h5, h6, h7, Lib.hid (hB.out.trans (h8.mono hB.out.size))⟩
theorem still2 {g h q : Nat} {wc W : World} {a b c d e u v : Value} (k : W.cell? ⟨g, 0, none⟩ = some a ∧ W.cell? ⟨g, 1, none⟩ = some b ∧ W.cell? ⟨h, 0, none⟩ = some c ∧ W.cell? ⟨h, 1, none⟩ = some d ∧ W.cell? ⟨h, 2, none⟩ = some e ∧ g < W.heap.size ∧ h < W.heap.size ∧ Below wc.heap.size wc W) (hq : q < wc.heap.size) (h1 : wc.cell? ⟨q, 0, none⟩ = some u) (h2 : wc.cell? ⟨q, 1, none⟩ = some v) : W.cell? ⟨q, 0, none⟩ = some u ∧ W.cell? ⟨q, 1, none⟩ = some v ∧ q < W.heap.size := by
  have hb := held5_below k
  have := hb.size
  exact ⟨(hb.cell (p := ⟨q, 0, none⟩) hq).trans h1, (hb.cell (p := ⟨q, 1, none⟩) hq).trans h2, by omega⟩

/-- What the last statement reads, of a world behind wc. -/
theorem held6 {g h i j k : Nat} {wc W : World} {a b c d e : Value} (f0 : wc.cell? ⟨g, 0, none⟩ = some a) (f1 : wc.cell? ⟨g, 1, none⟩ = some b) (f2 : wc.cell? ⟨h, 0, none⟩ = some c) (f3 : wc.cell? ⟨i, 0, none⟩ = some d) (f4 : wc.cell? ⟨i, 1, none⟩ = some e) (f5 : wc.cell? ⟨j, 0, none⟩ = some d) (f6 : wc.cell? ⟨j, 1, none⟩ = some e) (f7 : wc.cell? ⟨k, 0, none⟩ = some d) (f8 : wc.cell? ⟨k, 1, none⟩ = some e) (s0 : g < wc.heap.size) (s1 : h < wc.heap.size) (s2 : i < wc.heap.size) (s3 : j < wc.heap.size) (s4 : k < wc.heap.size) (hb : Below wc.heap.size wc W) :
    W.cell? ⟨g, 0, none⟩ = some a ∧ W.cell? ⟨g, 1, none⟩ = some b ∧ W.cell? ⟨h, 0, none⟩ = some c ∧ W.cell? ⟨i, 0, none⟩ = some d ∧ W.cell? ⟨i, 1, none⟩ = some e ∧ W.cell? ⟨j, 0, none⟩ = some d ∧ W.cell? ⟨j, 1, none⟩ = some e ∧ W.cell? ⟨k, 0, none⟩ = some d ∧ W.cell? ⟨k, 1, none⟩ = some e ∧ Below wc.heap.size wc W :=
  ⟨(hb.cell (p := ⟨g, 0, none⟩) s0).trans f0, (hb.cell (p := ⟨g, 1, none⟩) s0).trans f1, (hb.cell (p := ⟨h, 0, none⟩) s1).trans f2, (hb.cell (p := ⟨i, 0, none⟩) s2).trans f3, (hb.cell (p := ⟨i, 1, none⟩) s2).trans f4, (hb.cell (p := ⟨j, 0, none⟩) s3).trans f5, (hb.cell (p := ⟨j, 1, none⟩) s3).trans f6, (hb.cell (p := ⟨k, 0, none⟩) s4).trans f7, (hb.cell (p := ⟨k, 1, none⟩) s4).trans f8, hb⟩
theorem held6_below {g h i j k : Nat} {wc W : World} {a b c d e : Value} (q : W.cell? ⟨g, 0, none⟩ = some a ∧ W.cell? ⟨g, 1, none⟩ = some b ∧ W.cell? ⟨h, 0, none⟩ = some c ∧ W.cell? ⟨i, 0, none⟩ = some d ∧ W.cell? ⟨i, 1, none⟩ = some e ∧ W.cell? ⟨j, 0, none⟩ = some d ∧ W.cell? ⟨j, 1, none⟩ = some e ∧ W.cell? ⟨k, 0, none⟩ = some d ∧ W.cell? ⟨k, 1, none⟩ = some e ∧ Below wc.heap.size wc W) : Below wc.heap.size wc W := q.2.2.2.2.2.2.2.2.2
theorem held6_step {g h i j k : Nat} {wc W W' : World} {a b c d e : Value} (q : W.cell? ⟨g, 0, none⟩ = some a ∧ W.cell? ⟨g, 1, none⟩ = some b ∧ W.cell? ⟨h, 0, none⟩ = some c ∧ W.cell? ⟨i, 0, none⟩ = some d ∧ W.cell? ⟨i, 1, none⟩ = some e ∧ W.cell? ⟨j, 0, none⟩ = some d ∧ W.cell? ⟨j, 1, none⟩ = some e ∧ W.cell? ⟨k, 0, none⟩ = some d ∧ W.cell? ⟨k, 1, none⟩ = some e ∧ Below wc.heap.size wc W) (hb : Below W.heap.size W W') : Below wc.heap.size wc W' :=
  (held6_below q).trans (hb.mono (held6_below q).size)

set_option maxRecDepth 100000 in
set_option maxHeartbeats 4000000 in
/-- doormanlaw16.ScoreAdds. -/
theorem scoreAdds_any (p t p0 p1 l0 l1 l2 : Int) (w : World) :
    Calls Try.prog 14 #[.agg #[.int .i64 p, .int .i64 t], .agg #[.int .i64 p0, .int .i64 p1], .agg #[.int .i64 l0, .int .i64 l1, .int .i64 l2]] w fun e w' => e = .returned (.bool true) ∧ Below w.heap.size w w' := by
  have hfd := field_points
  go_enter Try.func14, Try.ntmps14
  go_upto_region 1 with (fail)
  go_cut [7, 8] (fun v7 v8 wx => ∃ a b : Int, v7 = .int .i64 a ∧ v8 = .int .i64 b ∧ 0 ≤ a ∧ a ≤ 1073741824 ∧ 0 ≤ b ∧ b ≤ 1073741824 ∧ wx.cell? ⟨w.heap.size, 0, none⟩ = some (.int .i64 p) ∧ wx.cell? ⟨w.heap.size, 1, none⟩ = some (.int .i64 t) ∧ wx.cell? ⟨w.heap.size + 1 + 1, 0, none⟩ = some (.int .i64 l0) ∧ wx.cell? ⟨w.heap.size + 1 + 1, 1, none⟩ = some (.int .i64 l1) ∧ wx.cell? ⟨w.heap.size + 1 + 1, 2, none⟩ = some (.int .i64 l2) ∧ w.heap.size < wx.heap.size ∧ w.heap.size + 1 + 1 < wx.heap.size ∧ Hid (Below w.heap.size w wx))
  case first =>
    go_quiet (fail)
    go_wp2_with fail
    go_meet
    refine ⟨_, _, rfl, rfl, by omega, by omega, by omega, by omega, by simp [go_sem], by simp [go_sem], by simp [go_sem], by simp [go_sem], by simp [go_sem], by simp; omega, by simp, Lib.hid (below_drewN ((((Below.refl _ _).alloc (Nat.le_refl _) _).alloc (by simp) _).alloc (by simp; omega) _) _)⟩
  case rest =>
    obtain ⟨a, b, rfl, rfl, a0, a1, b0, b1, c0, c1, c2, c3, c4, hg, hh, HB⟩ := hcut
    have eX : Plain.addP (Plain.addP p t a l0 l1) (Plain.decA t l0 l1) b l0 l1 = Plain.addP p t (a + b) l0 l1 := Plain.add_sum p t a b l0 l1 a0 a1 b0 b1
    have eY : Plain.addP (Plain.addP p t b l0 l1) (Plain.decA t l0 l1) a l0 l1 = Plain.addP p t (a + b) l0 l1 := by rw [← Plain.add_swap]; exact eX
    have eA : Plain.decA (Plain.decA t l0 l1) l0 l1 = Plain.decA t l0 l1 := Plain.decA_same t l0 l1
    go_upto_region 2 with (fail)
    go_cut [9] (fun v wx => ∃ g : Nat, v = .pointer (some ⟨g, 0, none⟩) ∧ wx.cell? ⟨g, 0, none⟩ = some (.int .i64 (Plain.addP p t (a + b) l0 l1)) ∧ wx.cell? ⟨g, 1, none⟩ = some (.int .i64 (Plain.decA t l0 l1)) ∧ g < wx.heap.size ∧ wx.cell? ⟨w.heap.size, 0, none⟩ = some (.int .i64 p) ∧ wx.cell? ⟨w.heap.size, 1, none⟩ = some (.int .i64 t) ∧ wx.cell? ⟨w.heap.size + 1 + 1, 0, none⟩ = some (.int .i64 l0) ∧ wx.cell? ⟨w.heap.size + 1 + 1, 1, none⟩ = some (.int .i64 l1) ∧ wx.cell? ⟨w.heap.size + 1 + 1, 2, none⟩ = some (.int .i64 l2) ∧ w.heap.size < wx.heap.size ∧ w.heap.size + 1 + 1 < wx.heap.size ∧ Hid (Below w.heap.size w wx))
    case first =>
      go_region_held3 (fun w' => w'.cell? ⟨w.heap.size, 0, none⟩ = some (.int .i64 p) ∧ w'.cell? ⟨w.heap.size, 1, none⟩ = some (.int .i64 t) ∧ w'.cell? ⟨w.heap.size + 1 + 1, 0, none⟩ = some (.int .i64 l0) ∧ w'.cell? ⟨w.heap.size + 1 + 1, 1, none⟩ = some (.int .i64 l1) ∧ w'.cell? ⟨w.heap.size + 1 + 1, 2, none⟩ = some (.int .i64 l2) ∧ w.heap.size < w'.heap.size ∧ w.heap.size + 1 + 1 < w'.heap.size ∧ Below wc.heap.size wc w')
        (first
          | assumption
          | exact held5 (by assumption) (by assumption)
          | exact held5 (by assumption) ((Below.refl _ _).alloc (Nat.le_refl _) _)
          | exact held5_set (by assumption) hg hh (by assumption)
          | exact ⟨c0, c1, c2, c3, c4, hg, hh, (Below.refl _ _).drew⟩
          | exact held5 ⟨c0, c1, c2, c3, c4, hg, hh, Below.refl _ _⟩ (below_swap (held5_below (by assumption)) hsz))
        ((go_at_call 53; refine (sadd_any _ _ _ _ _ _).mono ?_; rintro e w' ⟨rfl, hb'⟩
          have hsz : wc.heap.size ≤ w'.heap.size := Nat.le_trans (held5_size (by assumption)) hb'.size
          (first
            | (have hx := fresh_later hb' (by assumption); have HX := Lib.hid hx; obtain ⟨x1, x2, x3, x4, x5⟩ := hx)
            | (have hx := fresh_new hb' (by assumption); have HX := Lib.hid hx; obtain ⟨x1, x2, x3, x4, x5⟩ := hx)
            | (have hx := fresh_new (below_undrew hb') (Nat.le_refl wc.heap.size); have HX := Lib.hid hx; obtain ⟨x1, x2, x3, x4, x5⟩ := hx)
            | skip)))
      all_goals go_wp2_with fail
      all_goals go_meet
      all_goals refine ⟨_, rfl, ?_, ?_, ?_, close5 (by assumption) HB⟩
      all_goals first
        | (simp [go_sem]; done)
        | exact (stored_is (Hid.out (by assumption))).1
        | exact (stored_is (Hid.out (by assumption))).2
        | (simpa [World.setCell] using x4)
    case rest =>
      clear c0 c1 c2 c3 c4 hg hh HB
      obtain ⟨g9, rfl, z0, z1, z2, c0, c1, c2, c3, c4, hg, hh, HB⟩ := hcut
      go_upto_region 3 with (fail)
      go_cut [10] (fun v wx => ∃ g : Nat, v = .pointer (some ⟨g, 0, none⟩) ∧ wx.cell? ⟨g, 0, none⟩ = some (.int .i64 (Plain.addP p t (a + b) l0 l1)) ∧ wx.cell? ⟨g, 1, none⟩ = some (.int .i64 (Plain.decA t l0 l1)) ∧ g < wx.heap.size ∧ wx.cell? ⟨g9, 0, none⟩ = some (.int .i64 (Plain.addP p t (a + b) l0 l1)) ∧ wx.cell? ⟨g9, 1, none⟩ = some (.int .i64 (Plain.decA t l0 l1)) ∧ g9 < wx.heap.size ∧ wx.cell? ⟨w.heap.size, 0, none⟩ = some (.int .i64 p) ∧ wx.cell? ⟨w.heap.size, 1, none⟩ = some (.int .i64 t) ∧ wx.cell? ⟨w.heap.size + 1 + 1, 0, none⟩ = some (.int .i64 l0) ∧ wx.cell? ⟨w.heap.size + 1 + 1, 1, none⟩ = some (.int .i64 l1) ∧ wx.cell? ⟨w.heap.size + 1 + 1, 2, none⟩ = some (.int .i64 l2) ∧ w.heap.size < wx.heap.size ∧ w.heap.size + 1 + 1 < wx.heap.size ∧ Hid (Below w.heap.size w wx))
      case first =>
        go_region_held3 (fun w' => w'.cell? ⟨w.heap.size, 0, none⟩ = some (.int .i64 p) ∧ w'.cell? ⟨w.heap.size, 1, none⟩ = some (.int .i64 t) ∧ w'.cell? ⟨w.heap.size + 1 + 1, 0, none⟩ = some (.int .i64 l0) ∧ w'.cell? ⟨w.heap.size + 1 + 1, 1, none⟩ = some (.int .i64 l1) ∧ w'.cell? ⟨w.heap.size + 1 + 1, 2, none⟩ = some (.int .i64 l2) ∧ w.heap.size < w'.heap.size ∧ w.heap.size + 1 + 1 < w'.heap.size ∧ Below wc.heap.size wc w')
          (first
            | assumption
            | exact held5 (by assumption) (by assumption)
            | exact held5 (by assumption) ((Below.refl _ _).alloc (Nat.le_refl _) _)
            | exact held5_set (by assumption) hg hh (by assumption)
            | exact ⟨c0, c1, c2, c3, c4, hg, hh, (Below.refl _ _).drew⟩
            | exact held5 ⟨c0, c1, c2, c3, c4, hg, hh, Below.refl _ _⟩ (below_swap (held5_below (by assumption)) hsz))
          ((go_at_call 53; refine (sadd_any _ _ _ _ _ _).mono ?_; rintro e w' ⟨rfl, hb'⟩
            have hsz : wc.heap.size ≤ w'.heap.size := Nat.le_trans (held5_size (by assumption)) hb'.size
            (first
              | (have hx := fresh_later hb' (by assumption); have HX := Lib.hid hx; obtain ⟨x1, x2, x3, x4, x5⟩ := hx)
              | (have hx := fresh_new hb' (by assumption); have HX := Lib.hid hx; obtain ⟨x1, x2, x3, x4, x5⟩ := hx)
              | (have hx := fresh_new (below_undrew hb') (Nat.le_refl wc.heap.size); have HX := Lib.hid hx; obtain ⟨x1, x2, x3, x4, x5⟩ := hx)
              | skip)))
        all_goals go_wp2_with fail
        all_goals go_meet
        all_goals refine ⟨_, rfl, ?_, ?_, ?_, (still2 (by assumption) z2 z0 z1).1, (still2 (by assumption) z2 z0 z1).2.1, (still2 (by assumption) z2 z0 z1).2.2, close5 (by assumption) HB⟩
        all_goals first
          | (simp [go_sem]; done)
          | exact (stored_is (Hid.out (by assumption))).1
          | exact (stored_is (Hid.out (by assumption))).2
          | (simpa [World.setCell] using x4)
      case rest =>
        clear c0 c1 c2 c3 c4 hg hh HB z0 z1 z2
        obtain ⟨g10, rfl, y0, y1, y2, z0, z1, z2, c0, c1, c2, c3, c4, hg, hh, HB⟩ := hcut
        go_upto_region 4 with (fail)
        go_cut [11] (fun v wx => ∃ g : Nat, v = .pointer (some ⟨g, 0, none⟩) ∧ wx.cell? ⟨g, 0, none⟩ = some (.int .i64 (Plain.addP p t (a + b) l0 l1)) ∧ wx.cell? ⟨g, 1, none⟩ = some (.int .i64 (Plain.decA t l0 l1)) ∧ g < wx.heap.size ∧ wx.cell? ⟨g9, 0, none⟩ = some (.int .i64 (Plain.addP p t (a + b) l0 l1)) ∧ wx.cell? ⟨g9, 1, none⟩ = some (.int .i64 (Plain.decA t l0 l1)) ∧ g9 < wx.heap.size ∧ wx.cell? ⟨g10, 0, none⟩ = some (.int .i64 (Plain.addP p t (a + b) l0 l1)) ∧ wx.cell? ⟨g10, 1, none⟩ = some (.int .i64 (Plain.decA t l0 l1)) ∧ g10 < wx.heap.size ∧ wx.cell? ⟨w.heap.size, 0, none⟩ = some (.int .i64 p) ∧ wx.cell? ⟨w.heap.size, 1, none⟩ = some (.int .i64 t) ∧ wx.cell? ⟨w.heap.size + 1 + 1, 0, none⟩ = some (.int .i64 l0) ∧ wx.cell? ⟨w.heap.size + 1 + 1, 1, none⟩ = some (.int .i64 l1) ∧ wx.cell? ⟨w.heap.size + 1 + 1, 2, none⟩ = some (.int .i64 l2) ∧ w.heap.size < wx.heap.size ∧ w.heap.size + 1 + 1 < wx.heap.size ∧ Hid (Below w.heap.size w wx))
        case first =>
          go_wp2_with fail
          refine (sadd_any _ _ _ _ _ _).mono ?_; rintro e w' ⟨rfl, hb'⟩
          have HW := Lib.hid hb'
          clear hb'
          go_wp2_with fail
          go_meet
          have hs := HW.out.size
          refine ⟨_, rfl, by simp [go_sem], by simp [go_sem], by simp, ?_⟩
          have hw : Below wc.heap.size wc (w'.alloc (.cells #[(.int .i64 (Plain.addP p t (a + b) l0 l1)), (.int .i64 (Plain.decA t l0 l1))] 23)) := HW.out.alloc HW.out.size _
          exact ⟨(hw.cell (p := ⟨g9, 0, none⟩) z2).trans z0, (hw.cell (p := ⟨g9, 1, none⟩) z2).trans z1, Nat.lt_of_lt_of_le z2 hw.size, (hw.cell (p := ⟨g10, 0, none⟩) y2).trans y0, (hw.cell (p := ⟨g10, 1, none⟩) y2).trans y1, Nat.lt_of_lt_of_le y2 hw.size,
            (hw.cell (p := ⟨_, 0, none⟩) hg).trans c0, (hw.cell (p := ⟨_, 1, none⟩) hg).trans c1, (hw.cell (p := ⟨_, 0, none⟩) hh).trans c2, (hw.cell (p := ⟨_, 1, none⟩) hh).trans c3, (hw.cell (p := ⟨_, 2, none⟩) hh).trans c4, Nat.lt_of_lt_of_le hg hw.size, Nat.lt_of_lt_of_le hh hw.size, Lib.hid (HB.out.trans (hw.mono HB.out.size))⟩
        case rest =>
          clear c0 c1 c2 c3 c4 hg hh HB z0 z1 z2 y0 y1 y2
          obtain ⟨g11, rfl, v0, v1, v2, z0, z1, z2, y0, y1, y2, c0, c1, c2, c3, c4, hg, hh, HB⟩ := hcut
          have e1 : Plain.addP p t a l0 (max l1 l2) ≤ Plain.addP p t a l0 (min l1 l2) := Plain.add_falls p t a l0 (by omega)
          have e2 : Plain.addP p t (min a b) l0 (min l1 l2) ≤ Plain.addP p t (max a b) l0 (min l1 l2) := Plain.add_grows p t l0 _ (by omega)
          clear eX eY eA
          go_upto_region 5 with (fail)
          go_quiet (fail)
          go_upto_region 6 with (fail)
          go_region_held3 (fun w' => w'.cell? ⟨w.heap.size, 0, none⟩ = some (.int .i64 p) ∧ w'.cell? ⟨w.heap.size, 1, none⟩ = some (.int .i64 t) ∧ w'.cell? ⟨w.heap.size + 1 + 1, 0, none⟩ = some (.int .i64 l0) ∧ w'.cell? ⟨g9, 0, none⟩ = some (.int .i64 (Plain.addP p t (a + b) l0 l1)) ∧ w'.cell? ⟨g9, 1, none⟩ = some (.int .i64 (Plain.decA t l0 l1)) ∧ w'.cell? ⟨g10, 0, none⟩ = some (.int .i64 (Plain.addP p t (a + b) l0 l1)) ∧ w'.cell? ⟨g10, 1, none⟩ = some (.int .i64 (Plain.decA t l0 l1)) ∧ w'.cell? ⟨g11, 0, none⟩ = some (.int .i64 (Plain.addP p t (a + b) l0 l1)) ∧ w'.cell? ⟨g11, 1, none⟩ = some (.int .i64 (Plain.decA t l0 l1)) ∧ Below wc.heap.size wc w')
            (first
              | assumption
              | exact held6 c0 c1 c2 z0 z1 y0 y1 v0 v1 hg hh z2 y2 v2 (held6_step (by assumption) (by assumption))
              | exact held6 c0 c1 c2 z0 z1 y0 y1 v0 v1 hg hh z2 y2 v2 ((below_drewN (Below.refl _ _) _).drew)
              | exact held6 c0 c1 c2 z0 z1 y0 y1 v0 v1 hg hh z2 y2 v2 ((Below.refl _ _).drew)
              | exact held6 c0 c1 c2 z0 z1 y0 y1 v0 v1 hg hh z2 y2 v2 (below_drewN (Below.refl _ _) _))
            (first
              | (go_at_call 53; refine (sadd_any _ _ _ _ _ _).mono ?_; rintro e w' ⟨rfl, hb'⟩)
              | (go_at_call 59; refine (awake16_any _).mono ?_; rintro e w' ⟨rfl, hb'⟩))
          all_goals go_wp2
          all_goals go_ret
          all_goals exact ⟨rfl, HB.out.trans ((held6_below (by assumption)).mono HB.out.size)⟩
end Go.Proofs.Ytdoofpanbcaigaa
