/-
  THE WALK of doormanlaw25.EntryWaits.
-/
import Derived.Test.YtdoofpanbcaigaaEntry5
import Derived.Test.YtdoofpanbcaigaaClass
import Derived.Test.YtdoofpanbcaigaaSlices
namespace Go.Proofs.Ytdoofpanbcaigaa
open Go.RowKit
set_option linter.unusedVariables false
attribute [local go_sem] lt2 lt3
attribute [local go_sem ↓] exec_load_43 exec_store_43 exec_load_86 exec_store_86
theorem setRow_new' (w : World) (old C : Array Value) (t : TypeId) (g : Nat) (hg : g = w.heap.size) : (w.alloc (.cells old t)).setRow g C = w.alloc (.cells C t) := by
  subst hg; exact setRow_new w old C t
theorem rowOf_set86 {W : World} {g : Nat} {C : Array Value} (h : isRow W g 86 7 = true) : rowOf (W.setRow g C) g = C := rowOf_set h
attribute [local go_sem] run_loadConf isRow_new rowOf_new isRow_past rowOf_past isRow_drew rowOf_drew run_loadEnt run_storeEnt setRow_new' isRow_set rowOf_set86

theorem ok_st {v6 : Bool} {hi lo port st fl nx : Int} (s : Int) (h : entryOk v6 hi lo port st fl nx = true) (hs : 1 ≤ s ∧ s ≤ 3) : entryOk v6 hi lo port s fl nx = true := by
  unfold entryOk at *; simp at h ⊢; exact ⟨h.1, ⟨hs, h.2.1.2⟩, h.2.2⟩
theorem ok_good {v6 : Bool} {hi lo port st fl nx : Int} (h : entryOk v6 hi lo port st fl nx = true) : entryOk v6 hi lo port 3 0 nx = true := by
  unfold entryOk at *; simp at h ⊢; exact ⟨h.1, h.2.2⟩
theorem ok_fl {v6 : Bool} {hi lo port st fl nx : Int} (h : entryOk v6 hi lo port st fl nx = true) : 0 ≤ fl ∧ fl ≤ 1000 := by
  unfold entryOk at *; simp at *; omega
theorem ok_fail {v6 : Bool} {hi lo port st fl nx : Int} (base cap J n j : Int) (h : entryOk v6 hi lo port st fl nx = true) : entryOk v6 hi lo port 1 (failsOf fl) (Plain.next base cap J (failsOf fl) n j) = true := by
  have hb := failsOf_bounds fl
  have hn : Plain.next base cap J (failsOf fl) n j = Plain.fit (Plain.next base cap J (failsOf fl) n j) := (Plain.fit_fit _).symm
  unfold entryOk at *; simp at h ⊢; exact ⟨h.1, ⟨by omega, by omega⟩, hn⟩
theorem fails_more {fl : Int} (h0 : 0 ≤ fl) (h1 : fl ≤ 1000) : min (fl + 1) 1000 = failsOf fl := by unfold failsOf; omega
theorem next_bounds (base cap J f n j : Int) : 0 ≤ Plain.next base cap J f n j ∧ Plain.next base cap J f n j ≤ 1099511627776 := ⟨Plain.fit_lo _, Plain.fit_hi _⟩
theorem due_next (n : Int) : due 1 n n = true := by simp [due]
theorem due_ahead (n : Int) : due 1 n (n - 1) = false := by simp [due]; omega

/-- What the boxes of EntryWaits hold. -/
def HoldW (g : Nat) (C : Array Value) (v6 : Bool) (hi lo port st fl nx : Int) (w W : World) : Prop :=
  isRow W g 43 16 = true ∧ rowOf W g = C ∧ isRow W (g + 1) 86 7 = true ∧ rowOf W (g + 1) = #[.bool v6, .int .u64 hi, .int .u64 lo, .int .i64 port, .int .i64 st, .int .i64 fl, .int .i64 nx] ∧ Below w.heap.size w W
theorem holdW {g : Nat} {C : Array Value} {v6 : Bool} {hi lo port st fl nx : Int} {w W W' : World} (h : HoldW g C v6 hi lo port st fl nx w W) (hb : Below W.heap.size W W') : HoldW g C v6 hi lo port st fl nx w W' := by
  obtain ⟨h1, h2, h3, h4, hB⟩ := h
  obtain ⟨k1, k2⟩ := row_below hb h1
  obtain ⟨k3, k4⟩ := row_below hb h3
  exact ⟨k1, k2.trans h2, k3, k4.trans h4, hB.trans (hb.mono hB.size)⟩
theorem holdW_below {g : Nat} {C : Array Value} {v6 : Bool} {hi lo port st fl nx : Int} {w W : World} (h : HoldW g C v6 hi lo port st fl nx w W) : Below w.heap.size w W := h.2.2.2.2
theorem holdW_start (w : World) (C : Array Value) (v6 : Bool) (hi lo port st fl nx : Int) (hC : C.size = 16) : HoldW w.heap.size C v6 hi lo port st fl nx w ((w.alloc (.cells C 43)).alloc (.cells #[.bool v6, .int .u64 hi, .int .u64 lo, .int .i64 port, .int .i64 st, .int .i64 fl, .int .i64 nx] 86)) := by
  generalize hE : (#[.bool v6, .int .u64 hi, .int .u64 lo, .int .i64 port, .int .i64 st, .int .i64 fl, .int .i64 nx] : Array Value) = E
  have hE7 : E.size = 7 := by subst hE; rfl
  have hb : Below w.heap.size w ((w.alloc (.cells C 43)).alloc (.cells E 86)) := ((Below.refl _ _).alloc (Nat.le_refl _) _).alloc (by simp) _
  have r1 := row_below ((Below.refl _ (w.alloc (.cells C 43))).alloc (Nat.le_refl _) (.cells E 86)) (row_new w C 43 hC).1
  have r2 := row_new (w.alloc (.cells C 43)) E 86 hE7
  rw [(row_new w C 43 hC).2] at r1
  have e : (w.alloc (.cells C 43)).heap.size = w.heap.size + 1 := by simp
  rw [e] at r2
  subst hE
  exact ⟨r1.1, r1.2, r2.1, r2.2, hb⟩
theorem cell_lt {W : World} {p : Addr} {v : Value} (h : W.cell? p = some v) : p.block < W.heap.size := by
  rcases Nat.lt_or_ge p.block W.heap.size with h' | h'
  · exact h'
  · unfold World.cell? at h
    simp [Array.getElem?_eq_none h'] at h
theorem add_more (b : Addr) (m k : Nat) (hk : k < 9) : b.add (m + (k + 1)) = ⟨(b.add m).block, (b.add m).off + (k + 1), none⟩ := by
  unfold Addr.add
  by_cases hm : m = 0 <;> simp [hm, Nat.add_assoc]
theorem act_at {a : Option Addr} {len cp i g : Nat} {C : Array Value} {v6 : Bool} {hi lo port st fl nx : Int} {w W : World} (hr : IsRows [.int .i64, .int .i64, .int .i64] w a len cp) (hS : HoldW g C v6 hi lo port st fl nx w W) (hi : i < len) :
    ∃ b, a = some b ∧ ∃ kind n j : Int, W.cell? (b.add (i * 3)) = some (.int .i64 kind) ∧ W.cell? ⟨(b.add (i * 3)).block, (b.add (i * 3)).off + 1, none⟩ = some (.int .i64 n) ∧ W.cell? ⟨(b.add (i * 3)).block, (b.add (i * 3)).off + 2, none⟩ = some (.int .i64 j) := by
  rcases hr with ⟨_, rfl, _⟩ | ⟨b, rfl, _, _, hrow⟩
  · omega
  · obtain ⟨cs, hfit, hcell⟩ := hrow i hi
    obtain ⟨kind, cs, rfl, _, hfit⟩ := fits_int hfit
    obtain ⟨n, cs, rfl, _, hfit⟩ := fits_int hfit
    obtain ⟨j, cs, rfl, _, hfit⟩ := fits_int hfit
    have hB := holdW_below hS
    have c0 := hcell 0 _ rfl
    have c1 := hcell 1 _ rfl
    have c2 := hcell 2 _ rfl
    rw [add_more _ _ 0 (by omega)] at c1
    rw [add_more _ _ 1 (by omega)] at c2
    exact ⟨b, rfl, kind, n, j, (hB.cell (cell_lt c0)).trans c0, (hB.cell (cell_lt c1)).trans c1, (hB.cell (cell_lt c2)).trans c2⟩

theorem ent_cells {g : Nat} {a b c d e f h : Value} {W : World} (r : isRow W g 86 7 = true) (q : rowOf W g = #[a, b, c, d, e, f, h]) :
    W.cell? ⟨g, 0, none⟩ = some a ∧ W.cell? ⟨g, 1, none⟩ = some b ∧ W.cell? ⟨g, 2, none⟩ = some c ∧ W.cell? ⟨g, 3, none⟩ = some d ∧ W.cell? ⟨g, 4, none⟩ = some e ∧ W.cell? ⟨g, 5, none⟩ = some f ∧ W.cell? ⟨g, 6, none⟩ = some h := by
  have k := row_cell r
  rw [q] at k
  exact ⟨k 0, k 1, k 2, k 3, k 4, k 5, k 6⟩
/-- What the boxes hold within a round: the conf's, the entry's, the act's, the former entry's. -/
def HoldR (g x : Nat) (C E E9 : Array Value) (kind n j : Int) (w W : World) : Prop :=
  isRow W g 43 16 = true ∧ rowOf W g = C ∧ isRow W (g + 1) 86 7 = true ∧ rowOf W (g + 1) = E ∧ W.cell? ⟨x, 0, none⟩ = some (.int .i64 kind) ∧ W.cell? ⟨x, 1, none⟩ = some (.int .i64 n) ∧ W.cell? ⟨x, 2, none⟩ = some (.int .i64 j) ∧ isRow W (x + 1) 86 7 = true ∧ rowOf W (x + 1) = E9 ∧ w.heap.size ≤ g ∧ g + 1 < x ∧ x < W.heap.size ∧ Below w.heap.size w W
theorem holdR {g x : Nat} {C E E9 : Array Value} {kind n j : Int} {w W W' : World} (h : HoldR g x C E E9 kind n j w W) (hb : Below W.heap.size W W') : HoldR g x C E E9 kind n j w W' := by
  obtain ⟨h1, h2, h3, h4, c0, c1, c2, h5, h6, hg, hx, hz, hB⟩ := h
  obtain ⟨k1, k2⟩ := row_below hb h1
  obtain ⟨k3, k4⟩ := row_below hb h3
  obtain ⟨k5, k6⟩ := row_below hb h5
  exact ⟨k1, k2.trans h2, k3, k4.trans h4, (hb.cell (p := ⟨x, 0, none⟩) hz).trans c0, (hb.cell (p := ⟨x, 1, none⟩) hz).trans c1, (hb.cell (p := ⟨x, 2, none⟩) hz).trans c2, k5, k6.trans h6, hg, hx, Nat.lt_of_lt_of_le hz hb.size, hB.trans (hb.mono hB.size)⟩
theorem holdR_start {g : Nat} {C E : Array Value} {kind n j : Int} {w W : World} (h : isRow W g 43 16 = true ∧ rowOf W g = C ∧ isRow W (g + 1) 86 7 = true ∧ rowOf W (g + 1) = E ∧ Below w.heap.size w W) (hg : w.heap.size ≤ g) (hE : E.size = 7) :
    HoldR g W.heap.size C E E kind n j w ((W.alloc (.cells #[.int .i64 kind, .int .i64 n, .int .i64 j] 96)).alloc (.cells E 86)) := by
  obtain ⟨h1, h2, h3, h4, hB⟩ := h
  have l3 := row_lt h3
  have hb : Below W.heap.size W ((W.alloc (.cells #[.int .i64 kind, .int .i64 n, .int .i64 j] 96)).alloc (.cells E 86)) := ((Below.refl _ _).alloc (Nat.le_refl _) _).alloc (by simp) _
  obtain ⟨k1, k2⟩ := row_below hb h1
  obtain ⟨k3, k4⟩ := row_below hb h3
  have r2 := row_new (W.alloc (.cells #[.int .i64 kind, .int .i64 n, .int .i64 j] 96)) E 86 hE
  have e : (W.alloc (.cells #[.int .i64 kind, .int .i64 n, .int .i64 j] 96)).heap.size = W.heap.size + 1 := by simp
  rw [e] at r2
  exact ⟨k1, k2.trans h2, k3, k4.trans h4, by simp [go_sem], by simp [go_sem], by simp [go_sem], r2.1, r2.2, hg, l3, by simp; omega, hB.trans (hb.mono hB.size)⟩
theorem holdR_set {g x : Nat} {C E E9 : Array Value} {kind n j : Int} {w W : World} (D : Array Value) (hD : D.size = 7) (h : HoldR g x C E E9 kind n j w W) : HoldR g x C D E9 kind n j w (W.setRow (g + 1) D) := by
  obtain ⟨h1, h2, h3, h4, c0, c1, c2, h5, h6, hg, hx, hz, hB⟩ := h
  obtain ⟨e1, e2⟩ := row_setRow_other (W := W) (g := g) (y := g + 1) (n := 16) (t := 43) D (by omega)
  obtain ⟨e3, e4⟩ := row_setRow_other (W := W) (g := x + 1) (y := g + 1) (n := 7) (t := 86) D (by omega)
  have ec : ∀ i, (W.setRow (g + 1) D).cell? ⟨x, i, none⟩ = W.cell? ⟨x, i, none⟩ := fun i => cell_setRow_other W (g + 1) D ⟨x, i, none⟩ (by simp; omega)
  exact ⟨e1.trans h1, e2.trans h2, isRow_set h3 hD, rowOf_set h3, (ec 0).trans c0, (ec 1).trans c1, (ec 2).trans c2, e3.trans h5, e4.trans h6, hg, hx, by simpa using hz, below_setRow hB (by omega) D⟩

set_option maxRecDepth 100000 in
set_option maxHeartbeats 8000000 in
/-- doormanlaw25.EntryWaits. -/
theorem entryWaits_any {C : Array Value} {base cap J : Int} (h : IsConf C base cap J) (hJ : J ≤ 9223372036854775807) (v6 : Bool) (hi lo port st fl nx : Int) (h0 : 0 ≤ lo) (h1 : lo < 18446744073709551616) (a : Option Addr) (len cp : Nat) (w : World) (hr : IsRows [.int .i64, .int .i64, .int .i64] w a len cp) :
    Calls Try.prog 19 #[.agg C, .agg #[.bool v6, .int .u64 hi, .int .u64 lo, .int .i64 port, .int .i64 st, .int .i64 fl, .int .i64 nx], .slice a len cp] w fun e w' => e = .returned (.bool true) ∧ Below w.heap.size w w' := by
  have H := Lib.hid h
  have hn := h.size
  have HR := Lib.hid hr
  have hlen : len ≤ 9223372036854775807 := Nat.le_trans (rows_len hr) (by decide)
  clear h hr
  have hS := holdW_start w C v6 hi lo port st fl nx hn
  go_enter Try.func19, Try.ntmps19
  go_wp2_with fail
  refine (reright_any v6 hi lo port st fl nx h0 h1 _).mono ?_; rintro e w1 ⟨rfl, hb⟩
  replace hS := holdW hS hb
  clear hb
  cases hok : entryOk v6 hi lo port st fl nx
  · go_wp2_with fail
    refine (awake25_any _).mono ?_; rintro e w2 ⟨rfl, hb2⟩
    have HB := holdW_below (holdW hS hb2)
    clear hb2 hS
    go_wp2
    go_ret
    exact ⟨rfl, HB⟩
  · by_cases hl : 100 < len
    · have hd : decide ((100 : Int) < (len : Int)) = true := by simp; omega
      have HS := Lib.hid hS
      clear hS
      go_wp2_with fail
      refine (awake25_any _).mono ?_; rintro e w2 ⟨rfl, hb2⟩
      have HB := holdW_below (holdW HS.out hb2)
      clear hb2 HS
      go_wp2
      go_ret
      exact ⟨rfl, HB⟩
    · have hd : decide ((100 : Int) < (len : Int)) = false := by simp; omega
      have HS := Lib.hid hS
      have HO := Lib.hid hok
      clear hS hok
      go_wp2_with fail
      go_loopg [7] len (fun k v7 wr => ∃ (i : Nat) (st1 fl1 nx1 : Int), v7 = .int .i64 i ∧ i ≤ len ∧ k = len - i ∧ Hid (entryOk v6 hi lo port st1 fl1 nx1 = true) ∧ Hid (HoldW w.heap.size C v6 hi lo port st1 fl1 nx1 w wr))
      case atStart => exact ⟨0, st, fl, nx, rfl, Nat.zero_le _, rfl, HO, HS⟩
      case round =>
        obtain ⟨i, st1, fl1, nx1, rfl, hi1, hg, HO1, HS1⟩ := hrel
        have HG := Lib.hid hg
        clear hg HO HS
        by_cases hlt : i < len
        · obtain ⟨b, rfl, kind, n, j, e0, e1, e2⟩ := act_at HR.out HS1.out hlt
          obtain ⟨r1, q1, r2, q2, -⟩ := HS1.out
          have z1 := row_lt r1
          have z2 := row_lt r2
          have HR1 := Lib.hid (holdR_start (kind := kind) (n := n) (j := j) HS1.out (Nat.le_refl _) (show (#[.bool v6, .int .u64 hi, .int .u64 lo, .int .i64 port, .int .i64 st1, .int .i64 fl1, .int .i64 nx1] : Array Value).size = 7 from rfl))
          by_cases k0 : kind = 0
          · subst k0
            go_wp2_with fail
            refine (efly_any v6 hi lo port st1 fl1 nx1 _).mono ?_; rintro e w2 ⟨rfl, hb2⟩
            have R2 := Lib.hid (holdR HR1.out hb2)
            have s2 := R2.out.2.2.1
            clear hb2 r1 q1 r2 q2 z1 z2 e0 e1 e2
            go_wp2_with fail
            have ho := ok_st 2 HO1.out (by omega)
            refine (eright_any v6 hi lo port 2 (fl1) (nx1) h0 h1 _).mono ?_; rintro e w7 ⟨rfl, hb7⟩
            have R7 := Lib.hid (holdR (holdR_set (#[.bool v6, .int .u64 hi, .int .u64 lo, .int .i64 port, .int .i64 2, .int .i64 (fl1), .int .i64 (nx1)]) rfl R2.out) hb7)
            have HO7 := Lib.hid ho
            clear hb7 R2
            obtain ⟨c0, c1, c2, c3, c4, c5, c6⟩ := ent_cells R7.out.2.2.1 R7.out.2.2.2.1
            obtain ⟨d0, d1, d2, d3, d4, d5, d6⟩ := ent_cells R7.out.2.2.2.2.2.2.2.1 R7.out.2.2.2.2.2.2.2.2.1
            have b0 := R7.out.2.2.2.2.1
            go_wp2
            go_roundg (len - (i + 1))
            case measure => rw [HG.out]; omega
            case rel => exact ⟨i + 1, 2, fl1, nx1, rfl, by omega, rfl, HO7, Lib.hid ⟨R7.out.1, R7.out.2.1, R7.out.2.2.1, R7.out.2.2.2.1, R7.out.2.2.2.2.2.2.2.2.2.2.2.2⟩⟩
          · by_cases k1 : kind = 1
            · subst k1
              obtain ⟨f0, f1⟩ := ok_fl HO1.out
              have hm := fails_more f0 f1
              have hb0 := failsOf_bounds fl1
              have ho := ok_fail base cap J n j HO1.out
              obtain ⟨n0, n1⟩ := next_bounds base cap J (failsOf fl1) n j
              have CF := efail_row H.out v6 hi lo port st1 fl1 nx1 n j hJ
              have hN : Plain.sAdd (Plain.sAdd n (Plain.delay base cap (failsOf fl1))) (Plain.jitter J j) = Plain.next base cap J (failsOf fl1) n j := rfl
              generalize Plain.next base cap J (failsOf fl1) n j = N at *
              generalize failsOf fl1 = F at *
              have HOF := Lib.hid ho
              clear ho
              have u1 := due_next N
              have u2 := due_ahead N
              have z3 : w.heap.size < wr.heap.size + 1 := by omega
              have z4 : w.heap.size + 1 < wr.heap.size + 1 := by omega
              go_wp2_with fail
              refine (CF _).mono ?_; rintro e w2 ⟨rfl, hb2⟩
              have R2 := Lib.hid (holdR HR1.out hb2)
              have s2 := R2.out.2.2.1
              clear hb2 r1 q1 r2 q2 z1 z2 z3 z4 e0 e1 e2 CF
              go_upto_region 14 with (fail)
              have R3 := holdR (holdR_set (#[.bool v6, .int .u64 hi, .int .u64 lo, .int .i64 port, .int .i64 1, .int .i64 F, .int .i64 N]) rfl R2.out) (Below.refl _ _).drew
              clear s2 R2
              refine region_class (HoldR w.heap.size wr.heap.size C (#[.bool v6, .int .u64 hi, .int .u64 lo, .int .i64 port, .int .i64 1, .int .i64 F, .int .i64 N]) (#[.bool v6, .int .u64 hi, .int .u64 lo, .int .i64 port, .int .i64 st1, .int .i64 fl1, .int .i64 nx1]) 1 n j w) (by kernel_rfl) (by kernel_rfl) R3 ?_
              repeat (first
                | go_big_quiet_skip
                | (go_big_quiet_want
                   apply class_op
                   · intro W hS
                     have hK := hS
                     obtain ⟨r1, q1, r2, q2, a0, a1, a2, r3, q3, -, -, -, -⟩ := hS
                     obtain ⟨c0, c1, c2, c3, c4, c5, c6⟩ := ent_cells r2 q2
                     go_simp
                     try first
                       | with_reducible rfl
                       | (go_at_call 40; refine (rdelay_row H.out F (by omega) _).mono ?_; rintro e w' ⟨rfl, hb'⟩; exact ⟨rfl, holdR hK hb'⟩)
                       | (go_at_call 42; refine (rjitter_row H.out j hJ _).mono ?_; rintro e w' ⟨rfl, hb'⟩; exact ⟨rfl, holdR hK hb'⟩)
                       | (go_at_call 27; refine (radd_any _ _ _).mono ?_; rintro e w' ⟨rfl, rfl⟩; exact ⟨rfl, hK⟩)
                   go_big_quiet_on
                   try simp only [Act.put, List.setIfInBounds_toArray, List.set_cons_zero, List.set_cons_succ]))
              refine wpQuiet_nil ?_
              intro w4 hS
              have R4 := Lib.hid hS
              clear R3 hN
              obtain ⟨r1, q1, r2, q2, a0, a1, a2, r3, q3, -, -, -, -⟩ := hS
              obtain ⟨c0, c1, c2, c3, c4, c5, c6⟩ := ent_cells r2 q2
              obtain ⟨d0, d1, d2, d3, d4, d5, d6⟩ := ent_cells r3 q3
              go_wp2_with fail
              refine (edue_any v6 hi lo port 1 F N (N - 1) _).mono ?_; rintro e w5 ⟨rfl, hb5⟩
              have R5 := Lib.hid (holdR R4.out hb5)
              clear r1 q1 r2 q2 a0 a1 a2 r3 q3 c0 c1 c2 c3 c4 c5 c6 d0 d1 d2 d3 d4 d5 d6 hb5 R4
              obtain ⟨-, -, r2, q2, -⟩ := R5.out
              go_wp2_with fail
              refine (edue_any v6 hi lo port 1 F N N _).mono ?_; rintro e w6 ⟨rfl, hb6⟩
              have R6 := Lib.hid (holdR R5.out hb6)
              clear r2 q2 hb6 R5
              obtain ⟨-, -, r2, q2, -⟩ := R6.out
              go_wp2_with fail
              have ho := HOF.out
              refine (eright_any v6 hi lo port 1 F N h0 h1 _).mono ?_; rintro e w7 ⟨rfl, hb7⟩
              have R7 := Lib.hid (holdR R6.out hb7)
              have HO7 := Lib.hid ho
              clear hb7 R6 r2 q2
              obtain ⟨c0, c1, c2, c3, c4, c5, c6⟩ := ent_cells R7.out.2.2.1 R7.out.2.2.2.1
              obtain ⟨d0, d1, d2, d3, d4, d5, d6⟩ := ent_cells R7.out.2.2.2.2.2.2.2.1 R7.out.2.2.2.2.2.2.2.2.1
              have b0 := R7.out.2.2.2.2.1
              go_wp2
              go_roundg (len - (i + 1))
              case measure => rw [HG.out]; omega
              case rel => exact ⟨i + 1, 1, F, N, rfl, by omega, rfl, HO7, Lib.hid ⟨R7.out.1, R7.out.2.1, R7.out.2.2.1, R7.out.2.2.2.1, R7.out.2.2.2.2.2.2.2.2.2.2.2.2⟩⟩
            · by_cases k2 : kind = 2
              · subst k2
                go_wp2_with fail
                refine (egood_any v6 hi lo port st1 fl1 nx1 _).mono ?_; rintro e w2 ⟨rfl, hb2⟩
                have R2 := Lib.hid (holdR HR1.out hb2)
                have s2 := R2.out.2.2.1
                clear hb2 r1 q1 r2 q2 z1 z2 e0 e1 e2
                go_wp2_with fail
                have ho := ok_good HO1.out
                refine (eright_any v6 hi lo port 3 (0) (nx1) h0 h1 _).mono ?_; rintro e w7 ⟨rfl, hb7⟩
                have R7 := Lib.hid (holdR (holdR_set (#[.bool v6, .int .u64 hi, .int .u64 lo, .int .i64 port, .int .i64 3, .int .i64 (0), .int .i64 (nx1)]) rfl R2.out) hb7)
                have HO7 := Lib.hid ho
                clear hb7 R2
                obtain ⟨c0, c1, c2, c3, c4, c5, c6⟩ := ent_cells R7.out.2.2.1 R7.out.2.2.2.1
                obtain ⟨d0, d1, d2, d3, d4, d5, d6⟩ := ent_cells R7.out.2.2.2.2.2.2.2.1 R7.out.2.2.2.2.2.2.2.2.1
                have b0 := R7.out.2.2.2.2.1
                go_wp2
                go_roundg (len - (i + 1))
                case measure => rw [HG.out]; omega
                case rel => exact ⟨i + 1, 3, 0, nx1, rfl, by omega, rfl, HO7, Lib.hid ⟨R7.out.1, R7.out.2.1, R7.out.2.2.1, R7.out.2.2.2.1, R7.out.2.2.2.2.2.2.2.2.2.2.2.2⟩⟩
              · have m0 : (kind == 0) = false := by simp [k0]
                have m1 : (kind == 1) = false := by simp [k1]
                have m2 : (kind == 2) = false := by simp [k2]
                have m3 : (kind != 1) = true := by simp [k1]
                clear k0 k1 k2
                go_wp2_with fail
                refine (edown_any v6 hi lo port st1 fl1 nx1 _).mono ?_; rintro e w2 ⟨rfl, hb2⟩
                have R2 := Lib.hid (holdR HR1.out hb2)
                have s2 := R2.out.2.2.1
                clear hb2 r1 q1 r2 q2 z1 z2 e0 e1 e2
                go_wp2_with fail
                have ho := ok_st 1 HO1.out (by omega)
                refine (eright_any v6 hi lo port 1 (fl1) (nx1) h0 h1 _).mono ?_; rintro e w7 ⟨rfl, hb7⟩
                have R7 := Lib.hid (holdR (holdR_set (#[.bool v6, .int .u64 hi, .int .u64 lo, .int .i64 port, .int .i64 1, .int .i64 (fl1), .int .i64 (nx1)]) rfl R2.out) hb7)
                have HO7 := Lib.hid ho
                clear hb7 R2
                obtain ⟨c0, c1, c2, c3, c4, c5, c6⟩ := ent_cells R7.out.2.2.1 R7.out.2.2.2.1
                obtain ⟨d0, d1, d2, d3, d4, d5, d6⟩ := ent_cells R7.out.2.2.2.2.2.2.2.1 R7.out.2.2.2.2.2.2.2.2.1
                have b0 := R7.out.2.2.2.2.1
                go_wp2
                go_roundg (len - (i + 1))
                case measure => rw [HG.out]; omega
                case rel => exact ⟨i + 1, 1, fl1, nx1, rfl, by omega, rfl, HO7, Lib.hid ⟨R7.out.1, R7.out.2.1, R7.out.2.2.1, R7.out.2.2.2.1, R7.out.2.2.2.2.2.2.2.2.2.2.2.2⟩⟩
        · go_wp2_with fail
          refine (awake25_any _).mono ?_; rintro e w2 ⟨rfl, hb2⟩
          have HB := holdW_below (holdW HS1.out hb2)
          clear hb2 HS1
          go_wp2
          go_ret
          exact ⟨rfl, HB⟩
end Go.Proofs.Ytdoofpanbcaigaa
