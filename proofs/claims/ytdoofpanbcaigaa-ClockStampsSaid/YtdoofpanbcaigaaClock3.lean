/-
  THE WALKS of layer 46 (clock): past.
-/
import Derived.Test.YtdoofpanbcaigaaClock2
import Derived.StillTailTactics
namespace Go.Proofs.Ytdoofpanbcaigaa
open Go.RowKit
set_option linter.unusedVariables false
attribute [local go_sem ↓] exec_load_75
attribute [local go_sem] run_loadStep

/-- A log of n steps lies at b. -/
def LogAt (W : World) (b : Addr) (n : Nat) (A : Nat → Array Value) : Prop := ∀ i, i < n → isRange W (b.add (i * 37)) 37 = true ∧ rangeOf W (b.add (i * 37)) 37 = A i
theorem add_block (b : Addr) (m : Nat) : (b.add m).block = b.block := by unfold Addr.add; split <;> rfl
theorem Only.cell {g : Nat} {w w' : World} (h : Only g w w') {p : Addr} (hp : p.block ≠ g) : w'.cell? p = w.cell? p := World.cell?_of_block (w := w) (h.block _ hp)
theorem log_lt {W : World} {b : Addr} {n : Nat} {A : Nat → Array Value} (h : LogAt W b n A) {i : Nat} (hi : i < n) : b.block < W.heap.size := by
  have h0 := List.all_eq_true.1 (h i hi).1 0 (by simp)
  obtain ⟨v, hv⟩ := Option.isSome_iff_exists.1 h0
  rcases Nat.lt_or_ge b.block W.heap.size with h' | h'
  · exact h'
  · unfold World.cell? at hv
    simp [add_block, Array.getElem?_eq_none h'] at hv
theorem log_below {w W : World} {b : Addr} {n : Nat} {A : Nat → Array Value} (h : LogAt w b n A) (hb : Below w.heap.size w W) : LogAt W b n A := fun i hi => by
  have e := range_same (W := w) (W' := W) (p := b.add (i * 37)) (n := 37) (hb.block _ (by rw [add_block]; exact log_lt h hi))
  rw [e.1, e.2]; exact h i hi

theorem row_keep {W W' : World} {g : Nat} {t : TypeId} {n : Nat} {f : Nat → Value} (h : W.rowIs g t n f) (hb : Below W.heap.size W W') : W'.rowIs g t n f := h.of_block (hb.block _ h.lt)

theorem info4c : (Try.prog.info? 4).map (fun i => (i.zero, i.size, i.bytes)) = some (some (.bool false), 1, 1) := by kernel_rfl
theorem info81c : (Try.prog.info? 81).map (fun i => (i.zero, i.size, i.bytes)) = some (some (.slice none 0 0), 1, 24) := by kernel_rfl

abbrev rowV (gs : Nat → Nat) (n k : Nat) : Nat → Value := fun j => if j < k then .slice (some ⟨gs j, 0, none⟩) n n else .slice none 0 0
/-- Which step leads to which, of a log. -/
def ldOf (A : Nat → Array Value) (i k : Nat) : Bool := leads (A i) (A k)

/-- k rows are done. -/
structure PastAt (w W : World) (n : Nat) (gs : Nat → Nat) (ld : Nat → Nat → Bool) (k : Nat) : Prop where
  below : Below w.heap.size w W
  top : W.rowIs w.heap.size 81 n (rowV gs n k)
  own : ∀ j, j < k → w.heap.size < gs j
  rise : ∀ i j, i < j → j < k → gs i < gs j
  done : ∀ j, j < k → W.rowIs (gs j) 4 n (fun i => .bool (Plain.rb ld i j))
/-- .. and row k is under way, its steps from t on seen. -/
structure PastIn (w W : World) (n : Nat) (gs : Nat → Nat) (ld : Nat → Nat → Bool) (k t : Nat) : Prop where
  below : Below w.heap.size w W
  top : W.rowIs w.heap.size 81 n (rowV gs n (k + 1))
  own : ∀ j, j < k + 1 → w.heap.size < gs j
  rise : ∀ i j, i < j → j < k + 1 → gs i < gs j
  done : ∀ j, j < k → W.rowIs (gs j) 4 n (fun i => .bool (Plain.rb ld i j))
  cur : W.rowIs (gs k) 4 n (fun i => .bool (Plain.mb ld k t i))

theorem pastIn_below {w W W' : World} {n k t : Nat} {gs : Nat → Nat} {ld : Nat → Nat → Bool} (h : PastIn w W n gs ld k t) (hb : Below W.heap.size W W') : PastIn w W' n gs ld k t :=
  ⟨h.below.trans (hb.mono h.below.size), row_keep h.top hb, h.own, h.rise, fun j hj => row_keep (h.done j hj) hb, row_keep h.cur hb⟩
theorem past_start (w : World) (n : Nat) (gs : Nat → Nat) (ld : Nat → Nat → Bool) : PastAt w (w.alloc (.cells (madeCells #[.slice none 0 0] n) 81)) n gs ld 0 :=
  ⟨(Below.refl _ _).alloc (Nat.le_refl _) _, (World.rowIs_made w _ n 81).congr fun j _ => by simp [rowV], fun j hj => absurd hj (Nat.not_lt_zero _), fun i j _ hj => absurd hj (Nat.not_lt_zero _), fun j hj => absurd hj (Nat.not_lt_zero _)⟩
/-- A new row, its own place true. -/
theorem past_in {w W : World} {n k : Nat} {gs : Nat → Nat} {ld : Nat → Nat → Bool} (h : PastAt w W n gs ld k) (hk : k < n) :
    PastIn w (((W.alloc (.cells (madeCells #[.bool false] n) 4)).setCell ⟨w.heap.size, k, none⟩ (.slice (some ⟨W.heap.size, 0, none⟩) n n)).setCell ⟨W.heap.size, k, none⟩ (.bool true)) n (fun j => if j = k then W.heap.size else gs j) ld k k := by
  have ht := h.top.lt
  have hlt : ∀ j, j < k → gs j < W.heap.size := fun j hj => (h.done j hj).lt
  refine ⟨((h.below.alloc h.below.size _).setCell (Nat.le_refl _) _).setCell (Nat.le_of_lt ht) _, ?_, fun j hj => ?_, fun i j hij hj => ?_, fun j hj => ?_, ?_⟩
  · refine (((h.top.alloc _).set k _).setOther (show w.heap.size ≠ W.heap.size by omega) _).congr fun j hj => ?_
    simp only [rowV]
    by_cases e : j = k
    · subst e; simp
    · by_cases e2 : j < k
      · simp [e, e2, show j < k + 1 by omega]
      · simp [e, e2, show ¬ j < k + 1 by omega]
  · by_cases e : j = k
    · simp [e]; exact ht
    · simp [e]; exact h.own j (by omega)
  · have e1 : i ≠ k := by omega
    by_cases e : j = k
    · simp [e, e1]; exact hlt i (by omega)
    · simp [e, e1]; exact h.rise i j hij (by omega)
  · have e : j ≠ k := by omega
    have l1 := hlt j hj
    have l2 := h.own j hj
    simp only [e, if_false]
    exact (((h.done j hj).alloc _).setOther (show gs j ≠ w.heap.size by omega) _).setOther (show gs j ≠ W.heap.size by omega) _
  · simp only [if_true]
    refine (((World.rowIs_made W (.bool false) n 4).setOther (show W.heap.size ≠ w.heap.size by omega) _).set k _).congr fun j hj => ?_
    rw [Plain.mb_start]
    by_cases e : j = k <;> simp [e]
theorem past_done {w W : World} {n k : Nat} {gs : Nat → Nat} {ld : Nat → Nat → Bool} (h : PastIn w W n gs ld k 0) : PastAt w W n gs ld (k + 1) :=
  ⟨h.below, h.top, h.own, h.rise, fun j hj => by
    by_cases e : j = k
    · subst e; exact h.cur.congr fun i _ => by rw [Plain.mb_end]
    · exact h.done j (by omega)⟩
theorem past_same {w W : World} {n k t t' : Nat} {gs : Nat → Nat} {ld : Nat → Nat → Bool} (h : PastIn w W n gs ld k t) (e : ∀ j, Plain.mb ld k t' j = Plain.mb ld k t j) : PastIn w W n gs ld k t' :=
  ⟨h.below, h.top, h.own, h.rise, h.done, h.cur.congr fun i _ => by rw [e]⟩
theorem past_merged {w W W' : World} {n k u : Nat} {gs : Nat → Nat} {ld : Nat → Nat → Bool} (h : PastIn w W n gs ld k (u + 1)) (hu : u < k) (hl : ld u k = true)
    (hc : W'.rowIs (gs k) 4 n (fun j => .bool (Plain.mb ld k (u + 1) j || Plain.rb ld j u))) (ho : Only (gs k) W W') : PastIn w W' n gs ld k u := by
  have hk := h.own k (by omega)
  refine ⟨h.below.trans (ho.below (by omega)), h.top.of_block (ho.block _ (by omega)), h.own, h.rise, fun j hj => (h.done j hj).of_block (ho.block _ ?_), hc.congr fun i _ => ?_⟩
  · have := h.rise j k hj (by omega); omega
  · rw [Plain.mb_take hu hl]
theorem past_facts {w W : World} {n k u : Nat} {gs : Nat → Nat} {A : Nat → Array Value} {b : Addr} (h : PastIn w W n gs (ldOf A) k (u + 1)) (hL : LogAt w b n A) (hk : k < n) (hu : u < n) :
    W.cell? ⟨w.heap.size, k, none⟩ = some (.slice (some ⟨gs k, 0, none⟩) n n) ∧ W.cell? ⟨gs k, u, none⟩ = some (.bool (Plain.mb (ldOf A) k (u + 1) u)) ∧
    isRange W (b.add (u * 37)) 37 = true ∧ rangeOf W (b.add (u * 37)) 37 = A u ∧ isRange W (b.add (k * 37)) 37 = true ∧ rangeOf W (b.add (k * 37)) 37 = A k := by
  have hl := log_below hL h.below
  exact ⟨by simpa [rowV] using h.top.cell hk, h.cur.cell hu, (hl u hu).1, (hl u hu).2, (hl k hk).1, (hl k hk).2⟩

set_option maxRecDepth 100000 in
set_option maxHeartbeats 8000000 in
/-- clock.past. -/
theorem past_any (a : Option Addr) (b : Addr) (n cp : Nat) (A : Nat → Array Value) (hA : 0 < n → a = some b) (hn : n ≤ 1000) (hS : ∀ i, i < n → IsStep (A i)) (w : World) (hL : LogAt w b n A) :
    Calls Try.prog 86 #[.slice a n cp] w fun e w' => e = .returned (.slice (some ⟨w.heap.size, 0, none⟩) n n) ∧ ∃ gs, PastAt w w' n gs (ldOf A) n := by
  have hmk := run_make_row' (P := Try.prog) 103 81 (.slice none 0 0) 24 Try.underlying103 info81c rfl .i64 .i64 n (by omega) (by omega)
  go_enter Try.func86, Try.ntmps86
  go_wp2
  clear hmk
  go_loopg [11] n (fun g s11 wr => ∃ k : Nat, s11 = .int .i64 k ∧ k ≤ n ∧ g = n - k ∧ ∃ gs, Hid (PastAt w wr n gs (ldOf A) k))
  case atStart => exact ⟨0, rfl, Nat.zero_le _, rfl, fun _ => 0, Lib.hid (past_start w n _ _)⟩
  case round =>
    obtain ⟨k, rfl, hk1, hg, gs0, HP⟩ := hrel
    have HG := Lib.hid hg
    clear hg
    by_cases hk : k < n
    · obtain rfl := hA (by omega)
      have hkz : (k : Int) < (n : Int) := by omega
      have hmk := run_make_row' (P := Try.prog) 81 4 (.bool false) 1 Try.underlying81 info4c rfl .i64 .i64 n (by omega) (by omega)
      have hst1 : ∀ o, (wr.alloc o).cell? ⟨w.heap.size, k, none⟩ = some (.slice none 0 0) := fun o => by simpa [rowV] using (HP.out.top.alloc o).cell hk
      have hst2 : ∀ o, (wr.alloc o).frozen? ⟨w.heap.size, k, none⟩ = false := fun o => (HP.out.top.alloc o).frozen k
      have hlt := HP.out.top.lt
      have hne : w.heap.size ≠ wr.heap.size := by omega
      have f1 : ((wr.alloc (.cells (madeCells #[.bool false] n) 4)).setCell ⟨w.heap.size, k, none⟩ (.slice (some ⟨wr.heap.size, 0, none⟩) n n)).cell? ⟨w.heap.size, k, none⟩ = some (.slice (some ⟨wr.heap.size, 0, none⟩) n n) := by
        simpa using ((HP.out.top.alloc (.cells (madeCells #[.bool false] n) 4)).set k (.slice (some ⟨wr.heap.size, 0, none⟩) n n)).cell hk
      have f0 := (World.rowIs_made wr (.bool false) n 4).setOther (a := ⟨w.heap.size, k, none⟩) (show wr.heap.size ≠ w.heap.size by omega) (.slice (some ⟨wr.heap.size, 0, none⟩) n n)
      have f2 := f0.cell hk
      have f3 := f0.frozen k
      have HI0 := past_in HP.out hk
      have e1 := World.setCell_alloc_past (w := wr) (.cells (madeCells #[.bool false] n) 4) w.heap.size k (.slice (some ⟨wr.heap.size, 0, none⟩) n n) hlt
      have e2 := World.setCell_alloc_at (w := wr.setCell ⟨w.heap.size, k, none⟩ (.slice (some ⟨wr.heap.size, 0, none⟩) n n)) (madeCells #[.bool false] n) 4 wr.heap.size k (.bool true) (by simp)
      rw [e1] at f1 f2 f3 HI0
      rw [e2] at HI0
      have HI := Lib.hid HI0
      clear f0 HI0 e1 e2
      go_upto_region 7 with (fail)
      clear hmk hst1 hst2 hne f1 f2 f3 HP hlt
      generalize (fun j => if j = k then wr.heap.size else gs0 j) = gs at *
      generalize ((wr.setCell ⟨w.heap.size, k, none⟩ (.slice (some ⟨wr.heap.size, 0, none⟩) n n)).alloc (.cells ((madeCells #[.bool false] n).setIfInBounds k (.bool true)) 4)) = W1 at *
      go_wp2_with fail
      go_loopg [5] k (fun g s5 wi => ∃ t : Nat, s5 = .int .i64 ((t : Int) - 1) ∧ t ≤ k ∧ g = t ∧ Hid (PastIn w wi n gs (ldOf A) k t))
      case atStart => exact ⟨k, rfl, Nat.le_refl _, rfl, HI⟩
      case round =>
        obtain ⟨t, hs5, ht, hgt, HI1⟩ := hrel
        have HGT := Lib.hid hgt
        clear hgt HI
        cases t with
        | zero =>
          have e5 : ((0 : Nat) : Int) - 1 = -1 := rfl
          rw [e5] at hs5
          subst hs5
          clear e5
          go_wp2
          go_roundg (n - (k + 1))
          case measure => rw [HG.out]; omega
          case rel => exact ⟨k + 1, rfl, by omega, rfl, gs, Lib.hid (past_done HI1.out)⟩
        | succ u =>
          have e5 : ((u + 1 : Nat) : Int) - 1 = (u : Int) := by omega
          rw [e5] at hs5
          subst hs5
          clear e5
          have hu : u < n := by omega
          have huz : (u : Int) < (n : Int) := by omega
          have HI2 := pastIn_below HI1.out (Below.refl _ _).drew
          cases hB : Plain.mb (ldOf A) k (u + 1) u
          · cases hl : leads (A u) (A k)
            · go_upto_region 10 with (fail)
              refine region_class (fun W' => PastIn w W' n gs (ldOf A) k (u + 1)) (by kernel_rfl) (by kernel_rfl) HI2 ?_
              repeat (first
                | go_big_quiet_skip
                | (go_big_quiet_want
                   apply class_op
                   · intro W hS'
                     have hK := hS'
                     obtain ⟨q1, q2, q3, q4, q5, q6⟩ := past_facts hK hL hk hu
                     go_simp
                     try first
                       | with_reducible rfl
                       | (go_at_call 61; refine (leads_any (hS _ hu) (hS _ hk) _).mono ?_; rintro e w' ⟨rfl, hb'⟩; exact ⟨rfl, pastIn_below hK hb'⟩)
                   go_big_quiet_on
                   try simp only [Act.put, List.setIfInBounds_toArray, List.set_cons_zero, List.set_cons_succ]))
              refine wpQuiet_nil ?_
              intro w2 hS2
              have HI3 := Lib.hid hS2
              clear hS2 HI2
              go_wp2
              go_roundg u
              case measure => rw [HGT.out]; omega
              case rel => exact ⟨u, rfl, by omega, rfl, Lib.hid (past_same HI3.out (Plain.mb_no (ld := ldOf A) hl))⟩
            · go_upto_region 10 with (fail)
              refine region_class (fun W' => PastIn w W' n gs (ldOf A) k (u + 1)) (by kernel_rfl) (by kernel_rfl) HI2 ?_
              repeat (first
                | go_big_quiet_skip
                | (go_big_quiet_want
                   apply class_op
                   · intro W hS'
                     have hK := hS'
                     obtain ⟨q1, q2, q3, q4, q5, q6⟩ := past_facts hK hL hk hu
                     go_simp
                     try first
                       | with_reducible rfl
                       | (go_at_call 61; refine (leads_any (hS _ hu) (hS _ hk) _).mono ?_; rintro e w' ⟨rfl, hb'⟩; exact ⟨rfl, pastIn_below hK hb'⟩)
                   go_big_quiet_on
                   try simp only [Act.put, List.setIfInBounds_toArray, List.set_cons_zero, List.set_cons_succ]))
              refine wpQuiet_nil ?_
              intro w2 hS2
              have HI3 := Lib.hid hS2
              have t1 : w2.cell? ⟨w.heap.size, k, none⟩ = some (.slice (some ⟨gs k, 0, none⟩) n n) := by simpa [rowV] using hS2.top.cell hk
              have t2 : w2.cell? ⟨w.heap.size, u, none⟩ = some (.slice (some ⟨gs u, 0, none⟩) n n) := by simpa [rowV, show u < k + 1 by omega] using hS2.top.cell hu
              have hne : gs k ≠ gs u := by have := hS2.rise u k (by omega) (by omega); omega
              have hng : gs k ≠ w.heap.size := by have := hS2.own k (by omega); omega
              have hc1 := hS2.cur
              have hc2 := hS2.done u (by omega)
              clear hS2 HI2
              go_upto_region 11 with (fail)
              go_region_held3 (fun W' => W'.cell? ⟨w.heap.size, k, none⟩ = some (.slice (some ⟨gs k, 0, none⟩) n n) ∧ W'.cell? ⟨w.heap.size, u, none⟩ = some (.slice (some ⟨gs u, 0, none⟩) n n))
                (first
                  | with_reducible assumption
                  | exact ⟨t1, t2⟩
                  | exact ⟨(ho.cell (p := ⟨_, _, none⟩) (Ne.symm hng)).trans t1, (ho.cell (p := ⟨_, _, none⟩) (Ne.symm hng)).trans t2⟩)
                (first | (go_at_call 89; refine (merge_any (gs k) (gs u) n _ _ hne (by omega) w2.drew hc1 hc2).mono ?_; rintro e w3 ⟨rfl, hc, ho⟩))
              all_goals go_wp2
              all_goals go_roundg u
              case measure => rw [HGT.out]; omega
              case rel => exact ⟨u, rfl, by omega, rfl, Lib.hid (past_merged (pastIn_below HI3.out (Below.refl _ _).drew) (by omega) hl hc ho)⟩
          · go_upto_region 10 with (fail)
            refine region_class (fun W' => PastIn w W' n gs (ldOf A) k (u + 1)) (by kernel_rfl) (by kernel_rfl) HI2 ?_
            repeat (first
              | go_big_quiet_skip
              | (go_big_quiet_want
                 apply class_op
                 · intro W hS'
                   have hK := hS'
                   obtain ⟨q1, q2, q3, q4, q5, q6⟩ := past_facts hK hL hk hu
                   go_simp
                   try first
                     | with_reducible rfl
                     | (go_at_call 61; refine (leads_any (hS _ hu) (hS _ hk) _).mono ?_; rintro e w' ⟨rfl, hb'⟩; exact ⟨rfl, pastIn_below hK hb'⟩)
                 go_big_quiet_on
                 try simp only [Act.put, List.setIfInBounds_toArray, List.set_cons_zero, List.set_cons_succ]))
            refine wpQuiet_nil ?_
            intro w2 hS2
            have HI3 := Lib.hid hS2
            clear hS2 HI2
            go_wp2
            go_roundg u
            case measure => rw [HGT.out]; omega
            case rel => exact ⟨u, rfl, by omega, rfl, Lib.hid (past_same HI3.out (Plain.mb_skip (by omega) hB))⟩
    · go_wp2
      go_ret
      obtain rfl : k = n := by omega
      exact ⟨rfl, gs0, HP.out⟩
end Go.Proofs.Ytdoofpanbcaigaa
