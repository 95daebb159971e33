/-
  FEW NUMBERS ARE SORTED.
  THE FIRST OF THOSE THAT COUNT.
  THE FIRST OF THOSE THAT COUNT: rank.First.
-/
import Derived.Test.YtnncjbkepakgpaaGreatA07
import Derived.Test.YtnncjbkepakgpaaGreatA10
import Derived.Test.YtnncjbkepakgpaaGreatA19
import Derived.Lib.MinMax
import Derived.Test.YtnncjbkepakgpaaGreatA06
namespace Go.Proofs.YtnncjbkepakgpaaGreat
set_option linter.unusedVariables false
set_option linter.unusedSimpArgs false
set_option maxRecDepth 100000
set_option maxHeartbeats 4000000
section
open Go.RowKit
attribute [local go_sem ↓] exec_load_75 exec_store_75
attribute [local go_sem] run_load75r run_store75i lt_up isRng_new rngOf_new isRange_past rangeOf_past isRange_drew rangeOf_drew fits_new fits_past fits_drew setAt_new setAt_past setAt_drew putAt_whole putAt_lit extract_whole extract_lit one_int one_bool one_slice one_ptr ones_lit onesL_nil onesL_cons isRow_new rowOf_new isRow_past rowOf_past isRow_drew rowOf_drew lt2 lt3 lt4 List.take_succ_cons List.take_zero List.drop_succ_cons List.drop_zero List.cons_append List.nil_append List.length_cons List.length_nil List.size_toArray sr_size sr_row sr_row' sr_isRow sr_isRow' sr_fits' sr_cell' sr_frozen' sr_isRange' sr_rangeOf' sr_isCells isCells_new isCells_past isCells_drew valC_size valC_ones opC_size opC_ones replyC_size
theorem tailSort1 {p : Prop} (h : p := by
  have hwr : IntKind.i64.wrap ((i : Int) + 1) = (i : Int) + 1 := by rw [IntKind.wrap_i64]; omega
  go_wp2
  go_roundg (D0.length - (i + 1))
  case measure => rw [HG.out]; omega
  case rel => exact ⟨i + 1, D, by simp, by omega, by omega, rfl, Lib.hid ⟨HPr.out, HSr.out.keep hgr hS1.out, HUr.out.trans (Upto.of_below hS1.out)⟩⟩) : p := h
theorem tailSort2 {p : Prop} (h : p := by
  have xx := alk hS.out; (try have zz := zs w.heap.size W.heap.size)
  go_simp
  try first
    | with_reducible rfl
    | (go_at_call 333; refine (hc W (HUr.out.trans (Upto.of_below hS.out)) D[m + 1] D[m] hd1 hd0).mono ?_; rintro e w' ⟨rfl, hb⟩; exact ⟨rfl, below_next hS hb⟩)) : p := h
def intV (a : Nat) : Value := .int .i64 (a : Int)
/-- The numbers D lie in block g, R behind them. -/
structure SortAt (W : World) (g : Nat) (D : List Nat) (R : List Value) : Prop where
  own : isCells W g = true
  row : rowOf W g = (D.map intV ++ R).toArray
theorem SortAt.cell {W : World} {g : Nat} {D : List Nat} {R : List Value} (h : SortAt W g D R) {i : Nat} (hi : i < D.length) : W.cell? ⟨g, i, none⟩ = some (.int .i64 (D[i] : Nat)) := by
  rw [own_cell _ h.own, h.row]
  simp [List.getElem?_append_left, hi, intV]
theorem SortAt.frozen {W : World} {g : Nat} {D : List Nat} {R : List Value} (h : SortAt W g D R) (i : Nat) : W.frozen? ⟨g, i, none⟩ = false := own_frozen _ h.own
theorem SortAt.keep {W W' : World} {g : Nat} {D : List Nat} {R : List Value} (h : SortAt W g D R) (hg : g < W.heap.size) (k : Below W.heap.size W W') : SortAt W' g D R :=
  ⟨by rw [(alike k).2.2.2.2.2.2.2.1 g hg]; exact h.own, by rw [(alike k).2.1 g hg]; exact h.row⟩
theorem SortAt.set {W : World} {g : Nat} {D : List Nat} {R : List Value} (h : SortAt W g D R) {i : Nat} (hi : i < D.length) (a : Nat) : SortAt (W.setCell ⟨g, i, none⟩ (.int .i64 (a : Int))) g (D.set i a) R := by
  rw [own_set _ _ h.own]
  refine ⟨by rw [sr_isCells]; exact h.own, ?_⟩
  rw [sr_row _ h.own, h.row]
  simp only [List.setIfInBounds_toArray]
  rw [List.set_append_left _ _ (by simpa using hi), List.map_set]
  rfl
theorem upto_setSelf {T : Nat} {a w : World} (h : Upto T a w) (i : Nat) (v : Value) : Upto T a (w.setCell ⟨T, i, none⟩ v) := h.set i v
/-- slices.insertionSortCmpFunc: the same numbers, in some order. -/
theorem insertion_law (g cap n b1 b2 b3 : Nat) (cf : Nat → Nat → Int) (D0 : List Nat) (R : List Value) (w : World) (hD : ∀ a ∈ D0, a < n) (hcmp : ∀ W, Upto g w W → ∀ i k : Nat, i < n → k < n → Calls Tryz.prog 333 #[.int .i64 (i : Nat), .int .i64 (k : Nat), .pointer (some ⟨b1, 0, none⟩), .pointer (some ⟨b2, 0, none⟩), .pointer (some ⟨b3, 0, none⟩)] W fun e w' => e = .returned (.int .i64 (cf i k)) ∧ Below W.heap.size W w') (h : SortAt w g D0 R) (hg : g < w.heap.size) (hl : D0.length ≤ 100) :
    Calls Tryz.prog 349 #[.slice (some ⟨g, 0, none⟩) D0.length cap, .int .i64 0, .int .i64 D0.length, .func (.func 333) #[] #[.pointer (some ⟨b1, 0, none⟩), .pointer (some ⟨b2, 0, none⟩), .pointer (some ⟨b3, 0, none⟩)]] w fun e w' => e = .returned (.tuple #[]) ∧ ∃ D, D.Perm D0 ∧ SortAt w' g D R ∧ Upto g w w' := by
  have HCM := Lib.hid hcmp
  have HS0 := Lib.hid h
  clear hcmp h
  go_enter Tryz.func349, Tryz.ntmps349
  go_wp2
  go_loopg [8] (D0.length - 1) (fun gk s8 wr => ∃ (i : Nat) (D : List Nat), s8 = .int .i64 (i : Int) ∧ i ≤ D0.length + 1 ∧ 1 ≤ i ∧ gk = D0.length - i ∧ Hid (D.Perm D0 ∧ SortAt wr g D R ∧ Upto g w wr))
  case atStart => exact ⟨1, D0, rfl, by omega, Nat.le_refl _, by omega, Lib.hid ⟨List.Perm.refl _, HS0.out, Upto.refl _ _⟩⟩
  case round =>
    obtain ⟨i, D, rfl, hi1, hi0, hgk, HH⟩ := hrel
    have HG := Lib.hid hgk
    clear hgk
    by_cases hi : i < D0.length
    · have hiz : (i : Int) < (D0.length : Int) := by omega
      go_wp2
      go_loopg [9] i (fun gj s9 wr => ∃ (j : Nat) (D : List Nat), s9 = .int .i64 (j : Int) ∧ gj = j ∧ j ≤ i ∧ Hid (D.Perm D0 ∧ SortAt wr g D R ∧ Upto g w wr))
      case atStart => exact ⟨i, D, rfl, rfl, Nat.le_refl _, HH⟩
      case round =>
        obtain ⟨j, D, rfl, hgj, hji, HH⟩ := hrel
        have HGJ := Lib.hid hgj
        clear hgj
        obtain ⟨hp, hS, hU⟩ := HH.out
        have hlen := hp.length_eq
        have HSr := Lib.hid hS
        have HUr := Lib.hid hU
        have HPr := Lib.hid hp
        have hgr : g < wr.heap.size := Nat.lt_of_lt_of_le hg hU.size
        clear hS hU
        cases j with
        | zero =>
          go_upto_region 4 with (fail)
          refine region_still (by kernel_rfl) (by kernel_rfl) ?_
          repeat (first
            | go_big_quiet_skip
            | (go_big_quiet_want
               apply class_op
               · intro W hS
                 have xx := alk hS.out; (try have zz := zs w.heap.size W.heap.size)
                 go_simp
                 try first
                   | with_reducible rfl
               go_big_quiet_on
               try simp only [PT]))
          refine wpQuiet_nil ?_
          intro w1 hS1
          have xxa := alk hS1.out; (try have zza := zs w.heap.size w1.heap.size)
          have hws := HUr.out.size
          have hw1s := hS1.out.size
          exact tailSort1
        | succ m =>
          have hj1 : m + 1 < D.length := by omega
          have hj0 : m < D.length := by omega
          have c1 := HSr.out.cell hj1
          have c0 := HSr.out.cell hj0
          have f1 := HSr.out.frozen (m + 1)
          have f0 := HSr.out.frozen m
          have hc := HCM.out
          have hd1 : D[m + 1] < n := hD _ (HPr.out.mem_iff.1 (List.getElem_mem hj1))
          have hd0 : D[m] < n := hD _ (HPr.out.mem_iff.1 (List.getElem_mem hj0))
          have hgt : ((m : Int) + 1 > 0) := by omega
          have hsub : IntKind.i64.wrap ((m : Int) + 1 - 1) = (m : Int) := by rw [IntKind.wrap_i64]; omega
          have hb1 : (m : Int) + 1 < (D0.length : Int) := by omega
          have hb0 : (m : Int) < (D0.length : Int) := by omega
          have hn1 : ¬ ((m : Int) + 1 < 0) := by omega
          have ht1 : ((m : Int) + 1).toNat = m + 1 := by omega
          have hgt' : (((m + 1 : Nat) : Int) > 0) := by omega
          have hsub' : IntKind.i64.wrap (((m + 1 : Nat) : Int) - 1) = (m : Int) := by rw [IntKind.wrap_i64]; omega
          have hsub2 : ((m + 1 : Nat) : Int) - 1 = (m : Int) := by omega
          have hb1' : ((m + 1 : Nat) : Int) < (D0.length : Int) := by omega
          have hn1' : ¬ (((m + 1 : Nat) : Int) < 0) := by omega
          have hn0' : ¬ ((m : Int) < 0) := by omega
          have hwm : IntKind.i64.wrap (m : Int) = (m : Int) := by rw [IntKind.wrap_i64]; omega
          have h0m : 0 ≤ (m : Int) + 1 := by omega
          have h0m' : 0 ≤ (m : Int) := by omega
          by_cases hlt : cf D[m + 1] D[m] < 0
          · go_upto_region 4 with (fail)
            refine region_still (by kernel_rfl) (by kernel_rfl) ?_
            repeat (first
              | go_big_quiet_skip
              | (go_big_quiet_want
                 apply class_op
                 · intro W hS
                   exact tailSort2
                 go_big_quiet_on
                 try simp only [PT]))
            refine wpQuiet_nil ?_
            intro w1 hS1
            have xxa := alk hS1.out; (try have zza := zs w.heap.size w1.heap.size)
            have hg1 : g < w1.heap.size := Nat.lt_of_lt_of_le hgr hS1.out.size
            have HS1 := Lib.hid (HSr.out.keep hgr hS1.out)
            have c1 := HS1.out.cell hj1
            have c0 := HS1.out.cell hj0
            have f1 := HS1.out.frozen (m + 1)
            have f0 := HS1.out.frozen m
            go_upto_region 6 with (fail)
            refine region_keep [2, 3, 4] [0, 1, 5, 6, 7, 8, 9, 10, 11, 12, 13, 14] [15, 16, 17] (by kernel_rfl) (by kernel_rfl) (fun _ _ d _ _ h => by cases d <;> exact h) ?_
            simp only [PL]
            apply first_op
            · intro W; go_simp; try with_reducible rfl
            try simp only [PT]
            apply first_op
            · intro W; go_simp; try with_reducible rfl
            try simp only [PT]
            apply first_op
            · intro W; go_simp; try with_reducible rfl
            try simp only [PT]
            refine first_nil ?_
            repeat (first
              | go_big_quiet_skip
              | (go_big_quiet_want
                 apply class_op
                 · intro W hS
                   have xx := alk hS.out; (try have zz := zs w.heap.size W.heap.size)
                   go_simp
                   try first
                     | with_reducible rfl
                 go_big_quiet_on
                 try simp only [PT]))
            refine wpQuiet_nil ?_
            intro w2 hS2
            have xxb := alk hS2.out; (try have zzb := zs w.heap.size w2.heap.size)
            have hg2 : g < w2.heap.size := Nat.lt_of_lt_of_le hg1 hS2.out.size
            have HS2 := Lib.hid (HS1.out.keep hg1 hS2.out)
            have c1 := HS2.out.cell hj1
            have c0 := HS2.out.cell hj0
            have f1 := HS2.out.frozen (m + 1)
            have f0 := HS2.out.frozen m
            go_wp2
            go_roundg m
            case measure => rw [HGJ.out]; omega
            case rel => exact ⟨m, (D.set (m + 1) D[m]).set m D[m + 1], rfl, rfl, by omega, Lib.hid ⟨(List.set_set_perm hj1 hj0).trans HPr.out, (HS2.out.set hj1 D[m]).set (by simpa using hj0) D[m + 1], ((((HUr.out.trans (Upto.of_below hS1.out)).trans (Upto.of_below hS2.out)).set _ _).set _ _)⟩⟩
          · go_upto_region 4 with (fail)
            refine region_still (by kernel_rfl) (by kernel_rfl) ?_
            repeat (first
              | go_big_quiet_skip
              | (go_big_quiet_want
                 apply class_op
                 · intro W hS
                   exact tailSort2
                 go_big_quiet_on
                 try simp only [PT]))
            refine wpQuiet_nil ?_
            intro w1 hS1
            have xxa := alk hS1.out; (try have zza := zs w.heap.size w1.heap.size)
            exact tailSort1
    · have hiz : ¬ ((i : Int) < (D0.length : Int)) := by omega
      obtain ⟨hp, hS, hU⟩ := HH.out
      go_wp2
      exact bodyPost_end (results_none rfl _ _ _) rfl ⟨rfl, D, hp, hS, hU⟩
/-- slices.stableCmpFunc, of few. -/
theorem stable_law (g cap n b1 b2 b3 : Nat) (cf : Nat → Nat → Int) (D0 : List Nat) (R : List Value) (w : World) (hD : ∀ a ∈ D0, a < n) (hcmp : ∀ W, Upto g w W → ∀ i k : Nat, i < n → k < n → Calls Tryz.prog 333 #[.int .i64 (i : Nat), .int .i64 (k : Nat), .pointer (some ⟨b1, 0, none⟩), .pointer (some ⟨b2, 0, none⟩), .pointer (some ⟨b3, 0, none⟩)] W fun e w' => e = .returned (.int .i64 (cf i k)) ∧ Below W.heap.size W w') (h : SortAt w g D0 R) (hg : g < w.heap.size) (hl : D0.length ≤ 19) :
    Calls Tryz.prog 338 #[.slice (some ⟨g, 0, none⟩) D0.length cap, .int .i64 D0.length, .func (.func 333) #[] #[.pointer (some ⟨b1, 0, none⟩), .pointer (some ⟨b2, 0, none⟩), .pointer (some ⟨b3, 0, none⟩)]] w fun e w' => e = .returned (.tuple #[]) ∧ ∃ D, D.Perm D0 ∧ SortAt w' g D R ∧ Upto g w w' := by
  have HL := Lib.hid (insertion_law g cap n b1 b2 b3 cf D0 R w hD hcmp h hg (by omega))
  clear hcmp h
  have h20 : ¬ ((20 : Int) ≤ (D0.length : Int)) := by omega
  have h20' : ¬ ((20 : Int) < (D0.length : Int)) := by omega
  go_enter Tryz.func338, Tryz.ntmps338
  go_wp2
  go_loopg [7, 8] 0 (fun gk s7 s8 wr => s7 = .int .i64 0 ∧ s8 = .int .i64 20 ∧ wr = w)
  case atStart => exact ⟨rfl, rfl, rfl⟩
  case round =>
    obtain ⟨rfl, rfl, rfl⟩ := hrel
    go_wp2_with (go_at_call 349; refine HL.out.mono ?_; rintro e w1 ⟨rfl, D, hp, hS, hU⟩; have HR := Lib.hid (show D.Perm D0 ∧ SortAt w1 g D R ∧ Upto g wr w1 from ⟨hp, hS, hU⟩); clear hp hS hU)
    go_loopg [6] 0 (fun gk s6 wx => s6 = .int .i64 20 ∧ wx = w1)
    case atStart => exact ⟨rfl, rfl⟩
    case round =>
      obtain ⟨rfl, rfl⟩ := hrel
      go_wp2
      exact bodyPost_end (results_none rfl _ _ _) rfl ⟨rfl, D, HR.out⟩
/-- slices.SortStableFunc, of few. -/
theorem sort_law (g cap n b1 b2 b3 : Nat) (cf : Nat → Nat → Int) (D0 : List Nat) (R : List Value) (w : World) (hD : ∀ a ∈ D0, a < n) (hcmp : ∀ W, Upto g w W → ∀ i k : Nat, i < n → k < n → Calls Tryz.prog 333 #[.int .i64 (i : Nat), .int .i64 (k : Nat), .pointer (some ⟨b1, 0, none⟩), .pointer (some ⟨b2, 0, none⟩), .pointer (some ⟨b3, 0, none⟩)] W fun e w' => e = .returned (.int .i64 (cf i k)) ∧ Below W.heap.size W w') (h : SortAt w g D0 R) (hg : g < w.heap.size) (hl : D0.length ≤ 19) :
    Calls Tryz.prog 332 #[.slice (some ⟨g, 0, none⟩) D0.length cap, .func (.func 333) #[] #[.pointer (some ⟨b1, 0, none⟩), .pointer (some ⟨b2, 0, none⟩), .pointer (some ⟨b3, 0, none⟩)]] w fun e w' => e = .returned (.tuple #[]) ∧ ∃ D, D.Perm D0 ∧ SortAt w' g D R ∧ Upto g w w' := by
  have HL := Lib.hid (stable_law g cap n b1 b2 b3 cf D0 R w hD hcmp h hg hl)
  clear hcmp h
  go_enter Tryz.func332, Tryz.ntmps332
  go_wp2_with (go_at_call 338; refine HL.out.mono ?_; rintro e w1 ⟨rfl, D, hp, hS, hU⟩; have HR := Lib.hid (show D.Perm D0 ∧ SortAt w1 g D R ∧ Upto g w w1 from ⟨hp, hS, hU⟩); clear hp hS hU)
  exact bodyPost_end (results_none rfl _ _ _) rfl ⟨rfl, D, HR.out⟩
end
section
open Go.RowKit
attribute [local go_sem ↓] exec_load_75 exec_store_75
attribute [local go_sem] run_load75r run_store75i lt_up isRng_new rngOf_new isRange_past rangeOf_past isRange_drew rangeOf_drew fits_new fits_past fits_drew setAt_new setAt_past setAt_drew putAt_whole putAt_lit extract_whole extract_lit one_int one_bool one_slice one_ptr ones_lit onesL_nil onesL_cons isRow_new rowOf_new isRow_past rowOf_past isRow_drew rowOf_drew lt2 lt3 lt4 List.take_succ_cons List.take_zero List.drop_succ_cons List.drop_zero List.cons_append List.nil_append List.length_cons List.length_nil List.size_toArray setRow_new setRow_past own_cell own_frozen own_set own_isRange own_rangeOf own_fits setAt_row sr_sr sr_size sr_row sr_row' sr_isRow sr_isRow' sr_fits' sr_cell' sr_frozen' sr_isRange' sr_rangeOf' sr_isCells isCells_new isCells_past isCells_drew valC_size valC_ones opC_size opC_ones replyC_size
def intC (a : Nat) : Array Value := #[.int .i64 (a : Int)]
theorem flat_ints (A : List Nat) : flat (A.map intC) = A.map intV := by
  induction A with
  | nil => rfl
  | cons a A ih => simp only [flat, List.map_cons, List.flatMap_cons] at ih ⊢; rw [ih]; rfl
theorem ints_own {W : World} {B : Nat} {v : Value} {A : List Nat} (h : Own W B 3 1 v (A.map intC)) : (v = .slice none 0 0 ∧ A = []) ∨ ∃ g cap R, v = .slice (some ⟨g, 0, none⟩) A.length cap ∧ B ≤ g ∧ g < W.heap.size ∧ SortAt W g A R ∧ A.length ≤ cap ∧ cap ≤ maxLen := by
  obtain ⟨⟨h1, h2⟩, h3⟩ := h
  rcases h2 with ⟨rfl, h2⟩ | ⟨g, cap, cur, rfl, h4, h5, h6, h7, h8, h9⟩
  · left; exact ⟨rfl, by simpa using h2⟩
  · right
    rw [List.length_map] at h6 h9 ⊢
    have hg := (Array.getElem?_eq_some_iff.1 h5).1
    refine ⟨g, cap, cur.toList.drop A.length, rfl, h4, hg, ⟨?_, ?_⟩, h6, h7⟩
    · unfold isCells; rw [h5]; rfl
    · unfold rowOf
      rw [h5]
      simp only
      rw [← flat_ints, ← h9, Nat.mul_one, List.take_append_drop]
theorem ints_sl {W : World} {g m cap : Nat} {D : List Nat} {R : List Value} (h : SortAt W g D R) (hm : m ≤ D.length) (hg : g < W.heap.size) (h1 : m ≤ cap) (h2 : cap ≤ maxLen) : Sl W (.slice (some ⟨g, 0, none⟩) m cap) 1 ((D.take m).map intC) := by
  refine ⟨_, cap, by simp [Nat.min_eq_left hm], by simpa [Nat.min_eq_left hm] using h1, h2, .inr ⟨g, 0, rfl, hg, fun i C hC => ?_⟩⟩
  simp only [List.getElem?_map, List.getElem?_take] at hC
  split at hC
  · rename_i him
    have hi : i < D.length := by omega
    rw [List.getElem?_eq_getElem hi] at hC
    simp only [Option.map_some, Option.some.injEq] at hC
    subst hC
    have hc := h.cell hi
    have hr := range_of (W := W) (p := ⟨g, 0 + i * 1, none⟩) (cs := [.int .i64 (D[i] : Nat)]) (n := 1) rfl (fun k v hv => by
      match k, hv with
      | 0, hv => simp only [List.getElem?_cons_zero, Option.some.injEq] at hv; subst hv; simpa [addr_add] using hc
      | k + 1, hv => simp at hv)
    exact ⟨hg, hr.1, hr.2, rfl⟩
  · simp at hC
/-- The order that sorts. -/
theorem closure_law (P : List Nat) (v : Value) (by' b1 b2 b3 i k : Nat) (hb : by' = 1 ∨ by' = 4) (w : World) (hs : Sl w v 10 (P.map peerC)) (l1 : b1 < w.heap.size) (l2 : b2 < w.heap.size) (l3 : b3 < w.heap.size) (h1 : w.cell? ⟨b1, 0, none⟩ = some v) (h2 : w.cell? ⟨b2, 0, none⟩ = some (.int .i64 by')) (h3 : w.cell? ⟨b3, 0, none⟩ = some (.int .u64 1)) (hi : i < P.length) (hk : k < P.length) :
    Calls Tryz.prog 333 #[.int .i64 (i : Nat), .int .i64 (k : Nat), .pointer (some ⟨b1, 0, none⟩), .pointer (some ⟨b2, 0, none⟩), .pointer (some ⟨b3, 0, none⟩)] w fun e w' => e = .returned (.int .i64 (fullO by' P[i] P[k])) ∧ Below w.heap.size w w' := by
  obtain ⟨a, cap, rfl, q1, q2, q3⟩ := hs
  rw [List.length_map] at q1 h1
  rcases q3 with ⟨_, q3⟩ | ⟨g, o, rfl, hg, q3⟩
  · simp at q3; subst q3; simp at hi
  have hEi := q3 i (peerC P[i]) (by simp [hi])
  have hEk := q3 k (peerC P[k]) (by simp [hk])
  have e1 := hEi.is
  have e2 := hEi.of
  have e3 := hEk.is
  have e4 := hEk.of
  have hiz : (i : Int) < (P.length : Int) := by omega
  have hkz : (k : Int) < (P.length : Int) := by omega
  have n1 : 0 ≤ (i : Int) := by omega
  have n2 : 0 ≤ (k : Int) := by omega
  clear q3
  go_enter Tryz.func333, Tryz.ntmps333
  go_upto_region 1 with (fail)
  refine region_still (by kernel_rfl) (by kernel_rfl) ?_
  repeat (first
    | go_big_quiet_skip
    | (go_big_quiet_want
       apply class_op
       · intro W hS
         have xx := alk hS.out; (try have zz := zs w.heap.size W.heap.size)
         go_simp
         try first
           | with_reducible rfl
           | (go_at_call 334; refine (full_cmp by' P[i] P[k] hb _).mono ?_; rintro e w' ⟨rfl, hb⟩; exact ⟨rfl, below_next hS hb⟩)
       go_big_quiet_on
       try simp only [PT]))
  refine wpQuiet_nil ?_
  intro w1 hS1
  have xxa := alk hS1.out; (try have zza := zs w.heap.size w1.heap.size)
  go_wp2
  go_ret
  exact ⟨rfl, bk0⟩
end
section
open Go.RowKit
attribute [local go_sem ↓] exec_load_75 exec_store_75
attribute [local go_sem] run_load75r run_store75i lt_up isRng_new rngOf_new isRange_past rangeOf_past isRange_drew rangeOf_drew fits_new fits_past fits_drew setAt_new setAt_past setAt_drew putAt_whole putAt_lit extract_whole extract_lit one_int one_bool one_slice one_ptr ones_lit onesL_nil onesL_cons isRow_new rowOf_new isRow_past rowOf_past isRow_drew rowOf_drew lt2 lt3 lt4 List.take_succ_cons List.take_zero List.drop_succ_cons List.drop_zero List.cons_append List.nil_append List.length_cons List.length_nil List.size_toArray setRow_new setRow_past own_cell own_frozen own_set own_isRange own_rangeOf own_fits setAt_row sr_sr sr_size sr_row sr_row' sr_isRow sr_isRow' sr_fits' sr_cell' sr_frozen' sr_isRange' sr_rangeOf' sr_isCells isCells_new isCells_past isCells_drew valC_size valC_ones opC_size opC_ones replyC_size
theorem packFirst21 {p : Prop} (h : PQ p := by
  have hE := (q3 k (peerC P[k]) (by simp [hk])).block ((hB0.out.trans (hK.out.mono (by simp; omega))).block g hg')
  have e1 := hE.is
  have e2 := hE.of
  have hgr := hE.lt
  have hkz : (k : Int) < (P.length : Int) := by omega
  have n1 : 0 ≤ (k : Int) := by omega
  exact pq (And.intro hE (And.intro e1 (And.intro e2 (And.intro hgr (And.intro hkz n1)))))) : p := h
theorem tailFirst21 {p : Prop} (h : p := by
  rw [List.length_range] at HL
  have HLH := Lib.hid HL
  have hmq : min (q : Int) (P.length : Int) = ((min q P.length : Nat) : Int) := by omega
  have hmq2 : min (max (q : Int) 0) (P.length : Int) = ((min q P.length : Nat) : Int) := by omega
  have hm1 : ((min q P.length : Nat) : Int) ≤ (cs : Int) := by omega
  have hm2 : min q P.length ≤ cs := by omega
  have hm3 : 0 ≤ ((min q P.length : Nat) : Int) := by omega
  have hm4 : (((min q P.length : Nat) : Int)).toNat = min q P.length := by omega
  have HB := Lib.hid hB0.out
  have hm5 : min q P.length ≤ P.length := by omega
  have hm6 : P.length ≤ q → min q P.length = P.length := by omega
  clear HL hcm q3
  generalize min q P.length = mq at *
  go_wp2_with (go_at_call 332; refine HLH.out.mono ?_; rintro e w1 ⟨rfl, D, hp, hS1, hU1⟩; have HR := Lib.hid (show D.Perm (List.range P.length) ∧ SortAt w1 gs D R ∧ Upto gs wr w1 from ⟨hp, hS1, hU1⟩); clear hp hS1 hU1)
  obtain ⟨hp, hS1, hU1⟩ := HR.out
  have hDl : D.length = P.length := by simpa using hp.length_eq
  refine bodyPost_ret (results_tmp rfl _ _ _) rfl ?_
  refine ⟨D.take mq, _, rfl, ints_sl hS1 (by omega) (Nat.lt_of_lt_of_le g2 hU1.size) hm2 g4, (by rw [List.length_take]; omega), fun x hx => ?_, fun hq2 x hx => ?_, ?_⟩
  · exact List.mem_range.1 (hp.mem_iff.1 (List.mem_of_mem_take hx))
  · rw [hm6 hq2, ← hDl, List.take_length]
    exact hp.mem_iff.2 (List.mem_range.2 hx)
  · exact (HB.out.trans (hK.out.mono (by simp; omega))).trans (hU1.below (by omega) (by omega))) : p := h
theorem tailFirst22 {p : Prop} (h : p := by
  go_wp2_with (at_builtin; refine app3 rfl (.tmp 22) (.tmp 24) rfl (w.heap.size + 3) _ ((List.range k).map intC) [intC k] rfl (HO.out.below (bk5)) _ _ _ rfl (sl_one _ (intC k) 3 1 _ (by simp) rfl rfl) (by simp only [List.length_map, List.length_range, List.length_singleton]; omega) (by simp <;> omega) ?_; intro v' w3 hown hbel hnil)
  go_roundg (P.length - (k + 1))
  case measure => have := HG.out; omega
  case rel => exact ⟨k + 1, by simp, by have := HG.out; omega, ⟨bk0⟩, Lib.hid (by rw [List.range_succ]; simpa using hown)⟩) : p := h
theorem tailFirst23 {p : Prop} (h : p := by
  have hmm : min (max (q : Int) 0) 0 = 0 := by omega
  have hmm2 : min (q : Int) 0 = 0 := by omega
  go_wp2_with (go_at_call 332; refine (sort_none _ _ _ _).mono ?_; rintro e w1 ⟨rfl, rfl⟩)
  refine bodyPost_ret (results_tmp rfl _ _ _) rfl ?_
  exact ⟨[], _, rfl, Sl.nil _ _, by simp, by simp, fun _ a ha => by omega, bk0⟩) : p := h
theorem tailFirst24 {p : Prop} (h : p := by
  have hkz : ¬ ((P.length : Int) < (P.length : Int)) := by omega
  go_wp2_with (go_at_call 332; refine (sort_none _ _ _ _).mono ?_; rintro e w1 ⟨rfl, rfl⟩)
  refine bodyPost_ret (results_tmp rfl _ _ _) rfl ?_
  exact ⟨rfl, hB0.out.trans (hK.out.mono (by simp; omega))⟩) : p := h
theorem sort_none (a : Option Addr) (cap : Nat) (f : Value) (w : World) : Calls Tryz.prog 332 #[.slice a 0 cap, f] w fun e w' => e = .returned (.tuple #[]) ∧ w' = w := by
  have H349 : ∀ w, Calls Tryz.prog 349 #[.slice a 0 cap, .int .i64 0, .int .i64 0, f] w fun e w' => e = .returned (.tuple #[]) ∧ w' = w := fun w => by
    go_enter Tryz.func349, Tryz.ntmps349
    go_wp2
    go_loopg [8] 0 (fun gk s8 wr => s8 = .int .i64 1 ∧ wr = w)
    case atStart => exact ⟨rfl, rfl⟩
    case round =>
      obtain ⟨rfl, rfl⟩ := hrel
      go_wp2
      exact bodyPost_end (results_none rfl _ _ _) rfl ⟨rfl, rfl⟩
  have H338 : ∀ w, Calls Tryz.prog 338 #[.slice a 0 cap, .int .i64 0, f] w fun e w' => e = .returned (.tuple #[]) ∧ w' = w := fun w => by
    go_enter Tryz.func338, Tryz.ntmps338
    go_wp2
    go_loopg [7, 8] 0 (fun gk s7 s8 wr => s7 = .int .i64 0 ∧ s8 = .int .i64 20 ∧ wr = w)
    case atStart => exact ⟨rfl, rfl, rfl⟩
    case round =>
      obtain ⟨rfl, rfl, rfl⟩ := hrel
      go_wp2_with (go_at_call 349; refine (H349 _).mono ?_; rintro e w1 ⟨rfl, rfl⟩)
      go_loopg [6] 0 (fun gk s6 wx => s6 = .int .i64 20 ∧ wx = w1)
      case atStart => exact ⟨rfl, rfl⟩
      case round =>
        obtain ⟨rfl, rfl⟩ := hrel
        go_wp2
        exact bodyPost_end (results_none rfl _ _ _) rfl ⟨rfl, rfl⟩
  go_enter Tryz.func332, Tryz.ntmps332
  go_wp2_with (go_at_call 338; refine (H338 _).mono ?_; rintro e w1 ⟨rfl, rfl⟩)
  exact bodyPost_end (results_none rfl _ _ _) rfl ⟨rfl, rfl⟩
theorem first1 (P : List Nat) (v : Value) (q : Nat) (w : World) (hs : Sl w v 10 (P.map peerC)) (hq : q ≤ 1000) (hl : P.length ≤ 19) :
    Calls Tryz.prog 321 #[v, .int .i64 1, .int .i64 q, .int .u64 1] w fun e w' => ∃ (G : List Nat) (v' : Value), e = .returned v' ∧ Sl w' v' 1 (G.map intC) ∧ G.length ≤ P.length ∧ (∀ a ∈ G, a < P.length) ∧ (P.length ≤ q → ∀ a, a < P.length → a ∈ G) ∧ Below w.heap.size w w' := by
  obtain ⟨a, cap, rfl, q1, q2, q3⟩ := hs
  rw [List.length_map] at q1 ⊢
  have HS : Hid (Sl w (.slice a P.length cap) 10 (P.map peerC)) := Lib.hid ⟨a, cap, by simp, by simpa using q1, q2, q3⟩
  have hB0 : Hid (Below w.heap.size w (((w.alloc (.cells #[.slice a P.length cap] 55)).alloc (.cells #[.int .i64 1] 3)).alloc (.cells #[.int .u64 1] 25))) := Lib.hid (bk5)
  have hz0 : Own w (w.heap.size + 3) 3 1 (.slice none 0 0) [] := Own.nil _ _ _ _
  go_enter Tryz.func321, Tryz.ntmps321
  go_wp2
  go_loopg [9, 14] P.length (fun g s9 s14 wr => ∃ k : Nat, s14 = .int .i64 (k : Int) ∧ k + g = P.length ∧ Keep (((w.alloc (.cells #[.slice a P.length cap] 55)).alloc (.cells #[.int .i64 1] 3)).alloc (.cells #[.int .u64 1] 25)) wr ∧ Hid (Own wr (w.heap.size + 3) 3 1 s9 ((List.range k).map intC)))
  case atStart => exact ⟨0, rfl, by omega, ⟨Below.refl _ _⟩, Lib.hid (Own.nil _ _ _ _)⟩
  case round =>
    obtain ⟨k, rfl, hg, hK, HO⟩ := hrel
    have HG := Lib.hid hg
    obtain ⟨x1, x2, x3, x4, x5, x6, x7, x8, x9, x10, y9⟩ := alk hK.out; (try have zz := zs w.heap.size wr.heap.size)
    have hws := hK.out.size
    simp at hws
    by_cases hk : k < P.length
    · rcases q3 with ⟨_, q3⟩ | ⟨g, o, rfl, hg', q3⟩
      · simp at q3; subst q3; simp at hk
      obtain ⟨hE, e1, e2, hgr, hkz, n1⟩ := packFirst21
      unfold peerC at e2
      clear q3 hg
      go_upto_region 6 with (go_at_call 331; refine (counts1 P[k] _).mono ?_; rintro e w1 ⟨rfl, rfl⟩)
      exact tailFirst22
    · obtain rfl : k = P.length := by omega
      have hkz : ¬ ((P.length : Int) < (P.length : Int)) := by omega
      have hD : ∀ x ∈ List.range P.length, x < P.length := fun x hx => List.mem_range.1 hx
      have hSr := HS.out.below (hB0.out.trans (hK.out.mono (by simp; omega)))
      rcases ints_own HO.out with ⟨rfl, hnil⟩ | ⟨gs, cs, R, rfl, g1, g2, hS, g3, g4⟩
      · have h0 : P.length = 0 := by simpa using congrArg List.length hnil
        exact tailFirst23
      · rw [List.length_range] at g3 ⊢
        have hc1 : wr.cell? ⟨w.heap.size, 0, none⟩ = some (.slice a P.length cap) := by rw [x6 _ _ (by simp; omega)]; simp [go_sem]
        have hc2 : wr.cell? ⟨w.heap.size + 1, 0, none⟩ = some (.int .i64 1) := by rw [x6 _ _ (by simp)]; simp [go_sem]
        have hc3 : wr.cell? ⟨w.heap.size + 1 + 1, 0, none⟩ = some (.int .u64 1) := by rw [x6 _ _ (by simp)]; simp [go_sem]
        have hcm : ∀ W, Upto gs wr W → ∀ i k : Nat, i < P.length → k < P.length → Calls Tryz.prog 333 #[.int .i64 (i : Nat), .int .i64 (k : Nat), .pointer (some ⟨w.heap.size, 0, none⟩), .pointer (some ⟨w.heap.size + 1, 0, none⟩), .pointer (some ⟨w.heap.size + 1 + 1, 0, none⟩)] W fun e w' => e = .returned (.int .i64 (fullO 1 (P.getD i 0) (P.getD k 0))) ∧ Below W.heap.size W w' := fun W hW i k hi hk => by
          have := closure_law P (.slice a P.length cap) 1 w.heap.size (w.heap.size + 1) (w.heap.size + 1 + 1) i k (by omega) W (hSr.upto hW (fun e => by have := HS.out.lt e; omega)) (by have := hW.size; omega) (by have := hW.size; omega) (by have := hW.size; omega)
            (bk66)
            (bk67)
            (bk68) hi hk
          simpa [List.getD_eq_getElem?_getD, hi, hk] using this
        have HL := sort_law gs cs P.length w.heap.size (w.heap.size + 1) (w.heap.size + 1 + 1) (fun i k => fullO 1 (P.getD i 0) (P.getD k 0)) (List.range P.length) R wr hD hcm hS g2 (by rw [List.length_range]; exact hl)
        exact tailFirst21
theorem first4 (P : List Nat) (v : Value) (q : Nat) (w : World) (hs : Sl w v 10 (P.map peerC)) (hq : q ≤ 1000) (hl : P.length ≤ 19) :
    Calls Tryz.prog 321 #[v, .int .i64 4, .int .i64 q, .int .u64 1] w fun e w' => ∃ (G : List Nat) (v' : Value), e = .returned v' ∧ Sl w' v' 1 (G.map intC) ∧ G.length ≤ P.length ∧ (∀ a ∈ G, a < P.length) ∧ (P.length ≤ q → ∀ a, a < P.length → a ∈ G) ∧ Below w.heap.size w w' := by
  obtain ⟨a, cap, rfl, q1, q2, q3⟩ := hs
  rw [List.length_map] at q1 ⊢
  have HS : Hid (Sl w (.slice a P.length cap) 10 (P.map peerC)) := Lib.hid ⟨a, cap, by simp, by simpa using q1, q2, q3⟩
  have hB0 : Hid (Below w.heap.size w (((w.alloc (.cells #[.slice a P.length cap] 55)).alloc (.cells #[.int .i64 4] 3)).alloc (.cells #[.int .u64 1] 25))) := Lib.hid (bk5)
  have hz0 : Own w (w.heap.size + 3) 3 1 (.slice none 0 0) [] := Own.nil _ _ _ _
  go_enter Tryz.func321, Tryz.ntmps321
  go_wp2
  go_loopg [9, 14] P.length (fun g s9 s14 wr => ∃ k : Nat, s14 = .int .i64 (k : Int) ∧ k + g = P.length ∧ Keep (((w.alloc (.cells #[.slice a P.length cap] 55)).alloc (.cells #[.int .i64 4] 3)).alloc (.cells #[.int .u64 1] 25)) wr ∧ Hid (Own wr (w.heap.size + 3) 3 1 s9 ((List.range k).map intC)))
  case atStart => exact ⟨0, rfl, by omega, ⟨Below.refl _ _⟩, Lib.hid (Own.nil _ _ _ _)⟩
  case round =>
    obtain ⟨k, rfl, hg, hK, HO⟩ := hrel
    have HG := Lib.hid hg
    obtain ⟨x1, x2, x3, x4, x5, x6, x7, x8, x9, x10, y9⟩ := alk hK.out; (try have zz := zs w.heap.size wr.heap.size)
    have hws := hK.out.size
    simp at hws
    by_cases hk : k < P.length
    · rcases q3 with ⟨_, q3⟩ | ⟨g, o, rfl, hg', q3⟩
      · simp at q3; subst q3; simp at hk
      obtain ⟨hE, e1, e2, hgr, hkz, n1⟩ := packFirst21
      unfold peerC at e2
      clear q3 hg
      go_upto_region 6 with (go_at_call 331; refine (counts4 P[k] _).mono ?_; rintro e w1 ⟨rfl, rfl⟩)
      exact tailFirst22
    · obtain rfl : k = P.length := by omega
      have hkz : ¬ ((P.length : Int) < (P.length : Int)) := by omega
      have hD : ∀ x ∈ List.range P.length, x < P.length := fun x hx => List.mem_range.1 hx
      have hSr := HS.out.below (hB0.out.trans (hK.out.mono (by simp; omega)))
      rcases ints_own HO.out with ⟨rfl, hnil⟩ | ⟨gs, cs, R, rfl, g1, g2, hS, g3, g4⟩
      · have h0 : P.length = 0 := by simpa using congrArg List.length hnil
        exact tailFirst23
      · rw [List.length_range] at g3 ⊢
        have hc1 : wr.cell? ⟨w.heap.size, 0, none⟩ = some (.slice a P.length cap) := by rw [x6 _ _ (by simp; omega)]; simp [go_sem]
        have hc2 : wr.cell? ⟨w.heap.size + 1, 0, none⟩ = some (.int .i64 4) := by rw [x6 _ _ (by simp)]; simp [go_sem]
        have hc3 : wr.cell? ⟨w.heap.size + 1 + 1, 0, none⟩ = some (.int .u64 1) := by rw [x6 _ _ (by simp)]; simp [go_sem]
        have hcm : ∀ W, Upto gs wr W → ∀ i k : Nat, i < P.length → k < P.length → Calls Tryz.prog 333 #[.int .i64 (i : Nat), .int .i64 (k : Nat), .pointer (some ⟨w.heap.size, 0, none⟩), .pointer (some ⟨w.heap.size + 1, 0, none⟩), .pointer (some ⟨w.heap.size + 1 + 1, 0, none⟩)] W fun e w' => e = .returned (.int .i64 (fullO 4 (P.getD i 0) (P.getD k 0))) ∧ Below W.heap.size W w' := fun W hW i k hi hk => by
          have := closure_law P (.slice a P.length cap) 4 w.heap.size (w.heap.size + 1) (w.heap.size + 1 + 1) i k (by omega) W (hSr.upto hW (fun e => by have := HS.out.lt e; omega)) (by have := hW.size; omega) (by have := hW.size; omega) (by have := hW.size; omega)
            (bk66)
            (bk67)
            (bk68) hi hk
          simpa [List.getD_eq_getElem?_getD, hi, hk] using this
        have HL := sort_law gs cs P.length w.heap.size (w.heap.size + 1) (w.heap.size + 1 + 1) (fun i k => fullO 4 (P.getD i 0) (P.getD k 0)) (List.range P.length) R wr hD hcm hS g2 (by rw [List.length_range]; exact hl)
        exact tailFirst21
theorem first2 (P : List Nat) (v : Value) (q : Nat) (w : World) (hs : Sl w v 10 (P.map peerC)) (hq : q ≤ 1000) (hl : P.length ≤ 19) :
    Calls Tryz.prog 321 #[v, .int .i64 2, .int .i64 q, .int .u64 1] w fun e w' => e = .returned (.slice none 0 0) ∧ Below w.heap.size w w' := by
  obtain ⟨a, cap, rfl, q1, q2, q3⟩ := hs
  rw [List.length_map] at q1 ⊢
  have hB0 : Hid (Below w.heap.size w (((w.alloc (.cells #[.slice a P.length cap] 55)).alloc (.cells #[.int .i64 2] 3)).alloc (.cells #[.int .u64 1] 25))) := Lib.hid (bk5)
  have hmm2 : min (q : Int) 0 = 0 := by omega
  go_enter Tryz.func321, Tryz.ntmps321
  go_wp2
  go_loopg [9, 14] P.length (fun g s9 s14 wr => ∃ k : Nat, s9 = .slice none 0 0 ∧ s14 = .int .i64 (k : Int) ∧ k + g = P.length ∧ Keep (((w.alloc (.cells #[.slice a P.length cap] 55)).alloc (.cells #[.int .i64 2] 3)).alloc (.cells #[.int .u64 1] 25)) wr)
  case atStart => exact ⟨0, rfl, rfl, by omega, ⟨Below.refl _ _⟩⟩
  case round =>
    obtain ⟨k, rfl, rfl, hg, hK⟩ := hrel
    have HG := Lib.hid hg
    obtain ⟨x1, x2, x3, x4, x5, x6, x7, x8, x9, x10, y9⟩ := alk hK.out; (try have zz := zs w.heap.size wr.heap.size)
    have hws := hK.out.size
    simp at hws
    by_cases hk : k < P.length
    · rcases q3 with ⟨_, q3⟩ | ⟨g, o, rfl, hg', q3⟩
      · simp at q3; subst q3; simp at hk
      obtain ⟨hE, e1, e2, hgr, hkz, n1⟩ := packFirst21
      unfold peerC at e2
      clear q3 hg
      go_wp2_with (go_at_call 331; refine (counts2 P[k] _).mono ?_; rintro e w1 ⟨rfl, rfl⟩)
      go_roundg (P.length - (k + 1))
      case measure => have := HG.out; omega
      case rel => exact ⟨k + 1, rfl, by simp, by have := HG.out; omega, ⟨bk0⟩⟩
    · obtain rfl : k = P.length := by omega
      exact tailFirst24
theorem first3 (P : List Nat) (v : Value) (q : Nat) (w : World) (hs : Sl w v 10 (P.map peerC)) (hq : q ≤ 1000) (hl : P.length ≤ 19) :
    Calls Tryz.prog 321 #[v, .int .i64 3, .int .i64 q, .int .u64 1] w fun e w' => e = .returned (.slice none 0 0) ∧ Below w.heap.size w w' := by
  obtain ⟨a, cap, rfl, q1, q2, q3⟩ := hs
  rw [List.length_map] at q1 ⊢
  have hB0 : Hid (Below w.heap.size w (((w.alloc (.cells #[.slice a P.length cap] 55)).alloc (.cells #[.int .i64 3] 3)).alloc (.cells #[.int .u64 1] 25))) := Lib.hid (bk5)
  have hmm2 : min (q : Int) 0 = 0 := by omega
  go_enter Tryz.func321, Tryz.ntmps321
  go_wp2
  go_loopg [9, 14] P.length (fun g s9 s14 wr => ∃ k : Nat, s9 = .slice none 0 0 ∧ s14 = .int .i64 (k : Int) ∧ k + g = P.length ∧ Keep (((w.alloc (.cells #[.slice a P.length cap] 55)).alloc (.cells #[.int .i64 3] 3)).alloc (.cells #[.int .u64 1] 25)) wr)
  case atStart => exact ⟨0, rfl, rfl, by omega, ⟨Below.refl _ _⟩⟩
  case round =>
    obtain ⟨k, rfl, rfl, hg, hK⟩ := hrel
    have HG := Lib.hid hg
    obtain ⟨x1, x2, x3, x4, x5, x6, x7, x8, x9, x10, y9⟩ := alk hK.out; (try have zz := zs w.heap.size wr.heap.size)
    have hws := hK.out.size
    simp at hws
    by_cases hk : k < P.length
    · rcases q3 with ⟨_, q3⟩ | ⟨g, o, rfl, hg', q3⟩
      · simp at q3; subst q3; simp at hk
      obtain ⟨hE, e1, e2, hgr, hkz, n1⟩ := packFirst21
      unfold peerC at e2
      clear q3 hg
      go_wp2_with (go_at_call 331; refine (counts3 P[k] _).mono ?_; rintro e w1 ⟨rfl, rfl⟩)
      go_roundg (P.length - (k + 1))
      case measure => have := HG.out; omega
      case rel => exact ⟨k + 1, rfl, by simp, by have := HG.out; omega, ⟨bk0⟩⟩
    · obtain rfl : k = P.length := by omega
      exact tailFirst24
end
end Go.Proofs.YtnncjbkepakgpaaGreat
