/-
  THE SLOW WAY: ALL ARE FULL.
  AN ACCEPT.
-/
import Derived.Test.YtnncjbkepakgpaaGreatA07
import Derived.Test.YtnncjbkepakgpaaGreatA23
import Derived.Test.YtnncjbkepakgpaaGreatA09
namespace Go.Proofs.YtnncjbkepakgpaaGreat
set_option linter.unusedVariables false
set_option linter.unusedSimpArgs false
set_option maxRecDepth 100000
set_option maxHeartbeats 4000000
section
open Go.RowKit
attribute [local go_sem ↓] exec_load_64 exec_store_64 exec_load_203 exec_store_203 exec_load_29 exec_store_29
attribute [local go_sem] run_load64r run_store64i run_load203r run_store203i run_load29r run_store29i lt_up isRng_new rngOf_new isRange_past rangeOf_past isRange_drew rangeOf_drew fits_new fits_past fits_drew setAt_new setAt_past setAt_drew putAt_whole putAt_lit extract_whole extract_lit one_int one_bool one_slice one_ptr ones_lit onesL_nil onesL_cons isRow_new rowOf_new isRow_past rowOf_past isRow_drew rowOf_drew lt2 lt3 lt4 List.take_succ_cons List.take_zero List.drop_succ_cons List.drop_zero List.cons_append List.nil_append List.length_cons List.length_nil List.size_toArray setRow_new setRow_past own_cell own_frozen own_set own_isRange own_rangeOf own_fits setAt_row sr_sr sr_size sr_row sr_row' sr_isRow sr_isRow' sr_fits' sr_cell' sr_frozen' sr_isRange' sr_rangeOf' sr_isCells isCells_new isCells_past isCells_drew valC_size valC_ones opC_size opC_ones replyC_size meth_Lock ahead_Lock meth_Share ahead_Share meth_Free ahead_Free meth_Drop ahead_Drop meth_Load ahead_Load meth_Store ahead_Store meth_Swap ahead_Swap
def Off (b : Nat) (vs : List Value) : Prop := ∀ (i : Nat) (v : Value), vs[i]? = some v → v.ownBlock ≠ some b
theorem Off.set {b : Nat} {vs : List Value} (h : Off b vs) {v : Value} (hv : v.ownBlock ≠ some b) (j : Nat) : Off b (vs.set j v) := fun i u hu => by
  rw [List.getElem?_set] at hu
  split at hu
  · split at hu
    · cases hu; exact hv
    · cases hu
  · exact h i u hu
theorem off_nil (b n : Nat) : Off b (List.replicate n (.slice none 0 0)) := fun i v hv => by
  rw [List.getElem?_replicate] at hv
  split at hv
  · cases hv; simp [Value.ownBlock]
  · cases hv
theorem AllAt.set {W : World} {b : Nat} {vs : List Value} {Ls : List (List Nat)} (h : AllAt W b vs Ls) (ho : Off b vs) {v : Value} {l : List Nat} (hv : Sl W v 10 (l.map peerC)) (hb : v.ownBlock ≠ some b) (j : Nat) :
    AllAt (W.setCell ⟨b, j, none⟩ v) b (vs.set j v) (Ls.set j l) := by
  have hk : ∀ {u : Value} {M : List (Array Value)}, Sl W u 10 M → u.ownBlock ≠ some b → Sl (W.setCell ⟨b, j, none⟩ v) u 10 M := fun hu hn => hu.upto ((Upto.refl b W).set j v) hn
  refine ⟨h.1.set j v, by rw [List.length_set, List.length_set]; exact h.2.1, fun i u m hu hm => ?_⟩
  rw [List.getElem?_set] at hu hm
  by_cases e : j = i
  · subst e
    by_cases hj : j < vs.length
    · simp [hj] at hu
      simp [h.2.1 ▸ hj] at hm
      subst hu hm
      exact hk hv hb
    · simp [hj] at hu
  · rw [if_neg e] at hu hm
    exact hk (h.2.2 i u m hu hm) (ho i u hu)
theorem allAt_made {W : World} {b n : Nat} (h : RowT W b 55 (List.replicate n (.slice none 0 0))) : AllAt W b (List.replicate n (.slice none 0 0)) (List.replicate n []) :=
  ⟨h, by simp, fun i v l hv hl => by
    rw [List.getElem?_replicate] at hv hl
    split at hv
    · cases hv
      rename_i hi
      rw [if_pos hi] at hl
      cases hl
      exact Sl.nil _ _
    · cases hv⟩
theorem nn_lockFrom : ∀ (m j : Nat) (L : List Pm.Val) {u : Unit} {r : List Pm.Val}, NN L → Pm.lockFrom m j L = .done u r → NN r
  | 0, j, L, u, r, h, e => by cases e; exact h
  | m + 1, j, [], u, r, h, e => by cases e
  | m + 1, j, v :: L, u, r, h, e => by rw [lockFrom_cons] at e; exact nn_lockFrom m (j + 1) L h.tail e
theorem readRest_zero (j : Nat) (acc : List (List Nat)) (r : List Pm.Val) : Pm.readRest 0 j acc r = .done acc r := rfl
theorem readRest_done (m j : Nat) (acc : List (List Nat)) {r r' : List Pm.Val} {l : List Nat} (h : Pm.read j r = .done l r') : Pm.readRest (m + 1) j acc r = Pm.readRest m (j + 1) (acc ++ [l]) r' := by
  show Pm.bnd (Pm.read j) _ r = _
  unfold Pm.bnd; rw [h]
theorem readRest_pause (m j : Nat) (acc : List (List Nat)) {r : List Pm.Val} {o : Pm.Op} (h : Pm.read j r = .pause o) : Pm.readRest (m + 1) j acc r = .pause o := by
  show Pm.bnd (Pm.read j) _ r = _
  unfold Pm.bnd; rw [h]
theorem readRest_bad (m j : Nat) (acc : List (List Nat)) {r : List Pm.Val} (h : Pm.read j r = .bad) : Pm.readRest (m + 1) j acc r = .bad := by
  show Pm.bnd (Pm.read j) _ r = _
  unfold Pm.bnd; rw [h]
theorem set_mid {α : Type} (l : List α) (a b : α) (m : Nat) {j : Nat} (h : j = l.length) : (l ++ List.replicate (m + 1) a).set j b = (l ++ [b]) ++ List.replicate m a := by
  subst h
  rw [List.set_append_right _ _ (Nat.le_refl _), Nat.sub_self, List.replicate_succ, List.set_cons_zero]
  simp
def slowK (S n c most : Nat) (all : List (List Nat)) : Pm.Tp Unit := Pm.bnd (sq most all) fun _ => Pm.freeTo S S
theorem readK_eq (S n c most : Nat) (all : List (List Nat)) (h : Pm.has c (all.getD n []) = false) (L : List Pm.Val) : Pm.readK S n c most all L = slowK S n c most all L := by
  unfold Pm.readK slowK sq
  rw [if_neg (by rw [h]; simp), Pm.bnd_assoc]
  have e : Pm.innK S most all = fun b => Pm.bnd (sqK all b) fun _ => Pm.freeTo S S := by
    funext b
    cases b with
    | true => rfl
    | false =>
      unfold Pm.innK sqK
      by_cases h19 : 19 < Pm.total all
      · simp only [h19, if_true]; rfl
      · simp only [h19, if_false]; rw [Pm.bnd_ret]
  rw [e]
/-- door.slow. -/
theorem slow_law (T most S c : Nat) (L : List Pm.Val) (hS0 : 1 ≤ S) (hS1 : S ≤ 8) (hmost : most ≤ 1000) (hnb : Pm.slow S (prt S c) c most L ≠ .bad) (w : World) (h : TapeAt w T L) (hnn : NN L) :
    Calls Tryz.prog 142 #[.agg (doorC most S c), .iface 280 (.pointer (some ⟨T, 0, none⟩))] w (Tells T (Pm.slow S (prt S c) c most) (fun _ v _ => v = .agg (replyC false)) L w) := by
  have ed : doorC most S c = #[.int .i64 most, .int .i64 4, .int .i64 S, .int .i64 64, .int .i64 64, .int .u64 1, .int .i64 1, .int .i64 1, .int .i64 1, .int .i64 64, .int .i64 100, .int .i64 100, .int .i64 1000, .int .i64 2, .int .i64 64, .int .i64 4, .int .i64 1, .bool false, .int .u64 0, .int .u64 (loOf c), .int .i64 80, .bool false, .int .u64 0, .int .u64 0, .int .i64 0, .int .i64 (Pm.tOf c), .int .i64 0, .bool false] := rfl
  have HT0 := Lib.hid (h.below (show Below w.heap.size w ((w.alloc (.cells #[.int .i64 most, .int .i64 4, .int .i64 S, .int .i64 64, .int .i64 64, .int .u64 1, .int .i64 1, .int .i64 1, .int .i64 1, .int .i64 64, .int .i64 100, .int .i64 100, .int .i64 1000, .int .i64 2, .int .i64 64, .int .i64 4, .int .i64 1, .bool false, .int .u64 0, .int .u64 (loOf c), .int .i64 80, .bool false, .int .u64 0, .int .u64 0, .int .i64 0, .int .i64 (Pm.tOf c), .int .i64 0, .bool false] 203)).alloc (.cells #[.int .i64 0, .bool false, .int .u64 0, .int .u64 0, .int .i64 0, .int .i64 0, .int .i64 0, .slice none 0 0] 64)) from (bk5)))
  have hlt := h.lt
  have hpl := prt_lt S c hS0 hS1
  have HN := Lib.hid hnb
  have HNN := Lib.hid hnn
  have HED := Lib.hid ed
  generalize hn : prt S c = n at *
  rw [ed]
  clear h hnb hnn ed
  have hU0 := Lib.hid (Upto.of_below (T := T) (show Below w.heap.size w ((w.alloc (.cells #[.int .i64 most, .int .i64 4, .int .i64 S, .int .i64 64, .int .i64 64, .int .u64 1, .int .i64 1, .int .i64 1, .int .i64 1, .int .i64 64, .int .i64 100, .int .i64 100, .int .i64 1000, .int .i64 2, .int .i64 64, .int .i64 4, .int .i64 1, .bool false, .int .u64 0, .int .u64 (loOf c), .int .i64 80, .bool false, .int .u64 0, .int .u64 0, .int .i64 0, .int .i64 (Pm.tOf c), .int .i64 0, .bool false] 203)).alloc (.cells #[.int .i64 0, .bool false, .int .u64 0, .int .u64 0, .int .i64 0, .int .i64 0, .int .i64 0, .slice none 0 0] 64)) from (bk5)))
  have hbx : ∀ W, Upto T ((w.alloc (.cells #[.int .i64 most, .int .i64 4, .int .i64 S, .int .i64 64, .int .i64 64, .int .u64 1, .int .i64 1, .int .i64 1, .int .i64 1, .int .i64 64, .int .i64 100, .int .i64 100, .int .i64 1000, .int .i64 2, .int .i64 64, .int .i64 4, .int .i64 1, .bool false, .int .u64 0, .int .u64 (loOf c), .int .i64 80, .bool false, .int .u64 0, .int .u64 0, .int .i64 0, .int .i64 (Pm.tOf c), .int .i64 0, .bool false] 203)).alloc (.cells #[.int .i64 0, .bool false, .int .u64 0, .int .u64 0, .int .i64 0, .int .i64 0, .int .i64 0, .slice none 0 0] 64)) W → isRow W w.heap.size 203 28 = true ∧ rowOf W w.heap.size = #[.int .i64 most, .int .i64 4, .int .i64 S, .int .i64 64, .int .i64 64, .int .u64 1, .int .i64 1, .int .i64 1, .int .i64 1, .int .i64 64, .int .i64 100, .int .i64 100, .int .i64 1000, .int .i64 2, .int .i64 64, .int .i64 4, .int .i64 1, .bool false, .int .u64 0, .int .u64 (loOf c), .int .i64 80, .bool false, .int .u64 0, .int .u64 0, .int .i64 0, .int .i64 (Pm.tOf c), .int .i64 0, .bool false] ∧ isRow W (w.heap.size + 1) 64 8 = true ∧ rowOf W (w.heap.size + 1) = #[.int .i64 0, .bool false, .int .u64 0, .int .u64 0, .int .i64 0, .int .i64 0, .int .i64 0, .slice none 0 0] ∧ isCells W w.heap.size = true ∧ isCells W (w.heap.size + 1) = true ∧ w.heap.size + 1 < W.heap.size := fun W hW => by
    obtain ⟨x1, x2, x3, x4, x5, x6, x7, x8, x9, x10⟩ := alikeU hW
    have hn0 : ¬ (w.heap.size = T) := by omega
    have hn1 : ¬ (w.heap.size + 1 = T) := by omega
    have s0 : w.heap.size < ((w.alloc (.cells #[.int .i64 most, .int .i64 4, .int .i64 S, .int .i64 64, .int .i64 64, .int .u64 1, .int .i64 1, .int .i64 1, .int .i64 1, .int .i64 64, .int .i64 100, .int .i64 100, .int .i64 1000, .int .i64 2, .int .i64 64, .int .i64 4, .int .i64 1, .bool false, .int .u64 0, .int .u64 (loOf c), .int .i64 80, .bool false, .int .u64 0, .int .u64 0, .int .i64 0, .int .i64 (Pm.tOf c), .int .i64 0, .bool false] 203)).alloc (.cells #[.int .i64 0, .bool false, .int .u64 0, .int .u64 0, .int .i64 0, .int .i64 0, .int .i64 0, .slice none 0 0] 64)).heap.size := by simp; omega
    have s1 : w.heap.size + 1 < ((w.alloc (.cells #[.int .i64 most, .int .i64 4, .int .i64 S, .int .i64 64, .int .i64 64, .int .u64 1, .int .i64 1, .int .i64 1, .int .i64 1, .int .i64 64, .int .i64 100, .int .i64 100, .int .i64 1000, .int .i64 2, .int .i64 64, .int .i64 4, .int .i64 1, .bool false, .int .u64 0, .int .u64 (loOf c), .int .i64 80, .bool false, .int .u64 0, .int .u64 0, .int .i64 0, .int .i64 (Pm.tOf c), .int .i64 0, .bool false] 203)).alloc (.cells #[.int .i64 0, .bool false, .int .u64 0, .int .u64 0, .int .i64 0, .int .i64 0, .int .i64 0, .slice none 0 0] 64)).heap.size := by simp
    refine ⟨by rw [x1 _ _ _ s0 hn0]; simp [go_sem], by rw [x2 _ s0 hn0]; simp [go_sem], by rw [x1 _ _ _ s1 hn1]; simp [go_sem], by rw [x2 _ s1 hn1]; simp [go_sem], by rw [x8 _ s0 hn0]; simp [go_sem], by rw [x8 _ s1 hn1]; simp [go_sem], x10 _ s1⟩
  have hmk := run_make_row' (P := Tryz.prog) 276 55 (.slice none 0 0) 24 Tryz.underlying276 (by kernel_rfl) rfl .i64 .i64 S (by omega) (by omega)
  generalize hW0 : ((w.alloc (.cells #[.int .i64 most, .int .i64 4, .int .i64 S, .int .i64 64, .int .i64 64, .int .u64 1, .int .i64 1, .int .i64 1, .int .i64 1, .int .i64 64, .int .i64 100, .int .i64 100, .int .i64 1000, .int .i64 2, .int .i64 64, .int .i64 4, .int .i64 1, .bool false, .int .u64 0, .int .u64 (loOf c), .int .i64 80, .bool false, .int .u64 0, .int .u64 0, .int .i64 0, .int .i64 (Pm.tOf c), .int .i64 0, .bool false] 203)).alloc (.cells #[.int .i64 0, .bool false, .int .u64 0, .int .u64 0, .int .i64 0, .int .i64 0, .int .i64 0, .slice none 0 0] 64)) = W0 at *
  go_enter Tryz.func142, Tryz.ntmps142
  obtain ⟨b1, b2, b3, b4, b5, b6, b7⟩ := hbx _ (Upto.refl _ _)
  go_wp2_with fail
  refine (lockAll_law T L S hS0 hS1 _ HT0.out).mono ?_
  intro e w1 ht
  unfold Tells at ht
  have hsl : ∀ l', Pm.lockFrom S 0 L = l' → Pm.slow S n c most L = match l' with | .done _ r => Pm.bnd (Pm.readRest S 0 []) (Pm.readK S n c most) r | .pause o => .pause o | .bad => .bad := fun l' hl' => by
    rw [Pm.slow_eq]
    show Pm.bnd (Pm.lockFrom S 0) _ L = _
    unfold Pm.bnd; rw [hl']; cases l' <;> rfl
  cases hr : Pm.lockFrom S 0 L with
  | bad => exact absurd (hsl _ hr) HN.out
  | pause o =>
    rw [hr] at ht
    obtain ⟨rfl, hu⟩ := ht
    exact ⟨rfl, tells_pause (hsl _ hr) rfl (hU0.out.trans hu)⟩
  | done u1 L1 =>
    rw [hr] at ht
    obtain ⟨v1, rfl, rfl, hT1, hu⟩ := ht
    have HT1 := Lib.hid hT1
    have U1 := Lib.hid hu
    have HQ1 := Lib.hid (hsl _ hr)
    have HNN1 := Lib.hid (nn_lockFrom S 0 L HNN.out hr)
    obtain ⟨b1, b2, b3, b4, b5, b6, b7⟩ := hbx _ hu
    have hmade := Lib.hid (RowT.made w1 (.slice none 0 0) S 55)
    have hlt1 : T < w1.heap.size := hT1.lt
    clear hu hT1 hr hsl
    have HMK := Lib.hid hmk
    have hmk1 := hmk w1
    clear hmk
    go_wp2
    clear hmk1
    have UB := Lib.hid (U1.out.alloc (.cells (madeCells #[.slice none 0 0] S) 55))
    have HTB := Lib.hid (HT1.out.below (show Below w1.heap.size w1 (w1.alloc (.cells (madeCells #[.slice none 0 0] S) 55)) from (bk5)))
    have hsB : (w1.alloc (.cells (madeCells #[.slice none 0 0] S) 55)).heap.size = w1.heap.size + 1 := by simp
    generalize w1.alloc (.cells (madeCells #[.slice none 0 0] S) 55) = W1 at *
    go_loopg [20] S (fun g s20 wr => ∃ (j : Nat) (r : List Pm.Val) (vs : List Value) (Ls : List (List Nat)), s20 = .int .i64 j ∧ j + g = S ∧ Ls.length = j ∧ vs.length = j ∧ Pm.readRest g j Ls r = Pm.readRest S 0 [] L1 ∧ Hid (TapeAt wr T r ∧ Upto T W0 wr ∧ w1.heap.size < wr.heap.size ∧ NN r ∧ (∀ l ∈ Ls, l.length ≤ 1000) ∧ AllAt wr w1.heap.size (vs ++ List.replicate g (.slice none 0 0)) (Ls ++ List.replicate g []) ∧ Off w1.heap.size (vs ++ List.replicate g (.slice none 0 0)) ∧ Off T (vs ++ List.replicate g (.slice none 0 0))))
    case atStart => exact ⟨0, L1, [], [], rfl, by omega, rfl, rfl, rfl, Lib.hid ⟨HTB.out, UB.out, by omega, HNN1.out, by simp, allAt_made hmade.out, off_nil _ _, off_nil _ _⟩⟩
    case round =>
      obtain ⟨j, r, vs, Ls, rfl, hg, hLl, hvl, he, HH⟩ := hrel
      have HE := Lib.hid he
      have HG := Lib.hid hg
      have hUr := HH.out.2.1
      obtain ⟨b1, b2, b3, b4, b5, b6, b7⟩ := hbx _ hUr
      have hb1s := HH.out.2.2.1
      clear hUr he
      have hwL : Pm.slow S n c most L = Pm.bnd (Pm.readRest S 0 []) (Pm.readK S n c most) L1 := HQ1.out
      have hbT : w1.heap.size ≠ T := by omega
      have hW0s : W0.heap.size ≤ w1.heap.size := U1.out.size
      cases gk with
      | zero =>
        have hj : ¬ ((j : Int) < (S : Int)) := by omega
        have hjS : j = S := by omega
        have hrel := HH.out
        simp only [List.replicate_zero, List.append_nil] at hrel
        obtain ⟨hTr, hUr, hbs, hNr, hl1000, hAr, hOb, hOT⟩ := hrel
        have hq1 : Pm.slow S n c most L = Pm.readK S n c most Ls r := by
          rw [hwL]; unfold Pm.bnd; rw [← HE.out, readRest_zero]
        cases hh : Pm.has c (Ls.getD n []) with
        | true => exact absurd (by rw [hq1]; unfold Pm.readK; rw [if_pos hh]; rfl) HN.out
        | false =>
          have hq2 : Pm.slow S n c most L = slowK S n c most Ls r := by rw [hq1, readK_eq S n c most Ls hh]
          have hns : sq most Ls r ≠ .bad := fun e => HN.out (by rw [hq2]; unfold slowK Pm.bnd; rw [e])
          have hSq := squeeze_law T most S c w1.heap.size r vs Ls hS0 hS1 hmost (by omega) (by rw [hn]; exact hh) hns _ hTr hNr hAr ⟨hbT, hOT⟩ hl1000
          rw [HED.out, show Ls.length = S by omega] at hSq
          have HSQ := Lib.hid hSq
          have UR := Lib.hid hUr
          clear hSq hTr hUr hNr hAr hOb hOT hl1000 hq1
          go_wp2_with fail
          refine HSQ.out.mono ?_
          intro e w8 ht
          unfold Tells at ht
          cases hr8 : sq most Ls r with
          | bad => exact absurd hr8 hns
          | pause o =>
            rw [hr8] at ht
            obtain ⟨rfl, hu⟩ := ht
            exact ⟨rfl, tells_pause (show Pm.slow S n c most L = _ by rw [hq2]; unfold slowK Pm.bnd; rw [hr8]) rfl (hU0.out.trans (UR.out.trans hu))⟩
          | done u8 L8 =>
            rw [hr8] at ht
            obtain ⟨v8, rfl, hv8, hT8, hu⟩ := ht
            rw [show replyC false = #[.int .i64 5, .bool false, .int .u64 0, .int .u64 0, .int .i64 0, .int .i64 0, .int .i64 0, .slice none 0 0] from rfl] at hv8
            subst hv8
            have HQ8 := Lib.hid (show Pm.slow S n c most L = Pm.freeTo S S L8 by rw [hq2]; unfold slowK Pm.bnd; rw [hr8])
            have U8 := Lib.hid (UR.out.trans hu)
            have HT8 := Lib.hid hT8
            have hlt8 : T < w8.heap.size := hT8.lt
            clear hu hT8 hr8 hq2
            obtain ⟨b1, b2, b3, b4, b5, b6, b7⟩ := hbx _ U8.out
            have b8 : w.heap.size < w8.heap.size := by omega
            have hbr : ∀ W, Upto T (w8.alloc (.cells #[.int .i64 5, .bool false, .int .u64 0, .int .u64 0, .int .i64 0, .int .i64 0, .int .i64 0, .slice none 0 0] 64)) W → isRow W w8.heap.size 64 8 = true ∧ rowOf W w8.heap.size = #[.int .i64 5, .bool false, .int .u64 0, .int .u64 0, .int .i64 0, .int .i64 0, .int .i64 0, .slice none 0 0] ∧ w8.heap.size < W.heap.size := fun W hW => by
              obtain ⟨x1, x2, x3, x4, x5, x6, x7, x8, x9, x10⟩ := alikeU hW
              have s1 : w8.heap.size < (w8.alloc (.cells #[.int .i64 5, .bool false, .int .u64 0, .int .u64 0, .int .i64 0, .int .i64 0, .int .i64 0, .slice none 0 0] 64)).heap.size := by simp
              have m1 : ¬ (w8.heap.size = T) := by omega
              exact ⟨by rw [x1 _ _ _ s1 m1]; simp [go_sem], by rw [x2 _ s1 m1]; simp [go_sem], x10 _ s1⟩
            have U9 := Lib.hid (U8.out.alloc (.cells #[.int .i64 5, .bool false, .int .u64 0, .int .u64 0, .int .i64 0, .int .i64 0, .int .i64 0, .slice none 0 0] 64))
            have HT9 := Lib.hid (tape_alloc HT8.out (.cells #[.int .i64 5, .bool false, .int .u64 0, .int .u64 0, .int .i64 0, .int .i64 0, .int .i64 0, .slice none 0 0] 64))
            go_wp2_with fail
            generalize w8.alloc (.cells #[.int .i64 5, .bool false, .int .u64 0, .int .u64 0, .int .i64 0, .int .i64 0, .int .i64 0, .slice none 0 0] 64) = W9 at *
            refine (freeAll_law T L8 S hS0 hS1 _ HT9.out).mono ?_
            intro e w10 ht
            unfold Tells at ht
            cases hr10 : Pm.freeTo S S L8 with
            | bad => exact absurd (HQ8.out.trans hr10) HN.out
            | pause o =>
              rw [hr10] at ht
              obtain ⟨rfl, hu⟩ := ht
              exact ⟨rfl, tells_pause (HQ8.out.trans hr10) rfl (hU0.out.trans (U9.out.trans hu))⟩
            | done u10 L10 =>
              rw [hr10] at ht
              obtain ⟨v10, rfl, rfl, hT10, hu⟩ := ht
              have UF := Lib.hid (U9.out.trans hu)
              have HTF := Lib.hid hT10
              obtain ⟨c1, c2, c3⟩ := hbr _ hu
              have c4 := isCells_row c1
              obtain ⟨b1, b2, b3, b4, b5, b6, b7⟩ := hbx _ UF.out
              clear hu hT10
              go_wp2
              refine bodyPost_ret (v := .agg #[.int .i64 5, .bool false, .int .u64 0, .int .u64 0, .int .i64 0, .int .i64 0, .int .i64 0, .slice none 0 0]) (res_row (t := 64) Tryz.results142 _ _ _ rfl ?_ ?_ info64 agg64) rfl ?_
              · exact sr_isRow _ b3 rfl
              · exact sr_row _ b6
              exact tells_done (HQ8.out.trans hr10) _ rfl rfl (tape_setRow HTF.out (by omega) _) (upto_setRow (hU0.out.trans UF.out) (by omega) _)
      | succ m =>
        have hj : (j : Int) < (S : Int) := by omega
        have n1 : 0 ≤ (j : Int) := by omega
        clear hg
        go_wp2_with fail
        have hnr : Pm.read j r ≠ .bad := fun e => HN.out (by rw [hwL]; unfold Pm.bnd; rw [← HE.out, readRest_bad m j Ls e])
        refine (read_law T j r hnr _ HH.out.1).mono ?_
        intro e w2 ht
        unfold Tells at ht
        cases hrd : Pm.read j r with
        | bad => exact absurd hrd hnr
        | pause o =>
          rw [hrd] at ht
          obtain ⟨rfl, hu⟩ := ht
          exact ⟨rfl, tells_pause (show Pm.slow S n c most L = _ by rw [hwL]; unfold Pm.bnd; rw [← HE.out, readRest_pause m j Ls hrd]) rfl (hU0.out.trans (HH.out.2.1.trans hu))⟩
        | done l r' =>
          rw [hrd] at ht
          obtain ⟨v2, rfl, ⟨hO, hl19⟩, hA, hu⟩ := ht
          obtain ⟨a2, cap2, ev2, -⟩ := hO.sl
          simp only [List.length_map] at ev2
          subst ev2
          obtain ⟨hTr, hUr, hbs, hNr, hl1000, hAr, hOb, hOT⟩ := HH.out
          have hA2 := Lib.hid (hAr.keepU ⟨hbT, hOT⟩ hu)
          have hvb : (Value.slice a2 l.length cap2).ownBlock ≠ some w1.heap.size := fun e => by have := (hO.base e).1; omega
          have hvT : (Value.slice a2 l.length cap2).ownBlock ≠ some T := fun e => by have := (hO.base e).1; have := hTr.lt; omega
          have hset := Lib.hid (hA2.out.set hOb hO.sl hvb j)
          have hcells := Lib.hid (hA2.out.1.at'.own)
          have hjl : (vs ++ List.replicate (m + 1) (Value.slice none 0 0))[j]? = some (.slice none 0 0) := by
            rw [List.getElem?_append_right (by omega), show j - vs.length = 0 by omega]; rfl
          have hcj : w2.cell? ⟨w1.heap.size, j, none⟩ = some (.slice none 0 0) := hA2.out.1.at'.cell hjl
          have hfj : w2.frozen? ⟨w1.heap.size, j, none⟩ = false := hA2.out.1.at'.frozen j
          have U2 := Lib.hid (hUr.trans hu)
          have HT2 := Lib.hid hA
          have HN2 := Lib.hid (nn_read hNr hrd)
          have HL2 := Lib.hid hl1000
          have HO1 := Lib.hid (hOb.set hvb j)
          have HO2 := Lib.hid (hOT.set hvT j)
          have HE2 := Lib.hid ((readRest_done m j Ls hrd).symm.trans HE.out)
          have hw2s : w1.heap.size < w2.heap.size := Nat.lt_of_lt_of_le hbs hu.size
          clear hTr hUr hbs hNr hl1000 hAr hOb hOT hu hA hO
          go_wp2
          go_roundg m
          case measure => omega
          case rel =>
            have k1 : (vs ++ List.replicate (m + 1) (Value.slice none 0 0)).set j (.slice a2 l.length cap2) = (vs ++ [.slice a2 l.length cap2]) ++ List.replicate m (Value.slice none 0 0) := set_mid vs _ _ m (by omega)
            have k2 : (Ls ++ List.replicate (m + 1) []).set j l = (Ls ++ [l]) ++ List.replicate m [] := set_mid Ls _ _ m (by omega)
            have hs2 := hset.out
            rw [k1, k2] at hs2
            have o1 := HO1.out
            have o2 := HO2.out
            rw [k1] at o1 o2
            refine ⟨j + 1, r', vs ++ [.slice a2 l.length cap2], Ls ++ [l], by first | (simp [IntKind.wrap_i64]; done) | (simp [IntKind.wrap_i64]; omega), by have := HG.out; omega, by simp; omega, by simp; omega, HE2.out, Lib.hid ⟨?_, ?_, ?_, HN2.out, ?_, hs2, o1, o2⟩⟩
            · rw [own_set _ _ hcells.out]; exact tape_setRow HT2.out (by omega) _
            · rw [own_set _ _ hcells.out]; exact upto_setRow U2.out hW0s _
            · rw [own_set _ _ hcells.out, sr_size]; exact hw2s
            · intro x hx
              rcases List.mem_append.1 hx with hx | hx
              · exact HL2.out x hx
              · simp only [List.mem_singleton] at hx; subst hx; omega
end
section
open Go.RowKit
attribute [local go_sem ↓] exec_load_64 exec_store_64 exec_load_203 exec_store_203 exec_load_36 exec_store_36 exec_load_29 exec_store_29 exec_load_41 exec_store_41
attribute [local go_sem] run_load64r run_store64i run_load203r run_store203i run_load36r run_store36i run_load29r run_store29i run_load41r run_store41i lt_up isRng_new rngOf_new isRange_past rangeOf_past isRange_drew rangeOf_drew fits_new fits_past fits_drew setAt_new setAt_past setAt_drew putAt_whole putAt_lit extract_whole extract_lit one_int one_bool one_slice one_ptr ones_lit onesL_nil onesL_cons isRow_new rowOf_new isRow_past rowOf_past isRow_drew rowOf_drew lt2 lt3 lt4 List.take_succ_cons List.take_zero List.drop_succ_cons List.drop_zero List.cons_append List.nil_append List.length_cons List.length_nil List.size_toArray setRow_new setRow_past own_cell own_frozen own_set own_isRange own_rangeOf own_fits setAt_row sr_sr sr_size sr_row sr_row' sr_isRow sr_isRow' sr_fits' sr_cell' sr_frozen' sr_isRange' sr_rangeOf' sr_isCells isCells_new isCells_past isCells_drew valC_size valC_ones opC_size opC_ones replyC_size meth_Lock ahead_Lock meth_Share ahead_Share meth_Free ahead_Free meth_Drop ahead_Drop meth_Load ahead_Load meth_Store ahead_Store meth_Swap ahead_Swap f103_bans
def load34 (v : Value) : Sem Next := do pure (.value (← Instr.loadAt 34 v))
theorem exec_load_34 (ρ : Operand → Value) (dst : Option Tmp) (x : Operand) (ty : TypeId) (pos : String) (after : Array Edge) (guard : Option (Nat × Bool)) :
    execOp ρ { dst, op := .load 34 x, type := ty, pos, after, guard } = load34 (ρ x) := rfl
theorem run_load34 {W : World} {g : Nat} (h : isRow W g 34 3 = true) : (load34 (.pointer (some ⟨g, 0, none⟩))).run Tryz.prog W = .ok (.value (.agg (rowOf W g))) W := by
  simp only [load34, Instr.loadAt, Instr.sureAddr, Sem.run_bind, Sem.run_pure, Result.andThen_ok, run_loadVar_row W g 34 34 _ (0, 0) _ (row_heap h).1 Tryz.underlying34 rfl (by rw [(row_heap h).2]; exact info34)]
theorem run_load34r {W : World} {p : Addr} (h : isRange W p 3 = true) : (load34 (.pointer (some p))).run Tryz.prog W = .ok (.value (.agg (rangeOf W p 3))) W := by
  simp only [load34, Instr.loadAt, Instr.sureAddr, Sem.run_bind, Sem.run_pure, Result.andThen_ok, load_range info34 Tryz.underlying34 rfl h]
def store34 (a v : Value) : Sem Next := do Instr.storeAt 34 a v; pure .skip
theorem exec_store_34 (ρ : Operand → Value) (dst : Option Tmp) (x y : Operand) (ty : TypeId) (pos : String) (after : Array Edge) (guard : Option (Nat × Bool)) :
    execOp ρ { dst, op := .store 34 x y, type := ty, pos, after, guard } = store34 (ρ x) (ρ y) := rfl
theorem run_store34 {W : World} {g : Nat} {C : Array Value} (h : isRow W g 34 3 = true) (hn : C.size = 3) (h1 : ones C = true) : (store34 (.pointer (some ⟨g, 0, none⟩)) (.agg C)).run Tryz.prog W = .ok .skip (W.setRow g C) := by
  obtain ⟨h2, h3⟩ := row_heap h
  simp only [store34, Instr.storeAt, Instr.sureAddr, Sem.run_bind, Sem.run_pure, Result.andThen_ok, run_storeVar_row W g 34 34 _ C h2 (by rw [hn]; exact info34) (by rw [h3, hn]) (ones_all h1)]
theorem run_store34i {W : World} {g o : Nat} {C : Array Value} (h : fitsAt W g o 3 = true) (hn : C.size = 3) (h1 : ones C = true) : (store34 (.pointer (some ⟨g, o, none⟩)) (.agg C)).run Tryz.prog W = .ok .skip (setAt W g o C) := by
  simp only [store34, Instr.storeAt, Instr.sureAddr, Sem.run_bind, Sem.run_pure, Result.andThen_ok, run_store_at 34 3 info34 h hn h1]
attribute [local go_sem ↓] exec_load_34 exec_store_34
attribute [local go_sem] run_load34r run_store34i
/-- What is left of what was told. -/
def Sfx {α : Type} (m : Pm.Tp α) : Prop := ∀ (L : List Pm.Val) (a : α) (r : List Pm.Val), m L = .done a r → NN L → NN r
theorem sfx_ret {α : Type} (a : α) : Sfx (Pm.ret a) := fun L b r h hn => by cases h; exact hn
theorem sfx_no {α : Type} : Sfx (Pm.no : Pm.Tp α) := fun L b r h hn => by cases h
theorem sfx_ask (o : Pm.Op) : Sfx (Pm.ask o) := fun L b r h hn => by
  cases L with
  | nil => cases h
  | cons v L => cases h; exact hn.tail
theorem sfx_bnd {α β : Type} {m : Pm.Tp α} {f : α → Pm.Tp β} (hm : Sfx m) (hf : ∀ a, Sfx (f a)) : Sfx (Pm.bnd m f) := fun L b r h hn => by
  unfold Pm.bnd at h
  cases e : m L with
  | done a r1 => rw [e] at h; exact hf a _ _ _ h (hm _ _ _ e hn)
  | pause o => rw [e] at h; cases h
  | bad => rw [e] at h; cases h
theorem sfx_reserve (most : Int) : ∀ (k : Nat), ∀ (L : List Pm.Val), L.length ≤ k → ∀ (a : Bool) (r : List Pm.Val), Pm.reserve most L = .done a r → NN L → NN r
  | k, [], _, a, r, h, hn => by cases h
  | k, .who _ :: L, _, a, r, h, hn => by cases h
  | k, .num n :: L, hk, a, r, h, hn => by
    rw [Pm.reserve.eq_def] at h
    simp only at h
    split at h
    · cases h; exact hn.tail
    · cases L with
      | nil => cases h
      | cons s L' =>
        simp only at h
        split at h
        · cases h; exact hn.tail.tail
        · cases k with
          | zero => simp at hk
          | succ k => exact sfx_reserve most k L' (by simp only [List.length_cons] at hk; omega) a r h hn.tail.tail
theorem sfx_quick (n me most : Nat) : Sfx (Pm.quick n me most) := by
  rw [Pm.quick_eq]
  refine sfx_bnd (sfx_ask _) fun _ => sfx_bnd (fun L a r h hn => nn_read hn h) fun l => ?_
  unfold Pm.quickK
  split
  · exact sfx_no
  · refine sfx_bnd (fun L a r h hn => sfx_reserve _ L.length L (Nat.le_refl _) a r h hn) fun b => ?_
    unfold Pm.takeK
    cases b with
    | true => exact sfx_bnd (sfx_ask _) fun _ => sfx_bnd (sfx_ask _) fun _ => sfx_bnd (sfx_ask _) fun _ => sfx_ret _
    | false => exact sfx_bnd (sfx_ask _) fun _ => sfx_ret _
/-- door.accept. -/
theorem accept_law (T most S c : Nat) (L : List Pm.Val) (hS0 : 1 ≤ S) (hS1 : S ≤ 8) (hmost : most ≤ 1000) (hnb : Pm.accept ⟨most, S, prt S⟩ c L ≠ .bad) (w : World) (h : TapeAt w T L) (hnn : NN L) :
    Calls Tryz.prog 101 #[.agg (doorC most S c), .iface 280 (.pointer (some ⟨T, 0, none⟩))] w (Tells T (Pm.accept ⟨most, S, prt S⟩ c) (fun b v _ => v = .agg (replyC b)) L w) := by
  have ed : doorC most S c = #[.int .i64 most, .int .i64 4, .int .i64 S, .int .i64 64, .int .i64 64, .int .u64 1, .int .i64 1, .int .i64 1, .int .i64 1, .int .i64 64, .int .i64 100, .int .i64 100, .int .i64 1000, .int .i64 2, .int .i64 64, .int .i64 4, .int .i64 1, .bool false, .int .u64 0, .int .u64 (loOf c), .int .i64 80, .bool false, .int .u64 0, .int .u64 0, .int .i64 0, .int .i64 (Pm.tOf c), .int .i64 0, .bool false] := rfl
  have HT := Lib.hid h
  have hlt := h.lt
  have HED := Lib.hid ed
  have ht0 : 0 ≤ (Pm.tOf c : Int) := by omega
  have ht1 : (Pm.tOf c : Int) ≤ 1099511627776 := by unfold Pm.tOf; split <;> omega
  have hn0 : ¬ (w.heap.size = T) := by omega
  have hn1 : ¬ (w.heap.size + 1 = T) := by omega
  have hbx : ∀ W, Upto T ((w.alloc (.cells #[.int .i64 most, .int .i64 4, .int .i64 S, .int .i64 64, .int .i64 64, .int .u64 1, .int .i64 1, .int .i64 1, .int .i64 1, .int .i64 64, .int .i64 100, .int .i64 100, .int .i64 1000, .int .i64 2, .int .i64 64, .int .i64 4, .int .i64 1, .bool false, .int .u64 0, .int .u64 (loOf c), .int .i64 80, .bool false, .int .u64 0, .int .u64 0, .int .i64 0, .int .i64 (Pm.tOf c), .int .i64 0, .bool false] 203)).alloc (.cells #[.int .i64 0, .bool false, .int .u64 0, .int .u64 0, .int .i64 0, .int .i64 0, .int .i64 0, .slice none 0 0] 64)) W → isRow W w.heap.size 203 28 = true ∧ rowOf W w.heap.size = #[.int .i64 most, .int .i64 4, .int .i64 S, .int .i64 64, .int .i64 64, .int .u64 1, .int .i64 1, .int .i64 1, .int .i64 1, .int .i64 64, .int .i64 100, .int .i64 100, .int .i64 1000, .int .i64 2, .int .i64 64, .int .i64 4, .int .i64 1, .bool false, .int .u64 0, .int .u64 (loOf c), .int .i64 80, .bool false, .int .u64 0, .int .u64 0, .int .i64 0, .int .i64 (Pm.tOf c), .int .i64 0, .bool false] ∧ isRow W (w.heap.size + 1) 64 8 = true ∧ rowOf W (w.heap.size + 1) = #[.int .i64 0, .bool false, .int .u64 0, .int .u64 0, .int .i64 0, .int .i64 0, .int .i64 0, .slice none 0 0] ∧ isCells W w.heap.size = true ∧ isCells W (w.heap.size + 1) = true ∧ w.heap.size + 1 < W.heap.size := fun W hW => by
    obtain ⟨x1, x2, x3, x4, x5, x6, x7, x8, x9, x10⟩ := alikeU hW
    have s0 : w.heap.size < ((w.alloc (.cells #[.int .i64 most, .int .i64 4, .int .i64 S, .int .i64 64, .int .i64 64, .int .u64 1, .int .i64 1, .int .i64 1, .int .i64 1, .int .i64 64, .int .i64 100, .int .i64 100, .int .i64 1000, .int .i64 2, .int .i64 64, .int .i64 4, .int .i64 1, .bool false, .int .u64 0, .int .u64 (loOf c), .int .i64 80, .bool false, .int .u64 0, .int .u64 0, .int .i64 0, .int .i64 (Pm.tOf c), .int .i64 0, .bool false] 203)).alloc (.cells #[.int .i64 0, .bool false, .int .u64 0, .int .u64 0, .int .i64 0, .int .i64 0, .int .i64 0, .slice none 0 0] 64)).heap.size := by simp; omega
    have s1 : w.heap.size + 1 < ((w.alloc (.cells #[.int .i64 most, .int .i64 4, .int .i64 S, .int .i64 64, .int .i64 64, .int .u64 1, .int .i64 1, .int .i64 1, .int .i64 1, .int .i64 64, .int .i64 100, .int .i64 100, .int .i64 1000, .int .i64 2, .int .i64 64, .int .i64 4, .int .i64 1, .bool false, .int .u64 0, .int .u64 (loOf c), .int .i64 80, .bool false, .int .u64 0, .int .u64 0, .int .i64 0, .int .i64 (Pm.tOf c), .int .i64 0, .bool false] 203)).alloc (.cells #[.int .i64 0, .bool false, .int .u64 0, .int .u64 0, .int .i64 0, .int .i64 0, .int .i64 0, .slice none 0 0] 64)).heap.size := by simp
    refine ⟨by rw [x1 _ _ _ s0 hn0]; simp [go_sem], by rw [x2 _ s0 hn0]; simp [go_sem], by rw [x1 _ _ _ s1 hn1]; simp [go_sem], by rw [x2 _ s1 hn1]; simp [go_sem], by rw [x8 _ s0 hn0]; simp [go_sem], by rw [x8 _ s1 hn1]; simp [go_sem], x10 _ s1⟩
  have hU0 : Upto T w ((w.alloc (.cells #[.int .i64 most, .int .i64 4, .int .i64 S, .int .i64 64, .int .i64 64, .int .u64 1, .int .i64 1, .int .i64 1, .int .i64 1, .int .i64 64, .int .i64 100, .int .i64 100, .int .i64 1000, .int .i64 2, .int .i64 64, .int .i64 4, .int .i64 1, .bool false, .int .u64 0, .int .u64 (loOf c), .int .i64 80, .bool false, .int .u64 0, .int .u64 0, .int .i64 0, .int .i64 (Pm.tOf c), .int .i64 0, .bool false] 203)).alloc (.cells #[.int .i64 0, .bool false, .int .u64 0, .int .u64 0, .int .i64 0, .int .i64 0, .int .i64 0, .slice none 0 0] 64)) := Upto.of_below (bk5)
  rw [ed]
  clear h ed
  generalize hW0 : ((w.alloc (.cells #[.int .i64 most, .int .i64 4, .int .i64 S, .int .i64 64, .int .i64 64, .int .u64 1, .int .i64 1, .int .i64 1, .int .i64 1, .int .i64 64, .int .i64 100, .int .i64 100, .int .i64 1000, .int .i64 2, .int .i64 64, .int .i64 4, .int .i64 1, .bool false, .int .u64 0, .int .u64 (loOf c), .int .i64 80, .bool false, .int .u64 0, .int .u64 0, .int .i64 0, .int .i64 (Pm.tOf c), .int .i64 0, .bool false] 203)).alloc (.cells #[.int .i64 0, .bool false, .int .u64 0, .int .u64 0, .int .i64 0, .int .i64 0, .int .i64 0, .slice none 0 0] 64)) = W0 at hbx hU0
  have HT0 : Hid (TapeAt W0 T L) := Lib.hid (bk65)
  clear HT
  go_enter Tryz.func101, Tryz.ntmps101
  obtain ⟨b1, b2, b3, b4, b5, b6, b7⟩ := hbx _ (Upto.refl _ _)
  go_wp2_with (go_at_call 102; refine (call_right c _ ht0 ht1 _).mono ?_; rintro e w1 ⟨rfl, hb⟩; have HB1 := Lib.hid hb; have U1 := Lib.hid (Upto.of_below (T := T) hb); clear hb; obtain ⟨b1, b2, b3, b4, b5, b6, b7⟩ := hbx _ U1.out)
  have HT1 := Lib.hid (HT0.out.below HB1.out)
  cases L with
  | nil =>
    refine (t_share T [] _ HT1.out).mono ?_
    rintro e w2 ⟨hu, rfl⟩
    exact ⟨rfl, tells_pause rfl rfl (hU0.trans (U1.out.trans hu))⟩
  | cons x L1 =>
    refine (t_share T (x :: L1) _ HT1.out).mono ?_
    rintro e w2 ⟨hu, rfl, hA⟩
    have U2 := Lib.hid (U1.out.trans hu)
    have HA2 := Lib.hid hA
    clear hu hA
    obtain ⟨b1, b2, b3, b4, b5, b6, b7⟩ := hbx _ U2.out
    go_wp2_with fail
    cases L1 with
    | nil =>
      refine (t_load_bans T [] _ HA2.out).mono ?_
      rintro e w3 ⟨hu, rfl⟩
      exact ⟨rfl, tells_pause rfl rfl (hU0.trans (U2.out.trans hu))⟩
    | cons y L2 =>
      refine (t_load_bans T (y :: L2) _ HA2.out).mono ?_
      rintro e w3 ⟨hu, rfl, hA⟩
      have U3 := Lib.hid (U2.out.trans hu)
      have HA3 := Lib.hid hA
      clear hu hA
      obtain ⟨b1, b2, b3, b4, b5, b6, b7⟩ := hbx _ U3.out
      go_wp2_with (go_at_call 140; refine (until_none c _ _).mono ?_; rintro e w4 ⟨rfl, hb⟩; have HB4 := Lib.hid hb; have U4 := Lib.hid (U3.out.trans (Upto.of_below (T := T) hb)); clear hb; obtain ⟨b1, b2, b3, b4, b5, b6, b7⟩ := hbx _ U4.out)
      have HA4 := Lib.hid (HA3.out.below HB4.out)
      have HNN := Lib.hid (NN.tail (NN.tail hnn))
      have hq1 : Pm.accept ⟨most, S, prt S⟩ c (x :: y :: L2) = Pm.bnd (Pm.quick (prt S c) c most) (Pm.endK ⟨most, S, prt S⟩ c) L2 := by rw [Pm.accept_eq]; rfl
      have hnq : Pm.quick (prt S c) c most L2 ≠ .bad := fun e => hnb (by rw [hq1]; unfold Pm.bnd; rw [e])
      rw [← HED.out]
      refine (quick_law T most S c L2 hS0 hS1 hmost hnq _ HA4.out HNN.out).mono ?_
      intro e w5 ht
      unfold Tells at ht
      cases hr : Pm.quick (prt S c) c most L2 with
      | bad => exact absurd hr hnq
      | pause o =>
        rw [hr] at ht
        obtain ⟨rfl, hu⟩ := ht
        exact ⟨rfl, tells_pause (show Pm.accept ⟨most, S, prt S⟩ c (x :: y :: L2) = _ by rw [hq1]; unfold Pm.bnd; rw [hr]) rfl (hU0.trans (U4.out.trans hu))⟩
      | done ok L3 =>
        rw [hr] at ht
        obtain ⟨vb, rfl, rfl, hA, hu⟩ := ht
        have U5 := Lib.hid (U4.out.trans hu)
        have HA5 := Lib.hid hA
        have HN3 := Lib.hid (sfx_quick _ _ _ _ _ _ hr HNN.out)
        have hq2 : Pm.accept ⟨most, S, prt S⟩ c (x :: y :: L2) = Pm.endK ⟨most, S, prt S⟩ c ok L3 := by rw [hq1]; unfold Pm.bnd; rw [hr]
        clear hu hA hr hnq hq1
        obtain ⟨b1, b2, b3, b4, b5, b6, b7⟩ := hbx _ U5.out
        have hlt5 : T < w5.heap.size := HA5.out.lt
        have b8 : w.heap.size < w5.heap.size := by omega
        have hbr : ∀ W, Upto T (w5.alloc (.cells #[.int .i64 0, .bool false, .int .u64 0, .int .u64 0, .int .i64 0, .int .i64 0, .int .i64 0, .slice none 0 0] 64)) W → isRow W w5.heap.size 64 8 = true ∧ rowOf W w5.heap.size = #[.int .i64 0, .bool false, .int .u64 0, .int .u64 0, .int .i64 0, .int .i64 0, .int .i64 0, .slice none 0 0] ∧ w5.heap.size < W.heap.size := fun W hW => by
          obtain ⟨x1, x2, x3, x4, x5, x6, x7, x8, x9, x10⟩ := alikeU hW
          have s1 : w5.heap.size < (w5.alloc (.cells #[.int .i64 0, .bool false, .int .u64 0, .int .u64 0, .int .i64 0, .int .i64 0, .int .i64 0, .slice none 0 0] 64)).heap.size := by simp
          have m1 : ¬ (w5.heap.size = T) := by omega
          exact ⟨by rw [x1 _ _ _ s1 m1]; simp [go_sem], by rw [x2 _ s1 m1]; simp [go_sem], x10 _ s1⟩
        have U6 := Lib.hid (U5.out.alloc (.cells #[.int .i64 0, .bool false, .int .u64 0, .int .u64 0, .int .i64 0, .int .i64 0, .int .i64 0, .slice none 0 0] 64))
        have HA6 := Lib.hid (HA5.out.below (show Below w5.heap.size w5 (w5.alloc (.cells #[.int .i64 0, .bool false, .int .u64 0, .int .u64 0, .int .i64 0, .int .i64 0, .int .i64 0, .slice none 0 0] 64)) from (bk5)))
        have ez : zeroReply = #[.int .i64 0, .bool false, .int .u64 0, .int .u64 0, .int .i64 0, .int .i64 0, .int .i64 0, .slice none 0 0] := rfl
        rw [ez]
        clear ez
        cases ok with
        | true =>
          go_wp2_with fail
          generalize hW6 : w5.alloc (.cells #[.int .i64 0, .bool false, .int .u64 0, .int .u64 0, .int .i64 0, .int .i64 0, .int .i64 0, .slice none 0 0] 64) = W6 at *
          have R6 := Lib.hid (Upto.refl T W6)
          cases L3 with
          | nil =>
            refine (t_drop T [] _ HA6.out).mono ?_
            rintro e wf ⟨hu, rfl⟩
            exact ⟨rfl, tells_pause (show Pm.accept ⟨most, S, prt S⟩ c (x :: y :: L2) = _ by rw [hq2]; rfl) rfl (hU0.trans (U6.out.trans hu))⟩
          | cons z Lf =>
            refine (t_drop T (z :: Lf) _ HA6.out).mono ?_
            rintro e wf ⟨hu, rfl, hA⟩
            have UF := Lib.hid (U6.out.trans hu)
            have HAF := Lib.hid hA
            obtain ⟨b1, b2, b3, b4, b5, b6, b7⟩ := hbx _ UF.out
            obtain ⟨c1, c2, c3⟩ := hbr _ (R6.out.trans hu)
            have c4 := isCells_row c1
            clear hu hA
            go_wp2
            refine bodyPost_ret (v := .agg #[.int .i64 0, .bool false, .int .u64 0, .int .u64 0, .int .i64 0, .int .i64 0, .int .i64 0, .slice none 0 0]) (res_row (t := 64) Tryz.results101 _ _ _ rfl ?_ ?_ info64 agg64) rfl ?_
            · exact sr_isRow _ b3 rfl
            · exact sr_row _ b6
            exact tells_done (show Pm.accept ⟨most, S, prt S⟩ c (x :: y :: L2) = _ by rw [hq2]; rfl) _ rfl rfl (tape_setRow HAF.out (by omega) _) (upto_setRow (hU0.trans UF.out) (by omega) _)
        | false =>
          go_wp2_with fail
          generalize hW6 : w5.alloc (.cells #[.int .i64 0, .bool false, .int .u64 0, .int .u64 0, .int .i64 0, .int .i64 0, .int .i64 0, .slice none 0 0] 64) = W6 at *
          have hnq : Pm.slow S (prt S c) c most L3 ≠ .bad := fun e => hnb (by rw [hq2]; unfold Pm.endK Pm.bnd; simp only [e])
          rw [← HED.out]
          refine (slow_law T most S c L3 hS0 hS1 hmost hnq _ HA6.out HN3.out).mono ?_
          intro e w7 ht
          unfold Tells at ht
          cases hr : Pm.slow S (prt S c) c most L3 with
          | bad => exact absurd hr hnq
          | pause o =>
            rw [hr] at ht
            obtain ⟨rfl, hu⟩ := ht
            exact ⟨rfl, tells_pause (show Pm.accept ⟨most, S, prt S⟩ c (x :: y :: L2) = _ by rw [hq2]; unfold Pm.endK Pm.bnd; simp only [hr]) rfl (hU0.trans (U6.out.trans hu))⟩
          | done u L4 =>
            rw [hr] at ht
            obtain ⟨vb, rfl, rfl, hA, hu⟩ := ht
            have hq3 : Pm.accept ⟨most, S, prt S⟩ c (x :: y :: L2) = Pm.dropK false L4 := by rw [hq2]; show Pm.bnd (Pm.slow S (prt S c) c most) _ L3 = _; rw [Pm.bnd_eq _ hr]
            rw [show replyC false = #[.int .i64 5, .bool false, .int .u64 0, .int .u64 0, .int .i64 0, .int .i64 0, .int .i64 0, .slice none 0 0] from rfl]
            have U7 := Lib.hid (U6.out.trans hu)
            have HA7 := Lib.hid hA
            have R7 := Lib.hid hu
            clear hu hA hr hq2
            obtain ⟨b1, b2, b3, b4, b5, b6, b7⟩ := hbx _ U7.out
            obtain ⟨c1, c2, c3⟩ := hbr _ R7.out
            have hlt7 : T < w7.heap.size := HA7.out.lt
            have c4 := isCells_row c1
            have c5 := isCells_row b1
            have hw5T : w5.heap.size ≠ T := by omega
            have hbr2 : ∀ W, Upto T (w7.setRow w5.heap.size #[.int .i64 5, .bool false, .int .u64 0, .int .u64 0, .int .i64 0, .int .i64 0, .int .i64 0, .slice none 0 0]) W → isRow W w5.heap.size 64 8 = true ∧ rowOf W w5.heap.size = #[.int .i64 5, .bool false, .int .u64 0, .int .u64 0, .int .i64 0, .int .i64 0, .int .i64 0, .slice none 0 0] ∧ w5.heap.size < W.heap.size := fun W hW => by
              obtain ⟨x1, x2, x3, x4, x5, x6, x7, x8, x9, x10⟩ := alikeU hW
              have s1 : w5.heap.size < (w7.setRow w5.heap.size #[.int .i64 5, .bool false, .int .u64 0, .int .u64 0, .int .i64 0, .int .i64 0, .int .i64 0, .slice none 0 0]).heap.size := by rw [sr_size]; exact c3
              exact ⟨by rw [x1 _ _ _ s1 hw5T]; exact sr_isRow _ c1 rfl, by rw [x2 _ s1 hw5T]; exact sr_row _ (isCells_row c1), x10 _ s1⟩
            have U8 := Lib.hid (upto_setRow U7.out (show W0.heap.size ≤ w5.heap.size from U5.out.size) #[.int .i64 5, .bool false, .int .u64 0, .int .u64 0, .int .i64 0, .int .i64 0, .int .i64 0, .slice none 0 0])
            have HA8 := Lib.hid (tape_setRow HA7.out (by omega : T < w5.heap.size) #[.int .i64 5, .bool false, .int .u64 0, .int .u64 0, .int .i64 0, .int .i64 0, .int .i64 0, .slice none 0 0])
            have hbr := hbr2
            have R8 := Lib.hid (Upto.refl T (w7.setRow w5.heap.size #[.int .i64 5, .bool false, .int .u64 0, .int .u64 0, .int .i64 0, .int .i64 0, .int .i64 0, .slice none 0 0]))
            go_wp2_with fail
            generalize w7.setRow w5.heap.size #[.int .i64 5, .bool false, .int .u64 0, .int .u64 0, .int .i64 0, .int .i64 0, .int .i64 0, .slice none 0 0] = W8 at *
            cases L4 with
            | nil =>
              refine (t_drop T [] _ HA8.out).mono ?_
              rintro e wf ⟨hu, rfl⟩
              exact ⟨rfl, tells_pause (show Pm.accept ⟨most, S, prt S⟩ c (x :: y :: L2) = _ by rw [hq3]; rfl) rfl (hU0.trans (U8.out.trans hu))⟩
            | cons z Lf =>
              refine (t_drop T (z :: Lf) _ HA8.out).mono ?_
              rintro e wf ⟨hu, rfl, hA⟩
              have UF := Lib.hid (U8.out.trans hu)
              have HAF := Lib.hid hA
              obtain ⟨b1, b2, b3, b4, b5, b6, b7⟩ := hbx _ UF.out
              obtain ⟨c1, c2, c3⟩ := hbr _ (R8.out.trans hu)
              have c4 := isCells_row c1
              clear hu hA
              go_wp2
              refine bodyPost_ret (v := .agg #[.int .i64 5, .bool false, .int .u64 0, .int .u64 0, .int .i64 0, .int .i64 0, .int .i64 0, .slice none 0 0]) (res_row (t := 64) Tryz.results101 _ _ _ rfl ?_ ?_ info64 agg64) rfl ?_
              · exact sr_isRow _ b3 rfl
              · exact sr_row _ b6
              exact tells_done (show Pm.accept ⟨most, S, prt S⟩ c (x :: y :: L2) = _ by rw [hq3]; rfl) _ rfl rfl (tape_setRow HAF.out (by omega) _) (upto_setRow (hU0.trans UF.out) (by omega) _)
end
end Go.Proofs.YtnncjbkepakgpaaGreat
