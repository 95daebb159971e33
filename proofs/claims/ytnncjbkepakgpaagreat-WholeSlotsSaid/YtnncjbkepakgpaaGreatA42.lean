/-
  SLOTS THAT ARE TAKEN AT ONCE.
-/
import Derived.Test.YtnncjbkepakgpaaGreatA07
import Derived.Test.YtnncjbkepakgpaaGreatA41
namespace Go.Proofs.YtnncjbkepakgpaaGreat
set_option linter.unusedVariables false
set_option linter.unusedSimpArgs false
set_option maxRecDepth 100000
set_option maxHeartbeats 1500000
open Go.RowKit
attribute [local go_sem ↓] exec_load_29 exec_store_29 exec_load_51 exec_store_51 exec_load_41 exec_store_41 exec_load_62 exec_store_62
attribute [local go_sem] run_load29r run_store29i run_load51r run_store51i run_load41r run_store41i run_load62r run_store62i lt_up isRng_new rngOf_new isRange_past rangeOf_past isRange_drew rangeOf_drew fits_new fits_past fits_drew setAt_new setAt_past setAt_drew putAt_whole putAt_lit extract_whole extract_lit one_int one_bool one_slice one_ptr ones_lit onesL_nil onesL_cons isRow_new rowOf_new isRow_past rowOf_past isRow_drew rowOf_drew lt2 lt3 lt4 List.take_succ_cons List.take_zero List.drop_succ_cons List.drop_zero List.cons_append List.nil_append List.length_cons List.length_nil List.size_toArray setRow_new setRow_past own_cell own_frozen own_set own_isRange own_rangeOf own_fits setAt_row sr_sr sr_size sr_row sr_row' sr_isRow sr_isRow' sr_fits' sr_cell' sr_frozen' sr_isRange' sr_rangeOf' sr_isCells isCells_new isCells_past isCells_drew valC_size valC_ones opC_size opC_ones replyC_size srs_isRange srs_rangeOf srs_fits srs_cell srs_frozen f57_2 f64_0
attribute [local go_sem ↓] exec_load_57 exec_store_57
attribute [local go_sem] run_load57r run_store57i
theorem drew_sizeB (w : World) : w.drew.heap.size = w.heap.size := id rfl
attribute [local go_sem high] drew_sizeB
attribute [local simp high] drew_sizeB
theorem made8 (w : World) : Own (w.alloc (.cells (madeCells #[.slice none 0 0] 8) 32)) w.heap.size 32 1 (.slice (some ⟨w.heap.size, 0, none⟩) 8 8) (List.replicate 8 #[.slice none 0 0]) := by
  have hf : flat (List.replicate 8 (#[.slice none 0 0] : Array Value)) = (madeCells #[.slice none 0 0] 8).toList := by
    simp [flat, madeCells, List.replicate, Array.range, Array.ofFn] <;> rfl
  refine ⟨?_, fun C hC => by rw [(List.mem_replicate.1 hC).2]; exact ⟨rfl, rfl⟩⟩
  rw [hf]
  refine ⟨by simp [size_madeCells], .inr ⟨w.heap.size, 8, madeCells #[.slice none 0 0] 8, by simp, Nat.le_refl _, (MapKept.heap_alloc w _).1, by simp, by unfold maxLen; omega, by simp [size_madeCells], ?_⟩⟩
  rw [List.take_of_length_le (by simp [size_madeCells])]
theorem row_at {W : World} {B g m c : Nat} {e : TypeId} {CC : List (Array Value)} {j : Nat} {u : Value} (h : Own W B e 1 (.slice (some ⟨g, 0, none⟩) m c) CC) (hj : CC[j]? = some #[u]) : W.cell? ⟨g, j, none⟩ = some u ∧ isCells W g = true ∧ (rowOf W g)[j]? = some u := by
  have hs := h.sl
  obtain ⟨a', cap', e1, _, _, hh⟩ := hs
  simp only [Value.slice.injEq] at e1
  obtain ⟨rfl, -, -⟩ := e1
  rcases hh with ⟨hh, _⟩ | ⟨g', o', e2, _, hh⟩
  · cases hh
  · simp only [Option.some.injEq, Addr.mk.injEq] at e2
    obtain ⟨rfl, rfl, -⟩ := e2
    have hc := (hh j _ hj).cell (k := 0) (v := u) (by simp)
    have hc' : W.cell? ⟨g, j, none⟩ = some u := by simpa using hc
    obtain ⟨⟨_, h2⟩, _⟩ := h
    rcases h2 with ⟨h2, _⟩ | ⟨q, cap, cur, h3, h4, h5, h6⟩
    · cases h2
    · simp only [Value.slice.injEq, Option.some.injEq, Addr.mk.injEq] at h3
      obtain ⟨⟨rfl, -, -⟩, -, -⟩ := h3
      have hi : isCells W g = true := by unfold isCells; rw [h5]; rfl
      exact ⟨hc', hi, by rw [← own_cell j hi]; exact hc'⟩
theorem putAt_one (C : Array Value) (i : Nat) (v : Value) (h : i < C.size) : putAt C (i * 1) #[v] = C.setIfInBounds i v := by
  apply Array.ext_getElem?
  intro k
  rw [Array.getElem?_setIfInBounds]
  unfold putAt
  simp only [Nat.mul_one, List.getElem?_toArray]
  have hl : (C.toList.take i).length = i := by rw [List.length_take]; simp; omega
  rw [List.append_assoc, List.getElem?_append]
  rw [hl]
  by_cases h1 : k < i
  · rw [if_pos h1, if_neg (by omega), List.getElem?_take_of_lt h1]; simp
  · rw [if_neg h1]
    by_cases h2 : i = k
    · subst h2; rw [if_pos rfl, if_pos h]; simp
    · rw [if_neg h2]
      obtain ⟨d, rfl⟩ : ∃ d, k = i + 1 + d := ⟨k - i - 1, by omega⟩
      rw [show i + 1 + d - i = d + 1 by omega]
      simp [List.getElem?_drop]
theorem ColsAt.upto {W W' : World} {B k T : Nat} {CC : List (Array Value)} (h : ColsAt W B k CC) (u : Upto T W W') (hT : T < B) : ColsAt W' B k CC := by
  refine ⟨h.1, fun j C hC => ?_⟩
  obtain ⟨v, h0, h1, h2⟩ := h.2 j C hC
  exact ⟨v, h0, h1.upto u hT, h2⟩
theorem cols_zero (W : World) (B : Nat) : ColsAt W B 0 (List.replicate 8 #[.slice none 0 0]) := by
  refine ⟨by simp, fun j C hC => ?_⟩
  obtain rfl := (List.mem_replicate.1 (List.mem_of_getElem? hC)).2
  exact ⟨_, rfl, by rw [colOf_zero]; exact Own.nil _ _ _ _, fun _ => rfl⟩
theorem phi_small {n m : Nat} (hn : n ≤ 12) (hm : m ≤ 19) : ((cols n).map List.length).sum * (m + Pm.full1 ⟨m, 8, prt 8⟩ + 5) + 16 * m ≤ 3000 := by
  rw [cols_sum hn]
  have hf : Pm.full1 ⟨m, 8, prt 8⟩ ≤ 179 := by unfold Pm.full1 Pm.parts1; simp; omega
  have := Nat.mul_le_mul hn (show m + Pm.full1 ⟨m, 8, prt 8⟩ + 5 ≤ 203 by omega)
  omega
theorem replies_at {W : World} {gT oT cT : Nat} {CT : List (Array Value)} {ts : List Pm.Task} (h : Sl W (.slice (some ⟨gT, oT, none⟩) 8 cT) 5 CT) (he : Els TaskAt W CT ts) {i : Nat} {t : Pm.Task} (ht : ts[i]? = some t) : ∃ ar cr, W.cell? ⟨gT, oT + i * 5 + 3, none⟩ = some (.slice ar t.replies.length cr) ∧ ∀ (k : Nat) (b : Bool), t.replies[k]? = some b → ∃ gr or, ar = some ⟨gr, or, none⟩ ∧ W.cell? ⟨gr, or + k * 8, none⟩ = some (.int .i64 (if b = true then 0 else 5)) := by
  obtain ⟨C, hC, vc, vg, vr, rfl, -, -, hr⟩ := he.at ht
  obtain ⟨a, cap, e, _, _, hh⟩ := h
  simp only [Value.slice.injEq] at e
  obtain ⟨rfl, -, -⟩ := e
  rcases hh with ⟨hh, _⟩ | ⟨g, o, e2, _, hh⟩
  · cases hh
  · simp only [Option.some.injEq, Addr.mk.injEq] at e2
    obtain ⟨rfl, rfl, -⟩ := e2
    have hc := (hh i _ hC).cell (k := 3) (v := vr) (by simp)
    obtain ⟨ar, cr, rfl, _, _, hq⟩ := hr
    refine ⟨ar, cr, by simpa using hc, fun k b hb => ?_⟩
    rcases hq with ⟨_, hq⟩ | ⟨gr, or, rfl, _, hq⟩
    · simp at hq; rw [hq] at hb; simp at hb
    · have := (hq k (replyC b) (by simp [hb])).cell (k := 0) (v := .int .i64 (if b = true then 0 else 5)) (by simp [replyC])
      exact ⟨gr, or, rfl, by simpa using this⟩
def sumT (b : Bool) (ts : List Pm.Task) (i : Nat) : Nat := ((ts.take i).map fun t => t.replies.count b).sum
theorem sumT_succ (b : Bool) {ts : List Pm.Task} {i : Nat} {t : Pm.Task} (h : ts[i]? = some t) : sumT b ts (i + 1) = sumT b ts i + t.replies.count b := by
  have hi := (List.getElem?_eq_some_iff.1 h).1
  have e := (List.getElem?_eq_some_iff.1 h).2
  unfold sumT
  rw [List.take_succ_eq_append_getElem hi, e]
  simp
theorem sumT_all (b : Bool) (ts : List Pm.Task) : sumT b ts ts.length = (ts.map fun t => t.replies.count b).sum := by unfold sumT; rw [List.take_length]
theorem sumT_le (b : Bool) {ts : List Pm.Task} (h : ∀ (i : Nat) (t : Pm.Task), ts[i]? = some t → t.replies.length ≤ 64) : ∀ i, i ≤ ts.length → sumT b ts i ≤ i * 64
  | 0, _ => by simp [sumT]
  | i + 1, hi => by
    have ht : ts[i]? = some ts[i] := List.getElem?_eq_getElem (by omega)
    rw [sumT_succ b ht]
    have h1 := sumT_le b h i (by omega)
    have h2 := h i _ ht
    have h3 := List.count_le_length (a := b) (l := ts[i].replies)
    omega
theorem count_next {l : List Bool} {k : Nat} {b : Bool} (h : l[k]? = some b) (x : Bool) : (l.take (k + 1)).count x = (l.take k).count x + if b = x then 1 else 0 := by
  have hk := (List.getElem?_eq_some_iff.1 h).1
  have e := (List.getElem?_eq_some_iff.1 h).2
  rw [List.take_succ_eq_append_getElem hk, e, List.count_append]
  cases b <;> cases x <;> simp
def LoopEnd (B r9 k : Nat) (W0 wr : World) : Prop := ∃ CC, Own wr r9 32 1 (.slice (some ⟨r9, 0, none⟩) 8 8) CC ∧ ColsAt wr B k CC ∧ Upto r9 W0 wr
theorem whole_laid (most come : Nat) (h1 : most ≤ 65535) (h2 : come ≤ 255) (picks : List Int) (hpk : ∀ x ∈ picks, -9223372036854775808 ≤ x ∧ x ≤ 9223372036854775807) (v : Value) (w : World) (hv : Pk w v picks) : Calls Tryz.prog 3 #[.int .u16 most, .int .u8 come, v] w fun e w' => e = .returned (.bool true) ∧ Below w.heap.size w w' := by
  obtain ⟨n, hn⟩ : ∃ n, n = come % 13 := ⟨_, rfl⟩
  obtain ⟨m, hm⟩ : ∃ m, m = most % 20 := ⟨_, rfl⟩
  have e1 : (come : Int) % 13 = (n : Int) := by omega
  have e2 : (most : Int) % 20 = (m : Int) := by omega
  have hn12 : n ≤ 12 := by omega
  have hm19 : m ≤ 19 := by omega
  have h1i : (most : Int) ≤ 65535 := by omega
  have h2i : (come : Int) ≤ 255 := by omega
  have h1z : 0 ≤ (most : Int) := by omega
  have h2z : 0 ≤ (come : Int) := by omega
  have HV := Lib.hid hv
  have HPK := Lib.hid hpk
  obtain ⟨⟨av, cv, rfl⟩, -⟩ := id hv
  clear hv hn hm hpk
  by_cases hp : 400 < picks.length
  · have hpi : (picks.length : Int) > 400 := by omega
    have hpj : (400 : Int) < (picks.length : Int) := by omega
    go_enter Tryz.func3, Tryz.ntmps3
    go_wp2_with fail
    refine (awake_law _).mono ?_
    rintro e w1 ⟨rfl, hb⟩
    have HB := Lib.hid hb
    clear hb
    go_wp2
    go_ret
    exact ⟨rfl, HB.out⟩
  · have hpi : ¬ ((picks.length : Int) > 400) := by omega
    have hpj : ¬ ((400 : Int) < (picks.length : Int)) := by omega
    have hmk : ∀ W : World, (Instr.makeSlice 31 (.int .i64 8) (.int .i64 8)).run Tryz.prog W = .ok (.slice (some ⟨W.heap.size, 0, none⟩) 8 8) (W.alloc (.cells (madeCells #[.slice none 0 0] 8) 32)) := fun W => by kernel_rfl
    go_enter Tryz.func3, Tryz.ntmps3
    go_wp2_with fail
    refine (plain_law _).mono ?_
    rintro e w1 ⟨rfl, hb⟩
    have HB1 := Lib.hid hb
    have hs1 := hb.size
    clear hb
    go_wp2_with fail
    obtain ⟨WG, hWG⟩ : ∃ W, (w1.alloc (.cells (#[.int .i64 m, .int .i64 4, .int .i64 8, .int .i64 64, .int .i64 64, .int .u64 1, .int .i64 1, .int .i64 1, .int .i64 1, .int .i64 64, .int .i64 100, .int .i64 100, .int .i64 1000, .int .i64 2, .int .i64 64, .int .i64 4]) 29)).alloc (.cells (madeCells #[.slice none 0 0] 8) 32) = W := ⟨_, rfl⟩
    have bw0 : Below w.heap.size w WG := by subst hWG; exact (HB1.out.alloc hs1 _).alloc (by rw [World.size_alloc]; omega) _
    have bRa1 : isRow WG (w1.heap.size) 29 16 = true := by subst hWG; go_simp
    have bVa1 : rowOf WG (w1.heap.size) = #[.int .i64 m, .int .i64 4, .int .i64 8, .int .i64 64, .int .i64 64, .int .u64 1, .int .i64 1, .int .i64 1, .int .i64 1, .int .i64 64, .int .i64 100, .int .i64 100, .int .i64 1000, .int .i64 2, .int .i64 64, .int .i64 4] := by subst hWG; go_simp
    have bCa1 := isCells_row bRa1
    have bLa1 := row_lt bRa1
    have HO8 := Lib.hid (show Own ((w1.alloc (.cells (#[.int .i64 m, .int .i64 4, .int .i64 8, .int .i64 64, .int .i64 64, .int .u64 1, .int .i64 1, .int .i64 1, .int .i64 1, .int .i64 64, .int .i64 100, .int .i64 100, .int .i64 1000, .int .i64 2, .int .i64 64, .int .i64 4]) 29)).alloc (.cells (madeCells #[.slice none 0 0] 8) 32)) (w1.heap.size + 1) 32 1 (.slice (some ⟨w1.heap.size + 1, 0, none⟩) 8 8) _ by have := made8 (w1.alloc (.cells (#[.int .i64 m, .int .i64 4, .int .i64 8, .int .i64 64, .int .i64 64, .int .u64 1, .int .i64 1, .int .i64 1, .int .i64 1, .int .i64 64, .int .i64 100, .int .i64 100, .int .i64 1000, .int .i64 2, .int .i64 64, .int .i64 4]) 29)); rw [World.size_alloc] at this; exact this)
    have hz0 : WG.heap.size = w1.heap.size + 1 + 1 := by subst hWG; simp
    have Hz0 := Lib.hid hz0
    clear hz0
    generalize (w1.alloc (.cells (#[.int .i64 m, .int .i64 4, .int .i64 8, .int .i64 64, .int .i64 64, .int .u64 1, .int .i64 1, .int .i64 1, .int .i64 1, .int .i64 64, .int .i64 100, .int .i64 100, .int .i64 1000, .int .i64 2, .int .i64 64, .int .i64 4]) 29)).alloc (.cells (madeCells #[.slice none 0 0] 8) 32) = W0 at *
    subst hWG
    generalize hr9 : w1.heap.size + 1 = r9 at *
    generalize hr1 : w1.heap.size = r1 at *
    have hr19 : r1 < r9 := by omega
    have hr9W : r9 < W0.heap.size := by have := Hz0.out; omega
    have hw9 : w.heap.size ≤ r9 := by omega
    clear hr9 hr1 HB1 hs1 Hz0 hmk
    (try rw [e2])
    (try rw [e1])
    clear e1 e2
    go_loopg [10] n (fun g s10 wr => ∃ k : Nat, s10 = .int .i64 k ∧ k + g = n ∧ Hid (LoopEnd W0.heap.size r9 k W0 wr))
    case atStart => exact ⟨0, rfl, by omega, Lib.hid ⟨_, HO8.out, cols_zero _ _, Upto.refl _ _⟩⟩
    case round =>
      obtain ⟨k, rfl, hg, HH⟩ := hrel
      obtain ⟨CC, hO, hCo, hU⟩ := HH.out
      have hws := hU.size
      have hCCl := hCo.1
      clear HH HO8
      cases gk with
      | zero =>
        have hk : ¬ ((k : Int) < (n : Int)) := by omega
        obtain rfl : k = n := by omega
        have bwr : Below w.heap.size w wr := bw0.trans (hU.below hw9 bw0.size)
        have xu := alikeU hU
        have bRb1 : isRow wr r1 29 16 = true := (xu.1 _ _ _ (row_lt bRa1) (by omega)).trans bRa1
        have bVb1 : rowOf wr r1 = #[.int .i64 m, .int .i64 4, .int .i64 8, .int .i64 64, .int .i64 64, .int .u64 1, .int .i64 1, .int .i64 1, .int .i64 1, .int .i64 64, .int .i64 100, .int .i64 100, .int .i64 1000, .int .i64 2, .int .i64 64, .int .i64 4] := (xu.2.1 _ (row_lt bRa1) (by omega)).trans bVa1
        have bCb1 := isCells_row bRb1
        have bLb1 := row_lt bRb1
        have HNW := Lib.hid (fun (W : World) (b : Below wr.heap.size wr W) => (show Calls Tryz.prog 8 #[.agg (#[.int .i64 m, .int .i64 4, .int .i64 8, .int .i64 64, .int .i64 64, .int .u64 1, .int .i64 1, .int .i64 1, .int .i64 1, .int .i64 64, .int .i64 100, .int .i64 100, .int .i64 1000, .int .i64 2, .int .i64 64, .int .i64 4]), .agg (#[.slice none 0 0, .slice none 0 0, .slice none 0 0]), .slice (some ⟨r9, 0, none⟩) 8 8] W (NewEnd m 8 (cols k) W) from world_new m 8 (by omega) (by decide) (by decide) (cols k) (by rw [cols_len]; decide) cols_small CC _ W (hO.sl.below b) ((cols_calls hCo).mono fun _ _ x => x.below b)))
        have HVr := Lib.hid (HV.out.below bwr)
        clear xu hO hCo hU bRa1 bVa1 bCa1 bLa1 bw0 hws HV hCCl hr9W
        generalize wr = Wa at *
        go_wp2_with fail
        refine (HNW.out Wa (Below.refl _ _)).mono ?_
        rintro e w4 ⟨X, rfl, hX, hb⟩
        have hXz := hX.at.size
        have hXo := hX.at.ones
        have xs := alike hb
        have bRs1 : isRow w4 r1 29 16 = true := (xs.1 _ _ _ bLb1).trans bRb1
        have bVs1 : rowOf w4 r1 = #[.int .i64 m, .int .i64 4, .int .i64 8, .int .i64 64, .int .i64 64, .int .u64 1, .int .i64 1, .int .i64 1, .int .i64 1, .int .i64 64, .int .i64 100, .int .i64 100, .int .i64 1000, .int .i64 2, .int .i64 64, .int .i64 4] := (xs.2.1 _ bLb1).trans bVb1
        have bCs1 := isCells_row bRs1
        have bLs1 := row_lt bRs1
        have bw4 : Below w.heap.size w w4 := bwr.trans (hb.mono bwr.size)
        have HX6 := Lib.hid (hX.cut.below ((Below.refl w4.heap.size w4).alloc (Nat.le_refl _) (.cells X 51)))
        have HV6 := Lib.hid ((HVr.out.below hb).below ((Below.refl w4.heap.size w4).alloc (Nat.le_refl _) (.cells X 51)))
        have hs4 := bwr.size
        have hs4' := hb.size
        clear hX hb xs HNW bRb1 bVb1 bCb1 bLb1 HVr
        have hok : Pm.Ok ⟨m, 8, prt 8⟩ := ⟨Nat.zero_lt_succ 7, hm19, fun q => prt_lt 8 q (by decide) (by decide)⟩
        have HRun := Lib.hid (run_law m 8 3000 (by decide) (by decide) hm19 (by decide) _ _ (far_zero (most := m) (S := 8) (steps := 3000) (ls := cols k) hok cols_apart (phi_small hn12 hm19)) (by simp [Pm.zeroZ, cols_len]) (fun x hx => cols_small _ (zero_calls hx)) picks HPK.out _ _ X _ HV6.out HX6.out)
        have bR60 : isRow (w4.alloc (.cells X 51)) (w4.heap.size) 51 24 = true := by go_simp
        have bV60 : rowOf (w4.alloc (.cells X 51)) (w4.heap.size) = X := by go_simp
        have b46 : Below w4.heap.size w4 (w4.alloc (.cells X 51)) := (Below.refl w4.heap.size w4).alloc (Nat.le_refl _) _
        have hs6 : (w4.alloc (.cells X 51)).heap.size = w4.heap.size + 1 := by simp
        have Hs6 := Lib.hid hs6
        clear hs6
        go_wp2_with fail
        generalize w4.alloc (.cells X 51) = W6 at *
        refine HRun.out.mono ?_
        rintro e w7 ⟨X7, p7, z7, k7, rfl, hX7, hF7, hon, hk7, hb⟩
        have hX7z := hX7.at.size
        have hX7o := hX7.at.ones
        have xt := alike hb
        have bR70 : isRow w7 (w4.heap.size) 51 24 = true := (xt.1 _ _ _ (row_lt bR60)).trans bR60
        have bC70 := isCells_row bR70
        have bV70 : rowOf w7 (w4.heap.size) = X := (xt.2.1 _ (row_lt bR60)).trans bV60
        have hfit7 : fitsAt w7 (w4.heap.size) 0 24 = true := fits_row bR70 (by omega)
        have b47 : Below w4.heap.size w4 w7 := b46.trans (hb.mono b46.size)
        have xv := alike b47
        have bRt1 : isRow w7 r1 29 16 = true := (xv.1 _ _ _ bLs1).trans bRs1
        have bVt1 : rowOf w7 r1 = #[.int .i64 m, .int .i64 4, .int .i64 8, .int .i64 64, .int .i64 64, .int .u64 1, .int .i64 1, .int .i64 1, .int .i64 1, .int .i64 64, .int .i64 100, .int .i64 100, .int .i64 1000, .int .i64 2, .int .i64 64, .int .i64 4] := (xv.2.1 _ bLs1).trans bVs1
        have hn14 : r1 ≠ w4.heap.size := by omega
        have hn14' : ¬ (r1 = w4.heap.size) := by omega
        have hn41 : ¬ (w4.heap.size = r1) := by omega
        have bw8 : Below w.heap.size w (w7.setRow (w4.heap.size) X7) := below_setRow (bw4.trans (b47.mono bw4.size)) (by omega) _
        have HRan := Lib.hid (ran_of (ls := cols k) hok cols_small (hX7.upto (upto_own (Upto.refl (w4.heap.size) w7) X7) (fun e => by have := Hs6.out; rcases e with ⟨_, e⟩ | e <;> omega)) hF7 hon)
        have bR81 : isRow (w7.setRow (w4.heap.size) X7) r1 29 16 = true := (sr_isRow' _ _ _ _ _ _ hn14).trans bRt1
        have bV81 : rowOf (w7.setRow (w4.heap.size) X7) r1 = #[.int .i64 m, .int .i64 4, .int .i64 8, .int .i64 64, .int .i64 64, .int .u64 1, .int .i64 1, .int .i64 1, .int .i64 1, .int .i64 64, .int .i64 100, .int .i64 100, .int .i64 1000, .int .i64 2, .int .i64 64, .int .i64 4] := (sr_row' _ _ _ _ hn14).trans bVt1
        have bR84 : isRow (w7.setRow (w4.heap.size) X7) (w4.heap.size) 51 24 = true := sr_isRow _ bR70 hX7z
        have bV84 : rowOf (w7.setRow (w4.heap.size) X7) (w4.heap.size) = X7 := sr_row _ bC70
        clear hX7 hF7 hon hk7 hb xt xv b47 HRun HX6 HV6 b46 Hs6 bR60 bV60 bRs1 bVs1 bCs1 bLs1 bwr bw4
        go_wp2
        generalize w7.setRow (w4.heap.size) X7 = W8 at *
        generalize w4.heap.size = r4 at *
        obtain ⟨aS, aL, aT, aG, nS, cS, nL, cL, nT, cT, nG, cG, CS, CT, p, rfl, j1, j2, j3, j4, j5, j6, j7, j8, j9, j10, j11, j12⟩ := HRan.out.out
        rw [cols_sum hn12] at j9 j10 j11 j12
        rw [cols_len] at j6
        have hCTl : CT.length = 8 := j4.1.trans j6
        have haT : ∃ gT oT, aT = some ⟨gT, oT, none⟩ ∧ nT = 8 := by
          obtain ⟨a, cap, e, _, _, hh⟩ := j3
          simp only [Value.slice.injEq] at e
          obtain ⟨rfl, hn, -⟩ := e
          rcases hh with ⟨_, hh⟩ | ⟨g, o, hh, _⟩
          · rw [hh] at hCTl; simp at hCTl
          · exact ⟨g, o, hh, hn.trans hCTl⟩
        obtain ⟨gT, oT, rfl, rfl⟩ := haT
        have j3' := j3
        have hCTe : (Value.slice (some ⟨gT, oT, none⟩) 8 cT) = (Value.slice (some ⟨gT, oT, none⟩) CT.length cT) := by rw [hCTl]
        have HTs := Lib.hid (fun (i : Nat) (t : Pm.Task) (h : p.tasks[i]? = some t) => replies_at j3 j4 h)
        have hmin : (min k m : Nat) ≤ 12 := by omega
        obtain ⟨tt, htt⟩ : ∃ tt, tt = min k m := ⟨_, rfl⟩
        obtain ⟨ff, hff⟩ : ∃ ff, ff = k - tt := ⟨_, rfl⟩
        have emin : min (k : Int) (m : Int) = (tt : Int) := by omega
        have esub : IntKind.i64.wrap ((k : Int) - (tt : Int)) = (ff : Int) := by rw [IntKind.wrap_i64]; omega
        have esub' : (k : Int) - (tt : Int) = (ff : Int) := by omega
        rw [← htt] at j9 j10 j11 j12
        rw [← hff] at j12
        have J9 := Lib.hid j9
        have J10 := Lib.hid j10
        have J11 := Lib.hid j11
        have J12 := Lib.hid j12
        have J6 := Lib.hid j6
        have hj7 := Lib.hid (fun (i : Nat) (t : Pm.Task) (h : p.tasks[i]? = some t) => (j7 i t h).2.2)
        have HOv := Lib.hid (fun (W : World) (b : Below W8.heap.size W8 W) => (show Calls Tryz.prog 10 #[.agg (#[.int .i64 m, .int .i64 4, .int .i64 8, .int .i64 64, .int .i64 64, .int .u64 1, .int .i64 1, .int .i64 1, .int .i64 1, .int .i64 64, .int .i64 100, .int .i64 100, .int .i64 1000, .int .i64 2, .int .i64 64, .int .i64 4, .int .i64 p.inn, .int .i64 0, .slice none 0 0, .slice none 0 0, .slice aS nS cS, .slice aL nL cL, .slice (some ⟨gT, oT, none⟩) 8 cT, .slice aG nG cG])] W _ from world_over m 8 aS aL (some ⟨gT, oT, none⟩) aG nS cS nL cL 8 cT nG cG p.inn p.tasks (fun i t h => ⟨(j7 i t h).1, (j7 i t h).2.1⟩) CT W (j3.below b) (j4.mono fun _ _ x => x.below b) (by omega)))
        have HSt := Lib.hid (fun (W : World) (b : Below W8.heap.size W8 W) => (show Calls Tryz.prog 11 #[.agg (#[.int .i64 m, .int .i64 4, .int .i64 8, .int .i64 64, .int .i64 64, .int .u64 1, .int .i64 1, .int .i64 1, .int .i64 1, .int .i64 64, .int .i64 100, .int .i64 100, .int .i64 1000, .int .i64 2, .int .i64 64, .int .i64 4, .int .i64 p.inn, .int .i64 0, .slice none 0 0, .slice none 0 0, .slice aS nS cS, .slice aL nL cL, .slice (some ⟨gT, oT, none⟩) 8 cT, .slice aG nG cG])] W _ from world_state m 8 (.slice (some ⟨gT, oT, none⟩) 8 cT) (.slice aG nG cG) rfl rfl p.parts j8 (by omega) CS p.inn (.slice aS nS cS) aL nL cL W (j1.below b) (j2.mono fun _ _ x => x.below b) (by omega)))
        have bC84 := isCells_row bR84
        have bC81 := isCells_row bR81
        clear HRan j1 j2 j3 j3' j4 j5 j6 j7 j8 j9 j10 j11 j12 hmin hX7z hX7o hCTe htt hff hCTl bR70 bC70 bV70 hfit7 bRt1 bVt1 hXz hXo hok
        go_loopg [13, 14, 15] 8 (fun g s13 s14 s15 wr => ∃ i : Nat, s15 = .int .i64 i ∧ i + g = 8 ∧ s13 = .int .i64 (sumT true p.tasks i : Nat) ∧ s14 = .int .i64 (sumT false p.tasks i : Nat) ∧ W8 = wr)
        case atStart => exact ⟨0, rfl, rfl, rfl, rfl, rfl⟩
        case round =>
          obtain ⟨i, rfl, hg8, rfl, rfl, rfl⟩ := hrel
          cases gk with
          | zero =>
            have hi : ¬ ((i : Int) < 8) := by omega
            obtain rfl : i = 8 := by omega
            have hT : sumT true p.tasks 8 = tt := by rw [← J6.out, sumT_all]; exact J11.out
            have hF : sumT false p.tasks 8 = ff := by rw [← J6.out, sumT_all]; exact J12.out
            rw [hT, hF]
            clear hT hF HTs hj7
            go_wp2_with fail
            refine (HOv.out W8 (Below.refl _ _)).mono ?_
            rintro e w9 ⟨rfl, hb⟩
            have b9 : Below W8.heap.size W8 w9 := hb
            have x9 := alike hb
            have bR94 : isRow w9 r4 51 24 = true := (x9.1 _ _ _ (row_lt bR84)).trans bR84
            have bV94 := (x9.2.1 _ (row_lt bR84)).trans bV84
            have bC94 := isCells_row bR94
            have bR91 : isRow w9 r1 29 16 = true := (x9.1 _ _ _ (row_lt bR81)).trans bR81
            have bV91 := (x9.2.1 _ (row_lt bR81)).trans bV81
            have bC91 := isCells_row bR91
            clear hb x9 HOv bR84 bV84 bC84 bR81 bV81 bC81
            go_wp2_with fail
            refine (HSt.out w9 b9).mono ?_
            rintro e w10 ⟨v10, D, rfl, hD, hs, -, hb⟩
            have b10 : Below W8.heap.size W8 w10 := b9.trans (hb.mono b9.size)
            have hDt : D.length = tt := hD.trans J10.out
            obtain ⟨a10, c10, e10, -⟩ := id hs
            rw [List.length_map, hDt] at e10
            subst e10
            have x10 := alike hb
            have bR104 : isRow w10 r4 51 24 = true := (x10.1 _ _ _ (row_lt bR94)).trans bR94
            have bV104 := (x10.2.1 _ (row_lt bR94)).trans bV94
            have bC104 := isCells_row bR104
            have hin := J9.out
            clear hD hDt hs hb x10 HSt bR94 bV94 bC94 bR91 bV91 bC91 b9
            go_wp2_with fail
            refine (awake_law _).mono ?_
            rintro e w11 ⟨rfl, hb⟩
            have b11 : Below w.heap.size w w11 := bw8.trans ((b10.trans (hb.mono b10.size)).mono bw8.size)
            clear hb b10 hin bR104 bV104 bC104
            go_wp2
            go_ret
            exact ⟨rfl, b11⟩
          | succ g3 =>
            have hi : (i : Int) < 8 := by omega
            have hi0 : ¬ ((i : Int) < 0) := by omega
            have hi1 : 0 ≤ (i : Int) := by omega
            have hil : i < p.tasks.length := by have := J6.out; omega
            obtain ⟨t, ht⟩ : ∃ t, p.tasks[i]? = some t := ⟨_, List.getElem?_eq_getElem hil⟩
            obtain ⟨ar, cr, hcr, hrep⟩ := HTs.out i t ht
            have hl64 := hj7.out i t ht
            have Hrep := Lib.hid hrep
            have Hst := Lib.hid (And.intro (sumT_succ true ht) (sumT_succ false ht))
            have hb1 := sumT_le true hj7.out i (by omega)
            have hb2 := sumT_le false hj7.out i (by omega)
            clear hrep ht hil
            generalize sumT true p.tasks i = A at *
            generalize sumT false p.tasks i = B at *
            go_wp2
            go_loopg [13, 14, 16] t.replies.length (fun g s13 s14 s16 wr => ∃ q : Nat, s16 = .int .i64 q ∧ q + g = t.replies.length ∧ s13 = .int .i64 (A + (t.replies.take q).count true : Nat) ∧ s14 = .int .i64 (B + (t.replies.take q).count false : Nat) ∧ W8 = wr)
            case atStart => exact ⟨0, rfl, by omega, by simp, by simp, rfl⟩
            case round =>
              obtain ⟨q, rfl, hgq, rfl, rfl, rfl⟩ := hrel
              cases gk with
              | zero =>
                have hq : ¬ ((q : Int) < (t.replies.length : Int)) := by omega
                have hqe : t.replies.take q = t.replies := List.take_of_length_le (by omega)
                rw [hqe]
                clear hqe
                generalize hct : t.replies.count true = ct at *
                generalize hcf : t.replies.count false = cf at *
                clear hct hcf
                go_wp2
                go_roundg g3
                case measure => omega
                case rel => exact ⟨i + 1, by simp, by omega, by rw [Hst.out.1]; simp, by rw [Hst.out.2]; simp, rfl⟩
              | succ g4 =>
                have hq : (q : Int) < (t.replies.length : Int) := by omega
                have hq0 : ¬ ((q : Int) < 0) := by omega
                have hq1 : 0 ≤ (q : Int) := by omega
                have hql : q < t.replies.length := by omega
                obtain ⟨b, hbq⟩ : ∃ b, t.replies[q]? = some b := ⟨_, List.getElem?_eq_getElem hql⟩
                obtain ⟨gr, or, rfl, hcc⟩ := Hrep.out q b hbq
                have Hct := Lib.hid (And.intro (count_next hbq true) (count_next hbq false))
                have hc1 := List.count_le_length (a := true) (l := t.replies.take q)
                have hc2 := List.count_le_length (a := false) (l := t.replies.take q)
                rw [List.length_take] at hc1 hc2
                have hc1' : (t.replies.take q).count true ≤ 64 := by omega
                have hc2' : (t.replies.take q).count false ≤ 64 := by omega
                clear hbq hc1 hc2
                generalize (t.replies.take q).count true = ct at *
                generalize (t.replies.take q).count false = cf at *
                have ha1 : ((A + ct : Nat) : Int) ≤ 10000 := by omega
                have ha2 : ((B + cf : Nat) : Int) ≤ 10000 := by omega
                have ha3 : 0 ≤ ((A + ct : Nat) : Int) := by omega
                have ha4 : 0 ≤ ((B + cf : Nat) : Int) := by omega
                generalize hA : A + ct = A' at *
                generalize hB : B + cf = B' at *
                have HAB := Lib.hid (And.intro hA hB)
                clear hA hB
                cases b with
                | true =>
                  have hcc' : W8.cell? ⟨gr, or + q * 8, none⟩ = some (.int .i64 0) := hcc
                  clear hcc
                  go_wp2
                  go_roundg g4
                  case measure => omega
                  case rel => exact ⟨q + 1, by simp, by omega, by rw [Hct.out.1, ← HAB.out.1]; simp; try omega, by rw [Hct.out.2, ← HAB.out.2]; simp, rfl⟩
                | false =>
                  have hcc' : W8.cell? ⟨gr, or + q * 8, none⟩ = some (.int .i64 5) := hcc
                  clear hcc
                  go_wp2
                  go_roundg g4
                  case measure => omega
                  case rel => exact ⟨q + 1, by simp, by omega, by rw [Hct.out.1, ← HAB.out.1]; simp, by rw [Hct.out.2, ← HAB.out.2]; simp; try omega, rfl⟩
      | succ gg =>
        have hk : (k : Int) < (n : Int) := by omega
        have hk16 : k < 16 := by omega
        obtain ⟨j, hj⟩ : ∃ j, j = k % 8 := ⟨_, rfl⟩
        have ej : (k : Int) % 8 = (j : Int) := by omega
        have ejt : Int.tmod (k : Int) 8 = (j : Int) := by rw [hj]; rfl
        have hj8 : j < 8 := by omega
        have hji : (j : Int) < 8 := by omega
        have hj0 : ¬ ((j : Int) < 0) := by omega
        have hj1 : 0 ≤ (j : Int) := by omega
        have hCj : ∃ C, CC[j]? = some C := ⟨_, List.getElem?_eq_getElem (by omega)⟩
        obtain ⟨Cj, hCj⟩ := hCj
        obtain ⟨vj, rfl, hOj, hnj⟩ := hCo.2 j Cj hCj
        obtain ⟨hcell, hcells, hrow⟩ := row_at hO hCj
        obtain ⟨aj, cj, evj, -⟩ := id hOj.sl
        simp only [List.length_map] at evj
        subst evj
        have hcl := colOf_len k j
        have hcat := callC_at k hk16
        have HO := Lib.hid hO
        have HCo := Lib.hid hCo
        have HU := Lib.hid hU
        have HOj := Lib.hid hOj
        have HCj := Lib.hid hCj
        have HJ := Lib.hid hj
        have Hcat := Lib.hid hcat
        have hCC8 : CC.length = 8 := hCCl
        have HC8 := Lib.hid hCC8
        have hr9r : r9 < wr.heap.size := by omega
        clear hO hCo hU hOj hCj hj hcat hcell hnj hCC8 hCCl bRa1 bVa1 bCa1 bLa1
        go_wp2_with fail
        refine region_treeZ 15 (by kernel_rfl) (Below W0.heap.size wr) [0, 1, 2, 3, 4, 5, 6, 7, 8, 10] 6 (by kernel_rfl) (by kernel_rfl) (fun _ _ d _ _ h => by cases d <;> exact h) (Below.refl _ _).drew ?_
        simp only [PL]
        apply reads_op
        · exact bk18
        try simp only [PT]
        apply reads_op
        · exact bk18
        try simp only [PT]
        apply reads_op
        · exact bk18
        try simp only [PT]
        apply reads_op
        · exact bk18
        try simp only [PT]
        apply reads_op
        · exact bk18
        try simp only [PT]
        apply reads_op
        · exact bk18
        try simp only [PT]
        apply reads_op
        · exact bk18
        try simp only [PT]
        apply reads_op
        · exact bk18
        try simp only [PT]
        apply reads_op
        · exact bk18
        try simp only [PT]
        apply reads_op
        · exact bk18
        try simp only [PT]
        refine reads_nil ?_
        refine treeZ_one 9 (by kernel_rfl) (by kernel_rfl) ?_
        simp only [nthL]
        go_wp2_with fail
        refine (end_law k hk16 _).mono ?_
        rintro e w2 ⟨rfl, hb⟩
        have hk2 := Keep.mk (show Below wr.heap.size wr w2 from ((Below.refl wr.heap.size wr).drew).trans hb)
        have hs2 : wr.heap.size ≤ w2.heap.size := hk2.out.size
        clear hb
        go_wp2
        refine chain_on (bk50) ?_
        refine treeZ_reads (by kernel_rfl) [11] 4 rfl (by kernel_rfl) (fun _ _ d _ _ h => by cases d <;> exact h) (bk50) ?_
        simp only [PL]
        apply reads_op
        · exact bk18
        try simp only [PT]
        refine reads_nil ?_
        refine treeZ_one 12 (by kernel_rfl) (by kernel_rfl) ?_
        simp only [nthL]
        go_wp2_with fail
        refine chain_on (bk50) ?_
        refine treeZ_one 13 (by kernel_rfl) (by kernel_rfl) ?_
        simp only [nthL]
        have HOa := Lib.hid (HOj.out.below (hk2.out.alloc hs2 (.cells (#[.int .i64 1, .bool false, .int .u64 0, .int .u64 (loOf k), .int .i64 80, .bool false, .int .u64 0, .int .u64 0, .int .i64 0, .int .i64 k, .int .i64 0, .bool false]) 41)))
        refine app41o rfl (.tmp 45) (.tmp 50) rfl W0.heap.size _ ((colOf k j).map callC) [#[.int .i64 1, .bool false, .int .u64 0, .int .u64 (loOf k), .int .i64 80, .bool false, .int .u64 0, .int .u64 0, .int .i64 0, .int .i64 k, .int .i64 0, .bool false]] rfl HOa.out _ _ _ rfl (sl_one w2 (#[.int .i64 1, .bool false, .int .u64 0, .int .u64 (loOf k), .int .i64 80, .bool false, .int .u64 0, .int .u64 0, .int .i64 0, .int .i64 k, .int .i64 0, .bool false]) 41 12 _ rfl rfl rfl) (by simp; omega) (by rw [World.size_alloc]; omega) ?_
        intro v7 w7 hown hbel hsame hsz7
        obtain ⟨a7, c7, ev, -⟩ := hown.sl
        simp only [List.length_append, List.length_singleton, List.length_cons, List.length_nil, List.length_map, Nat.zero_add] at ev
        have b37 : Below W0.heap.size wr w7 := ((hk2.out.mono hws).alloc (by omega) _).trans hbel
        have hown' : Own w7 W0.heap.size 41 12 v7 ((colOf k (k % 8)).map callC ++ [callC k]) := by rw [← HJ.out, Hcat.out]; exact hown
        have HC7 := Lib.hid (cols_next hk16 (HCo.out.below (hk2.out.alloc hs2 _)) (by rw [← HJ.out]; exact HCj.out) hsame hown')
        have HO7 := Lib.hid (HO.out.same (W' := w7) (fun g hg _ => by simp only [Value.ownBlock, Option.some.injEq] at hg; subst hg; exact b37.block _ hr9W))
        have hones : ones #[v7] = true := by rw [ev]; rfl
        obtain ⟨g', cap', e', -, -, -, -, hfit, hO9⟩ := HO7.out.setEl (i := j) (by have := HC8.out; omega) (C := #[v7]) rfl hones
        simp only [Value.slice.injEq, Option.some.injEq, Addr.mk.injEq, true_and, and_true] at e'
        obtain ⟨rfl, -⟩ := e'
        have hc7 : isCells w7 r9 = true := ((alike b37).2.2.2.2.2.2.2.1 r9 hr9W).trans hcells
        have hw7 : (rowOf w7 r9)[j]? = some (.slice aj (colOf k j).length cj) := by rw [(alike b37).2.1 r9 hr9W]; exact hrow
        have hjz : j < (rowOf w7 r9).size := (Array.getElem?_eq_some_iff.1 hw7).1
        rw [setAt, putAt_one _ _ _ hjz] at hO9
        have HO9 := Lib.hid hO9
        have HU7 := Lib.hid (upto_since HU.out b37 (Nat.le_refl _))
        subst ev
        rw [← HJ.out] at HC7
        clear hown hown' hbel hsame HOa hfit hO9 hones
        go_wp2
        refine chain_on (bk50) ?_
        refine treeZ_reads (by kernel_rfl) [14] 1 rfl (by kernel_rfl) (fun _ _ d _ _ h => by cases d <;> exact h) (bk50) ?_
        simp only [PL]
        apply reads_op
        · exact bk18
        try simp only [PT]
        refine reads_nil ?_
        refine treeZ_last 15 rfl (by kernel_rfl) (by kernel_rfl) ?_
        simp only [nthL]
        go_wp2_with fail
        refine chain_on trivial ?_
        refine treeZ_end (by kernel_rfl) ?_
        go_wp2_with fail
        go_roundg gg
        case measure => omega
        case rel => exact ⟨k + 1, by simp, by omega, Lib.hid ⟨_, HO9.out, HC7.out.upto (upto_own (Upto.refl r9 w7) _) hr9W, upto_own HU7.out _⟩⟩
end Go.Proofs.YtnncjbkepakgpaaGreat
