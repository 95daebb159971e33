/-
  ARE THEY AWAKE?
  CALLS IN COLUMNS, IN PLAIN LEAN; ROWS THAT BEGIN UNLIKE LIE APART.
-/
import Derived.Test.YtnncjbkepakgpaaGreatA07
import Derived.Test.YtnncjbkepakgpaaGreatA40
import Derived.Test.YtnncjbkepakgpaaGreatA28
import Derived.Test.YtnncjbkepakgpaaGreatA29
namespace Go.Proofs.YtnncjbkepakgpaaGreat
set_option linter.unusedVariables false
set_option linter.unusedSimpArgs false
set_option maxRecDepth 100000
set_option maxHeartbeats 1500000
section
open Go.RowKit
attribute [local go_sem ↓] exec_load_29 exec_store_29 exec_load_51 exec_store_51 exec_load_41 exec_store_41
attribute [local go_sem] run_load29r run_store29i run_load51r run_store51i run_load41r run_store41i lt_up isRng_new rngOf_new isRange_past rangeOf_past isRange_drew rangeOf_drew fits_new fits_past fits_drew setAt_new setAt_past setAt_drew putAt_whole putAt_lit extract_whole extract_lit one_int one_bool one_slice one_ptr ones_lit onesL_nil onesL_cons isRow_new rowOf_new isRow_past rowOf_past isRow_drew rowOf_drew lt2 lt3 lt4 List.take_succ_cons List.take_zero List.drop_succ_cons List.drop_zero List.cons_append List.nil_append List.length_cons List.length_nil List.size_toArray setRow_new setRow_past own_cell own_frozen own_set own_isRange own_rangeOf own_fits setAt_row sr_sr sr_size sr_row sr_row' sr_isRow sr_isRow' sr_fits' sr_cell' sr_frozen' sr_isRange' sr_rangeOf' sr_isCells isCells_new isCells_past isCells_drew valC_size valC_ones opC_size opC_ones replyC_size srs_isRange srs_rangeOf srs_fits srs_cell srs_frozen f64_0 f57_2
attribute [local go_sem ↓] exec_load_57 exec_store_57
attribute [local go_sem] run_load57r run_store57i
theorem drew_sizeZ (w : World) : w.drew.heap.size = w.heap.size := id rfl
attribute [local go_sem high] drew_sizeZ
attribute [local simp high] drew_sizeZ
theorem prt_16 : prt 4 16 = 1 := by kernel_rfl
def LaidCalls (ls : List (List Nat)) (B k : Nat) (W0 W : World) (v : Value) : Prop := ∃ CC : List (Array Value), CC.length = k ∧ Own W B 32 1 v CC ∧ (∀ (i : Nat) (C : Array Value) (l : List Nat), CC[i]? = some C → ls[i]? = some l → CA W B C l) ∧ Below B W0 W
theorem awake_apart : ∀ (i : Nat) (l : List Nat) (k j : Nat) (m : List Nat) (n : Nat), ([[16], [17], [18]] : List (List Nat))[i]? = some l → ([[16], [17], [18]] : List (List Nat))[j]? = some m → k < l.length → n < m.length → ¬ (i = j ∧ k = n) → Pm.kOf (l.getD k 0) ≠ Pm.kOf (m.getD n 0) := by
  intro i l k j m n hi hj hk hn hne
  have h1 := (List.getElem?_eq_some_iff.1 hi).1
  have h2 := (List.getElem?_eq_some_iff.1 hj).1
  simp only [List.length_cons, List.length_nil] at h1 h2
  have e1 : i = 0 ∨ i = 1 ∨ i = 2 := by omega
  have e2 : j = 0 ∨ j = 1 ∨ j = 2 := by omega
  rcases e1 with rfl | rfl | rfl <;> rcases e2 with rfl | rfl | rfl <;> (simp at hi hj; subst hi hj; simp at hk hn; subst hk hn) <;> first | (exact absurd ⟨rfl, rfl⟩ hne) | decide
theorem laid_calls {ls : List (List Nat)} {B k : Nat} {W0 W W' : World} {v v' : Value} {CC : List (Array Value)} {C : Array Value} {l : List Nat} (hl : CC.length = k) (h1 : ∀ (i : Nat) (C : Array Value) (l : List Nat), CC[i]? = some C → ls[i]? = some l → CA W B C l) (hO : Own W B 32 1 v CC) (hO' : Own W' B 32 1 v' (CC ++ [C])) (hs : ∀ q, q < W.heap.size → v.ownBlock ≠ some q → W'.heap[q]? = W.heap[q]?) (hC : CA W B C l) (hk : ls[k]? = some l) (hb : Below B W0 W') : LaidCalls ls B (k + 1) W0 W' v' := by
  refine ⟨CC ++ [C], by simp [hl], hO', fun i D m hD hm => ?_, hb⟩
  rw [List.getElem?_append] at hD
  split at hD
  · exact (h1 i D m hD hm).beside hO hs
  · rename_i h
    obtain rfl : i = k := by
      have := (List.getElem?_eq_some_iff.1 hD).1
      simp at this; omega
    rw [hl, Nat.sub_self] at hD
    simp only [List.getElem?_cons_zero, Option.some.injEq] at hD
    rw [hk] at hm
    cases hm; subst hD
    exact hC.beside hO hs
theorem ext2 {C : Array Value} {i : Nat} {a b : Value} (h1 : C[i]? = some a) (h2 : C[i + 1]? = some b) : C.extract i (i + 2) = #[a, b] := by
  have hs := (Array.getElem?_eq_some_iff.1 h2).1
  apply Array.ext_getElem?
  intro k
  rw [Array.getElem?_extract]
  rcases k with _ | _ | k
  · simp [h1]; omega
  · simp [h2]; omega
  · simp; omega
theorem mc_cells (sl : Value) (k : Nat) (h : k < ([#[.int .i64 0, .slice none 0 0], #[.int .i64 1, sl], #[.int .i64 0, .slice none 0 0], #[.int .i64 0, .slice none 0 0], #[.int .i64 0, .slice none 0 0], #[.int .i64 0, .slice none 0 0], #[.int .i64 0, .slice none 0 0], #[.int .i64 0, .slice none 0 0]] : List (Array Value)).length) : (((((((mc0.setIfInBounds 22 (.int .i32 1)).setIfInBounds 32 (.int .i32 1)).setIfInBounds 16 (.int .i64 1)).setIfInBounds 35 sl).setIfInBounds 34 (.int .i64 1)).setIfInBounds 32 (.int .i32 0)).setIfInBounds 22 (.int .i32 0)).extract (28 + k * 4 + 2) (28 + k * 4 + 2 + 2) = ([#[.int .i64 0, .slice none 0 0], #[.int .i64 1, sl], #[.int .i64 0, .slice none 0 0], #[.int .i64 0, .slice none 0 0], #[.int .i64 0, .slice none 0 0], #[.int .i64 0, .slice none 0 0], #[.int .i64 0, .slice none 0 0], #[.int .i64 0, .slice none 0 0]] : List (Array Value))[k] := by
  have e : k = 0 ∨ k = 1 ∨ k = 2 ∨ k = 3 ∨ k = 4 ∨ k = 5 ∨ k = 6 ∨ k = 7 := by simp at h; omega
  rcases e with rfl | rfl | rfl | rfl | rfl | rfl | rfl | rfl
  · exact ext2 (bk19) (bk19)
  · exact ext2 (by rw [get_ne (by decide), get_ne (by decide), get_eq (by simp [mc0_size])]) (by rw [get_ne (by decide), get_ne (by decide), get_ne (by decide), get_eq (by simp [mc0_size])])
  · exact ext2 (bk19) (bk19)
  · exact ext2 (bk19) (bk19)
  · exact ext2 (bk19) (bk19)
  · exact ext2 (bk19) (bk19)
  · exact ext2 (bk19) (bk19)
  · exact ext2 (bk19) (bk19)
theorem mc_fresh : Fresh1 mc0 := ⟨⟨rfl, rfl, rfl, rfl, rfl⟩, ⟨_, rfl⟩, ⟨_, rfl⟩, ⟨_, rfl⟩, rfl⟩
theorem mc_conf : mc0.extract 0 16 = #[.int .i64 2, .int .i64 4, .int .i64 4, .int .i64 64, .int .i64 64, .int .u64 1, .int .i64 1, .int .i64 1, .int .i64 1, .int .i64 64, .int .i64 100, .int .i64 100, .int .i64 1000, .int .i64 2, .int .i64 64, .int .i64 4] := by kernel_rfl
theorem zero_calls {ls : List (List Nat)} {x : Pm.Tk} (h : x ∈ Pm.zeroZ ls) : x.1.calls ∈ ls := by
  unfold Pm.zeroZ at h
  obtain ⟨l, hl, rfl⟩ := List.mem_map.1 h
  exact hl
theorem shards_one {W : World} {sl : Value} (h : Sl W sl 10 [peerC 16]) : Els ShardAt W [#[.int .i64 0, .slice none 0 0], #[.int .i64 1, sl], #[.int .i64 0, .slice none 0 0], #[.int .i64 0, .slice none 0 0], #[.int .i64 0, .slice none 0 0], #[.int .i64 0, .slice none 0 0], #[.int .i64 0, .slice none 0 0], #[.int .i64 0, .slice none 0 0]] [(0, []), (1, [16]), (0, []), (0, []), (0, []), (0, []), (0, []), (0, [])] := by
  refine ⟨rfl, fun i C x h1 h2 => ?_⟩
  have hi := (List.getElem?_eq_some_iff.1 h1).1
  have e : i = 0 ∨ i = 1 ∨ i = 2 ∨ i = 3 ∨ i = 4 ∨ i = 5 ∨ i = 6 ∨ i = 7 := by simp at hi; omega
  rcases e with rfl | rfl | rfl | rfl | rfl | rfl | rfl | rfl <;> (simp at h1 h2; subst h1 h2) <;> first | exact ⟨sl, rfl, h⟩ | exact ⟨.slice none 0 0, rfl, Sl.nil _ _⟩
/-- awake. -/
theorem awake_law (w : World) : Calls Tryz.prog 5 #[] w fun e w' => e = .returned (.bool true) ∧ Below w.heap.size w w' := by
  go_enter Tryz.func5, Tryz.ntmps5
  go_wp2_with fail
  refine (plain_law _).mono ?_
  rintro e w1 ⟨rfl, hb⟩
  have hs1 := hb.size
  have HB1 := Lib.hid hb
  clear hb
  have bw0 : Below w.heap.size w (w1.alloc (.cells (#[.int .i64 2, .int .i64 4, .int .i64 4, .int .i64 64, .int .i64 64, .int .u64 1, .int .i64 1, .int .i64 1, .int .i64 1, .int .i64 64, .int .i64 100, .int .i64 100, .int .i64 1000, .int .i64 2, .int .i64 64, .int .i64 4]) 29)) := HB1.out.alloc hs1 _
  have bRg0 : isRow (w1.alloc (.cells (#[.int .i64 2, .int .i64 4, .int .i64 4, .int .i64 64, .int .i64 64, .int .u64 1, .int .i64 1, .int .i64 1, .int .i64 1, .int .i64 64, .int .i64 100, .int .i64 100, .int .i64 1000, .int .i64 2, .int .i64 64, .int .i64 4]) 29)) (w1.heap.size) 29 16 = true := by go_simp
  have bVg0 : rowOf (w1.alloc (.cells (#[.int .i64 2, .int .i64 4, .int .i64 4, .int .i64 64, .int .i64 64, .int .u64 1, .int .i64 1, .int .i64 1, .int .i64 1, .int .i64 64, .int .i64 100, .int .i64 100, .int .i64 1000, .int .i64 2, .int .i64 64, .int .i64 4]) 29)) (w1.heap.size) = #[.int .i64 2, .int .i64 4, .int .i64 4, .int .i64 64, .int .i64 64, .int .u64 1, .int .i64 1, .int .i64 1, .int .i64 1, .int .i64 64, .int .i64 100, .int .i64 100, .int .i64 1000, .int .i64 2, .int .i64 64, .int .i64 4] := by go_simp
  have bCg0 := isCells_row bRg0
  have bLg0 := row_lt bRg0
  go_wp2_with fail
  generalize (w1.alloc (.cells (#[.int .i64 2, .int .i64 4, .int .i64 4, .int .i64 64, .int .i64 64, .int .u64 1, .int .i64 1, .int .i64 1, .int .i64 1, .int .i64 64, .int .i64 100, .int .i64 100, .int .i64 1000, .int .i64 2, .int .i64 64, .int .i64 4]) 29)) = W0 at *
  generalize w1.heap.size = r1 at *
  go_loopg [2, 3] 3 (fun g s2 s3 wr => ∃ k : Nat, s3 = .int .i64 k ∧ k + g = 3 ∧ Hid (LaidCalls [[16], [17], [18]] W0.heap.size k W0 wr s2))
  case atStart => exact ⟨0, rfl, rfl, Lib.hid ⟨[], rfl, Own.nil _ _ _ _, by simp, Below.refl _ _⟩⟩
  case round =>
    obtain ⟨k, rfl, hg, HH⟩ := hrel
    obtain ⟨CC, hCC, hO, hA, hB⟩ := HH.out
    have HCC := Lib.hid hCC
    have HO := Lib.hid hO
    have HA := Lib.hid hA
    have hkB := Keep.mk hB
    have hws := hB.size
    clear HH
    cases gk with
    | zero =>
      have hk : ¬ ((k : Int) < 3) := by omega
      obtain rfl : k = 3 := by omega
      obtain ⟨a2, c2, e2, -⟩ := id hO.sl
      subst e2
      rw [hCC] at HO ⊢
      have xr := alike hB
      have bRr0 : isRow wr (r1) 29 16 = true := (xr.1 _ _ _ bLg0).trans bRg0
      have bVr0 : rowOf wr (r1) = #[.int .i64 2, .int .i64 4, .int .i64 4, .int .i64 64, .int .i64 64, .int .u64 1, .int .i64 1, .int .i64 1, .int .i64 1, .int .i64 64, .int .i64 100, .int .i64 100, .int .i64 1000, .int .i64 2, .int .i64 64, .int .i64 4] := (xr.2.1 _ bLg0).trans bVg0
      have bCr0 := isCells_row bRr0
      have bLr0 := row_lt bRr0
      have HCls := Lib.hid (show Els CallsAt wr CC [[16], [17], [18]] from ⟨by rw [hCC]; rfl, fun i C l h1 h2 => (hA i C l h1 h2).calls⟩)
      have hcell0 : ∃ g, a2 = some ⟨g, 0, none⟩ ∧ g < wr.heap.size ∧ ∃ v0, wr.cell? ⟨g, 0, none⟩ = some v0 ∧ Sl wr v0 12 [callC 16] := by
        obtain ⟨g, o, v, e, hg, hc, hs⟩ := calls_at (ls := [[16], [17], [18]]) HO.out.sl HCls.out (k := 0) (by decide)
        subst e
        have ho : o = 0 := by
          obtain ⟨⟨_, h2⟩, _⟩ := HO.out
          rcases h2 with ⟨h2, _⟩ | ⟨q, _, _, h2, _⟩
          · simp at h2
          · simp only [Value.slice.injEq, Option.some.injEq, Addr.mk.injEq] at h2
            exact h2.1.2.1
        subst ho
        exact ⟨g, rfl, hg, v, by simpa using hc, hs⟩
      obtain ⟨gl, rfl, hgl, v0, hv0, hs0⟩ := hcell0
      obtain ⟨a0, c0, e0, _, _, h0⟩ := id hs0
      simp only [List.length_singleton, List.length_cons, List.length_nil, Nat.zero_add] at e0
      subst e0
      have hel0 : ∃ g0 o0, a0 = some ⟨g0, o0, none⟩ ∧ g0 < wr.heap.size ∧ isRange wr ⟨g0, o0, none⟩ 12 = true ∧ rangeOf wr ⟨g0, o0, none⟩ 12 = #[.int .i64 1, .bool false, .int .u64 0, .int .u64 (loOf 16), .int .i64 80, .bool false, .int .u64 0, .int .u64 0, .int .i64 0, .int .i64 (Pm.tOf 16), .int .i64 0, .bool false] := by
        rcases h0 with ⟨_, h0⟩ | ⟨g0, o0, rfl, hg0, h0⟩
        · simp at h0
        · have := h0 0 (callC 16) (by simp)
          simp only [Nat.zero_mul, Nat.add_zero] at this
          exact ⟨g0, o0, rfl, hg0, this.is, this.of⟩
      obtain ⟨g0, o0, rfl, hg0, hi0, hr0⟩ := hel0
      have bwr : Below w.heap.size w wr := bw0.trans (hB.mono bw0.size)
      have HNW := Lib.hid (fun (W : World) (b : Below wr.heap.size wr W) => (show Calls Tryz.prog 8 #[.agg (#[.int .i64 2, .int .i64 4, .int .i64 4, .int .i64 64, .int .i64 64, .int .u64 1, .int .i64 1, .int .i64 1, .int .i64 1, .int .i64 64, .int .i64 100, .int .i64 100, .int .i64 1000, .int .i64 2, .int .i64 64, .int .i64 4]), .agg (#[.slice none 0 0, .slice none 0 0, .slice none 0 0]), .slice (some ⟨gl, 0, none⟩) 3 c2] W (NewEnd 2 4 [[16], [17], [18]] W) from world_new 2 4 (by decide) (by decide) (by decide) [[16], [17], [18]] (by decide) (by decide) CC _ W (HO.out.sl.below b) (HCls.out.mono fun _ _ x => x.below b)))
      clear xr hA hO hB HO HA HCls hs0 h0 hCC HCC hkB bw0 bRg0 bVg0 bCg0 bLg0
      generalize wr = Wa at *
      go_wp2_with fail
      refine (HNW.out Wa (Below.refl _ _)).mono ?_
      rintro e w4 ⟨X, rfl, hX, hb⟩
      have hXz := hX.at.size
      have hXo := hX.at.ones
      have xs := alike hb
      have bRs0 : isRow w4 (r1) 29 16 = true := (xs.1 _ _ _ bLr0).trans bRr0
      have bVs0 : rowOf w4 (r1) = #[.int .i64 2, .int .i64 4, .int .i64 4, .int .i64 64, .int .i64 64, .int .u64 1, .int .i64 1, .int .i64 1, .int .i64 1, .int .i64 64, .int .i64 100, .int .i64 100, .int .i64 1000, .int .i64 2, .int .i64 64, .int .i64 4] := (xs.2.1 _ bLr0).trans bVr0
      have bCs0 := isCells_row bRs0
      have bLs0 := row_lt bRs0
      have bw4 : Below Wa.heap.size Wa w4 := hb
      have hs4 := hb.size
      have HX := Lib.hid (hX.cut.below ((Below.refl w4.heap.size w4).alloc (Nat.le_refl _) (.cells X 51)))
      clear hX hb xs HNW
      have W6l : Below w4.heap.size w4 ((w4.alloc (.cells X 51)).alloc (.cells ((([1, 2, 0, 1, 2, 0] : List Int).map (Value.int .i64)).toArray) 3)) := (((Below.refl w4.heap.size w4).alloc (Nat.le_refl _) _)).alloc (by simp) _
      have HV := Lib.hid (Pk.of (sl_built (w4.alloc (.cells X 51)) [1, 2, 0, 1, 2, 0] 6 rfl (by decide)))
      have HX6 := Lib.hid (HX.out.below ((Below.refl _ _).alloc (Nat.le_refl _) (.cells ((([1, 2, 0, 1, 2, 0] : List Int).map (Value.int .i64)).toArray) 3)))
      have hok : Pm.Ok ⟨2, 4, prt 4⟩ := ⟨by decide, by decide, fun m => prt_lt 4 m (by decide) (by decide)⟩
      have HRun := Lib.hid (run_law 2 4 500 (by decide) (by decide) (by decide) (by decide) _ _ (far_zero (most := 2) (S := 4) (steps := 500) (ls := [[16], [17], [18]]) hok awake_apart (by decide)) (by decide) (fun x hx => by have := zero_calls hx; revert this; generalize x.1.calls = l; intro h; simp at h; rcases h with rfl | rfl | rfl <;> decide) [1, 2, 0, 1, 2, 0] (by decide) _ _ X _ HV.out HX6.out)
      have bR60 : isRow ((w4.alloc (.cells X 51)).alloc (.cells ((([1, 2, 0, 1, 2, 0] : List Int).map (Value.int .i64)).toArray) 3)) (w4.heap.size) 51 24 = true := by go_simp
      have bV60 : rowOf ((w4.alloc (.cells X 51)).alloc (.cells ((([1, 2, 0, 1, 2, 0] : List Int).map (Value.int .i64)).toArray) 3)) (w4.heap.size) = X := by go_simp
      have hs6 : ((w4.alloc (.cells X 51)).alloc (.cells ((([1, 2, 0, 1, 2, 0] : List Int).map (Value.int .i64)).toArray) 3)).heap.size = w4.heap.size + 1 + 1 := by simp
      have Hs6 := Lib.hid hs6
      clear hs6
      go_wp2_with fail
      have hm6 : (#[.int .i64 1, .int .i64 2, .int .i64 0, .int .i64 1, .int .i64 2, .int .i64 0] : Array Value) = ((([1, 2, 0, 1, 2, 0] : List Int).map (Value.int .i64)).toArray) := rfl
      have hsw : (w4.alloc (.cells X 51)).heap.size = w4.heap.size + 1 := by simp
      rw [hsw] at HRun
      rw [hm6]
      clear hm6 hsw
      generalize (w4.alloc (.cells X 51)).alloc (.cells ((([1, 2, 0, 1, 2, 0] : List Int).map (Value.int .i64)).toArray) 3) = W6 at *
      refine HRun.out.mono ?_
      rintro e w7 ⟨X7, p7, z7, k7, rfl, hX7, hF7, hon, hk7, hb⟩
      have hX7z := hX7.at.size
      have hX7o := hX7.at.ones
      have xt := alike hb
      have bR70 : isRow w7 (w4.heap.size) 51 24 = true := (xt.1 _ _ _ (row_lt bR60)).trans bR60
      have bC70 := isCells_row bR70
      have bV70 : rowOf w7 (w4.heap.size) = X := (xt.2.1 _ (row_lt bR60)).trans bV60
      have hfit7 : fitsAt w7 (w4.heap.size) 0 24 = true := fits_row bR70 (by omega)
      have bL70 := row_lt bR70
      have xu := alike (W6l.trans (hb.mono W6l.size))
      have bRt0 : isRow w7 (r1) 29 16 = true := (xu.1 _ _ _ bLs0).trans bRs0
      have bVt0 : rowOf w7 (r1) = #[.int .i64 2, .int .i64 4, .int .i64 4, .int .i64 64, .int .i64 64, .int .u64 1, .int .i64 1, .int .i64 1, .int .i64 1, .int .i64 64, .int .i64 100, .int .i64 100, .int .i64 1000, .int .i64 2, .int .i64 64, .int .i64 4] := (xu.2.1 _ bLs0).trans bVs0
      have bCt0 := isCells_row bRt0
      have bLt0 := row_lt bRt0
      have b47 : Below w4.heap.size w4 w7 := W6l.trans (hb.mono W6l.size)
      have b8 : Below Wa.heap.size Wa (w7.setRow (w4.heap.size) X7) := below_setRow (bw4.trans (b47.mono bw4.size)) (by omega) _
      have HRan := Lib.hid (ran_of (ls := [[16], [17], [18]]) hok (by decide) (hX7.upto (upto_own (Upto.refl (w4.heap.size) w7) X7) (fun e => by have := Hs6.out; rcases e with ⟨_, e⟩ | e <;> omega)) hF7 hon)
      have hn14 : r1 ≠ w4.heap.size := by omega
      have hn14' : ¬ (r1 = w4.heap.size) := by omega
      have hn41 : ¬ (w4.heap.size = r1) := by omega
      clear hX7 hF7 hon hk7 hb xt xu b47 HRun HX6 HV HX W6l Hs6
      go_wp2_with fail
      have bR80 : isRow (w7.setRow (w4.heap.size) X7) r1 29 16 = true := (sr_isRow' _ _ _ _ _ _ hn14).trans bRt0
      have bV80 : rowOf (w7.setRow (w4.heap.size) X7) r1 = #[.int .i64 2, .int .i64 4, .int .i64 4, .int .i64 64, .int .i64 64, .int .u64 1, .int .i64 1, .int .i64 1, .int .i64 1, .int .i64 64, .int .i64 100, .int .i64 100, .int .i64 1000, .int .i64 2, .int .i64 64, .int .i64 4] := (sr_row' _ _ _ _ hn14).trans bVt0
      have bR84 : isRow (w7.setRow (w4.heap.size) X7) (w4.heap.size) 51 24 = true := sr_isRow _ bR70 hX7z
      have bV84 : rowOf (w7.setRow (w4.heap.size) X7) (w4.heap.size) = X7 := sr_row _ bC70
      have hv8 : (w7.setRow (w4.heap.size) X7).cell? ⟨gl, 0, none⟩ = some (.slice (some ⟨g0, o0, none⟩) 1 c0) := (b8.cell (p := ⟨gl, 0, none⟩) hgl).trans hv0
      have hi8 : isRange (w7.setRow (w4.heap.size) X7) ⟨g0, o0, none⟩ 12 = true := ((alike b8).2.2.1 _ _ _ hg0).trans hi0
      have hr8 : rangeOf (w7.setRow (w4.heap.size) X7) ⟨g0, o0, none⟩ 12 = #[.int .i64 1, .bool false, .int .u64 0, .int .u64 (loOf 16), .int .i64 80, .bool false, .int .u64 0, .int .u64 0, .int .i64 0, .int .i64 (Pm.tOf 16), .int .i64 0, .bool false] := ((alike b8).2.2.2.1 _ _ _ hg0).trans hr0
      have bw8 : Below w.heap.size w (w7.setRow (w4.heap.size) X7) := bwr.trans (b8.mono bwr.size)
      have hgl8 : gl < (w7.setRow (w4.heap.size) X7).heap.size := by have := b8.size; omega
      have hg08 : g0 < (w7.setRow (w4.heap.size) X7).heap.size := by have := b8.size; omega
      clear b8 hv0 hi0 hr0 bwr bR70 bC70 bV70 bL70 hfit7 bRt0 bVt0 bCt0 bLt0 hgl hg0
      generalize w7.setRow (w4.heap.size) X7 = W8 at *
      generalize w4.heap.size = r4 at *
      obtain ⟨aS, aL, aT, aG, nS, cS, nL, cL, nT, cT, nG, cG, CS, CT, p, rfl, j1, j2, j3, j4, j5, j6, j7, j8, j9, j10, j11, j12⟩ := HRan.out.out
      have hmin : min ((([[16], [17], [18]] : List (List Nat)).map List.length).sum) 2 = 2 := by decide
      rw [hmin] at j9 j10
      have J9 := Lib.hid j9
      have J10 := Lib.hid j10
      have HOv := Lib.hid (fun (W : World) (b : Below W8.heap.size W8 W) => world_over 2 4 aS aL aT aG nS cS nL cL nT cT nG cG p.inn p.tasks (fun i t h => ⟨(j7 i t h).1, (j7 i t h).2.1⟩) CT W (j3.below b) (j4.mono fun _ _ x => x.below b) (by rw [j6]; decide))
      have HSt := Lib.hid (fun (W : World) (b : Below W8.heap.size W8 W) => world_state 2 4 (.slice aT nT cT) (.slice aG nG cG) rfl rfl p.parts j8 (by rw [j10]; decide) CS p.inn (.slice aS nS cS) aL nL cL W (j1.below b) (j2.mono fun _ _ x => x.below b) (by rw [j5]; decide))
      clear HRan j1 j2 j3 j4 j5 j6 j7 j8 j9 j10 j11 j12 hmin hX7z hX7o
      refine (live_new _).mono ?_
      rintro e w9 ⟨M, rfl, hrM, hCM, hMg, hb⟩
      have b9 : Below W8.heap.size W8 w9 := hb
      have x9 := alike hb
      have bR94 : isRow w9 r4 51 24 = true := (x9.1 _ _ _ (row_lt bR84)).trans bR84
      have bV94 := (x9.2.1 _ (row_lt bR84)).trans bV84
      have bC94 := isCells_row bR94
      have hv9 : w9.cell? ⟨gl, 0, none⟩ = some (.slice (some ⟨g0, o0, none⟩) 1 c0) := (b9.cell (p := ⟨gl, 0, none⟩) hgl8).trans hv8
      have hi9 : isRange w9 ⟨g0, o0, none⟩ 12 = true := (x9.2.2.1 _ _ _ hg08).trans hi8
      have hr9 : rangeOf w9 ⟨g0, o0, none⟩ 12 = #[.int .i64 1, .bool false, .int .u64 0, .int .u64 (loOf 16), .int .i64 80, .bool false, .int .u64 0, .int .u64 0, .int .i64 0, .int .i64 (Pm.tOf 16), .int .i64 0, .bool false] := (x9.2.2.2.1 _ _ _ hg08).trans hr8
      have HDo := Lib.hid (live_do M 16 prt_16 mc0 mc_fresh mc_conf w9 hrM hCM)
      have hM4 : r4 < M := by have := row_lt bR84; omega
      clear hb x9 hrM hCM hv8 hi8 hr8
      go_wp2_with fail
      refine HDo.out.mono ?_
      rintro e w10 ⟨sl, rfl, hu, hr10, hC10, ho⟩
      have b10 : Below W8.heap.size W8 w10 := b9.trans (hu.below hMg b9.size)
      have x10 := alikeU hu
      have bR104 : isRow w10 r4 51 24 = true := (x10.1 _ _ _ (row_lt bR94) (by omega)).trans bR94
      have bV104 := (x10.2.1 _ (row_lt bR94) (by omega)).trans bV94
      have bC104 := isCells_row bR104
      have HSl := Lib.hid ho.sl
      clear hu x10 ho bR94 bV94 bC94 hv9 hi9 hr9 HDo b9 bR80 bV80 bR84 bV84
      go_wp2_with fail
      refine (HOv.out w10 b10).mono ?_
      rintro e w11 ⟨rfl, hb⟩
      have b11 : Below W8.heap.size W8 w11 := b10.trans (hb.mono b10.size)
      have x11 := alike hb
      have bR114 : isRow w11 r4 51 24 = true := (x11.1 _ _ _ (row_lt bR104)).trans bR104
      have bV114 := (x11.2.1 _ (row_lt bR104)).trans bV104
      have bC114 := isCells_row bR114
      obtain ⟨hr11, hC11⟩ := row_keep hr10 hC10 hb
      have HSl11 := Lib.hid (HSl.out.below hb)
      clear hb x11 bR104 bV104 bC104 HSl HOv b10 hr10 hC10
      go_wp2_with fail
      refine (HSt.out w11 b11).mono ?_
      rintro e w12 ⟨v12, D, rfl, hD, hs, -, hb⟩
      have b12 : Below W8.heap.size W8 w12 := b11.trans (hb.mono b11.size)
      rw [J10.out] at hD
      obtain ⟨a12, c12, e12, -⟩ := id hs
      rw [List.length_map, hD] at e12
      subst e12
      obtain ⟨hr12, hC12⟩ := row_keep hr11 hC11 hb
      have HLS := Lib.hid (live_state M _ [(0, []), (1, [16]), (0, []), (0, []), (0, []), (0, []), (0, []), (0, [])] (by intro i p h; have hi := (List.getElem?_eq_some_iff.1 h).1; have e : i = 0 ∨ i = 1 ∨ i = 2 ∨ i = 3 ∨ i = 4 ∨ i = 5 ∨ i = 6 ∨ i = 7 := (by simp at hi; omega); rcases e with rfl | rfl | rfl | rfl | rfl | rfl | rfl | rfl <;> (simp at h; subst h; rfl)) (by decide) [#[.int .i64 0, .slice none 0 0], #[.int .i64 1, sl], #[.int .i64 0, .slice none 0 0], #[.int .i64 0, .slice none 0 0], #[.int .i64 0, .slice none 0 0], #[.int .i64 0, .slice none 0 0], #[.int .i64 0, .slice none 0 0], #[.int .i64 0, .slice none 0 0]] rfl (mc_cells sl) (bk19) (bk19) w12 hr12 hC12 (shards_one (HSl11.out.below hb)))
      clear hD hs hb hr11 hC11 hr12 hC12 HSl11 HSt b11
      go_wp2_with fail
      refine HLS.out.mono ?_
      rintro e w13 ⟨v13, D2, rfl, hD2, hs2, hb⟩
      have b13 : Below w.heap.size w w13 := bw8.trans ((b12.trans (hb.mono b12.size)).mono bw8.size)
      obtain ⟨a13, c13, e13, -⟩ := id hs2
      rw [List.length_map, hD2] at e13
      subst e13
      clear hD2 hs2 hb HLS b12
      go_wp2
      go_ret
      exact ⟨rfl, b13⟩
    | succ m =>
      have hk : (k : Int) < 3 := by omega
      have hk3 : k < 3 := by omega
      have hls : ([[16], [17], [18]] : List (List Nat))[k]? = some [16 + k] := by
        have : k = 0 ∨ k = 1 ∨ k = 2 := by omega
        rcases this with rfl | rfl | rfl <;> rfl
      have hcz := callC_zero k (by omega)
      have HCZ := Lib.hid hcz
      clear hcz hO hA hB hCC
      go_wp2_with fail
      refine (end_law k (by omega) _).mono ?_
      rintro e w2 ⟨rfl, hb⟩
      have hk2 := Keep.mk hb
      have hs2 := hb.size
      have hbW : Below W0.heap.size W0 w2 := hkB.out.trans (hb.mono hws)
      have HO2 := Lib.hid ((HO.out.below hb).below ((Below.refl w2.heap.size w2).alloc (Nat.le_refl _) (.cells (#[.int .i64 1, .bool false, .int .u64 0, .int .u64 (loOf k), .int .i64 80, .bool false, .int .u64 0, .int .u64 0, .int .i64 0, .int .i64 0, .int .i64 0, .bool false]) 41)))
      have HO3 := Lib.hid (HO2.out.below ((Below.refl _ _).alloc (Nat.le_refl _) (.cells #[.slice (some ⟨w2.heap.size, 0, none⟩) 1 1] 32)))
      have HC1 := Lib.hid ((own_one w2 W0.heap.size (by omega) (#[.int .i64 1, .bool false, .int .u64 0, .int .u64 (loOf k), .int .i64 80, .bool false, .int .u64 0, .int .u64 0, .int .i64 0, .int .i64 0, .int .i64 0, .bool false]) 41 12 rfl rfl).below ((Below.refl _ _).alloc (Nat.le_refl _) (.cells #[.slice (some ⟨w2.heap.size, 0, none⟩) 1 1] 32)))
      have HAA := Lib.hid (fun (i : Nat) (C : Array Value) (l : List Nat) (h1 : CC[i]? = some C) (h2 : ([[16], [17], [18]] : List (List Nat))[i]? = some l) => ((((HA.out i C l h1 h2).below hb).below ((Below.refl w2.heap.size w2).alloc (Nat.le_refl _) (.cells (#[.int .i64 1, .bool false, .int .u64 0, .int .u64 (loOf k), .int .i64 80, .bool false, .int .u64 0, .int .u64 0, .int .i64 0, .int .i64 0, .int .i64 0, .bool false]) 41))).below ((Below.refl _ _).alloc (Nat.le_refl _) (.cells #[.slice (some ⟨w2.heap.size, 0, none⟩) 1 1] 32))))
      clear hb
      go_wp2_with (at_builtin; refine app32o rfl (.tmp 16) (.tmp 21) rfl W0.heap.size _ CC [#[.slice (some ⟨w2.heap.size, 0, none⟩) 1 1]] rfl HO3.out _ _ _ rfl (sl_one (w2.alloc (.cells (#[.int .i64 1, .bool false, .int .u64 0, .int .u64 (loOf k), .int .i64 80, .bool false, .int .u64 0, .int .u64 0, .int .i64 0, .int .i64 0, .int .i64 0, .bool false]) 41)) #[.slice (some ⟨w2.heap.size, 0, none⟩) 1 1] 32 1 _ (by simp) rfl rfl) (by have := HCC.out; simp; omega) (by simp; omega) ?_; intro v' w3 hown hbel hsame hsz; have HWN := Lib.hid (And.intro hown (And.intro hbel hsame)); clear hown hbel hsame)
      go_roundg m
      case measure => omega
      case rel =>
        refine ⟨k + 1, by simp, by omega, Lib.hid (laid_calls HCC.out HAA.out HO3.out HWN.out.1 HWN.out.2.2 ⟨_, rfl, ?_⟩ hls ((((hbW.alloc (by omega) _).alloc (by simp; omega) _)).trans HWN.out.2.1))⟩
        simp only [List.map_cons, List.map_nil, HCZ.out]
        exact HC1.out
end
section
open Go.RowKit
def colOf (k j : Nat) : List Nat := (if j < k then [j] else []) ++ (if j + 8 < k then [j + 8] else [])
theorem colOf_zero (j : Nat) : colOf 0 j = [] := by unfold colOf; simp
theorem colOf_same {k : Nat} (hk : k < 16) : colOf (k + 1) (k % 8) = colOf k (k % 8) ++ [k] := by
  unfold colOf
  by_cases h : k < 8
  · rw [Nat.mod_eq_of_lt h]; simp; try omega
  · have e : k % 8 = k - 8 := by omega
    rw [e, if_pos (by omega), if_pos (by omega), if_pos (by omega), if_neg (by omega)]
    simp; try omega
theorem colOf_other {k j : Nat} (hk : k < 16) (hj : j < 8) (h : j ≠ k % 8) : colOf (k + 1) j = colOf k j := by
  unfold colOf
  by_cases h1 : j < k
  · by_cases h2 : j + 8 < k
    · rw [if_pos (by omega), if_pos (by omega), if_pos h1, if_pos h2]
    · rw [if_pos (by omega), if_neg (by omega), if_pos h1, if_neg h2]
  · rw [if_neg (by omega), if_neg (by omega), if_neg h1, if_neg (by omega)]
theorem colOf_head {k j x : Nat} {l : List Nat} (h : colOf k j = x :: l) : x = j := by
  unfold colOf at h
  by_cases h1 : j < k
  · rw [if_pos h1] at h; simp at h; exact h.1.symm
  · rw [if_neg h1, if_neg (by omega)] at h; simp at h
theorem colOf_len (k j : Nat) : (colOf k j).length ≤ 2 := by
  unfold colOf; split <;> split <;> simp
theorem colOf_at {n j i : Nat} (hi : i < (colOf n j).length) : (colOf n j).getD i 0 = j + 8 * i ∧ i < 2 := by
  have := colOf_len n j
  unfold colOf at hi ⊢
  by_cases h1 : j < n
  · by_cases h2 : j + 8 < n
    · rw [if_pos h1, if_pos h2] at hi ⊢
      have : i = 0 ∨ i = 1 := by simp at hi; omega
      rcases this with rfl | rfl <;> simp
    · rw [if_pos h1, if_neg h2] at hi ⊢
      have : i = 0 := by simp at hi; omega
      subst this; simp
  · rw [if_neg h1, if_neg (by omega)] at hi; simp at hi
def cols (n : Nat) : List (List Nat) := (List.range 8).map (colOf n)
theorem cols_len (n : Nat) : (cols n).length = 8 := by simp [cols]
theorem cols_at {n j : Nat} (hj : j < 8) : (cols n)[j]? = some (colOf n j) := by
  unfold cols; rw [List.getElem?_map, List.getElem?_range hj]; rfl
theorem cols_of {n j : Nat} {l : List Nat} (h : (cols n)[j]? = some l) : j < 8 ∧ l = colOf n j := by
  have hj := (List.getElem?_eq_some_iff.1 h).1
  rw [cols_len] at hj
  rw [cols_at hj] at h
  exact ⟨hj, (Option.some.inj h).symm⟩
theorem cols_small {n : Nat} : ∀ l ∈ cols n, l.length ≤ 64 := fun l hl => by
  obtain ⟨j, hj⟩ := List.mem_iff_getElem?.1 hl
  obtain ⟨_, rfl⟩ := cols_of hj
  have := colOf_len n j
  omega
theorem cols_sum {n : Nat} (hn : n ≤ 12) : ((cols n).map List.length).sum = n := by
  have : n = 0 ∨ n = 1 ∨ n = 2 ∨ n = 3 ∨ n = 4 ∨ n = 5 ∨ n = 6 ∨ n = 7 ∨ n = 8 ∨ n = 9 ∨ n = 10 ∨ n = 11 ∨ n = 12 := by omega
  rcases this with rfl | rfl | rfl | rfl | rfl | rfl | rfl | rfl | rfl | rfl | rfl | rfl | rfl <;> decide
theorem cols_apart {n : Nat} (i : Nat) (l : List Nat) (k j : Nat) (m : List Nat) (q : Nat) (hi : (cols n)[i]? = some l) (hj : (cols n)[j]? = some m) (hk : k < l.length) (hq : q < m.length) (hne : ¬ (i = j ∧ k = q)) : Pm.kOf (l.getD k 0) ≠ Pm.kOf (m.getD q 0) := by
  obtain ⟨h1, rfl⟩ := cols_of hi
  obtain ⟨h2, rfl⟩ := cols_of hj
  obtain ⟨e1, e2⟩ := colOf_at hk
  obtain ⟨e3, e4⟩ := colOf_at hq
  rw [e1, e3]
  unfold Pm.kOf
  omega
/-- Rows that begin unlike are two. -/
theorem Own.unlike {W : World} {B B' : Nat} {e e' : TypeId} {n : Nat} {v v' : Value} {x y : Array Value} {L L' : List (Array Value)} (h : Own W B e n v (x :: L)) (h' : Own W B' e' n v' (y :: L')) (hxy : x ≠ y) {g : Nat} (hv : v.ownBlock = some g) : v'.ownBlock ≠ some g := by
  intro hv'
  obtain ⟨⟨_, h2⟩, h3⟩ := h
  obtain ⟨⟨_, h2'⟩, h3'⟩ := h'
  have hx := (h3 x (by simp)).1
  have hy := (h3' y (by simp)).1
  rcases h2 with ⟨rfl, _⟩ | ⟨q, cap, cur, rfl, h4, h5, h6, h7, h8, h9⟩
  · simp [Value.ownBlock] at hv
  rcases h2' with ⟨rfl, _⟩ | ⟨q', cap', cur', rfl, h4', h5', h6', h7', h8', h9'⟩
  · simp [Value.ownBlock] at hv'
  simp only [Value.ownBlock, Option.some.injEq] at hv hv'
  subst hv hv'
  rw [h5] at h5'
  simp only [Option.some.injEq, Obj.cells.injEq] at h5'
  obtain ⟨rfl, -, -⟩ := h5'
  apply hxy
  have a1 := congrArg (List.take n) h9
  have a2 := congrArg (List.take n) h9'
  have f1 : flat (x :: L) = x.toList ++ flat L := by simp [flat]
  have f2 : flat (y :: L') = y.toList ++ flat L' := by simp [flat]
  have t1 : (x.toList ++ flat L).take n = x.toList := by rw [List.take_append_of_le_length (by simp [hx])]; exact List.take_of_length_le (by simp [hx])
  have t2 : (y.toList ++ flat L').take n = y.toList := by rw [List.take_append_of_le_length (by simp [hy])]; exact List.take_of_length_le (by simp [hy])
  have hn1 : n ≤ (L.length + 1) * n := by rw [Nat.add_mul]; omega
  have hn2 : n ≤ (L'.length + 1) * n := by rw [Nat.add_mul]; omega
  simp only [List.length_cons] at a1 a2
  rw [List.take_take, Nat.min_eq_left hn1, f1, t1] at a1
  rw [List.take_take, Nat.min_eq_left hn2, f2, t2] at a2
  exact Array.toList_inj.1 (a1.symm.trans a2)
/-- A column in memory. -/
def ColAt (W : World) (B : Nat) (C : Array Value) (l : List Nat) : Prop := ∃ v, C = #[v] ∧ Own W B 41 12 v (l.map callC) ∧ (l = [] → v = .slice none 0 0)
def ColsAt (W : World) (B k : Nat) (CC : List (Array Value)) : Prop := CC.length = 8 ∧ ∀ (j : Nat) (C : Array Value), CC[j]? = some C → ColAt W B C (colOf k j)
theorem ColAt.same {W W' : World} {B : Nat} {C : Array Value} {l : List Nat} (h : ColAt W B C l) (hw : ∀ q, Reach C q → q < W.heap.size → W'.heap[q]? = W.heap[q]?) : ColAt W' B C l := by
  obtain ⟨v, rfl, h1, h2⟩ := h
  exact ⟨v, rfl, h1.same fun g hg hl => hw g ⟨v, by simp, hg⟩ hl, h2⟩
theorem ColsAt.below {W W' : World} {B k : Nat} {CC : List (Array Value)} (h : ColsAt W B k CC) (b : Below W.heap.size W W') : ColsAt W' B k CC :=
  ⟨h.1, fun j C hC => (h.2 j C hC).same fun q _ hq => b.block q hq⟩
theorem callC_unlike {i j : Nat} (hi : i < 8) (hj : j < 8) (h : i ≠ j) : callC i ≠ callC j := by
  intro e
  have := congrArg (fun C => C[3]?) e
  simp [callC, loOf, Pm.kOf] at this
  omega
/-- One more call in its column. -/
theorem cols_next {W W' : World} {B k : Nat} {CC : List (Array Value)} {v v' : Value} (hk : k < 16) (h : ColsAt W B k CC) (hv : CC[k % 8]? = some #[v]) (hw : ∀ q, q < W.heap.size → v.ownBlock ≠ some q → W'.heap[q]? = W.heap[q]?) (hO : Own W' B 41 12 v' ((colOf k (k % 8)).map callC ++ [callC k])) : ColsAt W' B (k + 1) (CC.set (k % 8) #[v']) := by
  refine ⟨by simp [h.1], fun j C hC => ?_⟩
  rw [List.getElem?_set] at hC
  split at hC
  · rename_i e
    subst e
    split at hC
    · cases hC
      refine ⟨v', rfl, ?_, fun e => ?_⟩
      · rw [colOf_same hk, List.map_append]; exact hO
      · rw [colOf_same hk] at e; simp at e
    · cases hC
  · rename_i hne
    have hj := (List.getElem?_eq_some_iff.1 hC).1
    rw [h.1] at hj
    rw [colOf_other hk hj (Ne.symm hne)]
    obtain ⟨u, rfl, hu1, hu2⟩ := h.2 j C hC
    obtain ⟨u', e', hv1, hv2⟩ := h.2 (k % 8) _ hv
    simp only [Array.mk.injEq, List.cons.injEq, and_true] at e'
    subst e'
    refine ColAt.same ⟨u, rfl, hu1, hu2⟩ fun q hq hl => hw q hl fun e => ?_
    obtain ⟨y, hy, hq⟩ := hq
    simp only [List.mem_singleton] at hy
    subst hy
    cases hc1 : colOf k (k % 8) with
    | nil => rw [hv2 hc1] at e; simp [Value.ownBlock] at e
    | cons x l =>
      cases hc2 : colOf k j with
      | nil => rw [hu2 hc2] at hq; simp [Value.ownBlock] at hq
      | cons x' l' =>
        have e1 := colOf_head hc1
        have e2 := colOf_head hc2
        rw [hc1, List.map_cons] at hv1
        rw [hc2, List.map_cons] at hu1
        exact Own.unlike hv1 hu1 (by rw [e1, e2]; exact callC_unlike (by omega) hj hne) e hq
theorem cols_calls {W : World} {B n : Nat} {CC : List (Array Value)} (h : ColsAt W B n CC) : Els CallsAt W CC (cols n) := by
  refine ⟨by rw [h.1, cols_len], fun i C l h1 h2 => ?_⟩
  obtain ⟨_, rfl⟩ := cols_of h2
  obtain ⟨v, rfl, hv, _⟩ := h.2 i C h1
  exact ⟨v, rfl, hv.sl⟩
end
end Go.Proofs.YtnncjbkepakgpaaGreat
