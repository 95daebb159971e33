/-
  MEMORY: STORE.
  THE LIBRARY's CONTRACTS OF slices.Insert, BinarySearch, DeleteFunc AT []int: the program bears these bodies.
-/
import Derived.Test.YtnncjbkepakgpaaGreatA07
import Derived.Test.YtnncjbkepakgpaaGreatA11
import Derived.Test.YtnncjbkepakgpaaGreatA15
import Derived.Test.YtnncjbkepakgpaaGreatA22
import Derived.Lib.MinMax
import Derived.Test.YtnncjbkepakgpaaGreatA06
import Derived.Shelf.Spec.SlicesInsertGrow
import Derived.Shelf.Slices.SearchI
import Derived.Shelf.SlicesE.DeleteFunc
namespace Go.Proofs.YtnncjbkepakgpaaGreat
set_option linter.unusedVariables false
set_option linter.unusedSimpArgs false
set_option maxRecDepth 100000
set_option maxHeartbeats 8000000
section
open Go.RowKit
attribute [local go_sem ↓] exec_load_47 exec_store_47 exec_load_129 exec_store_129 exec_load_103 exec_store_103 exec_load_101 exec_store_101 exec_load_75 exec_store_75
attribute [local go_sem] run_load47r run_store47i run_load129r run_store129i run_load103r run_store103i run_load101r run_store101i run_load75r run_store75i lt_up isRng_new rngOf_new isRange_past rangeOf_past isRange_drew rangeOf_drew fits_new fits_past fits_drew setAt_new setAt_past setAt_drew putAt_whole putAt_lit extract_whole extract_lit one_int one_bool one_slice one_ptr ones_lit onesL_nil onesL_cons isRow_new rowOf_new isRow_past rowOf_past isRow_drew rowOf_drew lt2 lt3 lt4 List.take_succ_cons List.take_zero List.drop_succ_cons List.drop_zero List.cons_append List.nil_append List.length_cons List.length_nil List.size_toArray setRow_new setRow_past own_cell own_frozen own_set own_isRange own_rangeOf own_fits setAt_row sr_sr sr_size sr_row sr_row' sr_isRow sr_isRow' sr_fits' sr_cell' sr_frozen' sr_isRange' sr_rangeOf' sr_isCells isCells_new isCells_past isCells_drew valC_size valC_ones opC_size opC_ones replyC_size srs_isRange srs_rangeOf srs_fits srs_cell srs_frozen
theorem packMem41 {p : Prop} (h : PQ p := by
  have cR0 : isRow w2 (w.heap.size) 47 6 = true := (x1d _ _ _ bL0).trans bR0
  have cV0 : rowOf w2 (w.heap.size) = _ := (x2d _ bL0).trans bV0
  have cC0 := isCells_row cR0
  have cL0 : (w.heap.size) < w2.heap.size := Nat.lt_of_lt_of_le bL0 hb2.size
  have cR1 : isRow w2 (w.heap.size + 1) 101 3 = true := (x1d _ _ _ bL1).trans bR1
  have cV1 : rowOf w2 (w.heap.size + 1) = _ := (x2d _ bL1).trans bV1
  have cC1 := isCells_row cR1
  have cL1 : (w.heap.size + 1) < w2.heap.size := Nat.lt_of_lt_of_le bL1 hb2.size
  have cR3 : isRow w2 (w.heap.size + 1 + 1 + 1) 47 6 = true := (x1d _ _ _ bL3).trans bR3
  have cV3 : rowOf w2 (w.heap.size + 1 + 1 + 1) = _ := (x2d _ bL3).trans bV3
  have cC3 := isCells_row cR3
  have cL3 : (w.heap.size + 1 + 1 + 1) < w2.heap.size := Nat.lt_of_lt_of_le bL3 hb2.size
  have cR4 : isRow w2 (w.heap.size + 1 + 1 + 1 + 1) 129 2 = true := (x1d _ _ _ bL4).trans bR4
  have cV4 : rowOf w2 (w.heap.size + 1 + 1 + 1 + 1) = _ := (x2d _ bL4).trans bV4
  have cC4 := isCells_row cR4
  have cL4 : (w.heap.size + 1 + 1 + 1 + 1) < w2.heap.size := Nat.lt_of_lt_of_le bL4 hb2.size
  exact pq (And.intro cR0 (And.intro cV0 (And.intro cC0 (And.intro cL0 (And.intro cR1 (And.intro cV1 (And.intro cC1 (And.intro cL1 (And.intro cR3 (And.intro cV3 (And.intro cC3 (And.intro cL3 (And.intro cR4 (And.intro cV4 (And.intro cC4 cL4)))))))))))))))) : p := h
theorem packMem42 {p : Prop} (h : PQ p := by
  have ne1 : ¬ (w.heap.size + 1 = w.heap.size) := by omega
  have en1 : ¬ (w.heap.size = w.heap.size + 1) := by omega
  have ne2 : ¬ (w.heap.size + 1 + 1 = w.heap.size) := by omega
  have en2 : ¬ (w.heap.size = w.heap.size + 1 + 1) := by omega
  have ne3 : ¬ (w.heap.size + 1 + 1 + 1 = w.heap.size) := by omega
  have en3 : ¬ (w.heap.size = w.heap.size + 1 + 1 + 1) := by omega
  have ne4 : ¬ (w.heap.size + 1 + 1 + 1 + 1 = w.heap.size) := by omega
  have en4 : ¬ (w.heap.size = w.heap.size + 1 + 1 + 1 + 1) := by omega
  have ne5 : ¬ (w.heap.size + 1 + 1 + 1 + 1 + 1 = w.heap.size) := by omega
  have en5 : ¬ (w.heap.size = w.heap.size + 1 + 1 + 1 + 1 + 1) := by omega
  exact pq (And.intro ne1 (And.intro en1 (And.intro ne2 (And.intro en2 (And.intro ne3 (And.intro en3 (And.intro ne4 (And.intro en4 (And.intro ne5 en5)))))))))) : p := h
theorem packMem43 {p : Prop} (h : PQ p := by
  have hkl := (List.getElem?_eq_some_iff.1 hp).1
  have n3 : (p : Int) < (CS.length : Int) := by omega
  have n4 : 0 ≤ (p : Int) := by omega
  have H := Lib.hid h
  have g1 : g < w.heap.size + 1 := by omega
  have g2 : g < w.heap.size + 1 + 1 := by omega
  have g3 : g < w.heap.size + 1 + 1 + 1 := by omega
  have g4 : g < w.heap.size + 1 + 1 + 1 + 1 := by omega
  have g5 : g < w.heap.size + 1 + 1 + 1 + 1 + 1 := by omega
  exact pq (And.intro hkl (And.intro n3 (And.intro n4 (And.intro H (And.intro g1 (And.intro g2 (And.intro g3 (And.intro g4 g5))))))))) : p := h
theorem tailMem41 {p : Prop} (h : p := by
  refine region_treeZ 21 (by kernel_rfl) (Keep WB) [0, 1, 2, 3, 4, 5, 6, 8, 9, 10, 11, 12, 13, 14, 15, 16, 17] 5 (by kernel_rfl) (by kernel_rfl) (fun _ _ d _ _ h => by cases d <;> exact h) ⟨(Below.refl _ _).drew⟩ ?_
  simp only [PL]
  apply reads_op
  · exact bk2
  try simp only [PT]
  apply reads_op
  · exact bk2
  try simp only [PT]
  apply reads_op
  · exact bk2
  try simp only [PT]
  apply reads_op
  · exact bk2
  try simp only [PT]
  apply reads_op
  · exact bk2
  try simp only [PT]
  apply reads_op
  · exact bk2
  try simp only [PT]
  apply reads_op
  · exact bk2
  try simp only [PT]
  apply reads_op
  · exact bk2
  try simp only [PT]
  apply reads_op
  · exact bk2
  try simp only [PT]
  apply reads_op
  · exact bk2
  try simp only [PT]
  apply reads_op
  · exact bk2
  try simp only [PT]
  apply reads_op
  · exact bk2
  try simp only [PT]
  apply reads_op
  · exact bk2
  try simp only [PT]
  apply reads_op
  · exact bk2
  try simp only [PT]
  apply reads_op
  · exact bk2
  try simp only [PT]
  apply reads_op
  · exact bk2
  try simp only [PT]
  apply reads_op
  · exact bk2
  try simp only [PT]
  refine reads_nil ?_
  refine treeZ_one 7 (by kernel_rfl) (by kernel_rfl) ?_
  simp only [nthL]
  go_wp2_with fail
  refine chain_on ⟨bk21⟩ ?_
  refine treeZ_one 18 (by kernel_rfl) (by kernel_rfl) ?_
  simp only [nthL]
  go_wp2_with fail
  refine chain_on ⟨bk21⟩ ?_
  refine treeZ_one 19 (by kernel_rfl) (by kernel_rfl) ?_
  simp only [nthL]
  go_wp2_with fail
  refine (concat_law _ _ [SL, [c], []] _ (all_drew (all3 c HHS.out.1 HHS.out.2)) (by simp) (by first | (simp; done) | (simp; omega))).mono ?_
  rintro e w2 ⟨v2, rfl, ho, hb⟩
  have hk2 := Keep.mk hb
  have sd2 : WB.heap.size ≤ w2.heap.size := Nat.le_trans (size_two _ _ _) hb.size
  have xxc := alk hk2.out; (try have zzc := zs w.heap.size w2.heap.size)
  have hqb : ∀ q, v2.ownBlock = some q → WB.heap.size ≤ q := (fun q hq => Nat.le_trans (size_two _ _ _) (ho.base hq).1)
  have HO2 := Lib.hid (show Sl w2 v2 10 ((SL ++ [c]).map peerC) from (by have := ho.sl; simpa using this))
  obtain ⟨a2, cap2, ev2, -⟩ := id HO2.out
  simp only [List.length_append, List.length_map, List.length_singleton] at ev2
  subst ev2
  clear ho hb
  go_wp2
  refine chain_on ⟨bk21⟩ ?_
  refine treeZ_reads (by kernel_rfl) [20] 1 rfl (by kernel_rfl) (fun _ _ d _ _ h => by cases d <;> exact h) ⟨bk21⟩ ?_
  simp only [PL]
  apply reads_op
  · exact bk2
  try simp only [PT]
  refine reads_nil ?_
  refine treeZ_last 21 rfl (by kernel_rfl) (by kernel_rfl) ?_
  simp only [nthL]
  go_wp2_with fail
  refine chain_on trivial ?_
  refine treeZ_end (by kernel_rfl) ?_
  have hb2 : Below WB.heap.size WB w2 := bk21
  obtain ⟨x1d, x2d, x3d, x4d, x5d, x6d, x7d, x8d, x9d, x10d, y9d⟩ := alk hb2; (try have zzd := zs w.heap.size w2.heap.size)
  obtain ⟨cR0, cV0, cC0, cL0, cR1, cV1, cC1, cL1, cR3, cV3, cC3, cL3, cR4, cV4, cC4, cL4⟩ := packMem41
  (try clear xxc); (try clear zzc)
  (try clear x1d x2d x3d x4d x5d x6d x7d x8d x9d x10d y9d); (try clear zzd)
  obtain ⟨ne1, en1, ne2, en2, ne3, en3, ne4, en4, ne5, en5⟩ := packMem42
  have dR0 : isRow (w2.setRow (w.heap.size + 1 + 1 + 1 + 1) #[.int .i64 m, .slice a2 (SL.length + 1) cap2]) (w.heap.size) 47 6 = true := by rw [sr_isRow' _ _ _ _ _ _ (by omega)]; exact cR0
  have dV0 : rowOf (w2.setRow (w.heap.size + 1 + 1 + 1 + 1) #[.int .i64 m, .slice a2 (SL.length + 1) cap2]) (w.heap.size) = _ := (sr_row' _ _ _ _ (by omega)).trans cV0
  have dC0 := isCells_row dR0
  have dL0 : (w.heap.size) < (w2.setRow (w.heap.size + 1 + 1 + 1 + 1) #[.int .i64 m, .slice a2 (SL.length + 1) cap2]).heap.size := by rw [sr_size]; exact cL0
  have dR1 : isRow (w2.setRow (w.heap.size + 1 + 1 + 1 + 1) #[.int .i64 m, .slice a2 (SL.length + 1) cap2]) (w.heap.size + 1) 101 3 = true := by rw [sr_isRow' _ _ _ _ _ _ (by omega)]; exact cR1
  have dV1 : rowOf (w2.setRow (w.heap.size + 1 + 1 + 1 + 1) #[.int .i64 m, .slice a2 (SL.length + 1) cap2]) (w.heap.size + 1) = _ := (sr_row' _ _ _ _ (by omega)).trans cV1
  have dC1 := isCells_row dR1
  have dL1 : (w.heap.size + 1) < (w2.setRow (w.heap.size + 1 + 1 + 1 + 1) #[.int .i64 m, .slice a2 (SL.length + 1) cap2]).heap.size := by rw [sr_size]; exact cL1
  have dR3 : isRow (w2.setRow (w.heap.size + 1 + 1 + 1 + 1) #[.int .i64 m, .slice a2 (SL.length + 1) cap2]) (w.heap.size + 1 + 1 + 1) 47 6 = true := by rw [sr_isRow' _ _ _ _ _ _ (by omega)]; exact cR3
  have dV3 : rowOf (w2.setRow (w.heap.size + 1 + 1 + 1 + 1) #[.int .i64 m, .slice a2 (SL.length + 1) cap2]) (w.heap.size + 1 + 1 + 1) = _ := (sr_row' _ _ _ _ (by omega)).trans cV3
  have dC3 := isCells_row dR3
  have dL3 : (w.heap.size + 1 + 1 + 1) < (w2.setRow (w.heap.size + 1 + 1 + 1 + 1) #[.int .i64 m, .slice a2 (SL.length + 1) cap2]).heap.size := by rw [sr_size]; exact cL3
  have dR4 : isRow (w2.setRow (w.heap.size + 1 + 1 + 1 + 1) #[.int .i64 m, .slice a2 (SL.length + 1) cap2]) (w.heap.size + 1 + 1 + 1 + 1) 129 2 = true := sr_isRow _ cR4 rfl
  have dV4 : rowOf (w2.setRow (w.heap.size + 1 + 1 + 1 + 1) #[.int .i64 m, .slice a2 (SL.length + 1) cap2]) (w.heap.size + 1 + 1 + 1 + 1) = #[.int .i64 m, .slice a2 (SL.length + 1) cap2] := sr_row _ cC4
  have dC4 := isCells_row dR4
  have dL4 : (w.heap.size + 1 + 1 + 1 + 1) < (w2.setRow (w.heap.size + 1 + 1 + 1 + 1) #[.int .i64 m, .slice a2 (SL.length + 1) cap2]).heap.size := by rw [sr_size]; exact cL4
  have d5 : Below w.heap.size w (w2.setRow (w.heap.size + 1 + 1 + 1 + 1) #[.int .i64 m, .slice a2 (SL.length + 1) cap2]) := below_setRow (bw.trans (hb2.mono (by have := bL0; omega))) (by omega) _
  have hSL := Lib.hid (show Sl (w2.setRow (w.heap.size + 1 + 1 + 1 + 1) #[.int .i64 m, .slice a2 (SL.length + 1) cap2]) (.slice a2 (SL.length + 1) cap2) 10 ((SL ++ [c]).map peerC) from HO2.out.upto (upto_own (Upto.refl _ _) _) (fun e => by have := hqb _ e; have := bL4; omega))
  have hqb5 : ∀ q, (Value.slice a2 (SL.length + 1) cap2).ownBlock = some q → w.heap.size + 1 + 1 + 1 + 1 < q := fun q hq => Nat.lt_of_lt_of_le bL4 (hqb q hq)
  clear hb2 HO2 hqb cR0 cV0 cC0 cL0 cR1 cV1 cC1 cL1 cR3 cV3 cC3 cL3 cR4 cV4 cC4 cL4 hk2
  generalize (w2.setRow (w.heap.size + 1 + 1 + 1 + 1) #[.int .i64 m, .slice a2 (SL.length + 1) cap2]) = W5 at *
  go_wp2_with (go_at_call 133; refine (HP.out (.slice a2 (SL.length + 1) cap2) rfl _ d5).mono ?_; rintro e w3 ⟨v1, rfl, hs1, hq1, hb⟩; obtain ⟨a1, c1, rfl, -⟩ := id hs1; simp only [List.length_set] at hs1 hq1 ⊢; have HS3 := Lib.hid hs1; have HQ3 := Lib.hid hq1; clear hs1 hq1; have hk3 := Keep.mk hb; have xxf := alk hk3.out; (try have zzf := zs w.heap.size w3.heap.size); clear hb)
  refine bodyPost_ret (v := .agg (#[.int .i64 inn, .int .i64 0, .slice none 0 0, .slice none 0 0, .slice a1 CS.length c1, .slice aL nL cL'])) (res_row (t := 47) Tryz.results90 _ _ _ rfl ?_ ?_ info47 agg47) rfl ?_
  · go_simp
  · go_simp
  exact ⟨_, _, rfl, HS3.out.upto (upto_own (Upto.refl (w.heap.size + 1 + 1 + 1) w3) _) (fun e => by have := HQ3.out _ e; omega), (hSL.out.below hk3.out).upto (upto_own (Upto.refl (w.heap.size + 1 + 1 + 1) w3) _) (fun e => by have := hqb5 _ e; omega), (fun q hq => by have := HQ3.out _ hq; omega), (fun q hq => by have := hqb5 _ hq; omega), below_setRow (d5.trans (hk3.out.mono (by have := dL0; omega))) (by omega) _⟩) : p := h
theorem drew_size4 (w : World) : w.drew.heap.size = w.heap.size := id rfl
attribute [local go_sem high] drew_size4
attribute [local simp high] drew_size4
theorem store_wsize (inn : Int) (aL : Option Addr) (nL cL' : Nat) (vS vs : Value) (hv : vs.oneCell' = true) (p n m : Nat) (CS : List (Array Value)) (hp : CS[p]? = some #[.int .i64 m, vs]) (hl : CS.length ≤ 1000) (w : World) (h : Sl w vS 2 CS) : Calls Tryz.prog 90 #[.agg (#[.int .i64 inn, .int .i64 0, .slice none 0 0, .slice none 0 0, vS, .slice aL nL cL']), .agg (#[.int .i64 5, .int .i64 p, .int .i64 0]), .agg (valC (.num n))] w fun e w' => ∃ v', e = .returned (.agg (#[.int .i64 inn, .int .i64 0, .slice none 0 0, .slice none 0 0, v', .slice aL nL cL'])) ∧ Sl w' v' 2 (CS.set p #[.int .i64 n, vs]) ∧ (∀ q, v'.ownBlock = some q → w.heap.size ≤ q) ∧ Below w.heap.size w w' := by
  obtain ⟨g, o, cL, rfl, hg, e1, e2, e3, e4⟩ := sl_at h hp
  obtain ⟨hkl, n3, n4, H, g1, g2, g3, g4, g5⟩ := packMem43
  have HP := Lib.hid (fun (W : World) (b : Below w.heap.size w W) => part_law inn aL nL cL' p _ CS #[.int .i64 n, vs] rfl (by simp [ones, onesL, hv, one_int]) hkl hl W (H.out.below b))
  clear h hp
  unfold valC
  go_enter Tryz.func90, Tryz.ntmps90
  go_wp2_with (go_at_call 133; refine (HP.out _ (bk0)).mono ?_; rintro e w1 ⟨v1, rfl, hs1, hq1, hb⟩; obtain ⟨a1, c1, rfl, -⟩ := id hs1; simp at hq1; simp only [List.length_set] at *; have HS1 := Lib.hid hs1; clear hs1; have hk1 := Keep.mk hb; have xx := alk hk1.out; (try have zz := zs w.heap.size w1.heap.size); clear hb)
  refine bodyPost_ret (v := .agg (#[.int .i64 inn, .int .i64 0, .slice none 0 0, .slice none 0 0, .slice a1 CS.length c1, .slice aL nL cL'])) (res_row (t := 47) Tryz.results90 _ _ _ rfl ?_ ?_ info47 agg47) rfl ?_
  · go_simp
  · go_simp
  exact ⟨_, rfl, HS1.out.upto (upto_own (Upto.refl (w.heap.size + 1 + 1 + 1) w1) _) (fun e => by have := hq1 _ e; omega), (fun q hq => by have := hq1 _ hq; omega), bk0⟩
theorem all3 {W : World} {s1 s3 : Value} {SL : List Nat} (c : Nat) (h1 : Sl W s1 10 (SL.map peerC)) (h3 : Sl W s3 10 []) : AllAt ((W.alloc (.cells (peerC c) 75)).alloc (.cells #[s1, .slice (some ⟨W.heap.size, 0, none⟩) 1 1, s3] 55)) (W.heap.size + 1) [s1, .slice (some ⟨W.heap.size, 0, none⟩) 1 1, s3] [SL, [c], []] := by
  have b1 : Below W.heap.size W (W.alloc (.cells (peerC c) 75)) := (Below.refl _ _).alloc (Nat.le_refl _) _
  have b2 : ∀ o, Below (W.alloc (.cells (peerC c) 75)).heap.size (W.alloc (.cells (peerC c) 75)) ((W.alloc (.cells (peerC c) 75)).alloc o) := fun o => (Below.refl _ _).alloc (Nat.le_refl _) _
  refine ⟨?_, rfl, fun i v l hv hl => ?_⟩
  · unfold RowT
    have := (MapKept.heap_alloc (W.alloc (.cells (peerC c) 75)) (.cells #[s1, .slice (some ⟨W.heap.size, 0, none⟩) 1 1, s3] 55)).1
    simpa using this
  · match i, hv, hl with
    | 0, hv, hl => cases hv; cases hl; exact (h1.below b1).below (b2 _)
    | 1, hv, hl => cases hv; cases hl; exact (sl_one W (peerC c) 75 10 _ rfl rfl rfl).below (b2 _)
    | 2, hv, hl => cases hv; cases hl; exact (h3.below b1).below (b2 _)
    | n + 3, hv, hl => simp at hv
theorem size_two (W : World) (a b : Obj) : W.heap.size ≤ ((W.alloc a).alloc b).drew.heap.size := by
  show W.heap.size ≤ ((W.alloc a).alloc b).heap.size
  rw [World.size_alloc, World.size_alloc]; omega
theorem all_drew {W : World} {b : Nat} {vs : List Value} {Ls : List (List Nat)} (h : AllAt W b vs Ls) : AllAt W.drew b vs Ls :=
  ⟨h.1, h.2.1, fun i v l hv hl => (h.2.2 i v l hv hl).same (Nat.le_refl _) fun _ _ _ => rfl⟩
theorem store_wslot (inn : Int) (aL : Option Addr) (nL cL' : Nat) (vS vs : Value) (p c m : Nat) (SL : List Nat) (CS : List (Array Value)) (hp : CS[p]? = some #[.int .i64 m, vs]) (hl : CS.length ≤ 1000) (hsl : SL.length ≤ 900) (w : World) (h : Sl w vS 2 CS) (hs : Sl w vs 10 (SL.map peerC)) : Calls Tryz.prog 90 #[.agg (#[.int .i64 inn, .int .i64 0, .slice none 0 0, .slice none 0 0, vS, .slice aL nL cL']), .agg (#[.int .i64 6, .int .i64 p, .int .i64 SL.length]), .agg (valC (.who c))] w fun e w' => ∃ v' v'', e = .returned (.agg (#[.int .i64 inn, .int .i64 0, .slice none 0 0, .slice none 0 0, v', .slice aL nL cL'])) ∧ Sl w' v' 2 (CS.set p #[.int .i64 m, v'']) ∧ Sl w' v'' 10 ((SL ++ [c]).map peerC) ∧ (∀ q, v'.ownBlock = some q → w.heap.size ≤ q) ∧ (∀ q, v''.ownBlock = some q → w.heap.size ≤ q) ∧ Below w.heap.size w w' := by
  obtain ⟨g, o, cL, rfl, hg, e1, e2, e3, e4⟩ := sl_at h hp
  obtain ⟨hkl, n3, n4, H, g1, g2, g3, g4, g5⟩ := packMem43
  have HP := Lib.hid (fun (v'' : Value) (h1 : v''.oneCell' = true) (W : World) (b : Below w.heap.size w W) => part_law inn aL nL cL' p _ CS #[.int .i64 m, v''] rfl (by simp [ones, onesL, h1, one_int]) hkl hl W (H.out.below b))
  have HS := Lib.hid hs
  obtain ⟨a, cap, ev, k1, k2, k3⟩ := hs
  simp only [List.length_map] at ev k1
  subst ev
  have n5 : ¬ ((SL.length : Int) < (SL.length : Int)) := by omega
  have hw1 : IntKind.i64.wrap ((SL.length : Int) + 1) = (SL.length : Int) + 1 := by rw [IntKind.wrap_i64]; omega
  have hmin : min ((SL.length : Int) + 1) (SL.length : Int) = (SL.length : Int) := by omega
  clear h hp
  unfold valC
  go_enter Tryz.func90, Tryz.ntmps90
  go_wp2_with fail
  go_upto_region 14 with (fail)
  obtain ⟨WG, hWG⟩ : ∃ W, ((((w.alloc (.cells (#[.int .i64 inn, .int .i64 0, .slice none 0 0, .slice none 0 0, .slice (some ⟨g, o, none⟩) CS.length cL, .slice aL nL cL']) 47)).alloc (.cells (#[.int .i64 6, .int .i64 p, .int .i64 SL.length]) 101)).alloc (.cells (#[.int .i64 0, .bool false, .int .u64 0, .int .u64 (loOf c), .int .i64 80, .bool true, .int .i64 (Pm.tOf c), .int .i64 0, .int .i64 (Pm.tOf c), .int .i64 0, .int .i64 0, .slice none 0 0, .slice none 0 0]) 103)).alloc (.cells (#[.int .i64 0, .int .i64 0, .slice none 0 0, .slice none 0 0, .slice none 0 0, .slice none 0 0]) 47)).alloc (.cells (#[.int .i64 m, .slice a SL.length cap]) 129) = W := ⟨_, rfl⟩
  have bR0 : isRow WG (w.heap.size) 47 6 = true := by subst hWG; go_simp
  have bV0 : rowOf WG (w.heap.size) = #[.int .i64 inn, .int .i64 0, .slice none 0 0, .slice none 0 0, .slice (some ⟨g, o, none⟩) CS.length cL, .slice aL nL cL'] := by subst hWG; go_simp
  have bC0 := isCells_row bR0
  have bL0 : (w.heap.size) < WG.heap.size := bk13
  have bR1 : isRow WG (w.heap.size + 1) 101 3 = true := by subst hWG; go_simp
  have bV1 : rowOf WG (w.heap.size + 1) = #[.int .i64 6, .int .i64 p, .int .i64 SL.length] := by subst hWG; go_simp
  have bC1 := isCells_row bR1
  have bL1 : (w.heap.size + 1) < WG.heap.size := bk13
  have bR2 : isRow WG (w.heap.size + 1 + 1) 103 13 = true := by subst hWG; go_simp
  have bV2 : rowOf WG (w.heap.size + 1 + 1) = #[.int .i64 0, .bool false, .int .u64 0, .int .u64 (loOf c), .int .i64 80, .bool true, .int .i64 (Pm.tOf c), .int .i64 0, .int .i64 (Pm.tOf c), .int .i64 0, .int .i64 0, .slice none 0 0, .slice none 0 0] := by subst hWG; go_simp
  have bC2 := isCells_row bR2
  have bL2 : (w.heap.size + 1 + 1) < WG.heap.size := bk13
  have bR3 : isRow WG (w.heap.size + 1 + 1 + 1) 47 6 = true := by subst hWG; go_simp
  have bV3 : rowOf WG (w.heap.size + 1 + 1 + 1) = #[.int .i64 0, .int .i64 0, .slice none 0 0, .slice none 0 0, .slice none 0 0, .slice none 0 0] := by subst hWG; go_simp
  have bC3 := isCells_row bR3
  have bL3 : (w.heap.size + 1 + 1 + 1) < WG.heap.size := bk13
  have bR4 : isRow WG (w.heap.size + 1 + 1 + 1 + 1) 129 2 = true := by subst hWG; go_simp
  have bV4 : rowOf WG (w.heap.size + 1 + 1 + 1 + 1) = #[.int .i64 m, .slice a SL.length cap] := by subst hWG; go_simp
  have bC4 := isCells_row bR4
  have bL4 : (w.heap.size + 1 + 1 + 1 + 1) < WG.heap.size := bk13
  have bw : Below w.heap.size w WG := bk36
  generalize ((((w.alloc (.cells (#[.int .i64 inn, .int .i64 0, .slice none 0 0, .slice none 0 0, .slice (some ⟨g, o, none⟩) CS.length cL, .slice aL nL cL']) 47)).alloc (.cells (#[.int .i64 6, .int .i64 p, .int .i64 SL.length]) 101)).alloc (.cells (#[.int .i64 0, .bool false, .int .u64 0, .int .u64 (loOf c), .int .i64 80, .bool true, .int .i64 (Pm.tOf c), .int .i64 0, .int .i64 (Pm.tOf c), .int .i64 0, .int .i64 0, .slice none 0 0, .slice none 0 0]) 103)).alloc (.cells (#[.int .i64 0, .int .i64 0, .slice none 0 0, .slice none 0 0, .slice none 0 0, .slice none 0 0]) 47)).alloc (.cells (#[.int .i64 m, .slice a SL.length cap]) 129) = WB at *
  subst hWG
  rcases k3 with ⟨rfl, k3⟩ | ⟨g', o', rfl, hg', k3⟩
  · have k4 : SL = [] := by simpa using k3
    subst k4
    clear k3
    have hw2 : IntKind.i64.wrap 1 = 1 := by rw [IntKind.wrap_i64]; omega
    have hm2 : min (1 : Int) 0 = 0 := by omega
    have HS1 : Sl WB (.slice none 0 cap) 10 (([] : List Nat).map peerC) := ⟨none, cap, rfl, Nat.zero_le _, k2, .inl ⟨rfl, rfl⟩⟩
    have HS3 : Sl WB (.slice none 0 cap) 10 [] := ⟨none, cap, rfl, Nat.zero_le _, k2, .inl ⟨rfl, rfl⟩⟩
    have HHS := Lib.hid (And.intro HS1 HS3)
    clear HS1 HS3
    refine region_treeZ 21 (by kernel_rfl) (Keep WB) [0, 1, 2, 3, 4, 5, 6, 8, 9, 10, 11, 12, 13, 14, 15, 16, 17] 5 (by kernel_rfl) (by kernel_rfl) (fun _ _ d _ _ h => by cases d <;> exact h) ⟨(Below.refl _ _).drew⟩ ?_
    simp only [PL]
    apply reads_op
    · exact bk2
    try simp only [PT]
    apply reads_op
    · exact bk2
    try simp only [PT]
    apply reads_op
    · exact bk2
    try simp only [PT]
    apply reads_op
    · exact bk2
    try simp only [PT]
    apply reads_op
    · exact bk2
    try simp only [PT]
    apply reads_op
    · exact bk2
    try simp only [PT]
    apply reads_op
    · exact bk2
    try simp only [PT]
    apply reads_op
    · exact bk2
    try simp only [PT]
    apply reads_op
    · exact bk2
    try simp only [PT]
    apply reads_op
    · exact bk2
    try simp only [PT]
    apply reads_op
    · exact bk2
    try simp only [PT]
    apply reads_op
    · exact bk2
    try simp only [PT]
    apply reads_op
    · exact bk2
    try simp only [PT]
    apply reads_op
    · exact bk2
    try simp only [PT]
    apply reads_op
    · exact bk2
    try simp only [PT]
    apply reads_op
    · exact bk2
    try simp only [PT]
    apply reads_op
    · exact bk2
    try simp only [PT]
    refine reads_nil ?_
    refine treeZ_one 7 (by kernel_rfl) (by kernel_rfl) ?_
    simp only [nthL]
    go_wp2_with fail
    refine chain_on ⟨bk21⟩ ?_
    refine treeZ_one 18 (by kernel_rfl) (by kernel_rfl) ?_
    simp only [nthL]
    go_wp2_with fail
    refine chain_on ⟨bk21⟩ ?_
    refine treeZ_one 19 (by kernel_rfl) (by kernel_rfl) ?_
    simp only [nthL]
    go_wp2_with fail
    refine (concat_law _ _ [([] : List Nat), [c], []] _ (all_drew (all3 c HHS.out.1 HHS.out.2)) (by simp) (by first | (simp; done) | (simp; omega))).mono ?_
    rintro e w2 ⟨v2, rfl, ho, hb⟩
    have hk2 := Keep.mk hb
    have sd2 : WB.heap.size ≤ w2.heap.size := Nat.le_trans (size_two _ _ _) hb.size
    have xxc := alk hk2.out; (try have zzc := zs w.heap.size w2.heap.size)
    have hqb : ∀ q, v2.ownBlock = some q → WB.heap.size ≤ q := (fun q hq => Nat.le_trans (size_two _ _ _) (ho.base hq).1)
    have HO2 := Lib.hid (show Sl w2 v2 10 ((([] : List Nat) ++ [c]).map peerC) from (by have := ho.sl; simpa using this))
    obtain ⟨a2, cap2, ev2, -⟩ := id HO2.out
    simp only [List.length_append, List.length_map, List.length_singleton] at ev2
    subst ev2
    clear ho hb
    go_wp2
    refine chain_on ⟨bk21⟩ ?_
    refine treeZ_reads (by kernel_rfl) [20] 1 rfl (by kernel_rfl) (fun _ _ d _ _ h => by cases d <;> exact h) ⟨bk21⟩ ?_
    simp only [PL]
    apply reads_op
    · exact bk2
    try simp only [PT]
    refine reads_nil ?_
    refine treeZ_last 21 rfl (by kernel_rfl) (by kernel_rfl) ?_
    simp only [nthL]
    go_wp2_with fail
    refine chain_on trivial ?_
    refine treeZ_end (by kernel_rfl) ?_
    have hb2 : Below WB.heap.size WB w2 := bk21
    obtain ⟨x1d, x2d, x3d, x4d, x5d, x6d, x7d, x8d, x9d, x10d, y9d⟩ := alk hb2; (try have zzd := zs w.heap.size w2.heap.size)
    obtain ⟨cR0, cV0, cC0, cL0, cR1, cV1, cC1, cL1, cR3, cV3, cC3, cL3, cR4, cV4, cC4, cL4⟩ := packMem41
    (try clear xxc); (try clear zzc)
    (try clear x1d x2d x3d x4d x5d x6d x7d x8d x9d x10d y9d); (try clear zzd)
    obtain ⟨ne1, en1, ne2, en2, ne3, en3, ne4, en4, ne5, en5⟩ := packMem42
    have dR0 : isRow (w2.setRow (w.heap.size + 1 + 1 + 1 + 1) #[.int .i64 m, .slice a2 (1) cap2]) (w.heap.size) 47 6 = true := by rw [sr_isRow' _ _ _ _ _ _ (by omega)]; exact cR0
    have dV0 : rowOf (w2.setRow (w.heap.size + 1 + 1 + 1 + 1) #[.int .i64 m, .slice a2 (1) cap2]) (w.heap.size) = _ := (sr_row' _ _ _ _ (by omega)).trans cV0
    have dC0 := isCells_row dR0
    have dL0 : (w.heap.size) < (w2.setRow (w.heap.size + 1 + 1 + 1 + 1) #[.int .i64 m, .slice a2 (1) cap2]).heap.size := by rw [sr_size]; exact cL0
    have dR1 : isRow (w2.setRow (w.heap.size + 1 + 1 + 1 + 1) #[.int .i64 m, .slice a2 (1) cap2]) (w.heap.size + 1) 101 3 = true := by rw [sr_isRow' _ _ _ _ _ _ (by omega)]; exact cR1
    have dV1 : rowOf (w2.setRow (w.heap.size + 1 + 1 + 1 + 1) #[.int .i64 m, .slice a2 (1) cap2]) (w.heap.size + 1) = _ := (sr_row' _ _ _ _ (by omega)).trans cV1
    have dC1 := isCells_row dR1
    have dL1 : (w.heap.size + 1) < (w2.setRow (w.heap.size + 1 + 1 + 1 + 1) #[.int .i64 m, .slice a2 (1) cap2]).heap.size := by rw [sr_size]; exact cL1
    have dR3 : isRow (w2.setRow (w.heap.size + 1 + 1 + 1 + 1) #[.int .i64 m, .slice a2 (1) cap2]) (w.heap.size + 1 + 1 + 1) 47 6 = true := by rw [sr_isRow' _ _ _ _ _ _ (by omega)]; exact cR3
    have dV3 : rowOf (w2.setRow (w.heap.size + 1 + 1 + 1 + 1) #[.int .i64 m, .slice a2 (1) cap2]) (w.heap.size + 1 + 1 + 1) = _ := (sr_row' _ _ _ _ (by omega)).trans cV3
    have dC3 := isCells_row dR3
    have dL3 : (w.heap.size + 1 + 1 + 1) < (w2.setRow (w.heap.size + 1 + 1 + 1 + 1) #[.int .i64 m, .slice a2 (1) cap2]).heap.size := by rw [sr_size]; exact cL3
    have dR4 : isRow (w2.setRow (w.heap.size + 1 + 1 + 1 + 1) #[.int .i64 m, .slice a2 (1) cap2]) (w.heap.size + 1 + 1 + 1 + 1) 129 2 = true := sr_isRow _ cR4 rfl
    have dV4 : rowOf (w2.setRow (w.heap.size + 1 + 1 + 1 + 1) #[.int .i64 m, .slice a2 (1) cap2]) (w.heap.size + 1 + 1 + 1 + 1) = #[.int .i64 m, .slice a2 (1) cap2] := sr_row _ cC4
    have dC4 := isCells_row dR4
    have dL4 : (w.heap.size + 1 + 1 + 1 + 1) < (w2.setRow (w.heap.size + 1 + 1 + 1 + 1) #[.int .i64 m, .slice a2 (1) cap2]).heap.size := by rw [sr_size]; exact cL4
    have d5 : Below w.heap.size w (w2.setRow (w.heap.size + 1 + 1 + 1 + 1) #[.int .i64 m, .slice a2 (1) cap2]) := below_setRow (bw.trans (hb2.mono (by have := bL0; omega))) (by omega) _
    have hSL := Lib.hid (show Sl (w2.setRow (w.heap.size + 1 + 1 + 1 + 1) #[.int .i64 m, .slice a2 (1) cap2]) (.slice a2 (1) cap2) 10 ((([] : List Nat) ++ [c]).map peerC) from HO2.out.upto (upto_own (Upto.refl _ _) _) (fun e => by have := hqb _ e; have := bL4; omega))
    have hqb5 : ∀ q, (Value.slice a2 (1) cap2).ownBlock = some q → w.heap.size + 1 + 1 + 1 + 1 < q := fun q hq => Nat.lt_of_lt_of_le bL4 (hqb q hq)
    clear hb2 HO2 hqb cR0 cV0 cC0 cL0 cR1 cV1 cC1 cL1 cR3 cV3 cC3 cL3 cR4 cV4 cC4 cL4 hk2
    generalize (w2.setRow (w.heap.size + 1 + 1 + 1 + 1) #[.int .i64 m, .slice a2 (1) cap2]) = W5 at *
    go_wp2_with (go_at_call 133; refine (HP.out (.slice a2 (1) cap2) rfl _ d5).mono ?_; rintro e w3 ⟨v1, rfl, hs1, hq1, hb⟩; obtain ⟨a1, c1, rfl, -⟩ := id hs1; simp only [List.length_set] at hs1 hq1 ⊢; have HS3 := Lib.hid hs1; have HQ3 := Lib.hid hq1; clear hs1 hq1; have hk3 := Keep.mk hb; have xxf := alk hk3.out; (try have zzf := zs w.heap.size w3.heap.size); clear hb)
    refine bodyPost_ret (v := .agg (#[.int .i64 inn, .int .i64 0, .slice none 0 0, .slice none 0 0, .slice a1 CS.length c1, .slice aL nL cL'])) (res_row (t := 47) Tryz.results90 _ _ _ rfl ?_ ?_ info47 agg47) rfl ?_
    · go_simp
    · go_simp
    exact ⟨_, _, rfl, HS3.out.upto (upto_own (Upto.refl (w.heap.size + 1 + 1 + 1) w3) _) (fun e => by have := HQ3.out _ e; omega), (hSL.out.below hk3.out).upto (upto_own (Upto.refl (w.heap.size + 1 + 1 + 1) w3) _) (fun e => by have := hqb5 _ e; omega), (fun q hq => by have := HQ3.out _ hq; omega), (fun q hq => by have := hqb5 _ hq; omega), below_setRow (d5.trans (hk3.out.mono (by have := dL0; omega))) (by omega) _⟩
  · have g1' : g' < WB.heap.size := by have := bL0; omega
    have n6 : (SL.length : Int) ≤ (cap : Int) := by omega
    have n7 : 0 ≤ (SL.length : Int) := by omega
    clear k3
    by_cases hcap : SL.length = cap
    · subst hcap
      have HHS := Lib.hid (And.intro (HS.out.below bw) (show Sl WB (.slice (some ⟨g', o', none⟩) 0 0) 10 [] from ⟨_, 0, rfl, Nat.zero_le _, Nat.zero_le _, .inr ⟨g', o', rfl, g1', fun i C h => by simp at h⟩⟩))
      exact tailMem41
    · have hcap2 : ¬ (cap = SL.length) := fun e => hcap e.symm
      have HHS := Lib.hid (And.intro (HS.out.below bw) (show Sl WB (.slice (some ⟨g', o' + SL.length * 10, none⟩) 0 (cap - SL.length)) 10 [] from ⟨_, _, rfl, Nat.zero_le _, by omega, .inr ⟨g', _, rfl, g1', fun i C h => by simp at h⟩⟩))
      exact tailMem41
end
section
open Go.RowKit Go.Shelf
def rIns : Ren where
  f := fun x => match x with | 21 => 130 | 27 => 183 | 28 => 184 | 35 => 237 | 39 => 277 | _ => x
  t := fun x => match x with | 22 => 23 | _ => x
  g := fun x => x
theorem laysIns : Lays2.n21 Tryz.prog rIns where
  mixed := by kernel_rfl
  f21 := by kernel_rfl
  f27 := by kernel_rfl
  f28 := by kernel_rfl
  f35 := by kernel_rfl
  f39 := by kernel_rfl
  t0 := by kernel_rfl
  a0 := fun w => by kernel_rfl
  z0 := fun w => by kernel_rfl
  v0 := fun w => by kernel_rfl
  t3 := by kernel_rfl
  a3 := fun w => by kernel_rfl
  z3 := fun w => by kernel_rfl
  v3 := fun w => by kernel_rfl
  t4 := by kernel_rfl
  a4 := fun w => by kernel_rfl
  z4 := fun w => by kernel_rfl
  v4 := fun w => by kernel_rfl
  t22 := by kernel_rfl
  a22 := fun w => by kernel_rfl
  z22 := fun w => by kernel_rfl
  v22 := fun w => by kernel_rfl
  i3 := by kernel_rfl
def rBin : Ren where
  f := fun x => match x with | 25 => 129 | 31 => 181 | 32 => 182 | 37 => 176 | _ => x
  t := fun x => match x with | 22 => 23 | 40 => 164 | _ => x
  g := fun x => x
theorem laysBin : Lays2.n25 Tryz.prog rBin where
  mixed := by kernel_rfl
  f25 := by kernel_rfl
  f31 := by kernel_rfl
  f32 := by kernel_rfl
  f37 := by kernel_rfl
  t0 := by kernel_rfl
  a0 := fun w => by kernel_rfl
  z0 := fun w => by kernel_rfl
  v0 := fun w => by kernel_rfl
  t3 := by kernel_rfl
  a3 := fun w => by kernel_rfl
  z3 := fun w => by kernel_rfl
  v3 := fun w => by kernel_rfl
  t4 := by kernel_rfl
  a4 := fun w => by kernel_rfl
  z4 := fun w => by kernel_rfl
  v4 := fun w => by kernel_rfl
  t22 := by kernel_rfl
  a22 := fun w => by kernel_rfl
  z22 := fun w => by kernel_rfl
  v22 := fun w => by kernel_rfl
  t40 := by kernel_rfl
  a40 := fun w => by kernel_rfl
  z40 := fun w => by kernel_rfl
  v40 := fun w => by kernel_rfl
def rDel : Ren where
  f := fun x => match x with | 6 => 131 | 10 => 86 | _ => x
  t := fun x => match x with | 22 => 23 | 23 => 3 | 25 => 192 | _ => x
  g := fun x => x
theorem laysDel : SlLaysH.n10 Tryz.prog rDel where
  mixed := by kernel_rfl
  f6 := ⟨Tryz.f131.name, by kernel_rfl, by kernel_rfl⟩
  f10 := ⟨Tryz.f86.name, by kernel_rfl, by kernel_rfl⟩
  t0 := by kernel_rfl
  a0 := fun w => by kernel_rfl
  z0 := fun w => by kernel_rfl
  v0 := fun w => by kernel_rfl
  t3 := by kernel_rfl
  a3 := fun w => by kernel_rfl
  z3 := fun w => by kernel_rfl
  v3 := fun w => by kernel_rfl
  t4 := by kernel_rfl
  a4 := fun w => by kernel_rfl
  z4 := fun w => by kernel_rfl
  v4 := fun w => by kernel_rfl
  t22 := by kernel_rfl
  a22 := fun w => by kernel_rfl
  z22 := fun w => by kernel_rfl
  v22 := fun w => by kernel_rfl
  a23 := fun w => by kernel_rfl
  z23 := fun w => by kernel_rfl
  t25 := by kernel_rfl
  a25 := fun w => by kernel_rfl
  z25 := fun w => by kernel_rfl
  v25 := fun w => by kernel_rfl
theorem laysIdx : SlLaysH.n6 Tryz.prog rDel where
  mixed := by kernel_rfl
  f6 := ⟨Tryz.f131.name, by kernel_rfl, by kernel_rfl⟩
  t0 := by kernel_rfl
  a0 := fun w => by kernel_rfl
  z0 := fun w => by kernel_rfl
  v0 := fun w => by kernel_rfl
  t3 := by kernel_rfl
  a3 := fun w => by kernel_rfl
  z3 := fun w => by kernel_rfl
  v3 := fun w => by kernel_rfl
  t4 := by kernel_rfl
  a4 := fun w => by kernel_rfl
  z4 := fun w => by kernel_rfl
  v4 := fun w => by kernel_rfl
  t22 := by kernel_rfl
  a22 := fun w => by kernel_rfl
  z22 := fun w => by kernel_rfl
  v22 := fun w => by kernel_rfl
  a23 := fun w => by kernel_rfl
  z23 := fun w => by kernel_rfl
  t25 := by kernel_rfl
  a25 := fun w => by kernel_rfl
  z25 := fun w => by kernel_rfl
  v25 := fun w => by kernel_rfl
end
end Go.Proofs.YtnncjbkepakgpaaGreat
