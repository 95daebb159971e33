/-
  A TASK IS TOLD A VALUE.
-/
import Derived.Test.YtnncjbkepakgpaaGreatA07
import Derived.Test.YtnncjbkepakgpaaGreatA33
namespace Go.Proofs.YtnncjbkepakgpaaGreat
set_option linter.unusedVariables false
set_option linter.unusedSimpArgs false
set_option maxRecDepth 100000
set_option maxHeartbeats 20000000
open Go.RowKit
attribute [local go_sem ↓] exec_load_29 exec_store_29 exec_load_41 exec_store_41 exec_load_203 exec_store_203 exec_load_198 exec_store_198 exec_load_62 exec_store_62 exec_load_105 exec_store_105 exec_load_64 exec_store_64 exec_load_103 exec_store_103
attribute [local go_sem] run_load29r run_store29i run_load41r run_store41i run_load203r run_store203i run_load198r run_store198i run_load62r run_store62i run_load105r run_store105i run_load64r run_store64i run_load103r run_store103i lt_up isRng_new rngOf_new isRange_past rangeOf_past isRange_drew rangeOf_drew fits_new fits_past fits_drew setAt_new setAt_past setAt_drew putAt_whole putAt_lit extract_whole extract_lit one_int one_bool one_slice one_ptr ones_lit onesL_nil onesL_cons isRow_new rowOf_new isRow_past rowOf_past isRow_drew rowOf_drew lt2 lt3 lt4 List.take_succ_cons List.take_zero List.drop_succ_cons List.drop_zero List.cons_append List.nil_append List.length_cons List.length_nil List.size_toArray setRow_new setRow_past own_cell own_frozen own_set own_isRange own_rangeOf own_fits setAt_row sr_sr sr_size sr_row sr_row' sr_isRow sr_isRow' sr_fits' sr_cell' sr_frozen' sr_isRange' sr_rangeOf' sr_isCells isCells_new isCells_past isCells_drew valC_size valC_ones opC_size opC_ones replyC_size
attribute [local go_sem high] drew_size
attribute [local simp high] drew_size
theorem packTask31 {p : Prop} (h : PQ p := by
  have r0 : isCells (w9.setRow (w.heap.size + 1) #[.slice a t.calls.length cap, .int .i64 ((t.nth : Int) + 1), .slice none 0 0, .slice a8 (t.replies.length + 1) cap8, .bool false]) (w.heap.size + 1) = true := by rw [sr_isCells]; exact m2
  have r1 : isRange (w9.setRow (w.heap.size + 1) #[.slice a t.calls.length cap, .int .i64 ((t.nth : Int) + 1), .slice none 0 0, .slice a8 (t.replies.length + 1) cap8, .bool false]) ⟨(w.heap.size + 1), 0, none⟩ 5 = true := own_isRange r0 (by rw [sr_row _ m2]; simp)
  have r2 : rangeOf (w9.setRow (w.heap.size + 1) #[.slice a t.calls.length cap, .int .i64 ((t.nth : Int) + 1), .slice none 0 0, .slice a8 (t.replies.length + 1) cap8, .bool false]) ⟨(w.heap.size + 1), 0, none⟩ 5 = #[.slice a t.calls.length cap, .int .i64 ((t.nth : Int) + 1), .slice none 0 0, .slice a8 (t.replies.length + 1) cap8, .bool false] := bk32
  have r3 : fitsAt (w9.setRow (w.heap.size + 1) #[.slice a t.calls.length cap, .int .i64 ((t.nth : Int) + 1), .slice none 0 0, .slice a8 (t.replies.length + 1) cap8, .bool false]) (w.heap.size + 1 + 1 + 1) 0 5 = true := bk33
  have r4 : isRow (w9.setRow (w.heap.size + 1) #[.slice a t.calls.length cap, .int .i64 ((t.nth : Int) + 1), .slice none 0 0, .slice a8 (t.replies.length + 1) cap8, .bool false]) (w.heap.size + 1 + 1 + 1) 62 5 = true := bk34
  have r5 := isCells_row r4
  have r6 : rowOf (w9.setRow (w.heap.size + 1) #[.slice a t.calls.length cap, .int .i64 ((t.nth : Int) + 1), .slice none 0 0, .slice a8 (t.replies.length + 1) cap8, .bool false]) (w.heap.size + 1 + 1 + 1) = #[.slice none 0 0, .int .i64 0, .slice none 0 0, .slice none 0 0, .bool false] := bk35
  exact pq (And.intro r0 (And.intro r1 (And.intro r2 (And.intro r3 (And.intro r4 (And.intro r5 r6))))))) : p := h
theorem packTask32 {p : Prop} (h : PQ p := by
  have m1 : rowOf WG (w.heap.size + 1) = #[.slice a t.calls.length cap, .int .i64 t.nth, .slice a3 (t.got.length + 1) cap3, .slice a8 (t.replies.length + 1) cap8, .bool false] := by subst hWG; exact sr_row _ k8c
  have m2 : isCells WG (w.heap.size + 1) = true := by subst hWG; rw [sr_isCells]; exact k8c
  have m3 : isRow WG (w.heap.size + 1 + 1 + 1) 62 5 = true := bk30
  have m4 : rowOf WG (w.heap.size + 1 + 1 + 1) = #[.slice none 0 0, .int .i64 0, .slice none 0 0, .slice none 0 0, .bool false] := bk31
  have m5 : w.heap.size + 1 < WG.heap.size := by subst hWG; rw [sr_size]; exact k8v
  have m6 : w.heap.size + 1 + 1 + 1 < WG.heap.size := by subst hWG; rw [sr_size]; exact k8w
  have m7 : isRow WG (w.heap.size + 1) 62 5 = true := by subst hWG; exact sr_isRow _ k8r rfl
  have m8 := isCells_row m3
  have b9 : Below w.heap.size w WG := bk24
  have hne8 : ∀ q, (Value.slice a8 (t.replies.length + 1) cap8).ownBlock = some q → w6.heap.size ≤ q := fun q hq => Nat.le_trans (bk11) (HO8.out.base hq).1
  exact pq (And.intro m1 (And.intro m2 (And.intro m3 (And.intro m4 (And.intro m5 (And.intro m6 (And.intro m7 (And.intro m8 (And.intro b9 hne8)))))))))) : p := h
theorem packTask33 {p : Prop} (h : PQ p := by
  have HTA := Lib.hid (show TaskAt (w3.setRow (w.heap.size + 1) #[.slice a t.calls.length cap, .int .i64 t.nth, .slice a3 (t.got.length + 1) cap3, .slice ar t.replies.length capr, .bool false]) #[.slice a t.calls.length cap, .int .i64 t.nth, .slice a3 (t.got.length + 1) cap3, .slice ar t.replies.length capr, .bool false] { t with got := t.got ++ [v] } from ⟨_, _, _, by simp, S1.out.below hbw, hgot, S3.out.below hbw⟩)
  have HPP := Lib.hid (HP.out _ _ HTA.out)
  have HG5 := Lib.hid hgot
  have qr : isRange (w3.setRow (w.heap.size + 1) #[.slice a t.calls.length cap, .int .i64 t.nth, .slice a3 (t.got.length + 1) cap3, .slice ar t.replies.length capr, .bool false]) ⟨(w.heap.size + 1), 0, none⟩ 5 = true := own_isRange (by rw [sr_isCells]; exact qc) (by rw [sr_row _ qc]; simp)
  have qv : rangeOf (w3.setRow (w.heap.size + 1) #[.slice a t.calls.length cap, .int .i64 t.nth, .slice a3 (t.got.length + 1) cap3, .slice ar t.replies.length capr, .bool false]) ⟨(w.heap.size + 1), 0, none⟩ 5 = #[.slice a t.calls.length cap, .int .i64 t.nth, .slice a3 (t.got.length + 1) cap3, .slice ar t.replies.length capr, .bool false] := bk42
  exact pq (And.intro HTA (And.intro HPP (And.intro HG5 (And.intro qr qv))))) : p := h
theorem packTask34 {p : Prop} (h : PQ p := by
  have k8r : isRow w8 (w.heap.size + 1) 62 5 = true := (x1e8 _ _ _ (by omega)).trans k6r
  have k8c := isCells_row k8r
  have k8s : isRow w8 (w.heap.size + 1 + 1 + 1) 62 5 = true := (x1e8 _ _ _ (by omega)).trans k6s
  have k8t := isCells_row k8s
  have k8u : rowOf w8 (w.heap.size + 1 + 1 + 1) = #[.slice none 0 0, .int .i64 0, .slice none 0 0, .slice none 0 0, .bool false] := (x2e8 _ (by omega)).trans k6u
  have k8v : w.heap.size + 1 < w8.heap.size := by omega
  have k8w : w.heap.size + 1 + 1 + 1 < w8.heap.size := by omega
  exact pq (And.intro k8r (And.intro k8c (And.intro k8s (And.intro k8t (And.intro k8u (And.intro k8v k8w))))))) : p := h
theorem packTask35 {p : Prop} (h : PQ p := by
  have hnb : Pm.turn ⟨most, S, prt S⟩ { t with got := t.got ++ [v] } ≠ .bad := by rw [hp]; simp
  have ho : Pm.over t = false := by unfold Pm.over; simp; omega
  have HO := Lib.hid (fun (W : World) (k : Below w.heap.size w W) => over_law t (by omega) _ W (HT.out.below k))
  have HP := Lib.hid (fun (C : Array Value) (W : World) (h : TaskAt W C { t with got := t.got ++ [v] }) => turn_law most S { t with got := t.got ++ [v] } hS0 hS1 hmost hnth hnb hnn C W h)
  have HCL := Lib.hid (fun (W : World) (k : Below w.heap.size w W) => clone92 _ _ W (S2.out.below k) (by simp; omega))
  exact pq (And.intro hnb (And.intro ho (And.intro HO (And.intro HP HCL))))) : p := h
theorem packTask36 {p : Prop} (h : PQ p := by
  have qc : isCells w3 (w.heap.size + 1) = true := (x8e3 _ (by omega)).trans p1
  have sB : w.heap.size + 1 + 1 + 1 < w1.heap.size := by omega
  have hbw : Below w.heap.size w (w3.setRow (w.heap.size + 1) #[.slice a t.calls.length cap, .int .i64 t.nth, .slice a3 (t.got.length + 1) cap3, .slice ar t.replies.length capr, .bool false]) := bk0
  have hne : ∀ q, (Value.slice a3 (t.got.length + 1) cap3).ownBlock = some q → w1.heap.size ≤ q := fun q hq => Nat.le_trans (bk11) (HO3.out.base hq).1
  exact pq (And.intro qc (And.intro sB (And.intro hbw hne)))) : p := h
theorem packTask37 {p : Prop} (h : PQ p := by
  have n1 : ((w.heap.size + 1 : Nat) = w.heap.size + 1 + 1 + 1) = False := eq_false (by omega)
  have n2 : ((w.heap.size + 1 + 1 + 1 : Nat) = w.heap.size + 1) = False := eq_false (by omega)
  exact pq (And.intro n1 n2)) : p := h
theorem tailTask31 {p : Prop} (h : p := by
  refine chain_on (bk9) ?_
  refine tree_one 5 (by kernel_rfl) (by kernel_rfl) ?_
  simp only [nthL]
  refine app103 rfl (.tmp 14) (.tmp 16) rfl _ _ (t.got.map valC) [(valC v)] rfl (bk39) _ _ _ rfl (bk40) (by simp; omega) (bk41) ?_
  intro v3 w3 hown hbel hnil
  have HO3 := Lib.hid hown
  obtain ⟨a3, cap3, ev, -⟩ := hown.sl
  simp only [List.length_append, List.length_map, List.length_singleton] at ev
  subst ev
  clear hnil
  have hb3 : Below w1.heap.size w1 w3 := below_since hbel (bk4) (bk11)
  have hk3 := Keep.mk hb3
  obtain ⟨x1e3, x2e3, x3e3, x4e3, x5e3, x6e3, x7e3, x8e3, x9e3, x10e3, y9e3⟩ := alk hk3.out; (try have zze3 := zs w.heap.size w3.heap.size)
  have sd3 : w1.heap.size ≤ w3.heap.size := hb3.size
  go_wp2
  refine chain_on (bk9) ?_
  refine tree_reads [6] 1 rfl (by kernel_rfl) (fun _ _ d _ _ h => by cases d <;> exact h) (bk9) ?_
  simp only [PL]
  apply reads_op
  · exact bk3
  try simp only [PT]
  refine reads_nil ?_
  refine tree_one 7 (by kernel_rfl) (by kernel_rfl) ?_
  simp only [nthL]
  go_wp2_with fail
  refine chain_on (bk9) ?_
  refine tree_end (by kernel_rfl) ?_
  obtain ⟨qc, sB, hbw, hne⟩ := packTask36
  have hgot : Sl (w3.setRow (w.heap.size + 1) #[.slice a t.calls.length cap, .int .i64 t.nth, .slice a3 (t.got.length + 1) cap3, .slice ar t.replies.length capr, .bool false]) (.slice a3 (t.got.length + 1) cap3) 13 ((t.got ++ [v]).map valC) := by
    rw [List.map_append]
    exact HO3.out.sl.upto (upto_rowSelf (Upto.refl _ _) _) (fun e => by have := hne _ e; omega)
  obtain ⟨HTA, HPP, HG5, qr, qv⟩ := packTask33
  go_wp2_with (go_at_call 93; refine HPP.out.mono ?_; rintro e w5 ⟨rfl, hb⟩; have hk5 := Keep.mk hb; have s5 : w3.heap.size ≤ w5.heap.size := (by have := hb.size; rwa [sr_size] at this); have s6 : w.heap.size + 1 + 1 + 1 < w5.heap.size := (by omega); have hb5 : Below w3.heap.size (w3.setRow (w.heap.size + 1) #[.slice a t.calls.length cap, .int .i64 t.nth, .slice a3 (t.got.length + 1) cap3, .slice ar t.replies.length capr, .bool false]) w5 := hb.mono (by rw [sr_size]; exact Nat.le_refl _); obtain ⟨x1g, x2g, x3g, x4g, x5g, x6g, x7g, x8g, x9g, x10g, y9g⟩ := alk hb5; (try have zzg := zs w.heap.size w5.heap.size); clear hb; have kr3 : isRow w5 (w.heap.size + 1 + 1 + 1) 62 5 = true := (bk43); have kc3 := isCells_row kr3; have kv3 : rowOf w5 (w.heap.size + 1 + 1 + 1) = #[.slice none 0 0, .int .i64 0, .slice none 0 0, .slice none 0 0, .bool false] := (bk44); have kr1 : isRow w5 (w.heap.size + 1) 62 5 = true := (bk45); have kv1 : rowOf w5 (w.heap.size + 1) = #[.slice a t.calls.length cap, .int .i64 t.nth, .slice a3 (t.got.length + 1) cap3, .slice ar t.replies.length capr, .bool false] := (bk46); have kc1 := isCells_row kr1; (try clear x1g x2g x3g x4g x5g x6g x7g x8g x9g x10g y9g); (try clear zzg); have s7 : w.heap.size + 1 < w5.heap.size := (by omega))
  obtain ⟨WG, hWG⟩ : ∃ W, w5.alloc (.cells #[.int .i64 0, .int .i64 0, .int .i64 0, .int .i64 0, .int .i64 0, .int .i64 0, .int .i64 0, .int .i64 0, .bool false, .int .u64 0, .int .u64 0, .int .i64 0, .bool false, .int .i64 0, .int .i64 0, .int .i64 0, .int .i64 0, .int .i64 0, .slice none 0 0, .slice none 0 0, .bool false, .int .i64 (x), .bool false, .int .u64 0, .int .u64 0, .int .i64 0, .int .i64 0, .int .i64 0, .slice none 0 0, .bool true, .bool false] 198) = W := ⟨_, rfl⟩
  have b6 : Below w.heap.size w WG := bk24
  have k6r : isRow WG (w.heap.size + 1) 62 5 = true := by subst hWG; go_simp
  have k6v : rowOf WG (w.heap.size + 1) = #[.slice a t.calls.length cap, .int .i64 t.nth, .slice a3 (t.got.length + 1) cap3, .slice ar t.replies.length capr, .bool false] := by subst hWG; go_simp
  have k6c := isCells_row k6r
  have k6s : isRow WG (w.heap.size + 1 + 1 + 1) 62 5 = true := by subst hWG; go_simp
  have k6u : rowOf WG (w.heap.size + 1 + 1 + 1) = #[.slice none 0 0, .int .i64 0, .slice none 0 0, .slice none 0 0, .bool false] := by subst hWG; go_simp
  have k6t := isCells_row k6s
  have k6a : isRow WG w5.heap.size 198 31 = true := by subst hWG; go_simp
  have k6b : rowOf WG w5.heap.size = #[.int .i64 0, .int .i64 0, .int .i64 0, .int .i64 0, .int .i64 0, .int .i64 0, .int .i64 0, .int .i64 0, .bool false, .int .u64 0, .int .u64 0, .int .i64 0, .bool false, .int .i64 0, .int .i64 0, .int .i64 0, .int .i64 0, .int .i64 0, .slice none 0 0, .slice none 0 0, .bool false, .int .i64 (x), .bool false, .int .u64 0, .int .u64 0, .int .i64 0, .int .i64 0, .int .i64 0, .slice none 0 0, .bool true, .bool false] := by subst hWG; go_simp
  have k6d := isCells_row k6a
  have k6e : w5.heap.size < WG.heap.size := by subst hWG; simp
  have k6f : ¬ (w5.heap.size = w.heap.size + 1) := by omega
  have k6g : w.heap.size + 1 + 1 + 1 < WG.heap.size := by subst hWG; omega
  have k6h : w.heap.size + 1 < WG.heap.size := by subst hWG; omega
  have k6i : rangeOf WG ⟨w5.heap.size, 21, none⟩ 8 = #[.int .i64 x, .bool false, .int .u64 0, .int .u64 0, .int .i64 0, .int .i64 0, .int .i64 0, .slice none 0 0] := bk62
  have k6j : isRange WG ⟨w5.heap.size, 21, none⟩ 8 = true := by subst hWG; exact own_isRange k6d (by rw [k6b]; simp)
  (try clear xxq); (try clear zzq)
  generalize w5.alloc (.cells #[.int .i64 0, .int .i64 0, .int .i64 0, .int .i64 0, .int .i64 0, .int .i64 0, .int .i64 0, .int .i64 0, .bool false, .int .u64 0, .int .u64 0, .int .i64 0, .bool false, .int .i64 0, .int .i64 0, .int .i64 0, .int .i64 0, .int .i64 0, .slice none 0 0, .slice none 0 0, .bool false, .int .i64 (x), .bool false, .int .u64 0, .int .u64 0, .int .i64 0, .int .i64 0, .int .i64 0, .slice none 0 0, .bool true, .bool false] 198) = w6 at *
  subst hWG
  refine region_tree (Upto (w.heap.size + 1) w6) [0, 3, 4] 6 (by kernel_rfl) (by kernel_rfl) (fun _ _ d _ _ h => by cases d <;> exact h) (Upto.refl _ _).drew ?_
  simp only [PL]
  apply reads_op
  · exact bk3
  try simp only [PT]
  apply reads_op
  · exact bk3
  try simp only [PT]
  apply reads_op
  · exact bk3
  try simp only [PT]
  refine reads_nil ?_
  refine tree_two 1 5 (by kernel_rfl) (by kernel_rfl) (by kernel_rfl) ?_ ?_
  · simp only [nthL]
    go_wp2_with fail
    refine chain_on (bk7) ?_
    refine tree_two 2 5 (by kernel_rfl) (by kernel_rfl) (by kernel_rfl) ?_ ?_
    · simp only [nthL]
      go_wp2_with (go_at_call 94; refine (HCR.out _ (bk4)).mono ?_; rintro e w7 ⟨v7, rfl, ho, hb⟩; have hk7 := Keep.mk hb; have sd7 : w6.heap.size ≤ w7.heap.size := Nat.le_trans (bk20) hk7.out.size; have xxc7 := alk hk7.out; (try have zzc7 := zs w.heap.size w7.heap.size); have HO7 := Lib.hid ho; clear hb ho)
      refine chain_on (bk7) ?_
      refine tree_one 5 (by kernel_rfl) (by kernel_rfl) ?_
      simp only [nthL]
      go_wp2_with fail
      refine chain_on (bk7) ?_
      refine tree_one 6 (by kernel_rfl) (by kernel_rfl) ?_
      simp only [nthL]
      refine app64 rfl (.tmp 34) (.tmp 37) rfl _ _ (t.replies.map replyC) [#[.int .i64 x, .bool false, .int .u64 0, .int .u64 0, .int .i64 0, .int .i64 0, .int .i64 0, .slice none 0 0]] rfl (bk27) _ _ _ rfl (bk28) (by simp; omega) (bk29) ?_
      intro v8 w8 hown hbel hnil
      have HO8 := Lib.hid hown
      obtain ⟨a8, cap8, ev, -⟩ := hown.sl
      simp only [List.length_append, List.length_map, List.length_singleton] at ev
      subst ev
      clear hnil
      have hb8 : Below w6.heap.size w6 w8 := below_since hbel (bk4) (bk11)
      have hk8 := Keep.mk hb8
      obtain ⟨x1e8, x2e8, x3e8, x4e8, x5e8, x6e8, x7e8, x8e8, x9e8, x10e8, y9e8⟩ := alk hk8.out; (try have zze8 := zs w.heap.size w8.heap.size)
      have sd8 : w6.heap.size ≤ w8.heap.size := hb8.size
      go_wp2
      refine chain_on (bk7) ?_
      refine tree_reads [7] 1 rfl (by kernel_rfl) (fun _ _ d _ _ h => by cases d <;> exact h) (bk7) ?_
      simp only [PL]
      apply reads_op
      · exact bk3
      try simp only [PT]
      refine reads_nil ?_
      refine tree_one 8 (by kernel_rfl) (by kernel_rfl) ?_
      simp only [nthL]
      go_wp2_with fail
      refine chain_on (bk7) ?_
      refine tree_end (by kernel_rfl) ?_
      obtain ⟨k8r, k8c, k8s, k8t, k8u, k8v, k8w⟩ := packTask34
      (try clear x1e8 x2e8 x3e8 x4e8 x5e8 x6e8 x7e8 x8e8 x9e8 x10e8 y9e8); (try clear zze8)
      (try clear xxc7); (try clear zzc7)
      obtain ⟨n1, n2⟩ := packTask37
      obtain ⟨WG, hWG⟩ : ∃ W, w8.setRow (w.heap.size + 1) #[.slice a t.calls.length cap, .int .i64 t.nth, .slice a3 (t.got.length + 1) cap3, .slice a8 (t.replies.length + 1) cap8, .bool false] = W := ⟨_, rfl⟩
      obtain ⟨m1, m2, m3, m4, m5, m6, m7, m8, b9, hne8⟩ := packTask32
      have hrep := Lib.hid (show Sl (w8.setRow (w.heap.size + 1) #[.slice a t.calls.length cap, .int .i64 t.nth, .slice a3 (t.got.length + 1) cap3, .slice a8 (t.replies.length + 1) cap8, .bool false]) (.slice a8 (t.replies.length + 1) cap8) 8 ((t.replies ++ [b]).map replyC) from by
        rw [List.map_append]
        show Sl _ _ _ (_ ++ [replyC b])
        rw [← er'.out]
        exact HO8.out.sl.upto (upto_rowSelf (Upto.refl _ _) _) (fun e => by have := hne8 _ e; omega))
      generalize w8.setRow (w.heap.size + 1) #[.slice a t.calls.length cap, .int .i64 t.nth, .slice a3 (t.got.length + 1) cap3, .slice a8 (t.replies.length + 1) cap8, .bool false] = w9 at *
      subst hWG
      clear k8c k8r k8t k8s k8u k8v k8w
      (try clear k6r k6v k6c k6s k6u k6t k6a k6b k6d k6e k6f k6i k6j)
      (try clear xx); (try clear zz)
      (try clear xxc); (try clear zzc)
      (try clear x1e3 x2e3 x3e3 x4e3 x5e3 x6e3 x7e3 x8e3 x9e3 x10e3 y9e3); (try clear zze3)
      clear kr3 kc3 kv3 kr1 kv1 kc1 p1r p1 p3 p3v qr qv qc HG5 HPP HTA hk7 sd7 hb5 hk5
      obtain ⟨r0, r1, r2, r3, r4, r5, r6⟩ := packTask31
      go_wp2
      refine bodyPost_ret (v := .tuple #[.agg #[.slice a t.calls.length cap, .int .i64 ((t.nth : Int) + 1), .slice none 0 0, .slice a8 (t.replies.length + 1) cap8, .bool false], .bool true]) (res_row2 (t := 62) Tryz.results53 _ _ _ rfl ?_ ?_ info62 agg62) rfl ?_
      · go_simp
      · go_simp
      refine ⟨_, rfl, ?_, fr_done (fun q hq => Nat.le_trans (by omega) (hne8 q hq)), bk0⟩
      rw [show Pm.take ⟨most, S, prt S⟩ t v = { t with nth := t.nth + 1, got := [], replies := t.replies ++ [b] } by unfold Pm.take; rw [hp]]
      refine ⟨_, _, .slice a8 (t.replies.length + 1) cap8, rfl, S1.out.below (bk0), Sl.nil _ _, ?_⟩
      refine Sl.upto (T := w.heap.size + 1 + 1 + 1) ?_ (upto_rowSelf (Upto.refl _ _) _) (fun e => by have := hne8 _ e; omega)
      exact hrep.out.upto (upto_rowSelf (Upto.refl _ _) _) (fun e => by have := hne8 _ e; omega)
    · simp only [nthL]
      go_wp2_with fail
      refine chain_on (bk7) ?_
      refine tree_one 2 (by kernel_rfl) (by kernel_rfl) ?_
      simp only [nthL]
      go_wp2_with (go_at_call 94; refine (HCR.out _ (bk4)).mono ?_; rintro e w7 ⟨v7, rfl, ho, hb⟩; have hk7 := Keep.mk hb; have sd7 : w6.heap.size ≤ w7.heap.size := Nat.le_trans (bk20) hk7.out.size; have xxc7 := alk hk7.out; (try have zzc7 := zs w.heap.size w7.heap.size); have HO7 := Lib.hid ho; clear hb ho)
      refine chain_on (bk7) ?_
      refine tree_one 6 (by kernel_rfl) (by kernel_rfl) ?_
      simp only [nthL]
      refine app64 rfl (.tmp 34) (.tmp 37) rfl _ _ (t.replies.map replyC) [#[.int .i64 x, .bool false, .int .u64 0, .int .u64 0, .int .i64 0, .int .i64 0, .int .i64 0, .slice none 0 0]] rfl (bk27) _ _ _ rfl (bk28) (by simp; omega) (bk29) ?_
      intro v8 w8 hown hbel hnil
      have HO8 := Lib.hid hown
      obtain ⟨a8, cap8, ev, -⟩ := hown.sl
      simp only [List.length_append, List.length_map, List.length_singleton] at ev
      subst ev
      clear hnil
      have hb8 : Below w6.heap.size w6 w8 := below_since hbel (bk4) (bk11)
      have hk8 := Keep.mk hb8
      obtain ⟨x1e8, x2e8, x3e8, x4e8, x5e8, x6e8, x7e8, x8e8, x9e8, x10e8, y9e8⟩ := alk hk8.out; (try have zze8 := zs w.heap.size w8.heap.size)
      have sd8 : w6.heap.size ≤ w8.heap.size := hb8.size
      go_wp2
      refine chain_on (bk7) ?_
      refine tree_reads [7] 1 rfl (by kernel_rfl) (fun _ _ d _ _ h => by cases d <;> exact h) (bk7) ?_
      simp only [PL]
      apply reads_op
      · exact bk3
      try simp only [PT]
      refine reads_nil ?_
      refine tree_one 8 (by kernel_rfl) (by kernel_rfl) ?_
      simp only [nthL]
      go_wp2_with fail
      refine chain_on (bk7) ?_
      refine tree_end (by kernel_rfl) ?_
      obtain ⟨k8r, k8c, k8s, k8t, k8u, k8v, k8w⟩ := packTask34
      (try clear x1e8 x2e8 x3e8 x4e8 x5e8 x6e8 x7e8 x8e8 x9e8 x10e8 y9e8); (try clear zze8)
      (try clear xxc7); (try clear zzc7)
      obtain ⟨n1, n2⟩ := packTask37
      obtain ⟨WG, hWG⟩ : ∃ W, w8.setRow (w.heap.size + 1) #[.slice a t.calls.length cap, .int .i64 t.nth, .slice a3 (t.got.length + 1) cap3, .slice a8 (t.replies.length + 1) cap8, .bool false] = W := ⟨_, rfl⟩
      obtain ⟨m1, m2, m3, m4, m5, m6, m7, m8, b9, hne8⟩ := packTask32
      have hrep := Lib.hid (show Sl (w8.setRow (w.heap.size + 1) #[.slice a t.calls.length cap, .int .i64 t.nth, .slice a3 (t.got.length + 1) cap3, .slice a8 (t.replies.length + 1) cap8, .bool false]) (.slice a8 (t.replies.length + 1) cap8) 8 ((t.replies ++ [b]).map replyC) from by
        rw [List.map_append]
        show Sl _ _ _ (_ ++ [replyC b])
        rw [← er'.out]
        exact HO8.out.sl.upto (upto_rowSelf (Upto.refl _ _) _) (fun e => by have := hne8 _ e; omega))
      generalize w8.setRow (w.heap.size + 1) #[.slice a t.calls.length cap, .int .i64 t.nth, .slice a3 (t.got.length + 1) cap3, .slice a8 (t.replies.length + 1) cap8, .bool false] = w9 at *
      subst hWG
      clear k8c k8r k8t k8s k8u k8v k8w
      (try clear k6r k6v k6c k6s k6u k6t k6a k6b k6d k6e k6f k6i k6j)
      (try clear xx); (try clear zz)
      (try clear xxc); (try clear zzc)
      (try clear x1e3 x2e3 x3e3 x4e3 x5e3 x6e3 x7e3 x8e3 x9e3 x10e3 y9e3); (try clear zze3)
      clear kr3 kc3 kv3 kr1 kv1 kc1 p1r p1 p3 p3v qr qv qc HG5 HPP HTA hk7 sd7 hb5 hk5
      obtain ⟨r0, r1, r2, r3, r4, r5, r6⟩ := packTask31
      go_wp2
      refine bodyPost_ret (v := .tuple #[.agg #[.slice a t.calls.length cap, .int .i64 ((t.nth : Int) + 1), .slice none 0 0, .slice a8 (t.replies.length + 1) cap8, .bool false], .bool true]) (res_row2 (t := 62) Tryz.results53 _ _ _ rfl ?_ ?_ info62 agg62) rfl ?_
      · go_simp
      · go_simp
      refine ⟨_, rfl, ?_, fr_done (fun q hq => Nat.le_trans (by omega) (hne8 q hq)), bk0⟩
      rw [show Pm.take ⟨most, S, prt S⟩ t v = { t with nth := t.nth + 1, got := [], replies := t.replies ++ [b] } by unfold Pm.take; rw [hp]]
      refine ⟨_, _, .slice a8 (t.replies.length + 1) cap8, rfl, S1.out.below (bk0), Sl.nil _ _, ?_⟩
      refine Sl.upto (T := w.heap.size + 1 + 1 + 1) ?_ (upto_rowSelf (Upto.refl _ _) _) (fun e => by have := hne8 _ e; omega)
      exact hrep.out.upto (upto_rowSelf (Upto.refl _ _) _) (fun e => by have := hne8 _ e; omega)
  · simp only [nthL]
    go_wp2_with fail
    refine chain_on (bk7) ?_
    refine tree_one 1 (by kernel_rfl) (by kernel_rfl) ?_
    simp only [nthL]
    go_wp2_with fail
    refine chain_on (bk7) ?_
    refine tree_one 2 (by kernel_rfl) (by kernel_rfl) ?_
    simp only [nthL]
    go_wp2_with (go_at_call 94; refine (HCR.out _ (bk4)).mono ?_; rintro e w7 ⟨v7, rfl, ho, hb⟩; have hk7 := Keep.mk hb; have sd7 : w6.heap.size ≤ w7.heap.size := Nat.le_trans (bk20) hk7.out.size; have xxc7 := alk hk7.out; (try have zzc7 := zs w.heap.size w7.heap.size); have HO7 := Lib.hid ho; clear hb ho)
    refine chain_on (bk7) ?_
    refine tree_one 6 (by kernel_rfl) (by kernel_rfl) ?_
    simp only [nthL]
    refine app64 rfl (.tmp 34) (.tmp 37) rfl _ _ (t.replies.map replyC) [#[.int .i64 x, .bool false, .int .u64 0, .int .u64 0, .int .i64 0, .int .i64 0, .int .i64 0, .slice none 0 0]] rfl (bk27) _ _ _ rfl (bk28) (by simp; omega) (bk29) ?_
    intro v8 w8 hown hbel hnil
    have HO8 := Lib.hid hown
    obtain ⟨a8, cap8, ev, -⟩ := hown.sl
    simp only [List.length_append, List.length_map, List.length_singleton] at ev
    subst ev
    clear hnil
    have hb8 : Below w6.heap.size w6 w8 := below_since hbel (bk4) (bk11)
    have hk8 := Keep.mk hb8
    obtain ⟨x1e8, x2e8, x3e8, x4e8, x5e8, x6e8, x7e8, x8e8, x9e8, x10e8, y9e8⟩ := alk hk8.out; (try have zze8 := zs w.heap.size w8.heap.size)
    have sd8 : w6.heap.size ≤ w8.heap.size := hb8.size
    go_wp2
    refine chain_on (bk7) ?_
    refine tree_reads [7] 1 rfl (by kernel_rfl) (fun _ _ d _ _ h => by cases d <;> exact h) (bk7) ?_
    simp only [PL]
    apply reads_op
    · exact bk3
    try simp only [PT]
    refine reads_nil ?_
    refine tree_one 8 (by kernel_rfl) (by kernel_rfl) ?_
    simp only [nthL]
    go_wp2_with fail
    refine chain_on (bk7) ?_
    refine tree_end (by kernel_rfl) ?_
    obtain ⟨k8r, k8c, k8s, k8t, k8u, k8v, k8w⟩ := packTask34
    (try clear x1e8 x2e8 x3e8 x4e8 x5e8 x6e8 x7e8 x8e8 x9e8 x10e8 y9e8); (try clear zze8)
    (try clear xxc7); (try clear zzc7)
    obtain ⟨n1, n2⟩ := packTask37
    obtain ⟨WG, hWG⟩ : ∃ W, w8.setRow (w.heap.size + 1) #[.slice a t.calls.length cap, .int .i64 t.nth, .slice a3 (t.got.length + 1) cap3, .slice a8 (t.replies.length + 1) cap8, .bool false] = W := ⟨_, rfl⟩
    obtain ⟨m1, m2, m3, m4, m5, m6, m7, m8, b9, hne8⟩ := packTask32
    have hrep := Lib.hid (show Sl (w8.setRow (w.heap.size + 1) #[.slice a t.calls.length cap, .int .i64 t.nth, .slice a3 (t.got.length + 1) cap3, .slice a8 (t.replies.length + 1) cap8, .bool false]) (.slice a8 (t.replies.length + 1) cap8) 8 ((t.replies ++ [b]).map replyC) from by
      rw [List.map_append]
      show Sl _ _ _ (_ ++ [replyC b])
      rw [← er'.out]
      exact HO8.out.sl.upto (upto_rowSelf (Upto.refl _ _) _) (fun e => by have := hne8 _ e; omega))
    generalize w8.setRow (w.heap.size + 1) #[.slice a t.calls.length cap, .int .i64 t.nth, .slice a3 (t.got.length + 1) cap3, .slice a8 (t.replies.length + 1) cap8, .bool false] = w9 at *
    subst hWG
    clear k8c k8r k8t k8s k8u k8v k8w
    (try clear k6r k6v k6c k6s k6u k6t k6a k6b k6d k6e k6f k6i k6j)
    (try clear xx); (try clear zz)
    (try clear xxc); (try clear zzc)
    (try clear x1e3 x2e3 x3e3 x4e3 x5e3 x6e3 x7e3 x8e3 x9e3 x10e3 y9e3); (try clear zze3)
    clear kr3 kc3 kv3 kr1 kv1 kc1 p1r p1 p3 p3v qr qv qc HG5 HPP HTA hk7 sd7 hb5 hk5
    obtain ⟨r0, r1, r2, r3, r4, r5, r6⟩ := packTask31
    go_wp2
    refine bodyPost_ret (v := .tuple #[.agg #[.slice a t.calls.length cap, .int .i64 ((t.nth : Int) + 1), .slice none 0 0, .slice a8 (t.replies.length + 1) cap8, .bool false], .bool true]) (res_row2 (t := 62) Tryz.results53 _ _ _ rfl ?_ ?_ info62 agg62) rfl ?_
    · go_simp
    · go_simp
    refine ⟨_, rfl, ?_, fr_done (fun q hq => Nat.le_trans (by omega) (hne8 q hq)), bk0⟩
    rw [show Pm.take ⟨most, S, prt S⟩ t v = { t with nth := t.nth + 1, got := [], replies := t.replies ++ [b] } by unfold Pm.take; rw [hp]]
    refine ⟨_, _, .slice a8 (t.replies.length + 1) cap8, rfl, S1.out.below (bk0), Sl.nil _ _, ?_⟩
    refine Sl.upto (T := w.heap.size + 1 + 1 + 1) ?_ (upto_rowSelf (Upto.refl _ _) _) (fun e => by have := hne8 _ e; omega)
    exact hrep.out.upto (upto_rowSelf (Upto.refl _ _) _) (fun e => by have := hne8 _ e; omega)) : p := h
theorem tailTask32 {p : Prop} (h : p := by
  refine chain_on (bk9) ?_
  refine tree_one 5 (by kernel_rfl) (by kernel_rfl) ?_
  simp only [nthL]
  refine app103 rfl (.tmp 14) (.tmp 16) rfl _ _ (t.got.map valC) [(valC v)] rfl (bk39) _ _ _ rfl (bk40) (by simp; omega) (bk41) ?_
  intro v3 w3 hown hbel hnil
  have HO3 := Lib.hid hown
  obtain ⟨a3, cap3, ev, -⟩ := hown.sl
  simp only [List.length_append, List.length_map, List.length_singleton] at ev
  subst ev
  clear hnil
  have hb3 : Below w1.heap.size w1 w3 := below_since hbel (bk4) (bk11)
  have hk3 := Keep.mk hb3
  obtain ⟨x1e3, x2e3, x3e3, x4e3, x5e3, x6e3, x7e3, x8e3, x9e3, x10e3, y9e3⟩ := alk hk3.out; (try have zze3 := zs w.heap.size w3.heap.size)
  have sd3 : w1.heap.size ≤ w3.heap.size := hb3.size
  go_wp2
  refine chain_on (bk9) ?_
  refine tree_reads [6] 1 rfl (by kernel_rfl) (fun _ _ d _ _ h => by cases d <;> exact h) (bk9) ?_
  simp only [PL]
  apply reads_op
  · exact bk3
  try simp only [PT]
  refine reads_nil ?_
  refine tree_one 7 (by kernel_rfl) (by kernel_rfl) ?_
  simp only [nthL]
  go_wp2_with fail
  refine chain_on (bk9) ?_
  refine tree_end (by kernel_rfl) ?_
  obtain ⟨qc, sB, hbw, hne⟩ := packTask36
  have hgot : Sl (w3.setRow (w.heap.size + 1) #[.slice a t.calls.length cap, .int .i64 t.nth, .slice a3 (t.got.length + 1) cap3, .slice ar t.replies.length capr, .bool false]) (.slice a3 (t.got.length + 1) cap3) 13 ((t.got ++ [v]).map valC) := by
    rw [List.map_append]
    exact HO3.out.sl.upto (upto_rowSelf (Upto.refl _ _) _) (fun e => by have := hne _ e; omega)
  obtain ⟨HTA, HPP, HG5, qr, qv⟩ := packTask33
  go_wp2_with (go_at_call 93; refine HPP.out.mono ?_; rintro e w5 ⟨rfl, hb⟩; have hk5 := Keep.mk hb; have s5 : w3.heap.size ≤ w5.heap.size := (by have := hb.size; rwa [sr_size] at this); have s6 : w.heap.size + 1 + 1 + 1 < w5.heap.size := (by omega); have hb5 : Below w3.heap.size (w3.setRow (w.heap.size + 1) #[.slice a t.calls.length cap, .int .i64 t.nth, .slice a3 (t.got.length + 1) cap3, .slice ar t.replies.length capr, .bool false]) w5 := hb.mono (by rw [sr_size]; exact Nat.le_refl _); obtain ⟨x1g, x2g, x3g, x4g, x5g, x6g, x7g, x8g, x9g, x10g, y9g⟩ := alk hb5; (try have zzg := zs w.heap.size w5.heap.size); clear hb; have kr3 : isRow w5 (w.heap.size + 1 + 1 + 1) 62 5 = true := (bk43); have kc3 := isCells_row kr3; have kv3 : rowOf w5 (w.heap.size + 1 + 1 + 1) = #[.slice none 0 0, .int .i64 0, .slice none 0 0, .slice none 0 0, .bool false] := (bk44); have kr1 : isRow w5 (w.heap.size + 1) 62 5 = true := (bk45); have kv1 : rowOf w5 (w.heap.size + 1) = #[.slice a t.calls.length cap, .int .i64 t.nth, .slice a3 (t.got.length + 1) cap3, .slice ar t.replies.length capr, .bool false] := (bk46); have kc1 := isCells_row kr1; (try clear x1g x2g x3g x4g x5g x6g x7g x8g x9g x10g y9g); (try clear zzg); have s7 : w.heap.size + 1 < w5.heap.size := (by omega))
  refine bodyPost_ret (v := .tuple #[.agg #[.slice a t.calls.length cap, .int .i64 t.nth, .slice a3 (t.got.length + 1) cap3, .slice ar t.replies.length capr, .bool false], .bool false]) (res_row2 (t := 62) Tryz.results53 _ _ _ rfl ?_ ?_ info62 agg62) rfl ?_
  · go_simp
  · go_simp
  refine ⟨_, rfl, ?_, fr_pause (fun q hq => Nat.le_trans (by omega) (hne q hq)), bk0⟩
  rw [show Pm.take ⟨most, S, prt S⟩ t v = { t with got := t.got ++ [v] } by unfold Pm.take; rw [hp]]
  refine ⟨_, _, _, by simp, S1.out.below (bk0), Sl.upto (T := w.heap.size + 1 + 1 + 1) (HG5.out.below hk5.out) (bk61) (fun e => by have := hne _ e; omega), S3.out.below (bk0)⟩) : p := h
theorem tailTask33 {p : Prop} (h : p := by
  go_wp2_with fail
  refine chain_on (bk9) ?_
  refine tree_one 2 (by kernel_rfl) (by kernel_rfl) ?_
  simp only [nthL]
  go_wp2_with (go_at_call 92; refine (HCL.out _ (bk4)).mono ?_; rintro e w2 ⟨v2, rfl, ho, hb⟩; have hk2 := Keep.mk hb; have sd2 : w1.heap.size ≤ w2.heap.size := Nat.le_trans (bk20) hk2.out.size; have xxc := alk hk2.out; (try have zzc := zs w.heap.size w2.heap.size); have HO2 := Lib.hid ho; clear hb ho)
  exact tailTask32) : p := h
theorem tailTask34 {p : Prop} (h : p := by
  go_wp2_with fail
  refine chain_on (bk9) ?_
  refine tree_one 2 (by kernel_rfl) (by kernel_rfl) ?_
  simp only [nthL]
  go_wp2_with (go_at_call 92; refine (HCL.out _ (bk4)).mono ?_; rintro e w2 ⟨v2, rfl, ho, hb⟩; have hk2 := Keep.mk hb; have sd2 : w1.heap.size ≤ w2.heap.size := Nat.le_trans (bk20) hk2.out.size; have xxc := alk hk2.out; (try have zzc := zs w.heap.size w2.heap.size); have HO2 := Lib.hid ho; clear hb ho)
  exact tailTask31) : p := h
theorem fold13 (v : Pm.Val) : Array.foldl (fun cs x => cs.setIfInBounds x.snd x.fst) (#[.int .i64 0, .bool false, .int .u64 0, .int .u64 0, .int .i64 0, .bool false, .int .i64 0, .int .i64 0, .int .i64 0, .int .i64 0, .int .i64 0, .slice none 0 0, .slice none 0 0] : Array Value) (valC v).zipIdx 0 13 = valC v := by
  cases v <;> simp [valC]
/-- The blocks that a struct's cells reach. -/
def Reach (C : Array Value) (q : Nat) : Prop := ∃ v ∈ C.toList, v.ownBlock = some q
/-- What it reaches was reached, or is new. -/
def Fr (B : Nat) (C C' : Array Value) : Prop := ∀ q, Reach C' q → Reach C q ∨ B ≤ q
theorem fr_pause {B : Nat} {v1 v2 v3 v4 : Value} {i j : Int} {x y : Bool} (h : ∀ q, v4.ownBlock = some q → B ≤ q) : Fr B #[v1, .int .i64 i, v2, v3, .bool x] #[v1, .int .i64 j, v4, v3, .bool y] := by
  rintro q ⟨v, hv, hq⟩
  simp only [List.mem_cons, List.not_mem_nil, or_false] at hv
  rcases hv with rfl | rfl | rfl | rfl | rfl
  · exact .inl ⟨_, by simp, hq⟩
  · cases hq
  · exact .inr (h q hq)
  · exact .inl ⟨_, by simp, hq⟩
  · cases hq
theorem fr_done {B : Nat} {v1 v2 v3 v4 : Value} {i j : Int} {x y : Bool} (h : ∀ q, v4.ownBlock = some q → B ≤ q) : Fr B #[v1, .int .i64 i, v2, v3, .bool x] #[v1, .int .i64 j, .slice none 0 0, v4, .bool y] := by
  rintro q ⟨v, hv, hq⟩
  simp only [List.mem_cons, List.not_mem_nil, or_false] at hv
  rcases hv with rfl | rfl | rfl | rfl | rfl
  · exact .inl ⟨_, by simp, hq⟩
  · cases hq
  · cases hq
  · exact .inr (h q hq)
  · cases hq
theorem sl_drew {W : World} {v : Value} {n : Nat} {L : List (Array Value)} (h : Sl W v n L) : Sl W.drew v n L := h.same (Nat.le_refl _) fun _ _ _ => rfl
theorem Below.since' {a b w3 : World} {B B' : Nat} (k : Below B b w3) (h : Below B' a b) (hB : B' ≤ B) : Below B' a w3 := h.trans (k.mono hB)
theorem upto_since {T B : Nat} {a W w3 : World} (h : Upto T a W) (k : Below B W w3) (hB : a.heap.size ≤ B) : Upto T a w3 :=
  ⟨k.os.trans h.os, k.tape.trans h.tape, k.output.trans h.output, Nat.le_trans h.size k.size, fun q hq hT => (k.block q (by omega)).trans (h.block q hq hT)⟩
/-- task.Take. -/
theorem take_pause (most S : Nat) (t : Pm.Task) (v : Pm.Val) (hS0 : 1 ≤ S) (hS1 : S ≤ 8) (hmost : most ≤ 1000) (hnth : t.nth < t.calls.length) (hgl : t.got.length ≤ 10000) (hrl : t.replies.length ≤ 10000) (hcl : t.calls.length ≤ 1000000) (o : Pm.Op) (hp : Pm.turn ⟨most, S, prt S⟩ { t with got := t.got ++ [v] } = .pause o) (hnn : NN (t.got ++ [v])) (C : Array Value) (w : World) (ht : TaskAt w C t) :
    Calls Tryz.prog 53 #[.agg (#[.int .i64 most, .int .i64 4, .int .i64 S, .int .i64 64, .int .i64 64, .int .u64 1, .int .i64 1, .int .i64 1, .int .i64 1, .int .i64 64, .int .i64 100, .int .i64 100, .int .i64 1000, .int .i64 2, .int .i64 64, .int .i64 4]), .agg C, .agg (valC v)] w fun e w' => ∃ C', e = .returned (.tuple #[.agg C', .bool false]) ∧ TaskAt w' C' (Pm.take ⟨most, S, prt S⟩ t v) ∧ Fr w.heap.size C C' ∧ Below w.heap.size w w' := by
  obtain ⟨a, cap, ag, capg, ar, capr, rfl, s1, s2, s3⟩ := taskAt_open ht
  have HT := Lib.hid ht
  have S1 := Lib.hid s1
  have S2 := Lib.hid s2
  have S3 := Lib.hid s3
  clear ht s1 s2 s3
  obtain ⟨hnb, ho, HO, HP, HCL⟩ := packTask35
  obtain ⟨q0, q1, q2, q3, q4, q5, q6, q7, q8, q9, q10, q11, q12, q13, q14, q15, q16, q17, q18, q19, q20, q21, q22, q23, q24, q25, q26, q27, q28, ez, eo, er, h0, h1, h2, h3, h4, h5, h6, h7, h8, h9, h10, h11, h12, h13, h14, h15, h16, h17, h18, h19, h20, h21, h22, h23, h24, h25, h26, h27, h28⟩ := turn_cells hnb
  rw [ho] at HO
  rw [ez, show isDone (Pm.turn ⟨most, S, prt S⟩ { t with got := t.got ++ [v] }) = false by rw [hp]; rfl] at HP
  have hvs := valC_size v
  have hvf := fold13 v
  have hvo := valC_ones v
  clear ez eo er hnb
  unfold taskV at *
  go_enter Tryz.func53, Tryz.ntmps53
  go_wp2_with (go_at_call 27; refine (HO.out _ (bk0)).mono ?_; rintro e w1 ⟨rfl, hb⟩; have hk := Keep.mk hb; have xx := alk hk.out; (try have zz := zs w.heap.size w1.heap.size); clear hb)
  have p1r : isRow w1 (w.heap.size + 1) 62 5 = true := by go_simp
  have p1 := isCells_row p1r
  have p3 : isRow w1 (w.heap.size + 1 + 1 + 1) 62 5 = true := by go_simp
  have p3v : rowOf w1 (w.heap.size + 1 + 1 + 1) = #[.slice none 0 0, .int .i64 0, .slice none 0 0, .slice none 0 0, .bool false] := by go_simp
  refine region_tree (Upto (w.heap.size + 1) w1) [0, 3] 6 (by kernel_rfl) (by kernel_rfl) (fun _ _ d _ _ h => by cases d <;> exact h) (Upto.refl _ _).drew ?_
  simp only [PL]
  apply reads_op
  · exact bk3
  try simp only [PT]
  apply reads_op
  · exact bk3
  try simp only [PT]
  refine reads_nil ?_
  refine tree_two 1 4 (by kernel_rfl) (by kernel_rfl) (by kernel_rfl) ?_ ?_
  · simp only [nthL]
    go_wp2_with fail
    refine chain_on (bk9) ?_
    refine tree_two 2 4 (by kernel_rfl) (by kernel_rfl) (by kernel_rfl) ?_ ?_
    · simp only [nthL]
      go_wp2_with (go_at_call 92; refine (HCL.out _ (bk4)).mono ?_; rintro e w2 ⟨v2, rfl, ho, hb⟩; have hk2 := Keep.mk hb; have sd2 : w1.heap.size ≤ w2.heap.size := Nat.le_trans (bk20) hk2.out.size; have xxc := alk hk2.out; (try have zzc := zs w.heap.size w2.heap.size); have HO2 := Lib.hid ho; clear hb ho)
      refine chain_on (bk9) ?_
      refine tree_one 4 (by kernel_rfl) (by kernel_rfl) ?_
      simp only [nthL]
      go_wp2_with fail
      exact tailTask32
    · simp only [nthL]
      exact tailTask33
  · simp only [nthL]
    go_wp2_with fail
    refine chain_on (bk9) ?_
    refine tree_one 1 (by kernel_rfl) (by kernel_rfl) ?_
    simp only [nthL]
    exact tailTask33
/-- task.Take. -/
theorem take_done (most S : Nat) (t : Pm.Task) (v : Pm.Val) (hS0 : 1 ≤ S) (hS1 : S ≤ 8) (hmost : most ≤ 1000) (hnth : t.nth < t.calls.length) (hgl : t.got.length ≤ 10000) (hrl : t.replies.length ≤ 10000) (hcl : t.calls.length ≤ 1000000) (b : Bool) (r : List Pm.Val) (hp : Pm.turn ⟨most, S, prt S⟩ { t with got := t.got ++ [v] } = .done b r) (hnn : NN (t.got ++ [v])) (C : Array Value) (w : World) (ht : TaskAt w C t) :
    Calls Tryz.prog 53 #[.agg (#[.int .i64 most, .int .i64 4, .int .i64 S, .int .i64 64, .int .i64 64, .int .u64 1, .int .i64 1, .int .i64 1, .int .i64 1, .int .i64 64, .int .i64 100, .int .i64 100, .int .i64 1000, .int .i64 2, .int .i64 64, .int .i64 4]), .agg C, .agg (valC v)] w fun e w' => ∃ C', e = .returned (.tuple #[.agg C', .bool true]) ∧ TaskAt w' C' (Pm.take ⟨most, S, prt S⟩ t v) ∧ Fr w.heap.size C C' ∧ Below w.heap.size w w' := by
  obtain ⟨a, cap, ag, capg, ar, capr, rfl, s1, s2, s3⟩ := taskAt_open ht
  have HT := Lib.hid ht
  have S1 := Lib.hid s1
  have S2 := Lib.hid s2
  have S3 := Lib.hid s3
  clear ht s1 s2 s3
  obtain ⟨hnb, ho, HO, HP, HCL⟩ := packTask35
  have ez : turnC (Pm.turn ⟨most, S, prt S⟩ { t with got := t.got ++ [v] }) = #[.int .i64 0, .int .i64 0, .int .i64 0, .int .i64 0, .int .i64 0, .int .i64 0, .int .i64 0, .int .i64 0, .bool false, .int .u64 0, .int .u64 0, .int .i64 0, .bool false, .int .i64 0, .int .i64 0, .int .i64 0, .int .i64 0, .int .i64 0, .slice none 0 0, .slice none 0 0, .bool false, .int .i64 (if b then 0 else 5), .bool false, .int .u64 0, .int .u64 0, .int .i64 0, .int .i64 0, .int .i64 0, .slice none 0 0, .bool true, .bool false] := by rw [hp]; rfl
  have er : #[.int .i64 (if b then 0 else 5), .bool false, .int .u64 0, .int .u64 0, .int .i64 0, .int .i64 0, .int .i64 0, .slice none 0 0] = replyC b := rfl
  generalize (if b = true then (0 : Int) else 5) = x at *
  have er' := Lib.hid er
  have HCR := Lib.hid (fun (W : World) (k : Below w.heap.size w W) => clone94 _ _ W (S3.out.below k) (by simp; omega))
  have hwr : IntKind.i64.wrap ((t.nth : Int) + 1) = ((t.nth + 1 : Nat) : Int) := by rw [IntKind.wrap_i64]; omega
  have hwl : t.calls.length ≤ 1000000 := hcl
  rw [ho] at HO
  rw [ez] at HP
  have hvs := valC_size v
  have hvf := fold13 v
  have hvo := valC_ones v
  clear ez er hnb
  unfold taskV at *
  go_enter Tryz.func53, Tryz.ntmps53
  go_wp2_with (go_at_call 27; refine (HO.out _ (bk0)).mono ?_; rintro e w1 ⟨rfl, hb⟩; have hk := Keep.mk hb; have xx := alk hk.out; (try have zz := zs w.heap.size w1.heap.size); clear hb)
  have p1r : isRow w1 (w.heap.size + 1) 62 5 = true := by go_simp
  have p1 := isCells_row p1r
  have p3 : isRow w1 (w.heap.size + 1 + 1 + 1) 62 5 = true := by go_simp
  have p3v : rowOf w1 (w.heap.size + 1 + 1 + 1) = #[.slice none 0 0, .int .i64 0, .slice none 0 0, .slice none 0 0, .bool false] := by go_simp
  refine region_tree (Upto (w.heap.size + 1) w1) [0, 3] 6 (by kernel_rfl) (by kernel_rfl) (fun _ _ d _ _ h => by cases d <;> exact h) (Upto.refl _ _).drew ?_
  simp only [PL]
  apply reads_op
  · exact bk3
  try simp only [PT]
  apply reads_op
  · exact bk3
  try simp only [PT]
  refine reads_nil ?_
  refine tree_two 1 4 (by kernel_rfl) (by kernel_rfl) (by kernel_rfl) ?_ ?_
  · simp only [nthL]
    go_wp2_with fail
    refine chain_on (bk9) ?_
    refine tree_two 2 4 (by kernel_rfl) (by kernel_rfl) (by kernel_rfl) ?_ ?_
    · simp only [nthL]
      go_wp2_with (go_at_call 92; refine (HCL.out _ (bk4)).mono ?_; rintro e w2 ⟨v2, rfl, ho, hb⟩; have hk2 := Keep.mk hb; have sd2 : w1.heap.size ≤ w2.heap.size := Nat.le_trans (bk20) hk2.out.size; have xxc := alk hk2.out; (try have zzc := zs w.heap.size w2.heap.size); have HO2 := Lib.hid ho; clear hb ho)
      refine chain_on (bk9) ?_
      refine tree_one 4 (by kernel_rfl) (by kernel_rfl) ?_
      simp only [nthL]
      go_wp2_with fail
      exact tailTask31
    · simp only [nthL]
      exact tailTask34
  · simp only [nthL]
    go_wp2_with fail
    refine chain_on (bk9) ?_
    refine tree_one 1 (by kernel_rfl) (by kernel_rfl) ?_
    simp only [nthL]
    exact tailTask34
end Go.Proofs.YtnncjbkepakgpaaGreat
