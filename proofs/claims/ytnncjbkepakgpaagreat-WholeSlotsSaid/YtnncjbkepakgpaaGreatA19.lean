/-
  TAPE: A LIST WITH ONE MORE IS WRITTEN.
  ONE ACCEPT, BY A MANAGER.
  WHO IS AHEAD.
-/
import Derived.Test.YtnncjbkepakgpaaGreatA07
import Derived.Test.YtnncjbkepakgpaaGreatA18
import Derived.Test.YtnncjbkepakgpaaGreatA15
import Derived.Test.YtnncjbkepakgpaaGreatA09
namespace Go.Proofs.YtnncjbkepakgpaaGreat
set_option linter.unusedVariables false
set_option linter.unusedSimpArgs false
set_option maxRecDepth 100000
set_option maxHeartbeats 4000000
section
open Go.RowKit
attribute [local go_sem ↓] exec_load_101 exec_store_101 exec_load_103 exec_store_103 exec_load_75 exec_store_75
attribute [local go_sem] run_load101r run_store101i run_load103r run_store103i run_load75r run_store75i lt_up isRng_new rngOf_new isRange_past rangeOf_past isRange_drew rangeOf_drew fits_new fits_past fits_drew setAt_new setAt_past setAt_drew putAt_whole putAt_lit extract_whole extract_lit one_int one_bool one_slice one_ptr ones_lit onesL_nil onesL_cons isRow_new rowOf_new isRow_past rowOf_past isRow_drew rowOf_drew lt2 lt3 lt4 List.take_succ_cons List.take_zero List.drop_succ_cons List.drop_zero List.cons_append List.nil_append List.length_cons List.length_nil List.size_toArray setRow_new setRow_past own_cell own_frozen own_set own_isRange own_rangeOf own_fits setAt_row sr_sr sr_size sr_row sr_row' sr_isRow sr_isRow' sr_fits' sr_cell' sr_frozen' sr_isRange' sr_rangeOf' sr_isCells isCells_new isCells_past isCells_drew valC_size valC_ones opC_size opC_ones replyC_size meth_Lock ahead_Lock meth_Share ahead_Share meth_Free ahead_Free meth_Drop ahead_Drop meth_Load ahead_Load meth_Store ahead_Store meth_Swap ahead_Swap
theorem tailWrite1 {p : Prop} (h : p := by
  obtain ⟨x1, x2, x3, x4, x5, x6, x7, x8, x9, x10, y9⟩ := alk hS.out; (try have zz := zs w.heap.size W.heap.size)
  have e1W : isRange W ⟨g', o' + l.length * 10, none⟩ 10 = true := by rw [x3 _ _ _ hgw]; exact e1'
  have e2W : rangeOf W ⟨g', o' + l.length * 10, none⟩ 10 = #[.bool false, .int .u64 0, .int .u64 (loOf c), .int .i64 80, .bool true, .int .i64 (Pm.tOf c), .int .i64 0, .int .i64 (Pm.tOf c), .int .i64 0, .int .i64 0] := by rw [x4 _ _ _ hgw]; exact e2'
  go_simp
  try first
    | with_reducible rfl
    | (go_at_call 246; refine (slot_any p l.length _).mono ?_; rintro e w' ⟨rfl, rfl⟩; exact ⟨rfl, below_next hS (bk5)⟩)) : p := h
theorem tailWrite2 {p : Prop} (h : p := by
  obtain ⟨x1, x2, x3, x4, x5, x6, x7, x8, x9, x10, y9⟩ := alk hS.out; (try have zz := zs w.heap.size W.heap.size)
  go_simp
  try first
    | with_reducible rfl
    | (go_at_call 245; refine (size_any p _).mono ?_; rintro e w' ⟨rfl, rfl⟩; exact ⟨rfl, below_next hS (bk5)⟩)) : p := h
/-- The list with one more is written. -/
def wr2 (p n c : Nat) : Pm.Tp Unit := Pm.bnd (Pm.ask (.wslot p n c)) fun _ => Pm.bnd (Pm.ask (.wsize p (n + 1))) fun _ => Pm.ret ()
theorem one_cell {W : World} {r v : Value} (h : Sl W r 1 [#[v]]) : ∃ g o cap, r = .slice (some ⟨g, o, none⟩) 1 cap ∧ g < W.heap.size ∧ W.cell? ⟨g, o, none⟩ = some v := by
  obtain ⟨a, cap, rfl, h1, h2, h3⟩ := h
  rcases h3 with ⟨_, h3⟩ | ⟨g, o, rfl, hg, h3⟩
  · simp at h3
  · refine ⟨g, o, cap, rfl, hg, ?_⟩
    have := (h3 0 _ rfl).cell (k := 0) (v := v) rfl
    simpa using this
/-- tape.Write. -/
theorem write_law (T p c : Nat) (l : List Nat) (L : List Pm.Val) (v v' : Value) (w : World) (h : TapeAt w T L) (hs : Sl w v 10 (l.map peerC)) (hs' : Sl w v' 10 ((l ++ [c]).map peerC)) (hT : v'.ownBlock ≠ some T) (hl : l.length ≤ 1000) :
    Calls Tryz.prog 194 #[.iface 280 (.pointer (some ⟨T, 0, none⟩)), .int .i64 p, v, v'] w (Tells T (wr2 p l.length c) (fun _ v _ => v = .tuple #[]) L w) := by
  have HT := Lib.hid h
  have hlt := h.lt
  clear h
  obtain ⟨a', cap', rfl, q1', q2', q3'⟩ := hs'
  obtain ⟨a, cap, rfl, q1, q2, q3⟩ := hs
  have HSa : Hid (Sl w (.slice a (l.map peerC).length cap) 10 (l.map peerC)) := Lib.hid ⟨_, _, rfl, q1, q2, q3⟩
  have HSb : Hid (Sl w (.slice a' ((l ++ [c]).map peerC).length cap') 10 ((l ++ [c]).map peerC)) := Lib.hid ⟨_, _, rfl, q1', q2', q3'⟩
  rw [List.length_map] at q1 q1' HSa HSb ⊢
  rw [List.length_map]
  have hlen : (l ++ [c]).length = l.length + 1 := by simp
  rw [hlen] at q1' HSb ⊢
  rcases q3' with ⟨_, q3'⟩ | ⟨g', o', rfl, hg', q3'⟩
  · simp at q3'
  have hE := q3' l.length (peerC c) (by simp)
  have hne : ¬ ((l.length : Int) = (l.length : Int) + 1) := by omega
  have hlo : ¬ ((l.length : Int) < 0) := by omega
  have hkz : (l.length : Int) < (l.length : Int) + 1 := by omega
  have hw1 : IntKind.i64.wrap ((l.length : Int) + 1) = (l.length : Int) + 1 := by rw [IntKind.wrap_i64]; omega
  clear q3 q3'
  have hgT : g' ≠ T := fun e => hT (by rw [e]; rfl)
  clear hT
  go_enter Tryz.func194, Tryz.ntmps194
  go_wp2_with (go_at_call 249; refine (writes_any l c _ _ _ HSa.out HSb.out hl).mono ?_; rintro e w1 ⟨r, rfl, ho, hb⟩; obtain ⟨gr, or, cr, rfl, hgr, hcr⟩ := one_cell ho.sl; have hk := Keep.mk hb; clear hb ho)
  have HT1 := Lib.hid (HT.out.below hk.out)
  have hE1 := hE.block (hk.out.block g' hg')
  have hws := hk.out.size
  go_loopg [14] 1 (fun g s14 wr => (g = 1 ∧ s14 = .int .i64 0 ∧ wr = w1) ∨ (g = 0 ∧ s14 = .int .i64 1 ∧ ∃ x r1, L = x :: r1 ∧ Hid (TapeAt wr T r1 ∧ Upto T w wr)))
  case atStart => exact .inl ⟨rfl, rfl, rfl⟩
  case round =>
    rcases hrel with ⟨rfl, rfl, rfl⟩ | ⟨rfl, rfl, x, r1, rfl, HH⟩
    · have e1' := hE1.is
      have e2' := hE1.of
      have hgw := hE1.lt
      unfold peerC at e2'
      go_upto_region 3 with (fail)
      cases L with
      | nil =>
        refine region_keep [] [0, 1, 2, 3, 4, 5, 6, 7, 8, 9, 10, 11] [12] (by kernel_rfl) (by kernel_rfl) (fun _ _ d _ _ h => by cases d <;> exact h) ?_
        simp only [PL]
        refine first_nil ?_
        repeat (first
          | go_big_quiet_skip
          | (go_big_quiet_want
             apply class_op
             · intro W hS
               exact tailWrite1
             go_big_quiet_on
             try simp only [PT]))
        refine wpQuiet_nil ?_
        intro w2 hS2
        have xxb := alk hS2.out; (try have zzb := zs w.heap.size w2.heap.size)
        go_wp2_with (go_at_call 428; refine (t_wslot T [] p l.length c _ (HT1.out.below hS2.out)).mono ?_; rintro e w3 ⟨hu, rfl⟩)
        exact ⟨rfl, tells_pause rfl rfl ((Upto.of_below hk.out).trans ((Upto.of_below hS2.out).trans hu))⟩
      | cons x r1 =>
        refine region_keep [] [0, 1, 2, 3, 4, 5, 6, 7, 8, 9, 10, 11] [12] (by kernel_rfl) (by kernel_rfl) (fun _ _ d _ _ h => by cases d <;> exact h) ?_
        simp only [PL]
        refine first_nil ?_
        repeat (first
          | go_big_quiet_skip
          | (go_big_quiet_want
             apply class_op
             · intro W hS
               exact tailWrite1
             go_big_quiet_on
             try simp only [PT]))
        refine wpQuiet_nil ?_
        intro w2 hS2
        have xxb := alk hS2.out; (try have zzb := zs w.heap.size w2.heap.size)
        go_wp2_with (go_at_call 428; refine (t_wslot T (x :: r1) p l.length c _ (HT1.out.below hS2.out)).mono ?_; rintro e w3 ⟨hu, rfl, hA⟩)
        go_roundg 0
        case measure => omega
        case rel => exact .inr ⟨rfl, rfl, x, r1, rfl, Lib.hid ⟨hA, (Upto.of_below hk.out).trans ((Upto.of_below hS2.out).trans hu)⟩⟩
    · obtain ⟨hA, hU⟩ := HH.out
      have HA := Lib.hid hA
      have HU := Lib.hid hU
      clear hA hU
      go_upto_region 6 with (fail)
      cases r1 with
      | nil =>
        refine region_keep [] [0, 1, 2, 3, 4, 5, 6, 7, 8] [9] (by kernel_rfl) (by kernel_rfl) (fun _ _ d _ _ h => by cases d <;> exact h) ?_
        simp only [PL]
        refine first_nil ?_
        repeat (first
          | go_big_quiet_skip
          | (go_big_quiet_want
             apply class_op
             · intro W hS
               exact tailWrite2
             go_big_quiet_on
             try simp only [PT]))
        refine wpQuiet_nil ?_
        intro w4 hS4
        have xxd := alk hS4.out; (try have zzd := zs w.heap.size w4.heap.size)
        go_wp2_with (go_at_call 428; refine (t_wsize T [] p (l.length + 1) _ (HA.out.below hS4.out)).mono ?_; rintro e w5 ⟨hu, rfl⟩)
        exact ⟨rfl, tells_pause rfl rfl (HU.out.trans ((Upto.of_below hS4.out).trans hu))⟩
      | cons y r2 =>
        refine region_keep [] [0, 1, 2, 3, 4, 5, 6, 7, 8] [9] (by kernel_rfl) (by kernel_rfl) (fun _ _ d _ _ h => by cases d <;> exact h) ?_
        simp only [PL]
        refine first_nil ?_
        repeat (first
          | go_big_quiet_skip
          | (go_big_quiet_want
             apply class_op
             · intro W hS
               exact tailWrite2
             go_big_quiet_on
             try simp only [PT]))
        refine wpQuiet_nil ?_
        intro w4 hS4
        have xxd := alk hS4.out; (try have zzd := zs w.heap.size w4.heap.size)
        go_wp2_with (go_at_call 428; refine (t_wsize T (y :: r2) p (l.length + 1) _ (HA.out.below hS4.out)).mono ?_; rintro e w5 ⟨hu, rfl, hA2⟩)
        exact bodyPost_end (results_none rfl _ _ _) rfl (tells_done rfl _ rfl rfl hA2 (HU.out.trans ((Upto.of_below hS4.out).trans hu)))
end
section
open Go.RowKit
attribute [local go_sem ↓] exec_load_101 exec_store_101 exec_load_103 exec_store_103 exec_load_75 exec_store_75 exec_load_64 exec_store_64 exec_load_203 exec_store_203 exec_load_36 exec_store_36 exec_load_29 exec_store_29 exec_load_41 exec_store_41
attribute [local go_sem] run_load101r run_store101i run_load103r run_store103i run_load75r run_store75i run_load64r run_store64i run_load203r run_store203i run_load36r run_store36i run_load29r run_store29i run_load41r run_store41i lt_up isRng_new rngOf_new isRange_past rangeOf_past isRange_drew rangeOf_drew fits_new fits_past fits_drew setAt_new setAt_past setAt_drew putAt_whole putAt_lit extract_whole extract_lit one_int one_bool one_slice one_ptr ones_lit onesL_nil onesL_cons isRow_new rowOf_new isRow_past rowOf_past isRow_drew rowOf_drew lt2 lt3 lt4 List.take_succ_cons List.take_zero List.drop_succ_cons List.drop_zero List.cons_append List.nil_append List.length_cons List.length_nil List.size_toArray setRow_new setRow_past own_cell own_frozen own_set own_isRange own_rangeOf own_fits setAt_row sr_sr sr_size sr_row sr_row' sr_isRow sr_isRow' sr_fits' sr_cell' sr_frozen' sr_isRange' sr_rangeOf' sr_isCells isCells_new isCells_past isCells_drew valC_size valC_ones opC_size opC_ones replyC_size hmeth_Lock hahead_Lock hmeth_Share hahead_Share hmeth_Free hahead_Free hmeth_Drop hahead_Drop hmeth_Load hahead_Load hmeth_Store hahead_Store hmeth_Swap hahead_Swap f103_num f103_nowho f103_who f103_bans f103_0 f103_1 f103_2
theorem tailLvAcc1 {p : Prop} (h : p := by
  obtain ⟨x1, x2, x3, x4, x5, x6, x7, x8, x9, x10, y9⟩ := alk hS.out; (try have zz := zs w.heap.size W.heap.size)
  go_simp
  try first
    | with_reducible rfl
    | (go_at_call 245; refine (size_any 1 _).mono ?_; rintro e w' ⟨rfl, rfl⟩; exact ⟨rfl, below_next hS (bk5)⟩)) : p := h
theorem drew_sizeL (w : World) : w.drew.heap.size = w.heap.size := id rfl
attribute [local go_sem high] drew_sizeL
attribute [local simp high] drew_sizeL
theorem row_keep {W W' : World} {M : Nat} {C : Array Value} (hr : isRow W M 134 60 = true) (hC : rowOf W M = C) (k : Below W.heap.size W W') : isRow W' M 134 60 = true ∧ rowOf W' M = C := by
  have := row_below k hr
  exact ⟨this.1, this.2.trans hC⟩
theorem get_ne {C : Array Value} {i j : Nat} (h : i ≠ j) (v : Value) : (C.setIfInBounds i v)[j]? = C[j]? := by simp [Array.getElem?_setIfInBounds, h]
theorem get_eq {C : Array Value} {i : Nat} (h : i < C.size) (v : Value) : (C.setIfInBounds i v)[i]? = some v := by simp [Array.getElem?_setIfInBounds, h]
theorem row_size {W : World} {M : Nat} {C : Array Value} (hr : isRow W M 134 60 = true) (hC : rowOf W M = C) : C.size = 60 := by rw [← hC]; exact (row_heap hr).2
theorem read_h (M : Nat) (C : Array Value) (h34 : C[34]? = some (.int .i64 0)) (w : World) (hr : isRow w M 134 60 = true) (hC : rowOf w M = C) :
    Calls Tryz.prog 191 #[.iface 140 (.agg #[.pointer (some ⟨M, 0, none⟩)]), .int .i64 1] w fun e w' => e = .returned (.slice none 0 0) ∧ Below w.heap.size w w' := by
  go_enter Tryz.func191, Tryz.ntmps191
  go_upto_region 2 with (fail)
  refine region_keep [9] [0, 1, 2, 3, 4, 5] [6, 7, 8] (by kernel_rfl) (by kernel_rfl) (fun _ _ d _ _ h => by cases d <;> exact h) ?_
  simp only [PL]
  apply first_op
  · intro W; go_simp; try with_reducible rfl
  try simp only [PT]
  refine first_nil ?_
  repeat (first
    | go_big_quiet_skip
    | (go_big_quiet_want
       apply class_op
       · intro W hS
         exact tailLvAcc1
       go_big_quiet_on
       try simp only [PT]))
  refine wpQuiet_nil ?_
  intro w1 hS1
  have xxa := alk hS1.out; (try have zza := zs w.heap.size w1.heap.size)
  obtain ⟨hr1, hC1⟩ := row_keep hr hC hS1.out
  go_wp2_with (go_at_call 378; refine (h_load_size M C 0 h34 _ hr1 hC1).mono ?_; rintro e w2 ⟨rfl, hb⟩)
  have hb2 := Lib.hid (hS1.out.trans (hb.mono hS1.out.size))
  clear hb
  go_loopg [5, 16] 0 (fun g s5 s16 wr => s5 = .slice none 0 0 ∧ s16 = .int .i64 0 ∧ wr = w2)
  case atStart => exact ⟨rfl, rfl, rfl⟩
  case round =>
    obtain ⟨rfl, rfl, rfl⟩ := hrel
    go_wp2
    exact bodyPost_ret (results_tmp rfl _ _ _) rfl ⟨rfl, hb2.out⟩
theorem reserve_h (M : Nat) (C : Array Value) (h16 : C[16]? = some (.int .i64 0)) (w : World) (hr : isRow w M 134 60 = true) (hC : rowOf w M = C) :
    Calls Tryz.prog 193 #[.iface 140 (.agg #[.pointer (some ⟨M, 0, none⟩)]), .int .i64 2, .bool true] w (Hands M (C.setIfInBounds 16 (.int .i64 1)) (.bool true) w) := by
  have hM := row_lt hr
  have hne : ¬ (M = w.heap.size) := by omega
  obtain ⟨hr0, hC0⟩ := row_keep hr hC ((Below.refl w.heap.size w).alloc (Nat.le_refl _) (.cells (#[.int .i64 1, .int .i64 0, .int .i64 0]) 101))
  go_enter Tryz.func193, Tryz.ntmps193
  go_wp2
  go_loopg [8] 1 (fun g s8 wr => wr = w.alloc (.cells (#[.int .i64 1, .int .i64 0, .int .i64 0]) 101))
  case atStart => rfl
  case round =>
    subst hrel
    have bw : Below w.heap.size w (w.alloc (.cells (#[.int .i64 1, .int .i64 0, .int .i64 0]) 101)) := bk5
    have bR : isRow (w.alloc (.cells (#[.int .i64 1, .int .i64 0, .int .i64 0]) 101)) w.heap.size 101 3 = true := by go_simp
    have bV : rowOf (w.alloc (.cells (#[.int .i64 1, .int .i64 0, .int .i64 0]) 101)) w.heap.size = #[.int .i64 1, .int .i64 0, .int .i64 0] := by go_simp
    generalize w.alloc (.cells (#[.int .i64 1, .int .i64 0, .int .i64 0]) 101) = W0 at *
    have bC := isCells_row bR
    go_wp2_with fail
    refine (h_load_in M C 0 h16 _ hr0 hC0).mono ?_
    rintro e w1 ⟨rfl, hb⟩
    obtain ⟨hr1, hC1⟩ := row_keep hr0 hC0 hb
    have cR := ((alike hb).1 _ _ _ (row_lt bR)).trans bR
    have cV := ((alike hb).2.1 _ (row_lt bR)).trans bV
    have cC := isCells_row cR
    have b1 := Lib.hid (bw.trans (hb.mono bw.size))
    clear hb
    go_wp2_with (go_at_call 383; refine (h_swap M C 0 1 h16 _ hr1 hC1).mono ?_; rintro e w2 ⟨rfl, hu, h1, h2⟩)
    exact bodyPost_ret (results_tmp rfl _ _ _) rfl ⟨rfl, (Upto.of_below b1.out).trans hu, h1, h2⟩
def WriteEnd (M c : Nat) (C : Array Value) (w : World) (e : Ending) (w' : World) : Prop := ∃ sl, e = .returned (.tuple #[]) ∧ Upto M w w' ∧ isRow w' M 134 60 = true ∧ rowOf w' M = (C.setIfInBounds 35 sl).setIfInBounds 34 (.int .i64 1) ∧ Own w' w.heap.size 75 10 sl [#[.bool false, .int .u64 0, .int .u64 (loOf c), .int .i64 80, .bool true, .int .i64 (Pm.tOf c), .int .i64 0, .int .i64 (Pm.tOf c), .int .i64 0, .int .i64 0]]
theorem write_h (M c : Nat) (C : Array Value) (h34 : C[34]? = some (.int .i64 0)) (h35 : C[35]? = some (.slice none 0 0)) (v' : Value) (w : World) (hr : isRow w M 134 60 = true) (hC : rowOf w M = C) (hs' : Sl w v' 10 [peerC c]) (hT : v'.ownBlock ≠ some M) :
    Calls Tryz.prog 194 #[.iface 140 (.agg #[.pointer (some ⟨M, 0, none⟩)]), .int .i64 1, .slice none 0 0, v'] w (WriteEnd M c C w) := by
  have hM := row_lt hr
  have HW := Lib.hid (writes_any [] c (.slice none 0 0) v' w (Sl.nil _ _) (by simpa using hs') (by simp))
  obtain ⟨a', cap', rfl, q1', q2', q3'⟩ := hs'
  rcases q3' with ⟨_, q3'⟩ | ⟨g', o', rfl, hg', q3'⟩
  · simp at q3'
  have hE := q3' 0 (peerC c) (by simp)
  simp only [Nat.zero_mul, Nat.add_zero, List.length_singleton, List.length_cons, List.length_nil, Nat.zero_add] at hE HW ⊢
  have hgT : g' ≠ M := fun e => hT (by rw [e]; rfl)
  clear hT q3'
  go_enter Tryz.func194, Tryz.ntmps194
  go_wp2_with (go_at_call 249; refine HW.out.mono ?_; rintro e w1 ⟨r, rfl, ho, hb⟩; obtain ⟨gr, or, cr, rfl, hgr, hcr⟩ := one_cell ho.sl; have hk := Keep.mk hb; clear hb ho)
  have hcr' : w1.cell? ⟨gr, or, none⟩ = some (.int .i64 0) := by simpa using hcr
  clear hcr
  obtain ⟨hr1, hC1⟩ := row_keep hr hC hk.out
  have hE1 := hE.block (hk.out.block g' hg')
  have hws := hk.out.size
  go_loopg [14] 1 (fun g s14 wr => (g = 1 ∧ s14 = .int .i64 0 ∧ wr = w1) ∨ (g = 0 ∧ s14 = .int .i64 1 ∧ ∃ sl, Hid (Upto M w wr ∧ isRow wr M 134 60 = true ∧ rowOf wr M = C.setIfInBounds 35 sl ∧ Own wr w.heap.size 75 10 sl [#[.bool false, .int .u64 0, .int .u64 (loOf c), .int .i64 80, .bool true, .int .i64 (Pm.tOf c), .int .i64 0, .int .i64 (Pm.tOf c), .int .i64 0, .int .i64 0]])))
  case atStart => exact .inl ⟨rfl, rfl, rfl⟩
  case round =>
    rcases hrel with ⟨rfl, rfl, rfl⟩ | ⟨rfl, rfl, sl, HH⟩
    · have e1' := hE1.is
      have e2' := hE1.of
      have hgw := hE1.lt
      unfold peerC at e2'
      go_upto_region 3 with (fail)
      refine region_keep [] [0, 1, 2, 3, 4, 5, 6, 7, 8, 9, 10, 11] [12] (by kernel_rfl) (by kernel_rfl) (fun _ _ d _ _ h => by cases d <;> exact h) ?_
      simp only [PL]
      refine first_nil ?_
      repeat (first
        | go_big_quiet_skip
        | (go_big_quiet_want
           apply class_op
           · intro W hS
             obtain ⟨x1, x2, x3, x4, x5, x6, x7, x8, x9, x10, y9⟩ := alk hS.out; (try have zz := zs w.heap.size W.heap.size)
             have e1W : isRange W ⟨g', o', none⟩ 10 = true := by rw [x3 _ _ _ hgw]; exact e1'
             have e2W : rangeOf W ⟨g', o', none⟩ 10 = #[.bool false, .int .u64 0, .int .u64 (loOf c), .int .i64 80, .bool true, .int .i64 (Pm.tOf c), .int .i64 0, .int .i64 (Pm.tOf c), .int .i64 0, .int .i64 0] := by rw [x4 _ _ _ hgw]; exact e2'
             go_simp
             try first
               | with_reducible rfl
               | (go_at_call 246; refine (slot_any 1 0 _).mono ?_; rintro e w' ⟨rfl, rfl⟩; exact ⟨rfl, below_next hS (bk5)⟩)
           go_big_quiet_on
           try simp only [PT]))
      refine wpQuiet_nil ?_
      intro w2 hS2
      have xxb := alk hS2.out; (try have zzb := zs w.heap.size w2.heap.size)
      obtain ⟨hr2, hC2⟩ := row_keep hr1 hC1 hS2.out
      go_wp2_with (go_at_call 382; refine (h_store_slot M c C h35 _ hr2 hC2).mono ?_; rintro e w3 ⟨sl, rfl, hu, q1, q2, q3⟩; have HQ := Lib.hid (And.intro hu (And.intro q1 (And.intro q2 q3))); clear hu q1 q2 q3)
      go_roundg 0
      case measure => omega
      case rel => exact .inr ⟨rfl, rfl, sl, Lib.hid ⟨(Upto.of_below (hk.out.trans (hS2.out.mono hws))).trans HQ.out.1, HQ.out.2.1, HQ.out.2.2.1, HQ.out.2.2.2.weaken (by have := hS2.out.size; omega)⟩⟩
    · obtain ⟨hu, q1, q2, q3⟩ := HH.out
      have HU := Lib.hid hu
      have HO := Lib.hid q3
      have hz : C.size = 60 := row_size hr hC
      have h34' : (C.setIfInBounds 35 sl)[34]? = some (.int .i64 0) := by rw [get_ne (by decide)]; exact h34
      clear hu q3 HH
      go_upto_region 6 with (fail)
      refine region_keep [] [0, 1, 2, 3, 4, 5, 6, 7, 8] [9] (by kernel_rfl) (by kernel_rfl) (fun _ _ d _ _ h => by cases d <;> exact h) ?_
      simp only [PL]
      refine first_nil ?_
      repeat (first
        | go_big_quiet_skip
        | (go_big_quiet_want
           apply class_op
           · intro W hS
             exact tailLvAcc1
           go_big_quiet_on
           try simp only [PT]))
      refine wpQuiet_nil ?_
      intro w4 hS4
      have xxd := alk hS4.out; (try have zzd := zs w.heap.size w4.heap.size)
      obtain ⟨hr4, hC4⟩ := row_keep q1 q2 hS4.out
      go_wp2_with (go_at_call 382; refine (h_store_size M (C.setIfInBounds 35 sl) 1 _ h34' _ hr4 hC4).mono ?_; rintro e w5 ⟨rfl, hu, q5, q6⟩)
      exact bodyPost_end (results_none rfl _ _ _) rfl ⟨sl, rfl, HU.out.trans ((Upto.of_below hS4.out).trans hu), q5, q6, (HO.out.below hS4.out).upto hu hM⟩
/-- The cells ahead of an accept. -/
structure Fresh0 (C : Array Value) : Prop where
  h16 : C[16]? = some (.int .i64 0)
  h24 : C[24]? = some (.slice none 0 0)
  h32 : C[32]? = some (.int .i32 0)
  h34 : C[34]? = some (.int .i64 0)
  h35 : C[35]? = some (.slice none 0 0)
def QuickEnd (M c : Nat) (C : Array Value) (w : World) (e : Ending) (w' : World) : Prop := ∃ sl, e = .returned (.tuple #[.agg (#[.int .i64 0, .bool false, .int .u64 0, .int .u64 0, .int .i64 0, .int .i64 0, .int .i64 0, .slice none 0 0]), .bool true]) ∧ Upto M w w' ∧ isRow w' M 134 60 = true ∧ rowOf w' M = ((((C.setIfInBounds 32 (.int .i32 1)).setIfInBounds 16 (.int .i64 1)).setIfInBounds 35 sl).setIfInBounds 34 (.int .i64 1)).setIfInBounds 32 (.int .i32 0) ∧ Own w' w.heap.size 75 10 sl [#[.bool false, .int .u64 0, .int .u64 (loOf c), .int .i64 80, .bool true, .int .i64 (Pm.tOf c), .int .i64 0, .int .i64 (Pm.tOf c), .int .i64 0, .int .i64 0]]
theorem quick_h (M c : Nat) (hp : prt 4 c = 1) (C : Array Value) (hF : Fresh0 C) (w : World) (hr : isRow w M 134 60 = true) (hC : rowOf w M = C) :
    Calls Tryz.prog 141 #[.agg (doorC 2 4 c), .iface 140 (.agg #[.pointer (some ⟨M, 0, none⟩)])] w (QuickEnd M c C w) := by
  have ed : doorC 2 4 c = #[.int .i64 2, .int .i64 4, .int .i64 4, .int .i64 64, .int .i64 64, .int .u64 1, .int .i64 1, .int .i64 1, .int .i64 1, .int .i64 64, .int .i64 100, .int .i64 100, .int .i64 1000, .int .i64 2, .int .i64 64, .int .i64 4, .int .i64 1, .bool false, .int .u64 0, .int .u64 (loOf c), .int .i64 80, .bool false, .int .u64 0, .int .u64 0, .int .i64 0, .int .i64 (Pm.tOf c), .int .i64 0, .bool false] := rfl
  have hM := row_lt hr
  have hz := row_size hr hC
  have hpa := Lib.hid (part_any 2 4 c (by decide) (by decide))
  have hwa := Lib.hid (with_any 2 4 c)
  rw [hp] at hpa
  rw [ed] at hpa hwa ⊢
  have hbx : ∀ W, Upto M ((w.alloc (.cells (#[.int .i64 2, .int .i64 4, .int .i64 4, .int .i64 64, .int .i64 64, .int .u64 1, .int .i64 1, .int .i64 1, .int .i64 1, .int .i64 64, .int .i64 100, .int .i64 100, .int .i64 1000, .int .i64 2, .int .i64 64, .int .i64 4, .int .i64 1, .bool false, .int .u64 0, .int .u64 (loOf c), .int .i64 80, .bool false, .int .u64 0, .int .u64 0, .int .i64 0, .int .i64 (Pm.tOf c), .int .i64 0, .bool false]) 203)).alloc (.cells (#[.int .i64 0, .bool false, .int .u64 0, .int .u64 0, .int .i64 0, .int .i64 0, .int .i64 0, .slice none 0 0]) 64)) W → isRow W w.heap.size 203 28 = true ∧ rowOf W w.heap.size = #[.int .i64 2, .int .i64 4, .int .i64 4, .int .i64 64, .int .i64 64, .int .u64 1, .int .i64 1, .int .i64 1, .int .i64 1, .int .i64 64, .int .i64 100, .int .i64 100, .int .i64 1000, .int .i64 2, .int .i64 64, .int .i64 4, .int .i64 1, .bool false, .int .u64 0, .int .u64 (loOf c), .int .i64 80, .bool false, .int .u64 0, .int .u64 0, .int .i64 0, .int .i64 (Pm.tOf c), .int .i64 0, .bool false] ∧ isRow W (w.heap.size + 1) 64 8 = true ∧ rowOf W (w.heap.size + 1) = #[.int .i64 0, .bool false, .int .u64 0, .int .u64 0, .int .i64 0, .int .i64 0, .int .i64 0, .slice none 0 0] ∧ isCells W w.heap.size = true ∧ isCells W (w.heap.size + 1) = true ∧ w.heap.size + 1 < W.heap.size := fun W hW => by
    obtain ⟨x1, x2, x3, x4, x5, x6, x7, x8, x9, x10⟩ := alikeU hW
    have s0 : w.heap.size < ((w.alloc (.cells (#[.int .i64 2, .int .i64 4, .int .i64 4, .int .i64 64, .int .i64 64, .int .u64 1, .int .i64 1, .int .i64 1, .int .i64 1, .int .i64 64, .int .i64 100, .int .i64 100, .int .i64 1000, .int .i64 2, .int .i64 64, .int .i64 4, .int .i64 1, .bool false, .int .u64 0, .int .u64 (loOf c), .int .i64 80, .bool false, .int .u64 0, .int .u64 0, .int .i64 0, .int .i64 (Pm.tOf c), .int .i64 0, .bool false]) 203)).alloc (.cells (#[.int .i64 0, .bool false, .int .u64 0, .int .u64 0, .int .i64 0, .int .i64 0, .int .i64 0, .slice none 0 0]) 64)).heap.size := by simp; omega
    have s1 : w.heap.size + 1 < ((w.alloc (.cells (#[.int .i64 2, .int .i64 4, .int .i64 4, .int .i64 64, .int .i64 64, .int .u64 1, .int .i64 1, .int .i64 1, .int .i64 1, .int .i64 64, .int .i64 100, .int .i64 100, .int .i64 1000, .int .i64 2, .int .i64 64, .int .i64 4, .int .i64 1, .bool false, .int .u64 0, .int .u64 (loOf c), .int .i64 80, .bool false, .int .u64 0, .int .u64 0, .int .i64 0, .int .i64 (Pm.tOf c), .int .i64 0, .bool false]) 203)).alloc (.cells (#[.int .i64 0, .bool false, .int .u64 0, .int .u64 0, .int .i64 0, .int .i64 0, .int .i64 0, .slice none 0 0]) 64)).heap.size := by simp
    have hn0 : ¬ (w.heap.size = M) := by omega
    have hn1 : ¬ (w.heap.size + 1 = M) := by omega
    refine ⟨by rw [x1 _ _ _ s0 hn0]; simp [go_sem], by rw [x2 _ s0 hn0]; simp [go_sem], by rw [x1 _ _ _ s1 hn1]; simp [go_sem], by rw [x2 _ s1 hn1]; simp [go_sem], by rw [x8 _ s0 hn0]; simp [go_sem], by rw [x8 _ s1 hn1]; simp [go_sem], x10 _ s1⟩
  have hU0 : Below w.heap.size w ((w.alloc (.cells (#[.int .i64 2, .int .i64 4, .int .i64 4, .int .i64 64, .int .i64 64, .int .u64 1, .int .i64 1, .int .i64 1, .int .i64 1, .int .i64 64, .int .i64 100, .int .i64 100, .int .i64 1000, .int .i64 2, .int .i64 64, .int .i64 4, .int .i64 1, .bool false, .int .u64 0, .int .u64 (loOf c), .int .i64 80, .bool false, .int .u64 0, .int .u64 0, .int .i64 0, .int .i64 (Pm.tOf c), .int .i64 0, .bool false]) 203)).alloc (.cells (#[.int .i64 0, .bool false, .int .u64 0, .int .u64 0, .int .i64 0, .int .i64 0, .int .i64 0, .slice none 0 0]) 64)) := bk5
  obtain ⟨hr0, hC0⟩ := row_keep hr hC hU0
  generalize hW0 : ((w.alloc (.cells (#[.int .i64 2, .int .i64 4, .int .i64 4, .int .i64 64, .int .i64 64, .int .u64 1, .int .i64 1, .int .i64 1, .int .i64 1, .int .i64 64, .int .i64 100, .int .i64 100, .int .i64 1000, .int .i64 2, .int .i64 64, .int .i64 4, .int .i64 1, .bool false, .int .u64 0, .int .u64 (loOf c), .int .i64 80, .bool false, .int .u64 0, .int .u64 0, .int .i64 0, .int .i64 (Pm.tOf c), .int .i64 0, .bool false]) 203)).alloc (.cells (#[.int .i64 0, .bool false, .int .u64 0, .int .u64 0, .int .i64 0, .int .i64 0, .int .i64 0, .slice none 0 0]) 64)) = W0 at hbx hU0 hr0 hC0
  go_enter Tryz.func141, Tryz.ntmps141
  obtain ⟨b1, b2, b3, b4, b5, b6, b7⟩ := hbx _ (Upto.refl _ _)
  go_wp2_with fail
  refine (hpa.out _).mono ?_
  rintro e w1 ⟨rfl, hb⟩
  obtain ⟨hr1, hC1⟩ := row_keep hr0 hC0 hb
  have U1 := Lib.hid (Upto.of_below (T := M) hb)
  clear hb
  obtain ⟨b1, b2, b3, b4, b5, b6, b7⟩ := hbx _ U1.out
  go_wp2_with fail
  refine (h_lock M C hF.h32 _ hr1 hC1).mono ?_
  rintro e w2 ⟨rfl, hu, hr2, hC2⟩
  have U2 := Lib.hid (U1.out.trans hu)
  clear hu
  obtain ⟨b1, b2, b3, b4, b5, b6, b7⟩ := hbx _ U2.out
  have g34 : (C.setIfInBounds 32 (.int .i32 1))[34]? = some (.int .i64 0) := by rw [get_ne (by decide)]; exact hF.h34
  have g35 : (C.setIfInBounds 32 (.int .i32 1))[35]? = some (.slice none 0 0) := by rw [get_ne (by decide)]; exact hF.h35
  have g16 : (C.setIfInBounds 32 (.int .i32 1))[16]? = some (.int .i64 0) := by rw [get_ne (by decide)]; exact hF.h16
  go_wp2_with fail
  refine (read_h M _ g34 _ hr2 hC2).mono ?_
  rintro e w3 ⟨rfl, hb⟩
  obtain ⟨hr3, hC3⟩ := row_keep hr2 hC2 hb
  have U3 := Lib.hid (U2.out.trans (Upto.of_below (T := M) hb))
  clear hb
  obtain ⟨b1, b2, b3, b4, b5, b6, b7⟩ := hbx _ U3.out
  go_wp2_with fail
  refine (find_no [] c _ (Pm.Clear.nil c) _ (Sl.nil _ _) (by simp)).mono ?_
  rintro e w4 ⟨rfl, hb⟩
  obtain ⟨hr4, hC4⟩ := row_keep hr3 hC3 hb
  have U4 := Lib.hid (U3.out.trans (Upto.of_below (T := M) hb))
  clear hb
  obtain ⟨b1, b2, b3, b4, b5, b6, b7⟩ := hbx _ U4.out
  go_wp2_with fail
  refine (reserve_h M _ g16 _ hr4 hC4).mono ?_
  rintro e w5 ⟨rfl, hu, hr5, hC5⟩
  have U5 := Lib.hid (U4.out.trans hu)
  clear hu
  obtain ⟨b1, b2, b3, b4, b5, b6, b7⟩ := hbx _ U5.out
  have k34 : ((C.setIfInBounds 32 (.int .i32 1)).setIfInBounds 16 (.int .i64 1))[34]? = some (.int .i64 0) := by rw [get_ne (by decide)]; exact g34
  have k35 : ((C.setIfInBounds 32 (.int .i32 1)).setIfInBounds 16 (.int .i64 1))[35]? = some (.slice none 0 0) := by rw [get_ne (by decide)]; exact g35
  clear g34 g35 g16
  go_wp2_with fail
  refine (hwa.out [] _ _ (Sl.nil _ _) (by simp)).mono ?_
  rintro e w6 ⟨v6, rfl, ho, hb⟩
  obtain ⟨hr6, hC6⟩ := row_keep hr5 hC5 hb
  have HO6 := Lib.hid ho
  have U6 := Lib.hid (U5.out.trans (Upto.of_below (T := M) hb))
  have hM5 := row_lt hr5
  clear hb ho
  obtain ⟨b1, b2, b3, b4, b5, b6, b7⟩ := hbx _ U6.out
  go_wp2_with fail
  refine (write_h M c _ k34 k35 v6 _ hr6 hC6 (by simpa using HO6.out.sl) (fun e => by have := (HO6.out.base e).1; omega)).mono ?_
  rintro e w7 ⟨sl, rfl, hu, hr7, hC7, ho7⟩
  have U7 := Lib.hid (U6.out.trans hu)
  have HO7 := Lib.hid ho7
  have hs6 : w.heap.size + 1 < w6.heap.size := b7
  clear hu ho7
  obtain ⟨b1, b2, b3, b4, b5, b6, b7⟩ := hbx _ U7.out
  have m32 : ((((C.setIfInBounds 32 (.int .i32 1)).setIfInBounds 16 (.int .i64 1)).setIfInBounds 35 sl).setIfInBounds 34 (.int .i64 1))[32]? = some (.int .i32 1) := by rw [get_ne (by decide), get_ne (by decide), get_ne (by decide), get_eq (by omega)]
  go_wp2_with fail
  refine (h_free M false _ m32 _ hr7 hC7).mono ?_
  rintro e w8 ⟨rfl, hu, hr8, hC8⟩
  have U8 := Lib.hid (U7.out.trans hu)
  have HO8 := Lib.hid (HO7.out.upto hu (by omega))
  clear hu
  obtain ⟨b1, b2, b3, b4, b5, b6, b7⟩ := hbx _ U8.out
  go_wp2
  exact bodyPost_ret (v := .tuple #[.agg _, _]) (res_row2 (t := 64) Tryz.results141 _ _ _ rfl (sr_isRow _ b3 rfl) (sr_row _ b6) info64 agg64) rfl ⟨sl, rfl, upto_setRow ((Upto.of_below hU0).trans U8.out) (by omega) _, (sr_isRow' _ _ _ _ _ _ (by omega)).trans hr8, (sr_row' _ _ _ _ (by omega)).trans hC8, (HO8.out.upto (T := w.heap.size + 1) (upto_own (Upto.refl _ _) _) (by omega)).weaken (by omega)⟩
end
section
open Go.RowKit
attribute [local go_sem ↓] exec_load_36 exec_store_36 exec_load_75 exec_store_75
attribute [local go_sem] run_load36r run_store36i run_load75r run_store75i lt_up isRng_new rngOf_new isRange_past rangeOf_past isRange_drew rangeOf_drew fits_new fits_past fits_drew setAt_new setAt_past setAt_drew putAt_whole putAt_lit extract_whole extract_lit one_int one_bool one_slice one_ptr ones_lit onesL_nil onesL_cons isRow_new rowOf_new isRow_past rowOf_past isRow_drew rowOf_drew lt2 lt3 lt4 List.take_succ_cons List.take_zero List.drop_succ_cons List.drop_zero List.cons_append List.nil_append List.length_cons List.length_nil List.size_toArray setRow_new setRow_past own_cell own_frozen own_set own_isRange own_rangeOf own_fits setAt_row sr_sr sr_size sr_row sr_row' sr_isRow sr_isRow' sr_fits' sr_cell' sr_frozen' sr_isRange' sr_rangeOf' sr_isCells isCells_new isCells_past isCells_drew valC_size valC_ones opC_size opC_ones replyC_size
open Plain
theorem or_row (L : List Int) (g n : Nat) (W : World) (hn : n = L.length) (hl : L.length ≤ 10) (hg : isCells W g = true) (hr : rowOf W g = (L.map fun a => Value.int .i64 a).toArray) :
    Calls Tryz.prog 116 #[.slice (some ⟨g, 0, none⟩) n n] W fun e w' => e = .returned (.int .i64 (orL L)) ∧ W = w' := by
  subst hn
  exact or_any L g _ W (by omega) (fun k hk => by rw [own_cell _ hg, hr]; simp [hk])
/-- Whose end is less. -/
def endO (x y : Nat) : Int := orL [orL [0, 0, cmpI (loOf x) (loOf y)], 0]
theorem cmpI_self (a : Int) : cmpI a a = 0 := cmpI_eq rfl
@[irreducible] def keyO (x : Nat) : Int := toI (net16 x)
def byO (by' x y : Nat) : Int := if by' = 1 then cmpI (keyO y) (keyO x) else cmpI (Pm.tOf x) (Pm.tOf y)
def fullO (by' x y : Nat) : Int := orL [byO by' x y, endO x y]
/-- addr.Compare. -/
theorem addr_cmp (x y : Nat) (w : World) : Calls Tryz.prog 117 #[.agg (#[.bool false, .int .u64 0, .int .u64 (loOf x)]), .agg (#[.bool false, .int .u64 0, .int .u64 (loOf y)])] w fun e w' => e = .returned (.int .i64 (orL [0, 0, cmpI (loOf x) (loOf y)])) ∧ Below w.heap.size w w' := by
  have hc0 := cmpI_self 0
  go_enter Tryz.func117, Tryz.ntmps117
  go_upto_region 1 with (fail)
  refine region_keep [] [0, 1, 2, 3, 4, 5, 6, 7, 8, 9, 10, 11, 12, 13, 14] [15, 16, 17] (by kernel_rfl) (by kernel_rfl) (fun _ _ d _ _ h => by cases d <;> exact h) ?_
  simp only [PL]
  refine first_nil ?_
  repeat (first
    | go_big_quiet_skip
    | (go_big_quiet_want
       apply class_op
       · intro W hS
         have xx := alk hS.out; (try have zz := zs w.heap.size W.heap.size)
         go_simp
         try first
           | with_reducible rfl
           | (go_at_call 174; refine (family_any 0 (loOf _) _).mono ?_; rintro e w' ⟨rfl, rfl⟩; exact ⟨rfl, below_next hS (bk5)⟩)
           | (go_at_call 175; refine (cmp_u64 _ _ _).mono ?_; rintro e w' ⟨rfl, rfl⟩; exact ⟨rfl, hS⟩)
           | (go_at_call 118; refine (cmp_int _ _ _).mono ?_; rintro e w' ⟨rfl, rfl⟩; exact ⟨rfl, hS⟩)
       go_big_quiet_on
       try simp only [PT]))
  refine wpQuiet_nil ?_
  intro w1 hS1
  have xxa := alk hS1.out; (try have zza := zs w.heap.size w1.heap.size)
  go_wp2_with (go_at_call 116; refine (or_row [0, 0, cmpI (loOf x) (loOf y)] _ _ _ rfl (by simp) (by simp [go_sem]) (by simp [go_sem])).mono ?_; rintro e w2 ⟨rfl, rfl⟩)
  go_ret
  exact ⟨rfl, bk0⟩
/-- endp.Compare. -/
theorem end_cmp (x y : Nat) (w : World) : Calls Tryz.prog 75 #[.agg (#[.bool false, .int .u64 0, .int .u64 (loOf x), .int .i64 80]), .agg (#[.bool false, .int .u64 0, .int .u64 (loOf y), .int .i64 80])] w fun e w' => e = .returned (.int .i64 (endO x y)) ∧ Below w.heap.size w w' := by
  have hc0 := cmpI_self 80
  go_enter Tryz.func75, Tryz.ntmps75
  go_upto_region 1 with (fail)
  refine region_keep [] [0, 1, 2, 3, 4, 5, 6, 7, 8, 9] [10, 11, 12] (by kernel_rfl) (by kernel_rfl) (fun _ _ d _ _ h => by cases d <;> exact h) ?_
  simp only [PL]
  refine first_nil ?_
  repeat (first
    | go_big_quiet_skip
    | (go_big_quiet_want
       apply class_op
       · intro W hS
         have xx := alk hS.out; (try have zz := zs w.heap.size W.heap.size)
         go_simp
         try first
           | with_reducible rfl
           | (go_at_call 117; refine (addr_cmp x y _).mono ?_; rintro e w' ⟨rfl, hb⟩; exact ⟨rfl, below_next hS hb⟩)
           | (go_at_call 118; refine (cmp_int _ _ _).mono ?_; rintro e w' ⟨rfl, rfl⟩; exact ⟨rfl, hS⟩)
       go_big_quiet_on
       try simp only [PT]))
  refine wpQuiet_nil ?_
  intro w1 hS1
  have xxa := alk hS1.out; (try have zza := zs w.heap.size w1.heap.size)
  go_wp2_with (go_at_call 116; refine (or_row [orL [0, 0, cmpI (loOf x) (loOf y)], 0] _ _ _ rfl (by simp) (by simp [go_sem]) (by simp [go_sem])).mono ?_; rintro e w2 ⟨rfl, rfl⟩)
  go_ret
  exact ⟨rfl, bk0⟩
/-- rank.key. -/
theorem key_any (x : Nat) (w : World) : Calls Tryz.prog 351 #[.agg (#[.bool false, .int .u64 0, .int .u64 (loOf x), .int .i64 80, .bool true, .int .i64 (Pm.tOf x), .int .i64 0, .int .i64 (Pm.tOf x), .int .i64 0, .int .i64 0]), .int .u64 1] w fun e w' => e = .returned (.int .u64 (keyO x)) ∧ Below w.heap.size w w' := by
  go_enter Tryz.func351, Tryz.ntmps351
  have hk0 : keyO x = toI (net16 x) := by unfold keyO; rfl
  rw [hk0]
  clear hk0
  go_wp2_with (first | (go_at_call 305; refine (group_any x _).mono ?_; rintro e w1 ⟨rfl, hb⟩; have hk := Keep.mk hb; have xx := alk hk.out; (try have zz := zs w.heap.size w1.heap.size); clear hb) | (go_at_call 125; refine (net_16 x _).mono ?_; rintro e w1 ⟨rfl, hb⟩; have hk := Keep.mk hb; have xx := alk hk.out; (try have zz := zs w.heap.size w1.heap.size); clear hb))
  go_ret
  exact ⟨rfl, bk0⟩
/-- rank.compare. -/
theorem compare_any (by' x y : Nat) (hb : by' = 1 ∨ by' = 4) (w : World) : Calls Tryz.prog 339 #[.agg (#[.bool false, .int .u64 0, .int .u64 (loOf x), .int .i64 80, .bool true, .int .i64 (Pm.tOf x), .int .i64 0, .int .i64 (Pm.tOf x), .int .i64 0, .int .i64 0]), .agg (#[.bool false, .int .u64 0, .int .u64 (loOf y), .int .i64 80, .bool true, .int .i64 (Pm.tOf y), .int .i64 0, .int .i64 (Pm.tOf y), .int .i64 0, .int .i64 0]), .int .i64 by', .int .u64 1] w fun e w' => e = .returned (.int .i64 (byO by' x y)) ∧ Below w.heap.size w w' := by
  have hb1 : byO 1 x y = cmpI (keyO y) (keyO x) := by unfold byO; rw [if_pos rfl]
  have hb4 : byO 4 x y = cmpI (Pm.tOf x) (Pm.tOf y) := by unfold byO; rw [if_neg (by decide)]
  rcases hb with rfl | rfl
  · rw [hb1]
    clear hb1 hb4
    go_enter Tryz.func339, Tryz.ntmps339
    go_upto_region 3 with (fail)
    refine region_still (by kernel_rfl) (by kernel_rfl) ?_
    repeat (first
      | go_big_quiet_skip
      | (go_big_quiet_want
         apply class_op
         · intro W hS
           have xx := alk hS.out; (try have zz := zs w.heap.size W.heap.size)
           go_simp
           try first
             | with_reducible rfl
             | (go_at_call 351; refine (key_any _ _).mono ?_; rintro e w' ⟨rfl, hb⟩; exact ⟨rfl, below_next hS hb⟩)
             | (go_at_call 175; refine (cmp_u64 _ _ _).mono ?_; rintro e w' ⟨rfl, rfl⟩; exact ⟨rfl, hS⟩)
         go_big_quiet_on
         try simp only [PT]))
    refine wpQuiet_nil ?_
    intro w1 hS1
    have xxa := alk hS1.out; (try have zza := zs w.heap.size w1.heap.size)
    go_wp2
    go_ret
    exact ⟨rfl, bk0⟩
  · rw [hb4]
    clear hb1 hb4
    go_enter Tryz.func339, Tryz.ntmps339
    go_wp2_with (go_at_call 118; refine (cmp_int _ _ _).mono ?_; rintro e w1 ⟨rfl, rfl⟩)
    go_ret
    exact ⟨rfl, bk0⟩
/-- rank.full. -/
theorem full_cmp (by' x y : Nat) (hb : by' = 1 ∨ by' = 4) (w : World) : Calls Tryz.prog 334 #[.agg (#[.bool false, .int .u64 0, .int .u64 (loOf x), .int .i64 80, .bool true, .int .i64 (Pm.tOf x), .int .i64 0, .int .i64 (Pm.tOf x), .int .i64 0, .int .i64 0]), .agg (#[.bool false, .int .u64 0, .int .u64 (loOf y), .int .i64 80, .bool true, .int .i64 (Pm.tOf y), .int .i64 0, .int .i64 (Pm.tOf y), .int .i64 0, .int .i64 0]), .int .i64 by', .int .u64 1] w fun e w' => e = .returned (.int .i64 (fullO by' x y)) ∧ Below w.heap.size w w' := by
  go_enter Tryz.func334, Tryz.ntmps334
  go_upto_region 1 with (fail)
  refine region_keep [] [0, 1, 2, 3, 4, 5, 6, 7, 8, 9] [10, 11, 12] (by kernel_rfl) (by kernel_rfl) (fun _ _ d _ _ h => by cases d <;> exact h) ?_
  simp only [PL]
  refine first_nil ?_
  repeat (first
    | go_big_quiet_skip
    | (go_big_quiet_want
       apply class_op
       · intro W hS
         have xx := alk hS.out; (try have zz := zs w.heap.size W.heap.size)
         go_simp
         try first
           | with_reducible rfl
           | (go_at_call 339; refine (compare_any by' x y hb _).mono ?_; rintro e w' ⟨rfl, hb⟩; exact ⟨rfl, below_next hS hb⟩)
           | (go_at_call 75; refine (end_cmp x y _).mono ?_; rintro e w' ⟨rfl, hb⟩; exact ⟨rfl, below_next hS hb⟩)
       go_big_quiet_on
       try simp only [PT]))
  refine wpQuiet_nil ?_
  intro w1 hS1
  have xxa := alk hS1.out; (try have zza := zs w.heap.size w1.heap.size)
  go_wp2_with (go_at_call 116; refine (or_row [byO by' x y, endO x y] _ _ _ rfl (by simp) (by simp [go_sem]) (by simp [go_sem])).mono ?_; rintro e w2 ⟨rfl, rfl⟩)
  go_ret
  exact ⟨rfl, bk0⟩
theorem counts1 (x : Nat) (w : World) : Calls Tryz.prog 331 #[.agg (#[.bool false, .int .u64 0, .int .u64 (loOf x), .int .i64 80, .bool true, .int .i64 (Pm.tOf x), .int .i64 0, .int .i64 (Pm.tOf x), .int .i64 0, .int .i64 0]), .int .i64 1] w fun e w' => e = .returned (.bool true) ∧ w' = w.alloc (.cells (#[.bool false, .int .u64 0, .int .u64 (loOf x), .int .i64 80, .bool true, .int .i64 (Pm.tOf x), .int .i64 0, .int .i64 (Pm.tOf x), .int .i64 0, .int .i64 0]) 75) := by
  go_enter Tryz.func331, Tryz.ntmps331
  go_wp2
  go_ret
  exact ⟨rfl, rfl⟩
theorem counts2 (x : Nat) (w : World) : Calls Tryz.prog 331 #[.agg (#[.bool false, .int .u64 0, .int .u64 (loOf x), .int .i64 80, .bool true, .int .i64 (Pm.tOf x), .int .i64 0, .int .i64 (Pm.tOf x), .int .i64 0, .int .i64 0]), .int .i64 2] w fun e w' => e = .returned (.bool false) ∧ w' = w.alloc (.cells (#[.bool false, .int .u64 0, .int .u64 (loOf x), .int .i64 80, .bool true, .int .i64 (Pm.tOf x), .int .i64 0, .int .i64 (Pm.tOf x), .int .i64 0, .int .i64 0]) 75) := by
  go_enter Tryz.func331, Tryz.ntmps331
  go_wp2
  go_ret
  exact ⟨rfl, rfl⟩
theorem counts3 (x : Nat) (w : World) : Calls Tryz.prog 331 #[.agg (#[.bool false, .int .u64 0, .int .u64 (loOf x), .int .i64 80, .bool true, .int .i64 (Pm.tOf x), .int .i64 0, .int .i64 (Pm.tOf x), .int .i64 0, .int .i64 0]), .int .i64 3] w fun e w' => e = .returned (.bool false) ∧ w' = w.alloc (.cells (#[.bool false, .int .u64 0, .int .u64 (loOf x), .int .i64 80, .bool true, .int .i64 (Pm.tOf x), .int .i64 0, .int .i64 (Pm.tOf x), .int .i64 0, .int .i64 0]) 75) := by
  go_enter Tryz.func331, Tryz.ntmps331
  go_wp2
  go_ret
  exact ⟨rfl, rfl⟩
theorem counts4 (x : Nat) (w : World) : Calls Tryz.prog 331 #[.agg (#[.bool false, .int .u64 0, .int .u64 (loOf x), .int .i64 80, .bool true, .int .i64 (Pm.tOf x), .int .i64 0, .int .i64 (Pm.tOf x), .int .i64 0, .int .i64 0]), .int .i64 4] w fun e w' => e = .returned (.bool true) ∧ w' = w.alloc (.cells (#[.bool false, .int .u64 0, .int .u64 (loOf x), .int .i64 80, .bool true, .int .i64 (Pm.tOf x), .int .i64 0, .int .i64 (Pm.tOf x), .int .i64 0, .int .i64 0]) 75) := by
  go_enter Tryz.func331, Tryz.ntmps331
  go_wp2
  go_ret
  exact ⟨rfl, rfl⟩
end
end Go.Proofs.YtnncjbkepakgpaaGreat
