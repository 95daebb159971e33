/-
  HOW MANY PEERS A MEMORY HAS.
  A MANAGER's STATE.
-/
import Derived.Test.YtnncjbkepakgpaaGreatA07
import Derived.Test.YtnncjbkepakgpaaGreatA28
import Derived.Test.YtnncjbkepakgpaaGreatA15
import Derived.Test.YtnncjbkepakgpaaGreatA27
import Derived.Test.YtnncjbkepakgpaaGreatA25
namespace Go.Proofs.YtnncjbkepakgpaaGreat
set_option linter.unusedVariables false
set_option linter.unusedSimpArgs false
set_option maxRecDepth 100000
set_option maxHeartbeats 1500000
section
open Go.RowKit
attribute [local go_sem ↓] exec_load_57 exec_store_57 exec_load_47 exec_store_47 exec_load_129 exec_store_129 exec_load_75 exec_store_75 exec_load_62 exec_store_62 exec_load_51 exec_store_51
attribute [local go_sem] run_load47r run_store47i run_load129r run_store129i run_load75r run_store75i run_load62r run_store62i run_load51r run_store51i lt_up isRng_new rngOf_new isRange_past rangeOf_past isRange_drew rangeOf_drew fits_new fits_past fits_drew setAt_new setAt_past setAt_drew putAt_whole putAt_lit extract_whole extract_lit one_int one_bool one_slice one_ptr ones_lit onesL_nil onesL_cons isRow_new rowOf_new isRow_past rowOf_past isRow_drew rowOf_drew lt2 lt3 lt4 List.take_succ_cons List.take_zero List.drop_succ_cons List.drop_zero List.cons_append List.nil_append List.length_cons List.length_nil List.size_toArray setRow_new setRow_past own_cell own_frozen own_set own_isRange own_rangeOf own_fits setAt_row sr_sr sr_size sr_row sr_row' sr_isRow sr_isRow' sr_fits' sr_cell' sr_frozen' sr_isRange' sr_rangeOf' sr_isCells isCells_new isCells_past isCells_drew valC_size valC_ones opC_size opC_ones replyC_size srs_isRange srs_rangeOf srs_fits srs_cell srs_frozen run_load57r run_store57i
attribute [local go_sem high] drew_sizeN
attribute [local simp high] drew_sizeN
def accOf (ps : List (Nat × List Nat)) (k : Nat) : List Nat := ((ps.take k).map fun p => p.2).flatten
theorem accOf_succ (ps : List (Nat × List Nat)) (k : Nat) (hk : k < ps.length) : accOf ps (k + 1) = accOf ps k ++ ps[k].2 := by
  unfold accOf
  rw [List.take_succ_eq_append_getElem hk, List.map_append, List.flatten_append]
  simp
theorem accOf_sum (ps : List (Nat × List Nat)) (k : Nat) : (accOf ps k).length = ((ps.take k).map fun p => p.2.length).sum := by
  unfold accOf
  rw [List.length_flatten, List.map_map]; rfl
theorem accOf_le (ps : List (Nat × List Nat)) (k : Nat) : (accOf ps k).length ≤ (ps.map fun p => p.2.length).sum := by
  rw [accOf_sum]
  have := congrArg (fun l => (List.map (fun p : Nat × List Nat => p.2.length) l).sum) (List.take_append_drop k ps)
  simp only [List.map_append, List.sum_append] at this
  omega
theorem accOf_all (ps : List (Nat × List Nat)) : (accOf ps ps.length).length = (ps.map fun p => p.2.length).sum := by rw [accOf_sum, List.take_length]
/-- shard.Join: how many. -/
theorem join_law (ps : List (Nat × List Nat)) (hn : ∀ (i : Nat) (p : Nat × List Nat), ps[i]? = some p → p.1 = p.2.length) (ht : (ps.map fun p => p.2.length).sum ≤ 19) (CS : List (Array Value)) (v : Value) (w : World) (h : Sl w v 2 CS) (he : Els ShardAt w CS ps) (hl : ps.length ≤ 100) :
    Calls Tryz.prog 40 #[v] w fun e w' => ∃ (v' : Value) (D : List Nat), e = .returned v' ∧ D.length = (ps.map fun p => p.2.length).sum ∧ Own w' w.heap.size 75 10 v' (D.map peerC) ∧ Below w.heap.size w w' := by
  have H := Lib.hid h
  have HE := Lib.hid he
  have hcs : CS.length = ps.length := he.1
  have HL := Lib.hid (fun k => Nat.le_trans (accOf_le ps k) ht)
  have HA := Lib.hid (accOf_all ps)
  obtain ⟨i0, hi0, -⟩ := info_parts einfo75
  have HNo := Lib.hid (fun (W w : World) (B n : Nat) (v : Value) (L : List (Array Value)) (h : Own W B 75 n v L) (ty : TypeId) (c : Nat) => app_nothing (P := Tryz.prog) 55 75 i0 Tryz.underlying55 hi0 (w := w) h ty c)
  obtain ⟨a, cap, rfl, -⟩ := id h
  rw [hcs] at H ⊢
  clear h he
  go_enter Tryz.func40, Tryz.ntmps40
  go_wp2
  go_loopg [3, 8] ps.length (fun g s3 s8 wr => ∃ k : Nat, s8 = .int .i64 k ∧ k + g = ps.length ∧ Hid (Own wr w.heap.size 75 10 s3 ((accOf ps k).map peerC) ∧ Below w.heap.size w wr))
  case atStart => exact ⟨0, rfl, by omega, Lib.hid ⟨Own.nil _ _ _ _, Below.refl _ _⟩⟩
  case round =>
    obtain ⟨k, rfl, hg, HH⟩ := hrel
    obtain ⟨hO, hB⟩ := HH.out
    have HO := Lib.hid hO
    have HB := Lib.hid hB
    have hws := hB.size
    clear hO hB HH
    cases gk with
    | zero =>
      have hk : ¬ ((k : Int) < (ps.length : Int)) := by omega
      obtain rfl : k = ps.length := by omega
      have hO2 := HO.out.sl
      have hOB := fun q hq => (HO.out.base (g := q) hq).1
      have HQ := Lib.hid (And.intro hO2 hOB)
      clear hO2 hOB
      go_wp2_with fail
      refine (sorted_law _ (HL.out _) _ _ HQ.out.1).mono ?_
      rintro e w2 ⟨v2, D, rfl, hD, hO, hb⟩
      have HR := Lib.hid (And.intro hD (And.intro hO hb))
      clear hD hO hb
      go_wp2
      refine bodyPost_ret (results_tmp rfl _ _ _) rfl ?_
      exact ⟨_, D, rfl, HR.out.1.trans HA.out, HR.out.2.1.weaken hws, HB.out.trans (HR.out.2.2.mono hws)⟩
    | succ m =>
      have hk : k < ps.length := by omega
      have hkz : (k : Int) < (ps.length : Int) := by omega
      have hn0 : ¬ ((k : Int) < 0) := by omega
      have h0k : 0 ≤ (k : Int) := by omega
      obtain ⟨C, hC, vk, rfl, hvk⟩ := HE.out.at (List.getElem?_eq_getElem hk)
      obtain ⟨g, o, cL, e1, hgw, e2, e3, e4, e5⟩ := sl_at H.out hC
      simp only [Value.slice.injEq] at e1
      obtain ⟨rfl, -, -⟩ := e1
      have hgr : g < wr.heap.size := by omega
      have e2' : isRange wr ⟨g, o + k * 2, none⟩ 2 = true := by rw [(alike (HB.out)).2.2.1 _ _ _ hgw]; exact e2
      have e3' : rangeOf wr ⟨g, o + k * 2, none⟩ 2 = #[.int .i64 ps[k].1, vk] := by rw [(alike (HB.out)).2.2.2.1 _ _ _ hgw]; exact e3
      clear e2 e3 e5
      have e6 := hn k ps[k] (List.getElem?_eq_getElem hk)
      rw [e6] at e3'
      have HV := Lib.hid hvk
      have hv1 : vk.oneCell' = true := by obtain ⟨_, _, rfl, _⟩ := hvk; rfl
      have HS := Lib.hid (accOf_succ ps k hk)
      have HLk := Lib.hid (And.intro (HL.out k) (HL.out (k + 1)))
      clear hvk e4 e6 hC
      generalize hlk : ps[k].2 = lk at *
      clear hlk
      go_wp2_with fail
      have b1 : Below w.heap.size w (wr.alloc (.cells (#[.int .i64 lk.length, vk]) 129)) := HB.out.alloc hws _
      have hO1 := HO.out.below ((Below.refl wr.heap.size wr).alloc (Nat.le_refl _) (.cells (#[.int .i64 lk.length, vk]) 129))
      have hll : lk.length ≤ 19 := by have := HLk.out.2; rw [HS.out, List.length_append] at this; omega
      refine (peers_law lk (by omega) vk _ (HV.out.below b1)).mono ?_
      rintro e w2 ⟨v2, rfl, ho, hb⟩
      have b2 := b1.trans (hb.mono (by rw [World.size_alloc]; omega))
      have B2 := Lib.hid b2
      have hO2 := hO1.below (hb.mono (Nat.le_refl _))
      have hs2 := b2.size
      clear b1 b2 hO1
      have HO2 := Lib.hid hO2
      have HOv := Lib.hid ho
      clear hO2 ho hb
      have hsl := HOv.out.sl
      rcases HOv.out.1.2 with ⟨rfl, h0⟩ | ⟨g2, cap2, cur, rfl, -⟩
      · have hz : lk = [] := by simpa using h0
        subst hz
        have hno := HNo.out w2 w2 _ _ _ _ HO2.out
        clear hsl
        go_wp2_with (at_builtin; refine Lib.wpList_append_run _ rfl (.tmp 12) (.tmp 14) 55 55 rfl _ (.slice none 0 0) rfl rfl _ _ (hno _ _) ?_)
        go_roundg m
        case measure => omega
        case rel => exact ⟨k + 1, by simp, by omega, Lib.hid ⟨by rw [HS.out, List.append_nil]; exact HO2.out, B2.out⟩⟩
      · simp only [List.length_map] at hsl ⊢
        have HSL := Lib.hid hsl
        clear hsl
        go_wp2_with (at_builtin; refine app75 rfl (.tmp 12) (.tmp 14) rfl w.heap.size _ _ (lk.map peerC) rfl HO2.out _ _ _ rfl HSL.out (by have := HLk.out.1; simp; omega) hs2 ?_; intro v' w3 hown hbel hnil; have HWN := Lib.hid (And.intro hown hbel); clear hown hbel hnil)
        go_roundg m
        case measure => omega
        case rel => exact ⟨k + 1, by simp, by omega, Lib.hid ⟨by rw [HS.out, List.map_append]; exact HWN.out.1, B2.out.trans HWN.out.2⟩⟩
/-- mem.State. -/
theorem mem_state (ps : List (Nat × List Nat)) (hn : ∀ (i : Nat) (p : Nat × List Nat), ps[i]? = some p → p.1 = p.2.length) (ht : (ps.map fun p => p.2.length).sum ≤ 19) (CS : List (Array Value)) (inn : Int) (vS : Value) (aL : Option Addr) (nL cL : Nat) (w : World) (h : Sl w vS 2 CS) (he : Els ShardAt w CS ps) (hl : ps.length ≤ 100) :
    Calls Tryz.prog 28 #[.agg (#[.int .i64 inn, .int .i64 0, .slice none 0 0, .slice none 0 0, vS, .slice aL nL cL])] w fun e w' => ∃ (v' : Value) (D : List Nat), e = .returned (.agg #[.slice none 0 0, .slice none 0 0, v']) ∧ D.length = (ps.map fun p => p.2.length).sum ∧ Sl w' v' 10 (D.map peerC) ∧ (∀ q, v'.ownBlock = some q → w.heap.size ≤ q) ∧ Below w.heap.size w w' := by
  have HJ := Lib.hid (fun (W : World) (b : Below w.heap.size w W) => join_law ps hn ht CS vS W (h.below b) (he.mono fun _ _ x => x.below b) hl)
  have hvS : vS.oneCell' = true := by obtain ⟨_, _, rfl, _⟩ := h; rfl
  clear h he hn
  go_enter Tryz.func28, Tryz.ntmps28
  go_wp2_with fail
  obtain ⟨WG, hWG⟩ : ∃ W, (w.alloc (.cells (#[.int .i64 inn, .int .i64 0, .slice none 0 0, .slice none 0 0, vS, .slice aL nL cL]) 47)).alloc (.cells (#[.slice none 0 0, .slice none 0 0, .slice none 0 0]) 57) = W := ⟨_, rfl⟩
  have bRg0 : isRow WG (w.heap.size) 47 6 = true := by subst hWG; go_simp
  have bVg0 : rowOf WG (w.heap.size) = #[.int .i64 inn, .int .i64 0, .slice none 0 0, .slice none 0 0, vS, .slice aL nL cL] := by subst hWG; go_simp
  have bCg0 := isCells_row bRg0
  have bLg0 : (w.heap.size) < WG.heap.size := bk13
  have bRg1 : isRow WG (w.heap.size + 1) 57 3 = true := by subst hWG; go_simp
  have bVg1 : rowOf WG (w.heap.size + 1) = #[.slice none 0 0, .slice none 0 0, .slice none 0 0] := by subst hWG; go_simp
  have bCg1 := isCells_row bRg1
  have bLg1 : (w.heap.size + 1) < WG.heap.size := bk13
  have bw : Below w.heap.size w WG := bk36
  generalize (w.alloc (.cells (#[.int .i64 inn, .int .i64 0, .slice none 0 0, .slice none 0 0, vS, .slice aL nL cL]) 47)).alloc (.cells (#[.slice none 0 0, .slice none 0 0, .slice none 0 0]) 57) = W0 at *
  subst hWG
  refine region_treeZ 10 (by kernel_rfl) (Keep W0) [0, 1, 3, 4, 6, 7] 5 (by kernel_rfl) (by kernel_rfl) (fun _ _ d _ _ h => by cases d <;> exact h) ⟨(Below.refl _ _).drew⟩ ?_
  simp only [PL]
  apply reads_op
  · exact bk2
  try simp only [PT]
  apply reads_op
  · exact bk2
  try simp only [PT]
  apply reads_op
  · exact bk2
  try simp only [PT]
  apply reads_op
  · exact bk2
  try simp only [PT]
  apply reads_op
  · exact bk2
  try simp only [PT]
  apply reads_op
  · exact bk2
  try simp only [PT]
  refine reads_nil ?_
  refine treeZ_one 2 (by kernel_rfl) (by kernel_rfl) ?_
  simp only [nthL]
  go_wp2_with (go_at_call 38; refine (clone38_nil _).mono ?_; rintro e wa ⟨rfl, hb⟩; have hka := Keep.mk hb; have xxa := alk hka.out; (try have zza := zs w.heap.size wa.heap.size); clear hb)
  refine chain_on ⟨bk4⟩ ?_
  refine treeZ_one 5 (by kernel_rfl) (by kernel_rfl) ?_
  simp only [nthL]
  go_wp2_with (go_at_call 39; refine (clone39_nil _).mono ?_; rintro e wb ⟨rfl, hb⟩; have hkb := Keep.mk hb; have xxb := alk hkb.out; (try have zzb := zs w.heap.size wb.heap.size); clear hb)
  refine chain_on ⟨bk4⟩ ?_
  refine treeZ_one 8 (by kernel_rfl) (by kernel_rfl) ?_
  simp only [nthL]
  go_wp2_with fail
  refine (HJ.out _ (bw.trans (((Below.refl W0.heap.size W0).drew.trans (hka.out.trans (hkb.out.mono hka.out.size))).mono (by omega)))).mono ?_
  rintro e wc ⟨v8, D, rfl, hD, ho, hb⟩
  have hkc := Keep.mk hb
  have hz := fun q (hq : v8.ownBlock = some q) => (ho.base hq).1
  obtain ⟨a8, c8, rfl, -⟩ := id ho.sl
  have hsl := ho.sl
  simp only [List.length_map] at hz hsl ⊢
  have HD := Lib.hid (And.intro hD (And.intro hsl hz))
  clear hz hsl
  have xxc := alk hkc.out; (try have zzc := zs w.heap.size wc.heap.size)
  clear hb hD ho
  go_wp2
  refine chain_on ⟨bk4⟩ ?_
  refine treeZ_reads (by kernel_rfl) [9] 1 rfl (by kernel_rfl) (fun _ _ d _ _ h => by cases d <;> exact h) ⟨bk4⟩ ?_
  simp only [PL]
  apply reads_op
  · exact bk2
  try simp only [PT]
  refine reads_nil ?_
  refine treeZ_last 10 rfl (by kernel_rfl) (by kernel_rfl) ?_
  simp only [nthL]
  go_wp2_with fail
  refine chain_on trivial ?_
  refine treeZ_end (by kernel_rfl) ?_
  go_wp2
  refine bodyPost_ret (v := .agg (#[.slice none 0 0, .slice none 0 0, .slice a8 D.length c8])) (res_row (t := 57) Tryz.results28 _ _ _ rfl ?_ ?_ info57 agg57) rfl ?_
  · go_simp
  · go_simp
  exact ⟨_, D, rfl, HD.out.1, HD.out.2.1.upto (T := (w.heap.size + 1)) (upto_own (Upto.refl (w.heap.size + 1) _) _) (fun e => by have := HD.out.2.2 _ e; omega), (fun q hq => by have := HD.out.2.2 q hq; omega), bk0⟩
/-- world.State. -/
theorem world_state (most S : Nat) (vT vG : Value) (h1 : vT.oneCell' = true) (h2 : vG.oneCell' = true) (ps : List (Nat × List Nat)) (hn : ∀ (i : Nat) (p : Nat × List Nat), ps[i]? = some p → p.1 = p.2.length) (ht : (ps.map fun p => p.2.length).sum ≤ 19) (CS : List (Array Value)) (inn : Int) (vS : Value) (aL : Option Addr) (nL cL : Nat) (w : World) (h : Sl w vS 2 CS) (he : Els ShardAt w CS ps) (hl : ps.length ≤ 100) :
    Calls Tryz.prog 11 #[.agg (#[.int .i64 most, .int .i64 4, .int .i64 S, .int .i64 64, .int .i64 64, .int .u64 1, .int .i64 1, .int .i64 1, .int .i64 1, .int .i64 64, .int .i64 100, .int .i64 100, .int .i64 1000, .int .i64 2, .int .i64 64, .int .i64 4, .int .i64 inn, .int .i64 0, .slice none 0 0, .slice none 0 0, vS, .slice aL nL cL, vT, vG])] w fun e w' => ∃ (v' : Value) (D : List Nat), e = .returned (.agg #[.slice none 0 0, .slice none 0 0, v']) ∧ D.length = (ps.map fun p => p.2.length).sum ∧ Sl w' v' 10 (D.map peerC) ∧ (∀ q, v'.ownBlock = some q → w.heap.size ≤ q) ∧ Below w.heap.size w w' := by
  have HJ := Lib.hid (fun (W : World) (b : Below w.heap.size w W) => mem_state ps hn ht CS inn vS aL nL cL W (h.below b) (he.mono fun _ _ x => x.below b) hl)
  have hvS : vS.oneCell' = true := by obtain ⟨_, _, rfl, _⟩ := h; rfl
  clear h he hn
  go_enter Tryz.func11, Tryz.ntmps11
  go_wp2_with fail
  refine (HJ.out _ (bk5)).mono ?_
  rintro e w1 ⟨v8, D, rfl, hD, ho, hz, hb⟩
  have hk := Keep.mk hb
  obtain ⟨a8, c8, rfl, -⟩ := id ho
  simp only [List.length_map] at ho hz ⊢
  have HD := Lib.hid (And.intro hD (And.intro ho hz))
  have xx := alk hk.out; (try have zz := zs w.heap.size w1.heap.size)
  clear hb hD ho hz
  go_wp2
  refine bodyPost_ret (v := .agg (#[.slice none 0 0, .slice none 0 0, .slice a8 D.length c8])) (res_row (t := 57) Tryz.results11 _ _ _ rfl ?_ ?_ info57 agg57) rfl ?_
  · go_simp
  · go_simp
  exact ⟨_, D, rfl, HD.out.1, HD.out.2.1.upto (T := (w.heap.size + 1)) (upto_own (Upto.refl (w.heap.size + 1) _) _) (fun e => by have := HD.out.2.2 _ e; simp at this; omega), (fun q hq => by have := HD.out.2.2 q hq; simp at this; omega), bk0⟩
end
section
open Go.RowKit
attribute [local go_sem ↓] exec_load_129 exec_store_129
attribute [local go_sem] run_load129r run_store129i lt_up isRng_new rngOf_new isRange_past rangeOf_past isRange_drew rangeOf_drew fits_new fits_past fits_drew setAt_new setAt_past setAt_drew putAt_whole putAt_lit extract_whole extract_lit one_int one_bool one_slice one_ptr ones_lit onesL_nil onesL_cons isRow_new rowOf_new isRow_past rowOf_past isRow_drew rowOf_drew lt2 lt3 lt4 List.take_succ_cons List.take_zero List.drop_succ_cons List.drop_zero List.cons_append List.nil_append List.length_cons List.length_nil List.size_toArray setRow_new setRow_past own_cell own_frozen own_set own_isRange own_rangeOf own_fits setAt_row sr_sr sr_size sr_row sr_row' sr_isRow sr_isRow' sr_fits' sr_cell' sr_frozen' sr_isRange' sr_rangeOf' sr_isCells isCells_new isCells_past isCells_drew valC_size valC_ones opC_size opC_ones replyC_size srs_isRange srs_rangeOf srs_fits srs_cell srs_frozen
attribute [local go_sem ↓] exec_load_57 exec_store_57
attribute [local go_sem] run_load57r run_store57i
theorem drew_sizeT (w : World) : w.drew.heap.size = w.heap.size := id rfl
attribute [local go_sem high] drew_sizeT
attribute [local simp high] drew_sizeT
def StEnd (ps : List (Nat × List Nat)) (w : World) (e : Ending) (w' : World) : Prop := ∃ (v' : Value) (D : List Nat), e = .returned (.agg #[.slice none 0 0, .slice none 0 0, v']) ∧ D.length = (ps.map fun p => p.2.length).sum ∧ Sl w' v' 10 (D.map peerC) ∧ Below w.heap.size w w'
/-- Manager.State. -/
theorem live_state (M : Nat) (C : Array Value) (ps : List (Nat × List Nat)) (hn : ∀ (i : Nat) (p : Nat × List Nat), ps[i]? = some p → p.1 = p.2.length) (ht : (ps.map fun p => p.2.length).sum ≤ 19) (CS : List (Array Value)) (hl : CS.length = 8) (hx : ∀ (k : Nat) (h : k < CS.length), C.extract (28 + k * 4 + 2) (28 + k * 4 + 2 + 2) = CS[k]) (h24 : C[24]? = some (.slice none 0 0)) (h27 : C[27]? = some (.slice none 0 0)) (w : World) (hr : isRow w M 134 60 = true) (hC : rowOf w M = C) (he : Els ShardAt w CS ps) :
    Calls Tryz.prog 18 #[.pointer (some ⟨M, 0, none⟩)] w (StEnd ps w) := by
  have hz := row_size hr hC
  have hM := row_lt hr
  have hpl : ps.length = 8 := by rw [← he.1]; exact hl
  have HJ := Lib.hid (fun (W : World) (v : Value) (b : Below w.heap.size w W) (h : Sl W v 2 CS) => join_law ps hn ht CS v W h (he.mono fun _ _ x => x.below b) (by omega))
  have HX := Lib.hid hx
  have HCS : ∀ C' ∈ CS, ∃ (i : Int) (a : Option Addr) (n c : Nat), C' = #[.int .i64 i, .slice a n c] := fun C' hC' => by
    obtain ⟨i, hi⟩ := List.mem_iff_getElem?.1 hC'
    have hil : i < ps.length := by rw [← he.1]; exact (List.getElem?_eq_some_iff.1 hi).1
    obtain ⟨v, rfl, ⟨_, _, rfl, _⟩⟩ := he.2 i C' _ hi (List.getElem?_eq_getElem hil)
    exact ⟨_, _, _, _, rfl⟩
  have HCS := Lib.hid HCS
  clear he hn hx
  go_enter Tryz.func18, Tryz.ntmps18
  go_wp2_with fail
  have bw : Below w.heap.size w (w.alloc (.cells (#[.slice none 0 0, .slice none 0 0, .slice none 0 0]) 57)) := bk5
  have bR : isRow (w.alloc (.cells (#[.slice none 0 0, .slice none 0 0, .slice none 0 0]) 57)) w.heap.size 57 3 = true := by go_simp
  have bV : rowOf (w.alloc (.cells (#[.slice none 0 0, .slice none 0 0, .slice none 0 0]) 57)) w.heap.size = #[.slice none 0 0, .slice none 0 0, .slice none 0 0] := by go_simp
  have bC := isCells_row bR
  have bL := row_lt bR
  obtain ⟨hrW, hCW⟩ := row_keep hr hC bw
  generalize (w.alloc (.cells (#[.slice none 0 0, .slice none 0 0, .slice none 0 0]) 57)) = W0 at *
  go_loopg [3, 8] 8 (fun g s3 s8 wr => ∃ k : Nat, s8 = .int .i64 k ∧ k + g = 8 ∧ Hid (Own wr W0.heap.size 129 2 s3 (CS.take k) ∧ Below W0.heap.size W0 wr))
  case atStart => exact ⟨0, rfl, rfl, Lib.hid ⟨Own.nil _ _ _ _, Below.refl _ _⟩⟩
  case round =>
    obtain ⟨k, rfl, hg, HH⟩ := hrel
    obtain ⟨hO, hB⟩ := HH.out
    have hws := hB.size
    obtain ⟨hrr, hCr⟩ := row_keep hrW hCW hB
    have hcr := isCells_row hrr
    cases gk with
    | zero =>
      have hk : ¬ ((k : Int) < 8) := by omega
      obtain rfl : k = 8 := by omega
      rw [List.take_of_length_le (by omega)] at hO
      have cR : isRow wr w.heap.size 57 3 = true := ((alike hB).1 _ _ _ bL).trans bR
      have cV : rowOf wr w.heap.size = #[.slice none 0 0, .slice none 0 0, .slice none 0 0] := ((alike hB).2.1 _ bL).trans bV
      have cC := isCells_row cR
      have cL := row_lt cR
      have hMr := row_lt hrr
      have bw9 : Below w.heap.size w wr := bw.trans (hB.mono bw.size)
      obtain ⟨a9, c9, e9, -⟩ := id hO.sl
      have HS9 := Lib.hid hO.sl
      subst e9
      clear hO hB HH hr hC hrW hCW bR bV bC bL
      generalize hv9 : Value.slice a9 CS.length c9 = v9 at *
      generalize hW9 : wr = W9 at *
      clear hW9 hz
      go_wp2_with fail
      refine region_treeZ 13 (by kernel_rfl) (Keep W9) [0, 1, 2, 3, 5, 6, 7, 8, 10] 5 (by kernel_rfl) (by kernel_rfl) (fun _ _ d _ _ h => by cases d <;> exact h) ⟨(Below.refl _ _).drew⟩ ?_
      simp only [PL]
      apply reads_op
      · exact bk2
      try simp only [PT]
      apply reads_op
      · exact bk2
      try simp only [PT]
      apply reads_op
      · exact bk2
      try simp only [PT]
      apply reads_op
      · exact bk2
      try simp only [PT]
      apply reads_op
      · exact bk2
      try simp only [PT]
      apply reads_op
      · exact bk2
      try simp only [PT]
      apply reads_op
      · exact bk2
      try simp only [PT]
      apply reads_op
      · exact bk2
      try simp only [PT]
      apply reads_op
      · exact bk2
      try simp only [PT]
      refine reads_nil ?_
      refine treeZ_one 4 (by kernel_rfl) (by kernel_rfl) ?_
      simp only [nthL]
      go_wp2_with (go_at_call 38; refine (clone38_nil _).mono ?_; rintro e wa ⟨rfl, hb⟩; have hka := Keep.mk hb; have xxa := alk hka.out; (try have zza := zs w.heap.size wa.heap.size); clear hb)
      refine chain_on ⟨bk4⟩ ?_
      refine treeZ_one 9 (by kernel_rfl) (by kernel_rfl) ?_
      simp only [nthL]
      go_wp2_with (go_at_call 39; refine (clone39_nil _).mono ?_; rintro e wb ⟨rfl, hb⟩; have hkb := Keep.mk hb; have xxb := alk hkb.out; (try have zzb := zs w.heap.size wb.heap.size); clear hb)
      refine chain_on ⟨bk4⟩ ?_
      refine treeZ_one 11 (by kernel_rfl) (by kernel_rfl) ?_
      simp only [nthL]
      go_wp2_with fail
      refine (HJ.out wb v9 (bw9.trans (((Below.refl W9.heap.size W9).drew.trans (hka.out.trans (hkb.out.mono hka.out.size))).mono bw9.size)) (HS9.out.below ((Below.refl W9.heap.size W9).drew.trans (hka.out.trans (hkb.out.mono hka.out.size))))).mono ?_
      rintro e wc ⟨v8, D, rfl, hD, ho, hb⟩
      have hkc := Keep.mk hb
      have hz := fun q (hq : v8.ownBlock = some q) => (ho.base hq).1
      obtain ⟨a8, c8, rfl, -⟩ := id ho.sl
      have hsl := ho.sl
      simp only [List.length_map] at hz hsl ⊢
      have HD := Lib.hid (And.intro hD (And.intro hsl hz))
      clear hz hsl
      have xxc := alk hkc.out; (try have zzc := zs w.heap.size wc.heap.size)
      clear hb hD ho
      go_wp2
      refine chain_on ⟨bk4⟩ ?_
      refine treeZ_reads (by kernel_rfl) [12] 1 rfl (by kernel_rfl) (fun _ _ d _ _ h => by cases d <;> exact h) ⟨bk4⟩ ?_
      simp only [PL]
      apply reads_op
      · exact bk2
      try simp only [PT]
      refine reads_nil ?_
      refine treeZ_last 13 rfl (by kernel_rfl) (by kernel_rfl) ?_
      simp only [nthL]
      go_wp2_with fail
      refine chain_on trivial ?_
      refine treeZ_end (by kernel_rfl) ?_
      go_wp2
      refine bodyPost_ret (v := .agg (#[.slice none 0 0, .slice none 0 0, .slice a8 D.length c8])) (res_row (t := 57) Tryz.results18 _ _ _ rfl ?_ ?_ info57 agg57) rfl ?_
      · go_simp
      · go_simp
      exact ⟨_, D, rfl, HD.out.1, HD.out.2.1.upto (T := w.heap.size) (upto_own (Upto.refl w.heap.size _) _) (fun e => by have := HD.out.2.2 _ e; omega), below_setRow (bw9.trans (((((Below.refl W9.heap.size W9).drew.trans (hka.out.trans (hkb.out.mono hka.out.size)))).trans (hkc.out.mono (by have := hka.out.size; have := hkb.out.size; omega))).mono bw9.size)) (Nat.le_refl _) _⟩
    | succ m =>
      have hk : (k : Int) < 8 := by omega
      have hkl : k < CS.length := by omega
      have hk0 : ¬ ((k : Int) < 0) := by omega
      have hk1 : 0 ≤ (k : Int) := by omega
      have e1 : isRange wr ⟨M, 28 + k * 4 + 2, none⟩ 2 = true := own_isRange hcr (by rw [hCr, hz]; omega)
      have e2 : rangeOf wr ⟨M, 28 + k * 4 + 2, none⟩ 2 = CS[k] := by rw [own_rangeOf hcr (by rw [hCr, hz]; omega), hCr]; exact HX.out k hkl
      obtain ⟨iE, aE, nE, cE, eE⟩ := HCS.out CS[k] (List.getElem_mem hkl)
      have e5 := Lib.hid (List.take_succ_eq_append_getElem hkl)
      have htk : (CS.take k).length ≤ 8 := by rw [List.length_take]; omega
      rw [eE] at e2 e5
      clear eE
      have HO := Lib.hid hO
      have hk2 := Keep.mk hB
      have hMr := row_lt hrr
      clear hO hB HH hrr hCr hcr hr hC hrW hCW bR bV bC
      go_wp2_with (at_builtin; refine app129 rfl (.tmp 11) (.tmp 19) rfl W0.heap.size _ _ [#[.int .i64 iE, .slice aE nE cE]] rfl (HO.out.below ((Below.refl _ _).alloc (Nat.le_refl _) _)) _ _ _ rfl (sl_one wr (#[.int .i64 iE, .slice aE nE cE]) 129 2 _ rfl rfl rfl) (by exact Nat.le_trans (Nat.add_le_add htk (Nat.le_refl 1)) (by decide)) (by rw [World.size_alloc]; omega) ?_; intro v' w3 hown hbel hnil; have HWN := Lib.hid (And.intro hown hbel); clear hown hbel hnil)
      go_roundg m
      case measure => omega
      case rel => exact ⟨k + 1, by simp, by omega, Lib.hid ⟨by rw [e5.out]; exact HWN.out.1, (hk2.out.alloc hws _).trans HWN.out.2⟩⟩
end
end Go.Proofs.YtnncjbkepakgpaaGreat
