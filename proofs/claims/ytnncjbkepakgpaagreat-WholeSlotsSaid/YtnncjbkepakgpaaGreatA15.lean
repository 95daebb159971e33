/-
  A REGION THAT DRAWS, WHOSE LAST OPERATION WAITS FOR ALL THE OTHERS: behind it the world need not be of the class.
  A MANAGER's OPERATIONS.
-/
import Derived.Test.YtnncjbkepakgpaaGreatA07
import Derived.Test.YtnncjbkepakgpaaGreatA14
import Derived.Test.YtnncjbkepakgpaaGreatA10
import Derived.Test.YtnncjbkepakgpaaGreatA12
namespace Go.Proofs.YtnncjbkepakgpaaGreat
set_option linter.unusedVariables false
set_option linter.unusedSimpArgs false
set_option maxRecDepth 100000
set_option maxHeartbeats 800000
section
open Go.RowKit
section
variable {P : Program} {ops : Array Oper} {md : Region.Mode} {Q : Exit → Act → World → Prop} {C : World → Prop} {z : Nat}
/-- Whatever order is picked, all worlds on the way being of the class. -/
def wpAnyZ (P : Program) (md : Region.Mode) (ops : Array Oper) (z : Nat) (C : World → Prop) (Q : Exit → Act → World → Prop) : Nat → Array Bool → Act → World → Prop
  | 0, L, a, w => Region.ready md ops L = [] ∧ Q .normal a w
  | f + 1, L, a, w => (Region.ready md ops L = [] → Q .normal a w) ∧ ∀ i ∈ Region.ready md ops L, wpOp P ops Q i (fun a' w' => (i ≠ z → C w') ∧ wpAnyZ P md ops z C Q f (L.setIfInBounds i true) a' w') a w
theorem any_of_Z : ∀ (f : Nat) (L : Array Bool) (a : Act) (w : World), wpAnyZ P md ops z C Q f L a w → wpAny P md ops Q f L a w
  | 0, _, _, _, h => h
  | f + 1, _, _, _, h => ⟨h.1, fun i hi => wpOp_mono (fun a w h' => any_of_Z f _ a w h'.2) (h.2 i hi)⟩
/-- z waits for all the others. -/
def waitsAll (md : Region.Mode) (l : List Oper) (z : Nat) : Bool := match l[z]? with
  | none => false
  | some o => (List.range l.length).all fun j => j == z || o.after.any fun e => Region.binds md e && e.on == j
theorem waitsAll_spec {l : List Oper} (h : waitsAll md l z = true) {L : Array Bool} (hz : z ∈ Region.ready md l.toArray L) {i : Nat} (hi : i < l.length) (hn : i ≠ z) : L.getD i false = true := by
  obtain ⟨_, o, ho, hall⟩ := mem_ready.1 hz
  have ho' : l[z]? = some o := by simpa using ho
  unfold waitsAll at h
  rw [ho'] at h
  have h1 := List.all_eq_true.1 h i (List.mem_range.2 hi)
  simp only [Bool.or_eq_true, beq_iff_eq, Array.any_eq_true', Bool.and_eq_true] at h1
  rcases h1 with h1 | ⟨e, he, hb, rfl⟩
  · exact absurd h1 hn
  · exact hall e he hb
theorem anyZ_first {i : Nat} {oi : Oper} {v : Value} (hi : ops[i]? = some oi) (hz : ∀ L, z ∈ Region.ready md ops L → i ≠ z → L.getD i false = true) (hsel : ∀ (j : Nat) (o : Oper) cs b, ops[j]? = some o → o.op ≠ .select cs b)
    (hQ : ∀ c a w, Q (.panic c) (a.put oi.dst v) w → Q (.panic c) a w) :
    ∀ (fuel : Nat) (listed : Array Bool) (a : Act) (w : World), C w →
      (∀ j oj, ops[j]? = some oj → j ≠ i → listed.getD j true = false → (∀ e ∈ oj.after, Region.binds md e = true → e.on ≠ i) → oi.apart ops oj = true) →
      i ∈ Region.ready md ops listed → ReadsIn P ops C oi v a →
      wpAnyZ P md ops z C Q fuel (listed.setIfInBounds i true) (a.put oi.dst v) w → wpAnyZ P md ops z C Q (fuel + 1) listed a w := by
  intro fuel
  induction fuel with
  | zero =>
    intro listed a w hC _ hr hy H
    refine ⟨fun h => (by rw [h] at hr; cases hr), fun j hj => ?_⟩
    by_cases hji : j = i
    · subst hji; exact hy.wpOp hi hC ⟨fun _ => hC, H⟩
    · have := ready_mono hj hji
      rw [H.1] at this
      cases this
  | succ fuel ih =>
    intro listed a w hC hfree hr hy H
    refine ⟨fun h => (by rw [h] at hr; cases hr), fun j hj => ?_⟩
    by_cases hji : j = i
    · subst hji; exact hy.wpOp hi hC ⟨fun _ => hC, H⟩
    · have h1 := H.2 j (ready_mono hj hji)
      obtain ⟨hjun, oj, hoj, hall⟩ := mem_ready.1 hj
      have hnot : ∀ e ∈ oj.after, Region.binds md e = true → e.on ≠ i := fun e he hb heq => by
        have h1 := hall e he hb
        have h0 := (mem_ready.1 hr).1
        rw [heq] at h1
        rcases Nat.lt_or_ge i listed.size with h' | h'
        · simp [h'] at h0 h1; rw [h0] at h1; cases h1
        · simp [Array.getElem?_eq_none h'] at h1
      have h2 := wpOp_putR hoj (hfree j oj hoj hji hjun hnot) (fun cs b => hsel i oi cs b hi) (fun cs b => hsel j oj cs b hoj) hQ hy h1
      have hfree' : ∀ k ok, ops[k]? = some ok → k ≠ i → (listed.setIfInBounds j true).getD k true = false →
          (∀ e ∈ ok.after, Region.binds md e = true → e.on ≠ i) → oi.apart ops ok = true := fun k ok hk hki hun hno => by
        refine hfree k ok hk hki ?_ hno
        by_cases hjk : j = k
        · subst hjk; exact hjun
        · rw [getD_set_ne true hjk] at hun; exact hun
      have hri : i ∈ Region.ready md ops (listed.setIfInBounds j true) := ready_mono hr (Ne.symm hji)
      refine wpOp_mono (fun a' w' h3 => ?_) h2
      obtain ⟨h4, h5, h6⟩ := h3
      have h7 : (listed.setIfInBounds i true).setIfInBounds j true = (listed.setIfInBounds j true).setIfInBounds i true := Array.setIfInBounds_comm _ _ (Ne.symm hji)
      rw [h7] at h6
      have hjz : j ≠ z := fun e => by
        have e1 := hz listed (e ▸ hj) (fun e2 => hji (e.trans e2.symm))
        have e2 := (mem_ready.1 hr).1
        rcases Nat.lt_or_ge i listed.size with h' | h'
        · simp [h'] at e1 e2; rw [e2] at e1; cases e1
        · simp [Array.getElem?_eq_none h'] at e1
      exact ⟨h5, ih (listed.setIfInBounds j true) a' w' (h5 hjz) hfree' hri h4 h6⟩
theorem readsZ_any {l : List Oper} (hwz : waitsAll .any l z = true) (hs : Region.noSelect l.toArray = true) (hQ : ∀ c (a : Act) d v w, Q (.panic c) (a.put d v) w → Q (.panic c) a w) (w : World) (hC : C w) (K : Act → Prop) (m : Nat) : ∀ (fs : List Nat) (L : Array Bool) (a : Act), firstB l.toArray fs L = true →
    (∀ a, K a → wpAnyZ P .any l.toArray z C Q m (setAll L fs) a w) → wpReads P C K (pickL l fs) a → wpAnyZ P .any l.toArray z C Q (fs.length + m) L a w
  | [], L, a, hB, hK, h => by simpa [setAll] using hK a h
  | i :: fs, L, a, hB, hK, h => by
    simp only [firstB, Bool.and_eq_true] at hB
    obtain ⟨⟨⟨h1, h2⟩, h3⟩, h4⟩ := hB
    split at h3
    · rename_i o ho
      have hp : pickL l (i :: fs) = o :: pickL l fs := by
        show nthL l i ++ _ = _
        rw [nth_some (by simpa using ho)]; rfl
      rw [hp] at h
      obtain ⟨v, hv, h5⟩ := h
      have e : (i :: fs).length + m = (fs.length + m) + 1 := by simp; omega
      rw [e]
      refine anyZ_first ho (fun L hL hn => waitsAll_spec hwz hL (bk64) hn) (Region.noSelect_spec hs) (fun c a w h => hQ c a _ _ w h) _ L a w hC (Region.free_spec ho h1) (by simpa using h2) (v := v) (.inl ⟨?_, hv⟩) (readsZ_any hwz hs hQ w hC K m fs _ _ h4 (fun a h => by simpa [setAll] using hK a h) h5)
      unfold Region.wanted
      rw [Option.isNone_iff_eq_none.1 h3]
    · cases h3
end
section
variable {P : Program} {Q : Exit → Act → World → Prop} {C : World → Prop} {l : List Oper} {L : Array Bool} {f : Nat} {a : Act} {w : World} {z : Nat}
theorem op_of_listZ {o : Oper} {i : Nat} {ops : Array Oper} {K : Act → World → Prop} (hi : ops[i]? = some o) (h : wpList P ops (chainQ C K Q) [o] a w) : wpOp P ops Q i (fun a' w' => (i ≠ z → C w') ∧ K a' w') a w :=
  wpOp_mono (fun a w h' => ⟨fun _ => h'.1, h'.2⟩) (op_of_list hi h)
theorem treeZ_last (i : Nat) (hz : i = z) (hr : (Region.ready .any l.toArray L == [i]) = true) (hi : (l[i]?).isSome = true) (h : wpList P l.toArray (chainQ (fun _ => True) (wpAnyZ P .any l.toArray z C Q f (L.setIfInBounds i true)) Q) (nthL l i) a w) : wpAnyZ P .any l.toArray z C Q (f + 1) L a w := by
  rw [beq_iff_eq] at hr
  obtain ⟨o, ho, e⟩ := nth_of hi
  rw [e] at h
  refine ⟨fun h0 => (by rw [h0] at hr; cases hr), fun j hj => ?_⟩
  rw [hr] at hj
  simp only [List.mem_singleton] at hj
  subst hj
  exact wpOp_mono (fun a w h' => ⟨fun hn => absurd hz hn, h'.2⟩) (op_of_list (by simpa using ho) h)
theorem treeZ_end (hr : (Region.ready .any l.toArray L).isEmpty = true) (h : Q .normal a w) : wpAnyZ P .any l.toArray z C Q 0 L a w := ⟨by simpa using hr, h⟩
theorem treeZ_one (i : Nat) (hr : (Region.ready .any l.toArray L == [i]) = true) (hi : (l[i]?).isSome = true) (h : wpList P l.toArray (chainQ C (wpAnyZ P .any l.toArray z C Q f (L.setIfInBounds i true)) Q) (nthL l i) a w) : wpAnyZ P .any l.toArray z C Q (f + 1) L a w := by
  rw [beq_iff_eq] at hr
  obtain ⟨o, ho, e⟩ := nth_of hi
  rw [e] at h
  refine ⟨fun h0 => (by rw [h0] at hr; cases hr), fun j hj => ?_⟩
  rw [hr] at hj
  simp only [List.mem_singleton] at hj
  subst hj
  exact op_of_listZ (by simpa using ho) h
theorem treeZ_two (i k : Nat) (hr : (Region.ready .any l.toArray L == [i, k]) = true) (hi : (l[i]?).isSome = true) (hk : (l[k]?).isSome = true) (h : wpList P l.toArray (chainQ C (wpAnyZ P .any l.toArray z C Q f (L.setIfInBounds i true)) Q) (nthL l i) a w)
    (h' : wpList P l.toArray (chainQ C (wpAnyZ P .any l.toArray z C Q f (L.setIfInBounds k true)) Q) (nthL l k) a w) : wpAnyZ P .any l.toArray z C Q (f + 1) L a w := by
  rw [beq_iff_eq] at hr
  obtain ⟨o, ho, e⟩ := nth_of hi
  obtain ⟨o', ho', e'⟩ := nth_of hk
  rw [e] at h
  rw [e'] at h'
  refine ⟨fun h0 => (by rw [h0] at hr; cases hr), fun j hj => ?_⟩
  rw [hr] at hj
  simp only [List.mem_cons, List.not_mem_nil, or_false] at hj
  rcases hj with rfl | rfl
  · exact op_of_listZ (by simpa using ho) h
  · exact op_of_listZ (by simpa using ho') h'
theorem treeZ_three (i k j : Nat) (hr : (Region.ready .any l.toArray L == [i, k, j]) = true) (hi : (l[i]?).isSome = true) (hk : (l[k]?).isSome = true) (hj : (l[j]?).isSome = true) (h : wpList P l.toArray (chainQ C (wpAnyZ P .any l.toArray z C Q f (L.setIfInBounds i true)) Q) (nthL l i) a w)
    (h' : wpList P l.toArray (chainQ C (wpAnyZ P .any l.toArray z C Q f (L.setIfInBounds k true)) Q) (nthL l k) a w)
    (h'' : wpList P l.toArray (chainQ C (wpAnyZ P .any l.toArray z C Q f (L.setIfInBounds j true)) Q) (nthL l j) a w) : wpAnyZ P .any l.toArray z C Q (f + 1) L a w := by
  rw [beq_iff_eq] at hr
  obtain ⟨o, ho, e⟩ := nth_of hi
  obtain ⟨o', ho', e'⟩ := nth_of hk
  obtain ⟨o'', ho'', e''⟩ := nth_of hj
  rw [e] at h
  rw [e'] at h'
  rw [e''] at h''
  refine ⟨fun h0 => (by rw [h0] at hr; cases hr), fun m hm => ?_⟩
  rw [hr] at hm
  simp only [List.mem_cons, List.not_mem_nil, or_false] at hm
  rcases hm with rfl | rfl | rfl
  · exact op_of_listZ (by simpa using ho) h
  · exact op_of_listZ (by simpa using ho') h'
  · exact op_of_listZ (by simpa using ho'') h''
/-- Reads that are ready may come first, at any place. -/
theorem treeZ_reads (hwz : waitsAll .any l z = true) (fs : List Nat) (f : Nat) {m : Nat} (he : fs.length + f = m) (hB : (Region.noSelect l.toArray && firstB l.toArray fs L) = true) (hQ : ∀ c (a : Act) d v w, Q (.panic c) (a.put d v) w → Q (.panic c) a w) (hC : C w)
    (h : wpReads P C (fun a' => wpAnyZ P .any l.toArray z C Q f (setAll L fs) a' w) (pickL l fs) a) : wpAnyZ P .any l.toArray z C Q m L a w := by
  subst he
  simp only [Bool.and_eq_true] at hB
  exact readsZ_any hwz hB.1 hQ w hC _ f fs L a hB.2 (fun a h => h) h
/-- THE LAW. -/
theorem region_treeZ {id : Nat} (z : Nat) (hwz : waitsAll .any l z = true) (C : World → Prop) (fs : List Nat) (n : Nat) (hm : P.follows .mixedOrders = true) (hB : (Region.noSelect l.toArray && firstB l.toArray fs (Array.replicate l.length false) && decide (fs.length + n = l.length)) = true) (hQ : ∀ c (a : Act) d v w, Q (.panic c) (a.put d v) w → Q (.panic c) a w) (hC : C w.drew)
    (h : wpReads P C (fun a' => wpAnyZ P .any l.toArray z C Q n (setAll (Array.replicate l.length false) fs) a' w.drew) (pickL l fs) a) : (Code.region id l.toArray true).wp P Q a w := by
  simp only [Bool.and_eq_true, decide_eq_true_eq] at hB
  obtain ⟨⟨hs, hf⟩, hlen⟩ := hB
  refine wp_region_any hm (any_of_Z (z := z) (C := C) _ _ _ _ ?_)
  have key := readsZ_any (z := z) (P := P) (Q := Q) (l := l) hwz hs hQ w.drew hC _ n fs (Array.replicate l.length false) a hf (fun a h => h) h
  rw [hlen] at key
  simpa using key
end
end
section
open Go.RowKit
attribute [local go_sem ↓] exec_load_101 exec_store_101 exec_load_103 exec_store_103 exec_load_75 exec_store_75
attribute [local go_sem] run_load101r run_store101i run_load103r run_store103i run_load75r run_store75i lt_up isRng_new rngOf_new isRange_past rangeOf_past isRange_drew rangeOf_drew fits_new fits_past fits_drew setAt_new setAt_past setAt_drew putAt_whole putAt_lit extract_whole extract_lit one_int one_bool one_slice one_ptr ones_lit onesL_nil onesL_cons isRow_new rowOf_new isRow_past rowOf_past isRow_drew rowOf_drew lt2 lt3 lt4 List.take_succ_cons List.take_zero List.drop_succ_cons List.drop_zero List.cons_append List.nil_append List.length_cons List.length_nil List.size_toArray setRow_new setRow_past own_cell own_frozen own_set own_isRange own_rangeOf own_fits setAt_row sr_sr sr_size sr_row sr_row' sr_isRow sr_isRow' sr_fits' sr_cell' sr_frozen' sr_isRange' sr_rangeOf' sr_isCells isCells_new isCells_past isCells_drew valC_size valC_ones opC_size opC_ones replyC_size srs_isRange srs_rangeOf srs_fits srs_cell srs_frozen
theorem packHands1 {p : Prop} (h : PQ p := by
  have hc := isCells_row hr
  have hM := row_lt hr
  have hne : ¬ (M = w.heap.size) := by omega
  have hen : ¬ (w.heap.size = M) := by omega
  have hM1 : M < w.heap.size + 1 := by omega
  have hM2 : M < w.heap.size + 1 + 1 := by omega
  have hM3 : M < w.heap.size + 1 + 1 + 1 := by omega
  have hM4 : M < w.heap.size + 1 + 1 + 1 + 1 := by omega
  have ne1 : ¬ (w.heap.size + 1 = w.heap.size) := by omega
  have en1 : ¬ (w.heap.size = w.heap.size + 1) := by omega
  have ne2 : ¬ (w.heap.size + 1 + 1 = w.heap.size) := by omega
  have en2 : ¬ (w.heap.size = w.heap.size + 1 + 1) := by omega
  have ne3 : ¬ (w.heap.size + 1 + 1 + 1 = w.heap.size) := by omega
  have en3 : ¬ (w.heap.size = w.heap.size + 1 + 1 + 1) := by omega
  have ne4 : ¬ (w.heap.size + 1 + 1 + 1 + 1 = w.heap.size) := by omega
  have en4 : ¬ (w.heap.size = w.heap.size + 1 + 1 + 1 + 1) := by omega
  exact pq (And.intro hc (And.intro hM (And.intro hne (And.intro hen (And.intro hM1 (And.intro hM2 (And.intro hM3 (And.intro hM4 (And.intro ne1 (And.intro en1 (And.intro ne2 (And.intro en2 (And.intro ne3 (And.intro en3 (And.intro ne4 en4)))))))))))))))) : p := h
theorem packHands2 {p : Prop} (h : PQ p := by
  have bw : Below w.heap.size w WG := bk36
  have hrW : isRow WG M 134 60 = true := by subst hWG; go_simp
  have hCW : rowOf WG M = C := by subst hWG; go_simp
  have bR0 : isRow WG (w.heap.size) 140 1 = true := by subst hWG; go_simp
  have bV0 : rowOf WG (w.heap.size) = #[.pointer (some ⟨M, 0, none⟩)] := by subst hWG; go_simp
  have bC0 := isCells_row bR0
  have bL0 : w.heap.size < WG.heap.size := bk13
  have bn0 : ¬ (w.heap.size = M) := by omega
  have nb0 : ¬ (M = w.heap.size) := by omega
  have bR1 : isRow WG (w.heap.size + 1) 101 3 = true := by subst hWG; go_simp
  exact pq (And.intro bw (And.intro hrW (And.intro hCW (And.intro bR0 (And.intro bV0 (And.intro bC0 (And.intro bL0 (And.intro bn0 (And.intro nb0 bR1)))))))))) : p := h
theorem tailHands1 {p : Prop} (h : p := by
  simp only [nthL]
  go_wp2_with fail
  refine chain_on (bk25) ?_
  refine tree_one 8 (by kernel_rfl) (by kernel_rfl) ?_
  simp only [nthL]
  refine app75o rfl (.tmp 62) (.tmp 65) rfl W2.heap.size _ [] [#[.bool false, .int .u64 0, .int .u64 (loOf c), .int .i64 80, .bool true, .int .i64 (Pm.tOf c), .int .i64 0, .int .i64 (Pm.tOf c), .int .i64 0, .int .i64 0]] rfl (Own.nil _ _ _ _) _ _ _ rfl ((sl_one W2 (#[.bool false, .int .u64 0, .int .u64 (loOf c), .int .i64 80, .bool true, .int .i64 (Pm.tOf c), .int .i64 0, .int .i64 (Pm.tOf c), .int .i64 0, .int .i64 0]) 75 10 _ rfl rfl rfl).same (Nat.le_refl _) (fun _ _ _ => rfl)) (by simp) (by show _ ≤ (World.alloc _ _).heap.size; rw [World.size_alloc]; omega) ?_
  intro v7 w7 hown hbel hsame hsz7
  have hsb : Below W2.heap.size W2 w7 := (((Below.refl W2.heap.size W2).alloc (Nat.le_refl _) _).drew).trans hbel
  have hU7 := Lib.hid (Upto.of_below (T := M) hsb)
  have HO7 := Lib.hid (show Own w7 W2.heap.size 75 10 v7 [#[.bool false, .int .u64 0, .int .u64 (loOf c), .int .i64 80, .bool true, .int .i64 (Pm.tOf c), .int .i64 0, .int .i64 (Pm.tOf c), .int .i64 0, .int .i64 0]] from hown)
  obtain ⟨a7, c7, ev, -⟩ := hown.sl
  subst ev
  have hr7 : isRow w7 M 134 60 = true := ((alike hsb).1 _ _ _ hMW2).trans hrW2
  have hC7 : rowOf w7 M = C := ((alike hsb).2.1 _ hMW2).trans hCW2
  have hc7 := isCells_row hr7
  have hs7 := hsb.size
  clear hown hbel hsame
  go_wp2
  refine chain_on (bk25) ?_
  refine tree_reads [9, 10] 1 rfl (by kernel_rfl) (fun _ _ d _ _ h => by cases d <;> exact h) (bk25) ?_
  simp only [PL]
  apply reads_op
  · exact bk3
  try simp only [PT]
  apply reads_op
  · exact bk3
  try simp only [PT]
  refine reads_nil ?_
  refine tree_one 11 (by kernel_rfl) (by kernel_rfl) ?_
  simp only [nthL]
  go_wp2_with fail
  refine chain_on (bk25) ?_
  refine tree_end (by kernel_rfl) ?_
  go_wp2
  first | go_end0 | refine bodyPost_ret (results_none rfl _ _ _) rfl ?_
  refine ⟨.slice a7 1 c7, rfl, (Upto.of_below bw2).trans (by first | exact hU7.out.set _ _ | (go_simp; exact upto_own hU7.out _)), by first | (go_simp; done) | (go_simp; exact (at_row hr7 hC7 _ _).1), by first | (go_simp; done) | (go_simp; exact (at_row hr7 hC7 _ _).2), ?_⟩
  first | exact (HO7.out.upto ((Upto.refl M w7).set _ _) hMW2).weaken bw2.size | (go_simp; exact (HO7.out.upto (upto_own (Upto.refl M w7) _) hMW2).weaken bw2.size)) : p := h
theorem tailHands2 {p : Prop} (h : p := by
  refine bodyPost_ret (v := .agg (#[.int .i64 n, .bool false, .int .u64 0, .int .u64 0, .int .i64 0, .bool false, .int .i64 0, .int .i64 0, .int .i64 0, .int .i64 0, .int .i64 0, .slice none 0 0, .slice none 0 0])) (res_row (t := 103) Tryz.results378 _ _ _ rfl ?_ ?_ info103 agg103) rfl ?_
  · go_simp
  · go_simp
  exact ⟨rfl, bk0⟩) : p := h
theorem info140 : (Tryz.prog.info? 140).map (·.size) = some 1 := by kernel_rfl
theorem agg140 (w : World) : (isAgg 140).run Tryz.prog w = .ok true w := by unfold isAgg; rw [Sem.run_bind, run_underlying Tryz.underlying140 w]; rfl
def load140 (v : Value) : Sem Next := do pure (.value (← Instr.loadAt 140 v))
theorem exec_load_140 (ρ : Operand → Value) (dst : Option Tmp) (x : Operand) (ty : TypeId) (pos : String) (after : Array Edge) (guard : Option (Nat × Bool)) :
    execOp ρ { dst, op := .load 140 x, type := ty, pos, after, guard } = load140 (ρ x) := rfl
theorem run_load140 {W : World} {g : Nat} (h : isRow W g 140 1 = true) : (load140 (.pointer (some ⟨g, 0, none⟩))).run Tryz.prog W = .ok (.value (.agg (rowOf W g))) W := by
  simp only [load140, Instr.loadAt, Instr.sureAddr, Sem.run_bind, Sem.run_pure, Result.andThen_ok, run_loadVar_row W g 140 140 _ (0, 0) _ (row_heap h).1 Tryz.underlying140 rfl (by rw [(row_heap h).2]; exact info140)]
theorem run_load140r {W : World} {p : Addr} (h : isRange W p 1 = true) : (load140 (.pointer (some p))).run Tryz.prog W = .ok (.value (.agg (rangeOf W p 1))) W := by
  simp only [load140, Instr.loadAt, Instr.sureAddr, Sem.run_bind, Sem.run_pure, Result.andThen_ok, load_range info140 Tryz.underlying140 rfl h]
def store140 (a v : Value) : Sem Next := do Instr.storeAt 140 a v; pure .skip
theorem exec_store_140 (ρ : Operand → Value) (dst : Option Tmp) (x y : Operand) (ty : TypeId) (pos : String) (after : Array Edge) (guard : Option (Nat × Bool)) :
    execOp ρ { dst, op := .store 140 x y, type := ty, pos, after, guard } = store140 (ρ x) (ρ y) := rfl
theorem run_store140 {W : World} {g : Nat} {C : Array Value} (h : isRow W g 140 1 = true) (hn : C.size = 1) (h1 : ones C = true) : (store140 (.pointer (some ⟨g, 0, none⟩)) (.agg C)).run Tryz.prog W = .ok .skip (W.setRow g C) := by
  obtain ⟨h2, h3⟩ := row_heap h
  simp only [store140, Instr.storeAt, Instr.sureAddr, Sem.run_bind, Sem.run_pure, Result.andThen_ok, run_storeVar_row W g 140 140 _ C h2 (by rw [hn]; exact info140) (by rw [h3, hn]) (ones_all h1)]
theorem run_store140i {W : World} {g o : Nat} {C : Array Value} (h : fitsAt W g o 1 = true) (hn : C.size = 1) (h1 : ones C = true) : (store140 (.pointer (some ⟨g, o, none⟩)) (.agg C)).run Tryz.prog W = .ok .skip (setAt W g o C) := by
  simp only [store140, Instr.storeAt, Instr.sureAddr, Sem.run_bind, Sem.run_pure, Result.andThen_ok, run_store_at 140 1 info140 h hn h1]
attribute [local go_sem ↓] exec_load_140 exec_store_140
attribute [local go_sem] run_load140r run_store140i
theorem drew_sizeH (w : World) : w.drew.heap.size = w.heap.size := id rfl
attribute [local go_sem high] drew_sizeH
attribute [local simp high] drew_sizeH
theorem hmeth_Drop (a : Addr) (w : World) : (method 586 140 (.agg #[.pointer (some a)]) "Drop").run Tryz.prog w = .ok (376, .agg #[.pointer (some a)]) w := by kernel_rfl
theorem hahead_Drop (a : Addr) (w : World) : (nilAhead 586 140 (.agg #[.pointer (some a)]) "Drop").run Tryz.prog w = .ok (some false) w := by kernel_rfl
theorem hmeth_Free (a : Addr) (w : World) : (method 586 140 (.agg #[.pointer (some a)]) "Free").run Tryz.prog w = .ok (377, .agg #[.pointer (some a)]) w := by kernel_rfl
theorem hahead_Free (a : Addr) (w : World) : (nilAhead 586 140 (.agg #[.pointer (some a)]) "Free").run Tryz.prog w = .ok (some false) w := by kernel_rfl
theorem hmeth_Load (a : Addr) (w : World) : (method 586 140 (.agg #[.pointer (some a)]) "Load").run Tryz.prog w = .ok (378, .agg #[.pointer (some a)]) w := by kernel_rfl
theorem hahead_Load (a : Addr) (w : World) : (nilAhead 586 140 (.agg #[.pointer (some a)]) "Load").run Tryz.prog w = .ok (some false) w := by kernel_rfl
theorem hmeth_Lock (a : Addr) (w : World) : (method 586 140 (.agg #[.pointer (some a)]) "Lock").run Tryz.prog w = .ok (379, .agg #[.pointer (some a)]) w := by kernel_rfl
theorem hahead_Lock (a : Addr) (w : World) : (nilAhead 586 140 (.agg #[.pointer (some a)]) "Lock").run Tryz.prog w = .ok (some false) w := by kernel_rfl
theorem hmeth_Share (a : Addr) (w : World) : (method 586 140 (.agg #[.pointer (some a)]) "Share").run Tryz.prog w = .ok (381, .agg #[.pointer (some a)]) w := by kernel_rfl
theorem hahead_Share (a : Addr) (w : World) : (nilAhead 586 140 (.agg #[.pointer (some a)]) "Share").run Tryz.prog w = .ok (some false) w := by kernel_rfl
theorem hmeth_Store (a : Addr) (w : World) : (method 586 140 (.agg #[.pointer (some a)]) "Store").run Tryz.prog w = .ok (382, .agg #[.pointer (some a)]) w := by kernel_rfl
theorem hahead_Store (a : Addr) (w : World) : (nilAhead 586 140 (.agg #[.pointer (some a)]) "Store").run Tryz.prog w = .ok (some false) w := by kernel_rfl
theorem hmeth_Swap (a : Addr) (w : World) : (method 586 140 (.agg #[.pointer (some a)]) "Swap").run Tryz.prog w = .ok (383, .agg #[.pointer (some a)]) w := by kernel_rfl
theorem hahead_Swap (a : Addr) (w : World) : (nilAhead 586 140 (.agg #[.pointer (some a)]) "Swap").run Tryz.prog w = .ok (some false) w := by kernel_rfl
/-- A manager's cells turn. -/
def Hands (M : Nat) (C : Array Value) (v : Value) (w : World) (e : Ending) (w' : World) : Prop := e = .returned v ∧ Upto M w w' ∧ isRow w' M 134 60 = true ∧ rowOf w' M = C
theorem at_set {W : World} {M : Nat} {C : Array Value} (hr : isRow W M 134 60 = true) (hC : rowOf W M = C) (i : Nat) (v : Value) : isRow (W.setCell ⟨M, i, none⟩ v) M 134 60 = true ∧ rowOf (W.setCell ⟨M, i, none⟩ v) M = C.setIfInBounds i v := by
  have hc := isCells_row hr
  rw [own_set i v hc, hC]
  exact ⟨sr_isRow _ hr (by rw [Array.size_setIfInBounds, ← hC]; exact (row_heap hr).2), sr_row _ hc⟩
theorem at_row {W : World} {M : Nat} {C : Array Value} (hr : isRow W M 134 60 = true) (hC : rowOf W M = C) (i : Nat) (v : Value) : isRow (W.setRow M (C.setIfInBounds i v)) M 134 60 = true ∧ rowOf (W.setRow M (C.setIfInBounds i v)) M = C.setIfInBounds i v := by
  have hc := isCells_row hr
  exact ⟨sr_isRow _ hr (by rw [Array.size_setIfInBounds, ← hC]; exact (row_heap hr).2), sr_row _ hc⟩
theorem f103_all (v : Pm.Val) (w : World) : True := trivial
theorem h_lock (M : Nat) (C : Array Value)  (h32 : C[32]? = some (.int .i32 0)) (w : World) (hr : isRow w M 134 60 = true) (hC : rowOf w M = C) :
    Calls Tryz.prog 379 #[.agg #[.pointer (some ⟨M, 0, none⟩)], .int .i64 3, .bool false] w (Hands M (C.setIfInBounds 32 (.int .i32 1)) (.tuple #[]) w) := by
  obtain ⟨hc, hM, hne, hen, hM1, hM2, hM3, hM4, ne1, en1, ne2, en2, ne3, en3, ne4, en4⟩ := packHands1
  go_enter Tryz.func379, Tryz.ntmps379
  go_wp2_with (go_at_call 390; refine (lock2_law M 32 _ (by go_simp) (by go_simp)).mono ?_; rintro e w' ⟨rfl, rfl⟩)
  first | go_end0 | refine bodyPost_ret (results_none rfl _ _ _) rfl ?_
  exact ⟨rfl, bk53, bk54, bk55⟩
theorem h_free (M : Nat) (b : Bool) (C : Array Value)  (h32 : C[32]? = some (.int .i32 1)) (w : World) (hr : isRow w M 134 60 = true) (hC : rowOf w M = C) :
    Calls Tryz.prog 377 #[.agg #[.pointer (some ⟨M, 0, none⟩)], .int .i64 3, .bool b] w (Hands M (C.setIfInBounds 32 (.int .i32 0)) (.tuple #[]) w) := by
  obtain ⟨hc, hM, hne, hen, hM1, hM2, hM3, hM4, ne1, en1, ne2, en2, ne3, en3, ne4, en4⟩ := packHands1
  go_enter Tryz.func377, Tryz.ntmps377
  go_wp2_with (go_at_call 386; refine (unlock2_law M 32 _ (by go_simp) (by go_simp)).mono ?_; rintro e w' ⟨rfl, rfl⟩)
  first | go_end0 | refine bodyPost_ret (results_none rfl _ _ _) rfl ?_
  exact ⟨rfl, bk53, bk54, bk55⟩
theorem h_share (M : Nat) (C : Array Value) (x18 : Value) (x20 : Value) (x21 : Value) (h18 : C[18]? = some (x18)) (h20 : C[20]? = some (x20)) (h21 : C[21]? = some (x21)) (h22 : C[22]? = some (.int .i32 0)) (w : World) (hr : isRow w M 134 60 = true) (hC : rowOf w M = C) :
    Calls Tryz.prog 381 #[.agg #[.pointer (some ⟨M, 0, none⟩)], .int .i64 0, .bool false] w (Hands M (C.setIfInBounds 22 (.int .i32 1)) (.tuple #[]) w) := by
  obtain ⟨hc, hM, hne, hen, hM1, hM2, hM3, hM4, ne1, en1, ne2, en2, ne3, en3, ne4, en4⟩ := packHands1
  go_enter Tryz.func381, Tryz.ntmps381
  go_wp2_with (go_at_call 391; refine (rlock_law M 18 x18 x20 x21 _ (by go_simp) (by go_simp) (by go_simp) (by go_simp) (by go_simp)).mono ?_; rintro e w' ⟨rfl, rfl⟩)
  first | go_end0 | refine bodyPost_ret (results_none rfl _ _ _) rfl ?_
  exact ⟨rfl, bk53, bk54, bk55⟩
theorem h_drop (M : Nat) (C : Array Value) (x18 : Value) (x20 : Value) (x21 : Value) (h18 : C[18]? = some (x18)) (h20 : C[20]? = some (x20)) (h21 : C[21]? = some (x21)) (h22 : C[22]? = some (.int .i32 1)) (w : World) (hr : isRow w M 134 60 = true) (hC : rowOf w M = C) :
    Calls Tryz.prog 376 #[.agg #[.pointer (some ⟨M, 0, none⟩)], .int .i64 0, .bool false] w (Hands M (C.setIfInBounds 22 (.int .i32 0)) (.tuple #[]) w) := by
  obtain ⟨hc, hM, hne, hen, hM1, hM2, hM3, hM4, ne1, en1, ne2, en2, ne3, en3, ne4, en4⟩ := packHands1
  go_enter Tryz.func376, Tryz.ntmps376
  go_wp2_with (go_at_call 384; refine (runlock_law M 18 x18 x20 x21 _ (by go_simp) (by go_simp) (by go_simp) (by go_simp) (by go_simp)).mono ?_; rintro e w' ⟨rfl, rfl⟩)
  first | go_end0 | refine bodyPost_ret (results_none rfl _ _ _) rfl ?_
  exact ⟨rfl, bk53, bk54, bk55⟩
theorem h_counter (M : Nat) (C : Array Value) (w : World) (hr : isRow w M 134 60 = true) (hC : rowOf w M = C) :
    Calls Tryz.prog 387 #[.agg #[.pointer (some ⟨M, 0, none⟩)], .agg #[.int .i64 1, .int .i64 0, .int .i64 0]] w fun e w' => e = .returned (.pointer (some ⟨M, 16, none⟩)) ∧ Below w.heap.size w w' := by
  obtain ⟨hc, hM, hne, hen, hM1, hM2, hM3, hM4, ne1, en1, ne2, en2, ne3, en3, ne4, en4⟩ := packHands1
  go_enter Tryz.func387, Tryz.ntmps387
  go_wp2
  go_ret
  exact ⟨rfl, bk5⟩
theorem h_load_in (M : Nat) (C : Array Value) (n : Int) (h16 : C[16]? = some (.int .i64 n)) (w : World) (hr : isRow w M 134 60 = true) (hC : rowOf w M = C) :
    Calls Tryz.prog 378 #[.agg #[.pointer (some ⟨M, 0, none⟩)], .agg #[.int .i64 1, .int .i64 0, .int .i64 0], .bool false] w fun e w' => e = .returned (.agg (#[.int .i64 n, .bool false, .int .u64 0, .int .u64 0, .int .i64 0, .bool false, .int .i64 0, .int .i64 0, .int .i64 0, .int .i64 0, .int .i64 0, .slice none 0 0, .slice none 0 0])) ∧ Below w.heap.size w w' := by
  obtain ⟨hc, hM, hne, hen, hM1, hM2, hM3, hM4, ne1, en1, ne2, en2, ne3, en3, ne4, en4⟩ := packHands1
  go_enter Tryz.func378, Tryz.ntmps378
  go_wp2_with (first | (go_at_call 387; refine (h_counter M C _ (by go_simp) (by go_simp)).mono ?_; rintro e w1 ⟨rfl, hb⟩; have hk := Keep.mk hb; have xx := alk hk.out; (try have zz := zs w.heap.size w1.heap.size); clear hb) | (go_at_call 388; refine (i64_load M 16 n _ (by go_simp)).mono ?_; rintro e w' ⟨rfl, rfl⟩))
  exact tailHands2
theorem h_load_bans (M : Nat) (C : Array Value) (h24 : C[24]? = some (.slice none 0 0)) (w : World) (hr : isRow w M 134 60 = true) (hC : rowOf w M = C) :
    Calls Tryz.prog 378 #[.agg #[.pointer (some ⟨M, 0, none⟩)], .agg #[.int .i64 3, .int .i64 0, .int .i64 0], .bool false] w fun e w' => e = .returned (.agg (#[.int .i64 0, .bool false, .int .u64 0, .int .u64 0, .int .i64 0, .bool false, .int .i64 0, .int .i64 0, .int .i64 0, .int .i64 0, .int .i64 0, .slice none 0 0, .slice none 0 0])) ∧ Below w.heap.size w w' := by
  obtain ⟨hc, hM, hne, hen, hM1, hM2, hM3, hM4, ne1, en1, ne2, en2, ne3, en3, ne4, en4⟩ := packHands1
  go_enter Tryz.func378, Tryz.ntmps378
  go_wp2
  refine bodyPost_ret (v := .agg (#[.int .i64 0, .bool false, .int .u64 0, .int .u64 0, .int .i64 0, .bool false, .int .i64 0, .int .i64 0, .int .i64 0, .int .i64 0, .int .i64 0, .slice none 0 0, .slice none 0 0])) (res_row (t := 103) Tryz.results378 _ _ _ rfl ?_ ?_ info103 agg103) rfl ?_
  · go_simp
  · go_simp
  exact ⟨rfl, bk0⟩
theorem h_load_size (M : Nat) (C : Array Value) (n : Int) (h34 : C[34]? = some (.int .i64 n)) (w : World) (hr : isRow w M 134 60 = true) (hC : rowOf w M = C) :
    Calls Tryz.prog 378 #[.agg #[.pointer (some ⟨M, 0, none⟩)], .agg #[.int .i64 5, .int .i64 1, .int .i64 0], .bool false] w fun e w' => e = .returned (.agg (#[.int .i64 n, .bool false, .int .u64 0, .int .u64 0, .int .i64 0, .bool false, .int .i64 0, .int .i64 0, .int .i64 0, .int .i64 0, .int .i64 0, .slice none 0 0, .slice none 0 0])) ∧ Below w.heap.size w w' := by
  obtain ⟨hc, hM, hne, hen, hM1, hM2, hM3, hM4, ne1, en1, ne2, en2, ne3, en3, ne4, en4⟩ := packHands1
  go_enter Tryz.func378, Tryz.ntmps378
  go_wp2
  refine region_treeZ 11 (by kernel_rfl) (Keep (((w.alloc (.cells #[.pointer (some ⟨M, 0, none⟩)] 140)).alloc (.cells (#[.int .i64 5, .int .i64 1, .int .i64 0]) 101)).alloc (.cells (#[.int .i64 0, .bool false, .int .u64 0, .int .u64 0, .int .i64 0, .bool false, .int .i64 0, .int .i64 0, .int .i64 0, .int .i64 0, .int .i64 0, .slice none 0 0, .slice none 0 0]) 103))) [0, 1, 2, 3, 4, 5, 6, 7, 8, 9, 10] 1 (by kernel_rfl) (by kernel_rfl) (fun _ _ d _ _ h => by cases d <;> exact h) ⟨(Below.refl _ _).drew⟩ ?_
  simp only [PL]
  apply reads_op
  · exact bk2
  try simp only [PT]
  apply reads_op
  · exact bk2
  try simp only [PT]
  apply reads_op
  · exact bk2
  try simp only [PT]
  apply reads_op
  · exact bk2
  try simp only [PT]
  apply reads_op
  · exact bk2
  try simp only [PT]
  apply reads_op
  · exact bk2
  try simp only [PT]
  apply reads_op
  · exact bk2
  try simp only [PT]
  apply reads_op
  · exact bk2
  try simp only [PT]
  apply reads_op
  · exact bk2
  try simp only [PT]
  apply reads_op
  · exact bk2
  try simp only [PT]
  apply reads_op
  · exact bk2
  try simp only [PT]
  refine reads_nil ?_
  refine treeZ_last 11 rfl (by kernel_rfl) (by kernel_rfl) ?_
  simp only [nthL]
  go_wp2_with fail
  refine chain_on trivial ?_
  refine treeZ_end (by kernel_rfl) ?_
  go_wp2
  exact tailHands2
theorem h_swap (M : Nat) (C : Array Value) (n m : Int) (h16 : C[16]? = some (.int .i64 n)) (w : World) (hr : isRow w M 134 60 = true) (hC : rowOf w M = C) :
    Calls Tryz.prog 383 #[.agg #[.pointer (some ⟨M, 0, none⟩)], .agg #[.int .i64 1, .int .i64 0, .int .i64 0], .int .i64 n, .int .i64 m, .bool true] w (Hands M (C.setIfInBounds 16 (.int .i64 m)) (.bool true) w) := by
  obtain ⟨hc, hM, hne, hen, hM1, hM2, hM3, hM4, ne1, en1, ne2, en2, ne3, en3, ne4, en4⟩ := packHands1
  go_enter Tryz.func383, Tryz.ntmps383
  go_wp2_with (first | (go_at_call 387; refine (h_counter M C _ (by go_simp) (by go_simp)).mono ?_; rintro e w1 ⟨rfl, hb⟩; have hk := Keep.mk hb; have xx := alk hk.out; (try have zz := zs w.heap.size w1.heap.size); clear hb) | (go_at_call 392; refine (i64_cas M 16 n m _ (by go_simp) (by go_simp)).mono ?_; rintro e w' ⟨rfl, rfl⟩))
  go_ret
  have hr1 : isRow w1 M 134 60 = true := by go_simp
  have hC1 : rowOf w1 M = C := by go_simp
  have hU1 : Upto M w w1 := (Upto.of_below (bk0))
  exact ⟨rfl, by first | exact hU1.set _ _ | (go_simp; exact upto_own hU1 _), by first | (go_simp; done) | (go_simp; exact (at_row hr1 hC1 _ _).1), by first | (go_simp; done) | (go_simp; exact (at_row hr1 hC1 _ _).2)⟩
theorem h_store_size (M : Nat) (C : Array Value) (n : Int) (x34 : Value) (h34 : C[34]? = some x34) (w : World) (hr : isRow w M 134 60 = true) (hC : rowOf w M = C) :
    Calls Tryz.prog 382 #[.agg #[.pointer (some ⟨M, 0, none⟩)], .agg #[.int .i64 5, .int .i64 1, .int .i64 0], .agg (#[.int .i64 n, .bool false, .int .u64 0, .int .u64 0, .int .i64 0, .bool false, .int .i64 0, .int .i64 0, .int .i64 0, .int .i64 0, .int .i64 0, .slice none 0 0, .slice none 0 0]), .bool false] w (Hands M (C.setIfInBounds 34 (.int .i64 n)) (.tuple #[]) w) := by
  obtain ⟨hc, hM, hne, hen, hM1, hM2, hM3, hM4, ne1, en1, ne2, en2, ne3, en3, ne4, en4⟩ := packHands1
  go_enter Tryz.func382, Tryz.ntmps382
  go_wp2_with fail
  obtain ⟨WG, hWG⟩ : ∃ W, ((w.alloc (.cells #[.pointer (some ⟨M, 0, none⟩)] 140)).alloc (.cells (#[.int .i64 5, .int .i64 1, .int .i64 0]) 101)).alloc (.cells (#[.int .i64 n, .bool false, .int .u64 0, .int .u64 0, .int .i64 0, .bool false, .int .i64 0, .int .i64 0, .int .i64 0, .int .i64 0, .int .i64 0, .slice none 0 0, .slice none 0 0]) 103) = W := ⟨_, rfl⟩
  obtain ⟨bw, hrW, hCW, bR0, bV0, bC0, bL0, bn0, nb0, bR1⟩ := packHands2
  have bV1 : rowOf WG (w.heap.size + 1) = #[.int .i64 5, .int .i64 1, .int .i64 0] := by subst hWG; go_simp
  have bC1 := isCells_row bR1
  have bL1 : w.heap.size + 1 < WG.heap.size := bk13
  have bn1 : ¬ (w.heap.size + 1 = M) := by omega
  have nb1 : ¬ (M = w.heap.size + 1) := by omega
  have bR2 : isRow WG (w.heap.size + 1 + 1) 103 13 = true := by subst hWG; go_simp
  have bV2 : rowOf WG (w.heap.size + 1 + 1) = #[.int .i64 n, .bool false, .int .u64 0, .int .u64 0, .int .i64 0, .bool false, .int .i64 0, .int .i64 0, .int .i64 0, .int .i64 0, .int .i64 0, .slice none 0 0, .slice none 0 0] := by subst hWG; go_simp
  have bC2 := isCells_row bR2
  have bL2 : w.heap.size + 1 + 1 < WG.heap.size := bk13
  have bn2 : ¬ (w.heap.size + 1 + 1 = M) := by omega
  have nb2 : ¬ (M = w.heap.size + 1 + 1) := by omega
  generalize ((w.alloc (.cells #[.pointer (some ⟨M, 0, none⟩)] 140)).alloc (.cells (#[.int .i64 5, .int .i64 1, .int .i64 0]) 101)).alloc (.cells (#[.int .i64 n, .bool false, .int .u64 0, .int .u64 0, .int .i64 0, .bool false, .int .i64 0, .int .i64 0, .int .i64 0, .int .i64 0, .int .i64 0, .slice none 0 0, .slice none 0 0]) 103) = W0 at *
  subst hWG
  have hcW := isCells_row hrW
  have hMW := row_lt hrW
  refine region_tree (Upto M W0) [0, 1, 2, 3, 4, 5, 6, 7, 8, 9, 10] 1 (by kernel_rfl) (by kernel_rfl) (fun _ _ d _ _ h => by cases d <;> exact h) (Upto.refl _ _).drew ?_
  simp only [PL]
  apply reads_op
  · exact bk3
  try simp only [PT]
  apply reads_op
  · exact bk3
  try simp only [PT]
  apply reads_op
  · exact bk3
  try simp only [PT]
  apply reads_op
  · exact bk3
  try simp only [PT]
  apply reads_op
  · exact bk3
  try simp only [PT]
  apply reads_op
  · exact bk3
  try simp only [PT]
  apply reads_op
  · exact bk3
  try simp only [PT]
  apply reads_op
  · exact bk3
  try simp only [PT]
  apply reads_op
  · exact bk3
  try simp only [PT]
  apply reads_op
  · exact bk3
  try simp only [PT]
  apply reads_op
  · exact bk3
  try simp only [PT]
  refine reads_nil ?_
  refine tree_one 11 (by kernel_rfl) (by kernel_rfl) ?_
  simp only [nthL]
  go_wp2_with fail
  refine chain_on (bk25) ?_
  refine tree_end (by kernel_rfl) ?_
  go_wp2
  first | go_end0 | refine bodyPost_ret (results_none rfl _ _ _) rfl ?_
  exact ⟨rfl, (Upto.of_below bw).trans (by first | exact (Upto.refl _ _).drew.set _ _ | (go_simp; exact upto_own (Upto.refl _ _).drew _)), by first | (go_simp; done) | (go_simp; exact (at_row hrW hCW _ _).1), by first | (go_simp; done) | (go_simp; exact (at_row hrW hCW _ _).2)⟩
def HandsSlot (M c : Nat) (C : Array Value) (w : World) (e : Ending) (w' : World) : Prop := ∃ sl, e = .returned (.tuple #[]) ∧ Upto M w w' ∧ isRow w' M 134 60 = true ∧ rowOf w' M = C.setIfInBounds 35 sl ∧ Own w' w.heap.size 75 10 sl [#[.bool false, .int .u64 0, .int .u64 (loOf c), .int .i64 80, .bool true, .int .i64 (Pm.tOf c), .int .i64 0, .int .i64 (Pm.tOf c), .int .i64 0, .int .i64 0]]
theorem h_store_slot (M c : Nat) (C : Array Value) (h35 : C[35]? = some (.slice none 0 0)) (w : World) (hr : isRow w M 134 60 = true) (hC : rowOf w M = C) :
    Calls Tryz.prog 382 #[.agg #[.pointer (some ⟨M, 0, none⟩)], .agg #[.int .i64 6, .int .i64 1, .int .i64 0], .agg (#[.int .i64 0, .bool false, .int .u64 0, .int .u64 (loOf c), .int .i64 80, .bool true, .int .i64 (Pm.tOf c), .int .i64 0, .int .i64 (Pm.tOf c), .int .i64 0, .int .i64 0, .slice none 0 0, .slice none 0 0]), .bool false] w (HandsSlot M c C w) := by
  obtain ⟨hc, hM, hne, hen, hM1, hM2, hM3, hM4, ne1, en1, ne2, en2, ne3, en3, ne4, en4⟩ := packHands1
  go_enter Tryz.func382, Tryz.ntmps382
  go_wp2_with fail
  obtain ⟨WG, hWG⟩ : ∃ W, ((w.alloc (.cells #[.pointer (some ⟨M, 0, none⟩)] 140)).alloc (.cells (#[.int .i64 6, .int .i64 1, .int .i64 0]) 101)).alloc (.cells (#[.int .i64 0, .bool false, .int .u64 0, .int .u64 (loOf c), .int .i64 80, .bool true, .int .i64 (Pm.tOf c), .int .i64 0, .int .i64 (Pm.tOf c), .int .i64 0, .int .i64 0, .slice none 0 0, .slice none 0 0]) 103) = W := ⟨_, rfl⟩
  obtain ⟨bw, hrW, hCW, bR0, bV0, bC0, bL0, bn0, nb0, bR1⟩ := packHands2
  have bV1 : rowOf WG (w.heap.size + 1) = #[.int .i64 6, .int .i64 1, .int .i64 0] := by subst hWG; go_simp
  have bC1 := isCells_row bR1
  have bL1 : w.heap.size + 1 < WG.heap.size := bk13
  have bn1 : ¬ (w.heap.size + 1 = M) := by omega
  have nb1 : ¬ (M = w.heap.size + 1) := by omega
  have bR2 : isRow WG (w.heap.size + 1 + 1) 103 13 = true := by subst hWG; go_simp
  have bV2 : rowOf WG (w.heap.size + 1 + 1) = #[.int .i64 0, .bool false, .int .u64 0, .int .u64 (loOf c), .int .i64 80, .bool true, .int .i64 (Pm.tOf c), .int .i64 0, .int .i64 (Pm.tOf c), .int .i64 0, .int .i64 0, .slice none 0 0, .slice none 0 0] := by subst hWG; go_simp
  have bC2 := isCells_row bR2
  have bL2 : w.heap.size + 1 + 1 < WG.heap.size := bk13
  have bn2 : ¬ (w.heap.size + 1 + 1 = M) := by omega
  have nb2 : ¬ (M = w.heap.size + 1 + 1) := by omega
  generalize ((w.alloc (.cells #[.pointer (some ⟨M, 0, none⟩)] 140)).alloc (.cells (#[.int .i64 6, .int .i64 1, .int .i64 0]) 101)).alloc (.cells (#[.int .i64 0, .bool false, .int .u64 0, .int .u64 (loOf c), .int .i64 80, .bool true, .int .i64 (Pm.tOf c), .int .i64 0, .int .i64 (Pm.tOf c), .int .i64 0, .int .i64 0, .slice none 0 0, .slice none 0 0]) 103) = W0 at *
  subst hWG
  have hcW := isCells_row hrW
  have hMW := row_lt hrW
  refine region_tree (Keep W0) [0, 1, 2, 3, 4, 5, 6, 7, 8] 0 (by kernel_rfl) (by kernel_rfl) (fun _ _ d _ _ h => by cases d <;> exact h) ⟨(Below.refl _ _).drew⟩ ?_
  simp only [PL]
  apply reads_op
  · exact bk2
  try simp only [PT]
  apply reads_op
  · exact bk2
  try simp only [PT]
  apply reads_op
  · exact bk2
  try simp only [PT]
  apply reads_op
  · exact bk2
  try simp only [PT]
  apply reads_op
  · exact bk2
  try simp only [PT]
  apply reads_op
  · exact bk2
  try simp only [PT]
  apply reads_op
  · exact bk2
  try simp only [PT]
  apply reads_op
  · exact bk2
  try simp only [PT]
  apply reads_op
  · exact bk2
  try simp only [PT]
  refine reads_nil ?_
  refine tree_end (by kernel_rfl) ?_
  go_wp2_with fail
  refine region_tree (Keep W0.drew) [0, 1, 2, 3, 4, 5, 6, 7] 0 (by kernel_rfl) (by kernel_rfl) (fun _ _ d _ _ h => by cases d <;> exact h) ⟨(Below.refl _ _).drew⟩ ?_
  simp only [PL]
  apply reads_op
  · exact bk2
  try simp only [PT]
  apply reads_op
  · exact bk2
  try simp only [PT]
  apply reads_op
  · exact bk2
  try simp only [PT]
  apply reads_op
  · exact bk2
  try simp only [PT]
  apply reads_op
  · exact bk2
  try simp only [PT]
  apply reads_op
  · exact bk2
  try simp only [PT]
  apply reads_op
  · exact bk2
  try simp only [PT]
  apply reads_op
  · exact bk2
  try simp only [PT]
  refine reads_nil ?_
  refine tree_end (by kernel_rfl) ?_
  go_wp2_with fail
  obtain ⟨W2, hW2⟩ : ∃ W2, W2 = W0.drew.drew := ⟨_, rfl⟩
  have bw2 : Below w.heap.size w W2 := by rw [hW2]; exact bw.drew.drew
  have hrW2 : isRow W2 M 134 60 = true := by rw [hW2]; exact hrW
  have hCW2 : rowOf W2 M = C := by rw [hW2]; exact hCW
  have hcW2 := isCells_row hrW2
  have hMW2 := row_lt hrW2
  have cR0 : isRow W2 (w.heap.size) 140 1 = true := by rw [hW2]; exact bR0
  have cV0 : rowOf W2 (w.heap.size) = #[.pointer (some ⟨M, 0, none⟩)] := by rw [hW2]; exact bV0
  have cC0 := isCells_row cR0
  have cL0 := row_lt cR0
  have cR1 : isRow W2 (w.heap.size + 1) 101 3 = true := by rw [hW2]; exact bR1
  have cV1 : rowOf W2 (w.heap.size + 1) = #[.int .i64 6, .int .i64 1, .int .i64 0] := by rw [hW2]; exact bV1
  have cC1 := isCells_row cR1
  have cL1 := row_lt cR1
  have cR2 : isRow W2 (w.heap.size + 1 + 1) 103 13 = true := by rw [hW2]; exact bR2
  have cV2 : rowOf W2 (w.heap.size + 1 + 1) = #[.int .i64 0, .bool false, .int .u64 0, .int .u64 (loOf c), .int .i64 80, .bool true, .int .i64 (Pm.tOf c), .int .i64 0, .int .i64 (Pm.tOf c), .int .i64 0, .int .i64 0, .slice none 0 0, .slice none 0 0] := by rw [hW2]; exact bV2
  have cC2 := isCells_row cR2
  have cL2 := row_lt cR2
  rw [← hW2]
  clear hW2 bR0 bV0 bC0 bL0 bR1 bV1 bC1 bL1 bR2 bV2 bC2 bL2 bw hrW hCW hcW hMW
  refine region_tree (Upto M W2) [0, 1, 2, 3, 5, 6] 6 (by kernel_rfl) (by kernel_rfl) (fun _ _ d _ _ h => by cases d <;> exact h) (Upto.refl _ _).drew ?_
  simp only [PL]
  apply reads_op
  · exact bk3
  try simp only [PT]
  apply reads_op
  · exact bk3
  try simp only [PT]
  apply reads_op
  · exact bk3
  try simp only [PT]
  apply reads_op
  · exact bk3
  try simp only [PT]
  apply reads_op
  · exact bk3
  try simp only [PT]
  apply reads_op
  · exact bk3
  try simp only [PT]
  refine reads_nil ?_
  refine tree_two 4 7 (by kernel_rfl) (by kernel_rfl) (by kernel_rfl) ?_ ?_
  · simp only [nthL]
    go_wp2_with fail
    refine chain_on (bk25) ?_
    refine tree_one 7 (by kernel_rfl) (by kernel_rfl) ?_
    exact tailHands1
  · simp only [nthL]
    go_wp2_with fail
    refine chain_on (bk25) ?_
    refine tree_one 4 (by kernel_rfl) (by kernel_rfl) ?_
    exact tailHands1
end
end Go.Proofs.YtnncjbkepakgpaaGreat
