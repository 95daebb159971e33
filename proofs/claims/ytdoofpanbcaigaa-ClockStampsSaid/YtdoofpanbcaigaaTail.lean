/-
  A REGION THAT DRAWS WHOSE LAST OPERATION WAITS FOR ALL THE OTHERS: the others once, over a class of worlds (their callees may make memory); then the last one, which may write.
-/
import Derived.Test.YtdoofpanbcaigaaClass
namespace Go.Proofs.Ytdoofpanbcaigaa
open Go.RowKit

section
variable {P : Program} {C : World → Prop} {Q : Exit → Act → World → Prop} {l : List Oper} {o : Oper}

/-- What the kernel looks at: edges go back; the last one waits for each, and for nothing else; guards are among the others. -/
def lastB (l : List Oper) (o : Oper) : Bool :=
  (List.range l.length).all (fun i => o.after.any fun e => Region.binds .any e && e.on == i) && o.after.all (fun e => !Region.binds .any e || decide (e.on < l.length)) &&
  (List.range l.length).all (fun j => match l[j]? with | some oj => oj.after.all (fun e => !Region.binds .any e || decide (e.on < j)) && (match oj.guard with | some (g, _) => decide (g < l.length) | none => true) | none => false)

theorem head_at {i : Nat} (hi : i < l.length) : (l ++ [o]).toArray[i]? = l.toArray[i]? := by
  simp [List.getElem?_append_left hi]
theorem last_at : (l ++ [o]).toArray[l.length]? = some o := by simp

/-- The two lists of what has come up: the whole region's, and the others'. -/
structure Both (n : Nat) (L L' : Array Bool) : Prop where
  size : L.size = n + 1
  size' : L'.size = n
  same : ∀ j, j < n → L[j]? = L'[j]?
  last : L[n]? = some false

theorem Both.getD {n : Nat} {L L' : Array Bool} (h : Both n L L') {j : Nat} (hj : j < n) (d : Bool) : L.getD j d = L'.getD j d := by
  simp [Array.getD_eq_getD_getElem?, h.same j hj]
theorem Both.far {n : Nat} {L L' : Array Bool} (h : Both n L L') {j : Nat} (hj : n ≤ j) : L.getD j false = L'.getD j false := by
  have e1 : L'[j]? = none := Array.getElem?_eq_none (by rw [h.size']; exact hj)
  by_cases e : j = n
  · subst e; simp [Array.getD_eq_getD_getElem?, h.last, e1]
  · have e2 : L[j]? = none := Array.getElem?_eq_none (by rw [h.size]; omega)
    simp [Array.getD_eq_getD_getElem?, e2, e1]
theorem Both.set {n : Nat} {L L' : Array Bool} (h : Both n L L') {i : Nat} (hi : i < n) : Both n (L.setIfInBounds i true) (L'.setIfInBounds i true) := by
  refine ⟨by simpa using h.size, by simpa using h.size', fun j hj => ?_, ?_⟩
  · simp only [Array.getElem?_setIfInBounds, h.size, h.size']
    by_cases e : i = j
    · subst e; simp [hj, show i < n + 1 by omega]
    · simp [e, h.same j hj]
  · simp only [Array.getElem?_setIfInBounds]
    rw [if_neg (by omega)]; exact h.last

theorem Both.on {n : Nat} {L L' : Array Bool} (h : Both n L L') (j : Nat) : L.getD j false = L'.getD j false := by
  rcases Nat.lt_or_ge j n with h' | h'
  · exact h.getD h' false
  · exact h.far h'
theorem lastB_parts (h : lastB l o = true) : (∀ i, i < l.length → ∃ e ∈ o.after, Region.binds .any e = true ∧ e.on = i) ∧ (∀ e ∈ o.after, Region.binds .any e = true → e.on < l.length) ∧
    ∀ j, j < l.length → ∃ oj, l[j]? = some oj ∧ (∀ e ∈ oj.after, Region.binds .any e = true → e.on < j) ∧ ∀ g b, oj.guard = some (g, b) → g < l.length := by
  unfold lastB at h
  simp only [Bool.and_eq_true, List.all_eq_true, List.mem_range, Array.all_eq_true_iff_forall_mem, Bool.or_eq_true, Bool.not_eq_true', decide_eq_true_eq] at h
  obtain ⟨⟨h1, h2⟩, h3⟩ := h
  refine ⟨fun i hi => ?_, fun e he hb => ?_, fun j hj => ?_⟩
  · obtain ⟨e, he, hb⟩ := Array.any_eq_true'.1 (h1 i hi)
    simp only [Bool.and_eq_true, beq_iff_eq] at hb
    exact ⟨e, he, hb.1, hb.2⟩
  · rcases h2 e he with h' | h'
    · rw [hb] at h'; cases h'
    · exact h'
  · have h4 := h3 j hj
    rw [List.getElem?_eq_getElem hj] at h4 ⊢
    simp only [Bool.and_eq_true, Array.all_eq_true_iff_forall_mem, Bool.or_eq_true, Bool.not_eq_true', decide_eq_true_eq] at h4
    refine ⟨_, rfl, fun e he hb => ?_, fun g b hg => ?_⟩
    · rcases h4.1 e he with h' | h'
      · rw [hb] at h'; cases h'
      · exact h'
    · have h5 := h4.2
      rw [hg] at h5
      simpa using h5

theorem ready_head {L L' : Array Bool} (hb : Both l.length L L') {i : Nat} (hi : i < l.length) : i ∈ Region.ready .any (l ++ [o]).toArray L ↔ i ∈ Region.ready .any l.toArray L' := by
  rw [mem_ready, mem_ready, hb.getD hi, head_at hi]
  constructor
  · rintro ⟨h0, oi, ho, h⟩
    exact ⟨h0, oi, ho, fun e he hbe => by rw [← hb.on]; exact h e he hbe⟩
  · rintro ⟨h0, oi, ho, h⟩
    exact ⟨h0, oi, ho, fun e he hbe => by rw [hb.on]; exact h e he hbe⟩
theorem ready_last {L L' : Array Bool} (hB : lastB l o = true) (hb : Both l.length L L') (h : l.length ∈ Region.ready .any (l ++ [o]).toArray L) : ∀ j, j < l.length → L'.getD j false = true := by
  obtain ⟨_, o', ho, hall⟩ := mem_ready.1 h
  rw [last_at] at ho
  injection ho with ho
  subst ho
  intro j hj
  obtain ⟨e, he, hbe, rfl⟩ := (lastB_parts hB).1 j hj
  rw [← hb.on]; exact hall e he hbe
theorem last_ready {L L' : Array Bool} (hB : lastB l o = true) (hb : Both l.length L L') (h : ∀ j, j < l.length → L'.getD j false = true) : l.length ∈ Region.ready .any (l ++ [o]).toArray L := by
  refine mem_ready.2 ⟨by simp [Array.getD_eq_getD_getElem?, hb.last], o, last_at, fun e he hbe => ?_⟩
  rw [hb.on]; exact h _ ((lastB_parts hB).2.1 e he hbe)
theorem not_ready {L L' : Array Bool} (hb : Both l.length L L') (h : ∀ j, j < l.length → L'.getD j false = true) : Region.ready .any l.toArray L' = [] := by
  refine List.eq_nil_iff_forall_not_mem.2 fun i hi => ?_
  obtain ⟨h0, oi, ho, _⟩ := mem_ready.1 hi
  have hil : i < l.length := by
    have := (Array.getElem?_eq_some_iff.1 ho).1
    simpa using this
  have h1 := h i hil
  have hs : i < L'.size := by rw [hb.size']; exact hil
  simp [hs] at h0 h1
  rw [h0] at h1; cases h1
theorem head_stuck {L L' : Array Bool} (hB : lastB l o = true) (hb : Both l.length L L') (h : Region.ready .any l.toArray L' = []) : ∀ j, j < l.length → L'.getD j false = true := by
  intro j
  induction j using Nat.strongRecOn with
  | _ j ih =>
    intro hj
    cases hv : L'.getD j false with
    | true => rfl
    | false =>
      exfalso
      obtain ⟨oj, ho, hback, _⟩ := (lastB_parts hB).2.2 j hj
      have : j ∈ Region.ready .any l.toArray L' := by
        refine mem_ready.2 ⟨?_, oj, by simpa using ho, fun e he hbe => ih e.on (hback e he hbe) (Nat.lt_trans (hback e he hbe) hj)⟩
        have hs : j < L'.size := by rw [hb.size']; exact hj
        simp [hs] at hv ⊢
        exact hv
      rw [h] at this; cases this
theorem all_done {L L' : Array Bool} (hb : Both l.length L L') (h : ∀ j, j < l.length → L'.getD j false = true) : Region.ready .any (l ++ [o]).toArray (L.setIfInBounds l.length true) = [] := by
  refine List.eq_nil_iff_forall_not_mem.2 fun i hi => ?_
  obtain ⟨h0, oi, ho, _⟩ := mem_ready.1 hi
  have hil : i < l.length + 1 := by
    have := (Array.getElem?_eq_some_iff.1 ho).1
    simpa using this
  by_cases e : i = l.length
  · subst e
    have hs : l.length < L.size := by rw [hb.size]; omega
    simp [hs] at h0
  · rw [getD_set_ne true (fun e' => e e'.symm), hb.getD (by omega)] at h0
    have h1 := h i (by omega)
    have hs : i < L'.size := by rw [hb.size']; omega
    simp [hs] at h0 h1
    rw [h0] at h1; cases h1

theorem qOp_head (hB : lastB l o = true) {i : Nat} (hi : i < l.length) {K : Act → Prop} {a : Act} (h : qOp P l.toArray C i K a) : qOp P (l ++ [o]).toArray C i K a := by
  obtain ⟨oi, ho, _, hg⟩ := (lastB_parts hB).2.2 i hi
  have ho' : l.toArray[i]? = some oi := by simpa using ho
  have hw : Region.wanted oi (yielded (l ++ [o]).toArray a.tmps) = Region.wanted oi (yielded l.toArray a.tmps) := by
    unfold Region.wanted
    split
    · rfl
    · rename_i g b hgb
      unfold yielded
      rw [head_at (hg g b hgb)]
  unfold qOp at *
  rw [head_at hi, ho']
  rw [ho'] at h
  simp only [] at *
  rw [hw]
  exact h

theorem tail_any (hB : lastB l o = true) : ∀ (f : Nat) (L L' : Array Bool) (a : Act) (w : World), Both l.length L L' → C w →
    wpAnyQ P .any l.toArray C (fun a' => ∀ w', C w' → wpOp P (l ++ [o]).toArray Q l.length (Q .normal) a' w') f L' a → wpAny P .any (l ++ [o]).toArray Q (f + 1) L a w := by
  have fin : ∀ (f : Nat) (L L' : Array Bool) (a : Act) (w : World), Both l.length L L' → C w → Region.ready .any l.toArray L' = [] → (∀ w', C w' → wpOp P (l ++ [o]).toArray Q l.length (Q .normal) a w') → wpAny P .any (l ++ [o]).toArray Q (f + 1) L a w := by
    intro f L L' a w hb hC hr hq
    have hall := head_stuck hB hb hr
    refine ⟨fun h0 => ?_, fun i hi => ?_⟩
    · have := last_ready hB hb hall
      rw [h0] at this; cases this
    · obtain ⟨_, oi, ho, _⟩ := mem_ready.1 hi
      have hil : i < l.length + 1 := by
        have := (Array.getElem?_eq_some_iff.1 ho).1
        simpa using this
      by_cases e : i = l.length
      · subst e
        refine wpOp_mono (fun a' w' h' => ?_) (hq w hC)
        have hd := all_done (o := o) hb hall
        cases f with
        | zero => exact ⟨hd, h'⟩
        | succ f => exact ⟨fun _ => h', fun j hj => by rw [hd] at hj; cases hj⟩
      · have := (ready_head (o := o) hb (show i < l.length by omega)).1 hi
        rw [hr] at this; cases this
  intro f
  induction f with
  | zero => intro L L' a w hb hC h; exact fin 0 L L' a w hb hC h.1 h.2
  | succ f ih =>
    intro L L' a w hb hC h
    by_cases hr : Region.ready .any l.toArray L' = []
    · exact fin (f + 1) L L' a w hb hC hr (h.1 hr)
    · refine ⟨fun h0 => ?_, fun i hi => ?_⟩
      · obtain ⟨i, hi⟩ := List.exists_mem_of_ne_nil _ hr
        have hil : i < l.length := by
          obtain ⟨_, oi, ho, _⟩ := mem_ready.1 hi
          have := (Array.getElem?_eq_some_iff.1 ho).1
          simpa using this
        have := (ready_head (o := o) hb hil).2 hi
        rw [h0] at this; cases this
      · obtain ⟨_, oi, ho, _⟩ := mem_ready.1 hi
        have hil : i < l.length + 1 := by
          have := (Array.getElem?_eq_some_iff.1 ho).1
          simpa using this
        by_cases e : i = l.length
        · subst e
          exact absurd (not_ready hb (ready_last hB hb hi)) hr
        · have hil' : i < l.length := by omega
          have hi' := (ready_head (o := o) hb hil').1 hi
          exact wpOp_of_qOp hC (fun a' w' hC' hK => ih _ _ a' w' (hb.set hil') hC' hK) (qOp_head hB hil' (h.2 i hi'))

/-- THE LAW. -/
theorem region_class_last (C : World → Prop) {id : Nat} {a : Act} {w : World} (l : List Oper) (o : Oper) (hm : P.follows .mixedOrders = true) (hL : Region.lexB .any l.toArray = true) (hB : lastB l o = true) (hC : C w.drew)
    (h : wpQuiet P l.toArray C (fun a' => ∀ w', C w' → wpList P (l ++ [o]).toArray Q [o] a' w') l a) : (Code.region id (l ++ [o]).toArray true).wp P Q a w := by
  refine wp_region_any hm ?_
  simp only [Region.lexB, Bool.and_eq_true] at hL
  have h' : wpQuiet P l.toArray C (fun a' => ∀ w', C w' → wpOp P (l ++ [o]).toArray Q l.length (Q .normal) a' w') l a := by
    have e : (fun a' : Act => ∀ w', C w' → wpList P (l ++ [o]).toArray Q [o] a' w') = fun a' : Act => ∀ w', C w' → wpOp P (l ++ [o]).toArray Q l.length (Q .normal) a' w' := by
      funext a'
      apply propext
      refine forall_congr' fun w' => imp_congr_right fun _ => ?_
      unfold wpOp
      rw [last_at]
      rfl
    rw [e] at h; exact h
  have hq := wpAnyQ_lex (md := .any) hL.1 l 0 (Array.replicate l.toArray.size false) a (by simp) (by simpa using hL.2) h'
  have := tail_any (Q := Q) hB l.length (Array.replicate (l ++ [o]).toArray.size false) _ a { w with drawn := w.drawn + 1 } ⟨by simp, by simp, fun j hj => by simp [hj, show j < l.length + 1 by omega], by simp⟩ hC hq
  simpa using this
/-- The same, a region's list written out. -/
theorem region_class_tail (C : World → Prop) {id : Nat} {a : Act} {w : World} (L0 : List Oper) (n : Nat) (o : Oper) (hd : L0.drop n = [o]) (hm : P.follows .mixedOrders = true) (hL : Region.lexB .any (L0.take n).toArray = true)
    (hB : lastB (L0.take n) o = true) (hC : C w.drew) (h : wpQuiet P (L0.take n).toArray C (fun a' => ∀ w', C w' → wpList P L0.toArray Q [o] a' w') (L0.take n) a) : (Code.region id L0.toArray true).wp P Q a w := by
  have e : L0 = L0.take n ++ [o] := by rw [← hd, List.take_append_drop]
  generalize L0.take n = l at *
  subst e
  exact region_class_last C l o hm hL hB hC h
end
end Go.Proofs.Ytdoofpanbcaigaa
