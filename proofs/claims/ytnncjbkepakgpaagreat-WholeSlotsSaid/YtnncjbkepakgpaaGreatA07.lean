/-
  A REGION THAT DRAWS ITS ORDER: first operations that yield in whatever world; then others that leave a class of worlds, in any order; then the last ones, each of which waits for all those, one by one.
  ROWS OF A WORLD THAT IS ONLY A LETTER: what a store into a row leaves; what a call leaves.
  SHORT: what the walks of this proof share: closing steps under names of their own.
-/
import Derived.Test.YtnncjbkepakgpaaGreatA05
import Derived.Deep.Quiet
import Derived.Test.YtnncjbkepakgpaaGreatA06
namespace Go.Proofs.YtnncjbkepakgpaaGreat
set_option linter.unusedVariables false
set_option linter.unusedSimpArgs false
section
open Go.RowKit
section
variable {P : Program} {Q : Exit → Act → World → Prop} {C : World → Prop}
theorem any_more {md : Region.Mode} {ops : Array Oper} : ∀ (k m : Nat) (L : Array Bool) (a : Act) (w : World), wpAny P md ops Q k L a w → wpAny P md ops Q (m + k) L a w
  | 0, 0, _, _, _, h => h
  | 0, m + 1, _, _, _, h => ⟨fun _ => h.2, fun i hi => by rw [h.1] at hi; cases hi⟩
  | k + 1, m, L, a, w, h => ⟨h.1, fun i hi => wpOp_mono (fun a' w' h' => any_more k m _ a' w' h') (h.2 i hi)⟩
/-- The quiet ones, in an order that is laid. -/
def quietB (ops : Array Oper) : List Nat → Array Bool → Bool
  | [], M => (Region.ready .any ops M).isEmpty
  | i :: qs, M => Region.free .any ops M i && (Region.ready .any ops M).contains i && (ops[i]?).isSome && quietB ops qs (M.setIfInBounds i true)
theorem quiet_order {l : List Oper} {K : Act → Prop} (hs : Region.noSelect l.toArray = true) : ∀ (qs : List Nat) (M : Array Bool) (a : Act), quietB l.toArray qs M = true → wpQuiet P l.toArray C K (pickL l qs) a → wpAnyQ P .any l.toArray C K qs.length M a
  | [], M, a, hB, h => by
    simp only [quietB, List.isEmpty_iff] at hB
    exact ⟨hB, h⟩
  | i :: qs, M, a, hB, h => by
    simp only [quietB, Bool.and_eq_true] at hB
    obtain ⟨⟨⟨h1, h2⟩, h3⟩, h4⟩ := hB
    obtain ⟨o, ho⟩ := Option.isSome_iff_exists.1 h3
    have hp : pickL l (i :: qs) = o :: pickL l qs := by
      show nthL l i ++ _ = _
      rw [nth_some (by simpa using ho)]; rfl
    rw [hp] at h
    have hst : qOp P l.toArray C i (wpQuiet P l.toArray C K (pickL l qs)) a := by unfold qOp; simp only [ho]; exact h
    obtain ⟨v, hy, hK⟩ := yieldsIn_of_qOp ho hst
    exact wpAnyQ_first ho (Region.noSelect_spec hs) qs.length M a (Region.free_spec ho h1) (by simpa using h2) hy (quiet_order hs qs _ _ h4 hK)
/-- M is L, the last ones counted as done. -/
structure Rl (n : Nat) (rs : List Nat) (L M : Array Bool) : Prop where
  size : L.size = n
  size' : M.size = n
  same : ∀ j, j ∉ rs → L[j]? = M[j]?
  lo : ∀ j, j ∈ rs → j < n → L[j]? = some false
  hi : ∀ j, j ∈ rs → j < n → M[j]? = some true
theorem Rl.set {n : Nat} {rs : List Nat} {L M : Array Bool} (h : Rl n rs L M) {i : Nat} (hi : i ∉ rs) : Rl n rs (L.setIfInBounds i true) (M.setIfInBounds i true) := by
  refine ⟨by simpa using h.size, by simpa using h.size', fun j hj => ?_, fun j hj hn => ?_, fun j hj hn => ?_⟩
  · simp only [Array.getElem?_setIfInBounds, h.size, h.size', h.same j hj]
  · have : i ≠ j := fun e => hi (e ▸ hj)
    simp only [Array.getElem?_setIfInBounds, this, if_false, h.lo j hj hn]
  · have : i ≠ j := fun e => hi (e ▸ hj)
    simp only [Array.getElem?_setIfInBounds, this, if_false, h.hi j hj hn]
def backB (l : List Oper) (rs : List Nat) : Bool := (List.range l.length).all fun j => rs.contains j || match l[j]? with
  | some o => o.after.all fun e => !Region.binds .any e || (decide (e.on < j) && !rs.contains e.on)
  | none => true
/-- What operation r waits for, through others. -/
def reachB (l : List Oper) : Nat → Nat → Nat → Bool
  | 0, _, _ => false
  | k + 1, r, q => match l[r]? with
    | some o => o.after.any fun e => Region.binds .any e && (e.on == q || reachB l k e.on q)
    | none => false
def waitB (l : List Oper) (qs rs : List Nat) : Bool := rs.all fun r => qs.all fun q => reachB l l.length r q
/-- What is listed waits for what is listed. -/
def Closed (l : List Oper) (L : Array Bool) : Prop := ∀ i o, l[i]? = some o → L.getD i false = true → ∀ e ∈ o.after, Region.binds .any e = true → L.getD e.on false = true
def closedB (l : List Oper) (fs : List Nat) : Bool := fs.all fun i => match l[i]? with
  | some o => o.after.all fun e => !Region.binds .any e || fs.contains e.on
  | none => true
theorem reach_spec {l : List Oper} {L : Array Bool} (hc : Closed l L) : ∀ (k r q : Nat) (o : Oper), l[r]? = some o → (∀ e ∈ o.after, Region.binds .any e = true → L.getD e.on false = true) → reachB l k r q = true → L.getD q false = true
  | 0, _, _, _, _, _, h => by simp [reachB] at h
  | k + 1, r, q, o, ho, hr, h => by
    simp only [reachB, ho] at h
    obtain ⟨e, he, hb⟩ := Array.any_eq_true'.1 h
    simp only [Bool.and_eq_true, Bool.or_eq_true, beq_iff_eq] at hb
    have h1 := hr e he hb.1
    rcases hb.2 with h2 | h2
    · rw [← h2]; exact h1
    · cases hl : l[e.on]? with
      | none =>
        cases k with
        | zero => simp [reachB] at h2
        | succ k => simp only [reachB, hl] at h2; cases h2
      | some o' => exact reach_spec hc k e.on q o' hl (fun e' he' hb' => hc e.on o' hl h1 e' he' hb') h2
theorem closed_set {l : List Oper} {L : Array Bool} (hc : Closed l L) (hn : L.size = l.length) {i : Nat} (hi : i ∈ Region.ready .any l.toArray L) : Closed l (L.setIfInBounds i true) := by
  obtain ⟨h0, o, ho, hall⟩ := mem_ready.1 hi
  have ho' : l[i]? = some o := by simpa using ho
  intro j oj hj hL e he hb
  have up : ∀ k, L.getD k false = true → (L.setIfInBounds i true).getD k false = true := fun k hk => by
    simp only [Array.getD_eq_getD_getElem?, Array.getElem?_setIfInBounds] at hk ⊢
    by_cases e : i = k
    · subst e
      rw [if_pos rfl]
      split <;> simp_all
    · rw [if_neg e]; exact hk
  by_cases e1 : i = j
  · subst e1
    rw [ho'] at hj
    obtain rfl := Option.some.inj hj
    exact up _ (hall e he hb)
  · refine up _ (hc j oj hj ?_ e he hb)
    simp only [Array.getD_eq_getD_getElem?, Array.getElem?_setIfInBounds, if_neg e1] at hL ⊢
    exact hL
def firstB (ops : Array Oper) : List Nat → Array Bool → Bool
  | [], _ => true
  | i :: fs, L => Region.free .any ops L i && (Region.ready .any ops L).contains i && (match ops[i]? with | some o => o.guard.isNone | none => false) && firstB ops fs (L.setIfInBounds i true)
def setAll (L : Array Bool) (js : List Nat) : Array Bool := js.foldl (fun L j => L.setIfInBounds j true) L
def lastL (n : Nat) (rs : List Nat) : Array Bool := ((List.range n).map fun j => !rs.contains j).toArray
def coverB (n : Nat) (fs qs rs : List Nat) : Bool := (List.range n).all (fun j => fs.contains j || qs.contains j || rs.contains j) && fs.all (fun j => !rs.contains j) && qs.all (fun j => !rs.contains j) && rs.all (fun j => decide (j < n)) && fs.all (fun j => decide (j < n))
def mixB (l : List Oper) (fs qs rs : List Nat) : Bool :=
  Region.noSelect l.toArray && coverB l.length fs qs rs && backB l rs && (waitB l qs rs && closedB l fs) && firstB l.toArray fs (Array.replicate l.length false) &&
  quietB l.toArray qs (setAll (setAll (Array.replicate l.length false) fs) rs) && schedB l.toArray [] rs (lastL l.length rs) && decide (fs.length + qs.length + rs.length = l.length)
theorem first_any {l : List Oper} (hs : Region.noSelect l.toArray = true) (hQ : ∀ c (a : Act) d v w, Q (.panic c) (a.put d v) w → Q (.panic c) a w) (w : World) (K : Act → Prop) (m : Nat) : ∀ (fs : List Nat) (L : Array Bool) (a : Act), firstB l.toArray fs L = true →
    (∀ a, K a → wpAny P .any l.toArray Q m (setAll L fs) a w) → wpFirst P K (pickL l fs) a → wpAny P .any l.toArray Q (fs.length + m) L a w
  | [], L, a, hB, hK, h => by simpa [setAll] using hK a h
  | i :: fs, L, a, hB, hK, h => by
    simp only [firstB, Bool.and_eq_true] at hB
    obtain ⟨⟨⟨h1, h2⟩, h3⟩, h4⟩ := hB
    split at h3
    · rename_i o ho
      have hp : pickL l (i :: fs) = o :: pickL l fs := by
        show nthL l i ++ _ = _
        rw [nth_some (by simpa using ho)]; rfl
      rw [hp] at h
      obtain ⟨v, hv, h5⟩ := h
      have e : (i :: fs).length + m = (fs.length + m) + 1 := by simp; omega
      rw [e]
      refine wpAny_take ho hs h1 h2 (fun c a w h => hQ c a _ _ w h) (v := v) (.inl ⟨?_, hv⟩) (first_any hs hQ w K m fs _ _ h4 (fun a h => by simpa [setAll] using hK a h) h5)
      unfold Region.wanted
      rw [Option.isNone_iff_eq_none.1 h3]
    · cases h3
theorem back_spec {l : List Oper} {rs : List Nat} (h : backB l rs = true) {j : Nat} (hj : j ∉ rs) {o : Oper} (ho : l[j]? = some o) : ∀ e ∈ o.after, Region.binds .any e = true → e.on < j ∧ e.on ∉ rs := by
  unfold backB at h
  simp only [List.all_eq_true, List.mem_range] at h
  have h1 := h j (List.getElem?_eq_some_iff.1 ho).1
  rw [ho] at h1
  simp only [Bool.or_eq_true, List.contains_iff_mem, hj, false_or, Array.all_eq_true_iff_forall_mem, Bool.and_eq_true, decide_eq_true_eq, Bool.not_eq_true'] at h1
  intro e he hb
  have := h1 e he
  rw [hb] at this
  simpa using this
theorem getD_same {n : Nat} {rs : List Nat} {L M : Array Bool} (h : Rl n rs L M) {j : Nat} (hj : j ∉ rs) (d : Bool) : L.getD j d = M.getD j d := by
  simp [Array.getD_eq_getD_getElem?, h.same j hj]
theorem ready_same {l : List Oper} {rs : List Nat} {L M : Array Bool} (hB : backB l rs = true) (h : Rl l.length rs L M) {i : Nat} (hi : i ∉ rs) : i ∈ Region.ready .any l.toArray L ↔ i ∈ Region.ready .any l.toArray M := by
  rw [mem_ready, mem_ready, getD_same h hi]
  constructor
  · rintro ⟨h0, o, ho, hall⟩
    exact ⟨h0, o, ho, fun e he hb => by rw [← getD_same h (back_spec hB hi (by simpa using ho) e he hb).2]; exact hall e he hb⟩
  · rintro ⟨h0, o, ho, hall⟩
    exact ⟨h0, o, ho, fun e he hb => by rw [getD_same h (back_spec hB hi (by simpa using ho) e he hb).2]; exact hall e he hb⟩
theorem stuck_done {l : List Oper} {rs : List Nat} {L M : Array Bool} (hB : backB l rs = true) (h : Rl l.length rs L M) (hr : Region.ready .any l.toArray M = []) : ∀ j, j < l.length → M.getD j false = true := by
  intro j
  induction j using Nat.strongRecOn with
  | _ j ih =>
    intro hj
    by_cases hrs : j ∈ rs
    · simp [Array.getD_eq_getD_getElem?, h.hi j hrs hj]
    · cases hv : M.getD j false with
      | true => rfl
      | false =>
        exfalso
        have hs : j < M.size := by rw [h.size']; exact hj
        have : j ∈ Region.ready .any l.toArray M := by
          refine mem_ready.2 ⟨?_, l[j], by simp, fun e he hb => ?_⟩
          · simp [hs] at hv ⊢; exact hv
          · have := back_spec hB hrs (List.getElem?_eq_getElem hj) e he hb
            exact ih e.on this.1 (Nat.lt_trans this.1 hj)
        rw [hr] at this; cases this
theorem all_listed {n : Nat} {rs : List Nat} {L M : Array Bool} (h : Rl n rs L M) (hd : ∀ j, j < n → M.getD j false = true) : L = lastL n rs := by
  apply Array.ext_getElem?
  intro j
  by_cases hj : j < n
  · by_cases hrs : j ∈ rs
    · rw [h.lo j hrs hj]; simp [lastL, hj, hrs]
    · have h1 := hd j hj
      have hs : j < M.size := by rw [h.size']; exact hj
      rw [h.same j hrs]
      simp [hs] at h1
      simp [lastL, hj, hrs, hs, h1]
  · rw [Array.getElem?_eq_none (by rw [h.size]; omega), Array.getElem?_eq_none (by simp [lastL]; omega)]
theorem mixed_any {l : List Oper} {qs rs : List Nat} {K : Act → Prop} {k : Nat} (hB : backB l rs = true) (hW : waitB l qs rs = true)
    (hK : ∀ a w, C w → K a → wpAny P .any l.toArray Q k (lastL l.length rs) a w) (S : Array Bool → Prop) (hS : ∀ L i, S L → i ∈ Region.ready .any l.toArray L → S (L.setIfInBounds i true)) (hcl : ∀ L, S L → Closed l L) (hfs : ∀ L M, S L → Rl l.length rs L M → ∀ j, j < l.length → j ∉ rs → j ∉ qs → L.getD j false = true) : ∀ (f : Nat) (L M : Array Bool) (a : Act) (w : World), S L → Rl l.length rs L M → C w →
    wpAnyQ P .any l.toArray C K f M a → wpAny P .any l.toArray Q (f + k) L a w := by
  intro f
  induction f with
  | zero =>
    intro L M a w hSL h hC hq
    have := all_listed h (stuck_done hB h hq.1)
    subst this
    rw [Nat.zero_add]
    exact hK a w hC hq.2
  | succ f ih =>
    intro L M a w hSL h hC hq
    by_cases hr : Region.ready .any l.toArray M = []
    · have := all_listed h (stuck_done hB h hr)
      subst this
      exact any_more _ _ _ _ _ (hK a w hC (hq.1 hr))
    · rw [show f + 1 + k = (f + k) + 1 by omega]
      have notrs : ∀ i, i ∈ Region.ready .any l.toArray M → i ∉ rs := fun i hi hrs => by
        obtain ⟨h0, o, ho, _⟩ := mem_ready.1 hi
        have hil : i < l.length := by have := (Array.getElem?_eq_some_iff.1 ho).1; simpa using this
        have := h.hi i hrs hil
        simp [Array.getD_eq_getD_getElem?, this] at h0
      refine ⟨fun h0 => ?_, fun i hi => ?_⟩
      · obtain ⟨i, hi⟩ := List.exists_mem_of_ne_nil _ hr
        have := (ready_same hB h (notrs i hi)).2 hi
        rw [h0] at this; cases this
      · by_cases hrs : i ∈ rs
        · exfalso
          apply hr
          obtain ⟨h0, o, ho, hall⟩ := mem_ready.1 hi
          have ho' : l[i]? = some o := by simpa using ho
          have hq' : ∀ q ∈ qs, L.getD q false = true := fun q hqm => by
            have h1 := List.all_eq_true.1 hW i hrs
            exact reach_spec (hcl L hSL) _ i q o ho' hall (List.all_eq_true.1 h1 q hqm)
          refine List.eq_nil_iff_forall_not_mem.2 fun j hj => ?_
          have hjr := notrs j hj
          obtain ⟨h3, oj, hoj, _⟩ := mem_ready.1 hj
          have hjl : j < l.length := by have := (Array.getElem?_eq_some_iff.1 hoj).1; simpa using this
          have h4 : L.getD j false = true := by
            by_cases hjq : j ∈ qs
            · exact hq' j hjq
            · exact hfs L M hSL h j hjl hjr hjq
          rw [getD_same h hjr] at h4
          have hs : j < M.size := by rw [h.size']; exact hjl
          simp [hs] at h3 h4
          rw [h3] at h4; cases h4
        · have hi' := (ready_same hB h hrs).1 hi
          exact wpOp_of_qOp hC (fun a' w' hC' hK' => ih _ _ a' w' (hS _ _ hSL hi) (h.set hrs) hC' hK') (hq.2 i hi')
theorem setAll_get (n : Nat) : ∀ (js : List Nat) (L : Array Bool), L.size = n → (setAll L js).size = n ∧ ∀ j, j < n → (setAll L js)[j]? = some (decide (j ∈ js) || L.getD j false)
  | [], L, hn => ⟨hn, fun j hj => by simp [setAll, hn, hj]⟩
  | i :: js, L, hn => by
    have := setAll_get n js (L.setIfInBounds i true) (by simpa using hn)
    refine ⟨this.1, fun j hj => ?_⟩
    have h2 := this.2 j hj
    rw [show setAll L (i :: js) = setAll (L.setIfInBounds i true) js from rfl, h2]
    simp only [Array.getD_eq_getD_getElem?, Array.getElem?_setIfInBounds, hn, List.mem_cons]
    by_cases e : i = j
    · subst e; simp [hj]
    · simp [e, Ne.symm e]
/-- THE LAW. -/
theorem region_mixed {id : Nat} {a : Act} {w : World} {l : List Oper} (C : World → Prop) (fs qs rs : List Nat) (hm : P.follows .mixedOrders = true) (hB : mixB l fs qs rs = true) (hQ : ∀ c (a : Act) d v w, Q (.panic c) (a.put d v) w → Q (.panic c) a w) (hC : C w.drew)
    (h : wpFirst P (wpQuiet P l.toArray C (fun a' => ∀ w', C w' → wpList P l.toArray Q (pickL l rs) a' w') (pickL l qs)) (pickL l fs) a) : (Code.region id l.toArray true).wp P Q a w := by
  simp only [mixB, Bool.and_eq_true, decide_eq_true_eq] at hB
  obtain ⟨⟨⟨⟨⟨⟨⟨hs, hc⟩, hb⟩, hw, hcB⟩, hf⟩, hq⟩, hr⟩, hlen⟩ := hB
  simp only [coverB, Bool.and_eq_true, List.all_eq_true, List.mem_range, Bool.or_eq_true, List.contains_iff_mem, Bool.not_eq_true', decide_eq_true_eq] at hc
  obtain ⟨⟨⟨⟨c1, c2⟩, c3⟩, c4⟩, c5⟩ := hc
  have c2' : ∀ j ∈ fs, j ∉ rs := fun j hj hr => by have := c2 j hj; simp [hr] at this
  have c3' : ∀ j ∈ qs, j ∉ rs := fun j hj hr => by have := c3 j hj; simp [hr] at this
  refine wp_region_any hm ?_
  have hsz : (Array.replicate l.length false).size = l.length := by simp
  obtain ⟨s1, g1⟩ := setAll_get l.length fs _ hsz
  obtain ⟨s2, g2⟩ := setAll_get l.length rs _ s1
  have hR : Rl l.length rs (setAll (Array.replicate l.length false) fs) (setAll (setAll (Array.replicate l.length false) fs) rs) := by
    refine ⟨s1, s2, fun j hj => ?_, fun j hj hn => ?_, fun j hj hn => ?_⟩
    · rcases Nat.lt_or_ge j l.length with hn | hn
      · rw [g2 j hn]
        simp [hj, s1, hn]
      · rw [Array.getElem?_eq_none (by omega), Array.getElem?_eq_none (by omega)]
    · rw [g1 j hn]
      have : j ∉ fs := fun e => c2' j e hj
      simp [this, hn]
    · rw [g2 j hn]; simp [hj]
  have key := first_any (P := P) (Q := Q) (l := l) hs hQ w.drew (wpQuiet P l.toArray C (fun a' => ∀ w', C w' → wpList P l.toArray Q (pickL l rs) a' w') (pickL l qs)) (qs.length + rs.length) fs (Array.replicate l.length false) a hf (fun a1 h1 =>
    mixed_any (C := C) (K := fun a' => ∀ w', C w' → wpList P l.toArray Q (pickL l rs) a' w') (k := rs.length) hb hw
      (fun a' w' hC' hK' => sched_runs rs _ a' w' hr (hK' w' hC'))
      (fun L => L.size = l.length ∧ Closed l L ∧ ∀ j ∈ fs, L.getD j false = true) (fun L i ⟨hL0, hL1, hL⟩ hi => ⟨by simpa using hL0, closed_set hL1 hL0 hi, fun j hj => by
        by_cases e : i = j
        · subst e
          by_cases hsz' : i < L.size
          · simp [Array.getD_eq_getD_getElem?, hsz']
          · have := hL i hj; simp [Array.getD_eq_getD_getElem?, Array.getElem?_eq_none (Nat.le_of_not_lt hsz')] at this
        · have := hL j hj
          simpa [Array.getD_eq_getD_getElem?, Array.getElem?_setIfInBounds, e] using this⟩) (fun L hL => hL.2.1)
      (fun L M hL _ j hj hjr hjq => by
        rcases c1 j hj with (h | h) | h
        · exact hL.2.2 j h
        · exact absurd h hjq
        · exact absurd h hjr)
      qs.length _ _ a1 w.drew ⟨s1, fun i o ho hL e he hb => by
        have hin : i < l.length := (List.getElem?_eq_some_iff.1 ho).1
        have hif : i ∈ fs := by
          have := g1 i hin
          simp only [Array.getD_eq_getD_getElem?, this] at hL
          simpa [hin] using hL
        have h1 := List.all_eq_true.1 hcB i hif
        rw [ho] at h1
        simp only [Array.all_eq_true_iff_forall_mem, Bool.or_eq_true, Bool.not_eq_true', List.contains_iff_mem] at h1
        rcases h1 e he with h2 | h2
        · rw [hb] at h2; cases h2
        · simp [Array.getD_eq_getD_getElem?, g1 e.on (c5 _ h2), h2], fun j hj => by
        have hjn := c5 j hj
        simp [Array.getD_eq_getD_getElem?, g1 j hjn, hj]⟩ hR hC (quiet_order hs qs _ a1 hq h1)) h
  have e : fs.length + (qs.length + rs.length) = l.toArray.size := by simp; omega
  rw [e] at key
  simpa using key
end
end
section
open Go.RowKit
/-- The block is one of cells. -/
def isCells (W : World) (g : Nat) : Bool := match W.heap[g]? with
  | some (.cells _ _ fr) => decide (fr = (0, 0))
  | _ => false
theorem cells_heap {W : World} {g : Nat} (h : isCells W g = true) : ∃ t, W.heap[g]? = some (.cells (rowOf W g) t (0, 0)) := by
  unfold isCells at h
  unfold rowOf
  split at h
  · rename_i cs t fr e
    rw [e]
    simp only [decide_eq_true_eq] at h
    subst h
    exact ⟨t, rfl⟩
  · cases h
theorem isCells_new (w : World) (C : Array Value) (t : TypeId) (g : Nat) (hg : g = w.heap.size) : isCells (w.alloc (.cells C t)) g = true := by
  subst hg; unfold isCells; rw [(MapKept.heap_alloc w _).1]; rfl
theorem isCells_past (w : World) (o : Obj) (g : Nat) (hg : g < w.heap.size) : isCells (w.alloc o) g = isCells w g := by
  unfold isCells; rw [Below.heap_alloc w o g hg]
theorem isCells_drew (w : World) (g : Nat) : isCells w.drew g = isCells w g := rfl
theorem isCells_row {W : World} {g n : Nat} {t : TypeId} (h : isRow W g t n = true) : isCells W g = true := by
  unfold isCells; rw [(row_heap h).1]; rfl
theorem setRow_heap_other (W : World) (y g : Nat) (D : Array Value) (h : g ≠ y) : (W.setRow y D).heap[g]? = W.heap[g]? := by
  unfold World.setRow
  simp only [Array.getElem?_modify]
  rw [if_neg (Ne.symm h)]
theorem sr_size (W : World) (y : Nat) (D : Array Value) : (W.setRow y D).heap.size = W.heap.size := by simp [World.setRow]
theorem sr_row {W : World} {g : Nat} (D : Array Value) (h : isCells W g = true) : rowOf (W.setRow g D) g = D := by
  obtain ⟨t, h⟩ := cells_heap h
  unfold rowOf World.setRow
  simp only [Array.getElem?_modify, if_true]
  rw [h]; rfl
theorem sr_isCells (W : World) (y g : Nat) (D : Array Value) : isCells (W.setRow y D) g = isCells W g := by
  by_cases h : g = y
  · subst h
    unfold isCells World.setRow
    simp only [Array.getElem?_modify, if_true]
    cases W.heap[g]? with
    | none => rfl
    | some o => cases o <;> rfl
  · unfold isCells; rw [setRow_heap_other W y g D h]
theorem sr_row' (W : World) (y g : Nat) (D : Array Value) (h : g ≠ y) : rowOf (W.setRow y D) g = rowOf W g := by
  unfold rowOf; rw [setRow_heap_other W y g D h]
theorem sr_isRow {W : World} {g n : Nat} {t : TypeId} (D : Array Value) (h : isRow W g t n = true) (hD : D.size = n) : isRow (W.setRow g D) g t n = true := isRow_set h hD
theorem sr_isRow' (W : World) (y g n : Nat) (t : TypeId) (D : Array Value) (h : g ≠ y) : isRow (W.setRow y D) g t n = isRow W g t n := by
  unfold isRow; rw [setRow_heap_other W y g D h]
theorem sr_fits {W : World} {g n m o k : Nat} {t : TypeId} (D : Array Value) (h : isRow W g t n = true) (hD : D.size = n) (hk : o + k ≤ n) : fitsAt (W.setRow g D) g o k = true := fits_row (isRow_set h hD) hk
theorem sr_fits' (W : World) (y g o k : Nat) (D : Array Value) (h : g ≠ y) : fitsAt (W.setRow y D) g o k = fitsAt W g o k := by
  unfold fitsAt; rw [setRow_heap_other W y g D h]
theorem sr_cell' (W : World) (y : Nat) (p : Addr) (D : Array Value) (h : p.block ≠ y) : (W.setRow y D).cell? p = W.cell? p := World.cell?_of_block (w := W) (setRow_heap_other W y p.block D h)
theorem sr_frozen' (W : World) (y : Nat) (p : Addr) (D : Array Value) (h : p.block ≠ y) : (W.setRow y D).frozen? p = W.frozen? p := by
  unfold World.frozen?; rw [setRow_heap_other W y p.block D h]
theorem sr_isRange' (W : World) (y : Nat) (p : Addr) (n : Nat) (D : Array Value) (h : p.block ≠ y) : isRange (W.setRow y D) p n = isRange W p n := (range_same (setRow_heap_other W y p.block D h)).1
theorem sr_rangeOf' (W : World) (y : Nat) (p : Addr) (n : Nat) (D : Array Value) (h : p.block ≠ y) : rangeOf (W.setRow y D) p n = rangeOf W p n := (range_same (setRow_heap_other W y p.block D h)).2
/-! A block of one's own, by its row. -/
theorem own_cell {W : World} {g : Nat} (i : Nat) (h : isCells W g = true) : W.cell? ⟨g, i, none⟩ = (rowOf W g)[i]? := by
  obtain ⟨t, h⟩ := cells_heap h
  exact cell_of_row W g i _ t (0, 0) h
theorem own_frozen {W : World} {g : Nat} (i : Nat) (h : isCells W g = true) : W.frozen? ⟨g, i, none⟩ = false := by
  obtain ⟨t, h⟩ := cells_heap h
  unfold World.frozen?; rw [h]; simp
theorem own_set {W : World} {g : Nat} (i : Nat) (v : Value) (h : isCells W g = true) : W.setCell ⟨g, i, none⟩ v = W.setRow g ((rowOf W g).setIfInBounds i v) := by
  obtain ⟨t, h⟩ := cells_heap h
  unfold World.setCell World.setRow
  congr 1
  apply Array.ext_getElem?
  intro k
  simp only [Array.getElem?_modify]
  split
  · rename_i e
    subst e
    rw [h]; rfl
  · rfl
theorem own_range {W : World} {g o n : Nat} (h : isCells W g = true) (hn : o + n ≤ (rowOf W g).size) : isRange W ⟨g, o, none⟩ n = true ∧ rangeOf W ⟨g, o, none⟩ n = (rowOf W g).extract o (o + n) := by
  have h' := range_of (W := W) (p := ⟨g, o, none⟩) (cs := ((rowOf W g).extract o (o + n)).toList) (n := n) (by simp; omega) (fun k v hk => by
    rw [addr_add, own_cell _ h]
    simp only [Array.toList_extract, List.extract_eq_take_drop] at hk
    have h1 := (List.getElem?_eq_some_iff.1 hk).1
    simp only [List.length_take, List.length_drop, Array.length_toList] at h1
    rw [List.getElem?_take_of_lt (by omega), List.getElem?_drop] at hk
    simpa using hk)
  rw [Array.toArray_toList] at h'
  exact h'
theorem own_isRange {W : World} {g o n : Nat} (h : isCells W g = true) (hn : o + n ≤ (rowOf W g).size) : isRange W ⟨g, o, none⟩ n = true := (own_range h hn).1
theorem own_rangeOf {W : World} {g o n : Nat} (h : isCells W g = true) (hn : o + n ≤ (rowOf W g).size) : rangeOf W ⟨g, o, none⟩ n = (rowOf W g).extract o (o + n) := (own_range h hn).2
theorem own_fits {W : World} {g o n : Nat} (h : isCells W g = true) (hn : o + n ≤ (rowOf W g).size) : fitsAt W g o n = true := by
  obtain ⟨t, h⟩ := cells_heap h
  unfold fitsAt; rw [h]; simp [hn]
theorem setAt_row (W : World) (g o : Nat) (C : Array Value) : setAt W g o C = W.setRow g (putAt (rowOf W g) o C) := rfl
theorem sr_sr (W : World) (g : Nat) (D E : Array Value) : (W.setRow g D).setRow g E = W.setRow g E := by
  unfold World.setRow
  simp only
  congr 1
  apply Array.ext_getElem?
  intro k
  simp only [Array.getElem?_modify]
  split
  · cases W.heap[k]? with
    | none => rfl
    | some o => cases o <;> rfl
  · rfl
/-- What a call leaves. -/
theorem alike {B : Nat} {w w1 : World} (h : Below B w w1) : (∀ g t n, g < B → isRow w1 g t n = isRow w g t n) ∧ (∀ g, g < B → rowOf w1 g = rowOf w g) ∧ (∀ g o n, g < B → isRange w1 ⟨g, o, none⟩ n = isRange w ⟨g, o, none⟩ n) ∧ (∀ g o n, g < B → rangeOf w1 ⟨g, o, none⟩ n = rangeOf w ⟨g, o, none⟩ n) ∧
    (∀ g o n, g < B → fitsAt w1 g o n = fitsAt w g o n) ∧ (∀ g o, g < B → w1.cell? ⟨g, o, none⟩ = w.cell? ⟨g, o, none⟩) ∧ (∀ g o, g < B → w1.frozen? ⟨g, o, none⟩ = w.frozen? ⟨g, o, none⟩) ∧ (∀ g, g < B → isCells w1 g = isCells w g) ∧ w.heap.size ≤ w1.heap.size ∧ ∀ g, g < w.heap.size → g < w1.heap.size := by
  refine ⟨fun g t n hg => ?_, fun g hg => ?_, fun g o n hg => ?_, fun g o n hg => ?_, fun g o n hg => ?_, fun g o hg => ?_, fun g o hg => ?_, fun g hg => ?_, h.size, fun g hg => Nat.lt_of_lt_of_le hg h.size⟩
  · unfold isRow; rw [h.block g hg]
  · unfold rowOf; rw [h.block g hg]
  · exact (range_same (h.block g hg)).1
  · exact (range_same (h.block g hg)).2
  · unfold fitsAt; rw [h.block g hg]
  · exact World.cell?_of_block (h.block g hg)
  · unfold World.frozen?; rw [h.block g hg]
  · unfold isCells; rw [h.block g hg]
/-- One operation of a class: in each world of it, it yields the one value and leaves the world. -/
theorem class_op {P : Program} {C : World → Prop} {K : Act → Prop} {o : Oper} {a : Act} {v : Value} (h : ∀ W, C W → o.quietAt P a C W v) (hK : K (a.put o.dst v)) : o.quiet P a C K := ⟨v, h, hK⟩
end
section
open Go.RowKit
/-- Two numbers, as far as it is known how they lie. -/
def ZQ (a b : Nat) (p : Prop) : Prop := p
def PQ (p : Prop) : Prop := p
theorem pq {p : Prop} (h : p) : PQ p := h
theorem zq5 {a b : Nat} (h : a + 5 ≤ b) : ZQ a b (a < b ∧ a < b + 1 ∧ ¬ (a = b) ∧ a + 1 < b ∧ a + 1 < b + 1 ∧ ¬ (a + 1 = b) ∧ a + 1 + 1 < b ∧ a + 1 + 1 < b + 1 ∧ ¬ (a + 1 + 1 = b) ∧ a + 1 + 1 + 1 < b ∧ a + 1 + 1 + 1 < b + 1 ∧ ¬ (a + 1 + 1 + 1 = b) ∧ a + 1 + 1 + 1 + 1 < b ∧ a + 1 + 1 + 1 + 1 < b + 1 ∧ ¬ (a + 1 + 1 + 1 + 1 = b)) := by unfold ZQ; omega
theorem zq4 {a b : Nat} (h : a + 4 ≤ b) : ZQ a b (a < b ∧ a < b + 1 ∧ ¬ (a = b) ∧ a + 1 < b ∧ a + 1 < b + 1 ∧ ¬ (a + 1 = b) ∧ a + 1 + 1 < b ∧ a + 1 + 1 < b + 1 ∧ ¬ (a + 1 + 1 = b) ∧ a + 1 + 1 + 1 < b ∧ a + 1 + 1 + 1 < b + 1 ∧ ¬ (a + 1 + 1 + 1 = b) ∧ a + 1 + 1 + 1 + 1 < b + 1) := by unfold ZQ; omega
theorem zq3 {a b : Nat} (h : a + 3 ≤ b) : ZQ a b (a < b ∧ a < b + 1 ∧ ¬ (a = b) ∧ a + 1 < b ∧ a + 1 < b + 1 ∧ ¬ (a + 1 = b) ∧ a + 1 + 1 < b ∧ a + 1 + 1 < b + 1 ∧ ¬ (a + 1 + 1 = b) ∧ a + 1 + 1 + 1 < b + 1) := by unfold ZQ; omega
theorem zq2 {a b : Nat} (h : a + 2 ≤ b) : ZQ a b (a < b ∧ a < b + 1 ∧ ¬ (a = b) ∧ a + 1 < b ∧ a + 1 < b + 1 ∧ ¬ (a + 1 = b) ∧ a + 1 + 1 < b + 1) := by unfold ZQ; omega
theorem zq1 {a b : Nat} (h : a + 1 ≤ b) : ZQ a b (a < b ∧ a < b + 1 ∧ ¬ (a = b) ∧ a + 1 < b + 1) := by unfold ZQ; omega
theorem zq0 {a b : Nat} (h : a + 0 ≤ b) : ZQ a b (a < b + 1) := by unfold ZQ; omega
theorem zs (a b : Nat) {p : Prop} (h : ZQ a b p := by first | exact zq5 (by omega) | exact zq4 (by omega) | exact zq3 (by omega) | exact zq2 (by omega) | exact zq1 (by omega) | exact zq0 (by omega)) : p := h
theorem PT : (∀ (a : Act) (d : Tmp) (v : Value), a.put (some d) v = { a with tmps := a.tmps.setIfInBounds d v }) ∧ (∀ (a : Act) (v : Value), a.put none v = a) ∧ (∀ (l : List Value) (i : Nat) (x : Value), l.toArray.setIfInBounds i x = (l.set i x).toArray) ∧ (∀ (l : List Value) (a b : Value), (a :: l).set 0 b = b :: l) ∧ ∀ (l : List Value) (a b : Value) (n : Nat), (a :: l).set (n + 1) b = a :: l.set n b :=
  ⟨fun _ _ _ => rfl, fun _ _ => rfl, fun _ _ _ => List.setIfInBounds_toArray .., fun _ _ _ => rfl, fun _ _ _ _ => rfl⟩
theorem PL : (∀ L : List Oper, pickL L [] = []) ∧ (∀ (L : List Oper) (i : Nat) (is : List Nat), pickL L (i :: is) = nthL L i ++ pickL L is) ∧ (∀ i : Nat, nthL [] i = []) ∧ (∀ (o : Oper) (l : List Oper), nthL (o :: l) 0 = [o]) ∧ (∀ (o : Oper) (l : List Oper) (n : Nat), nthL (o :: l) (n + 1) = nthL l n) ∧ (∀ l : List Oper, l ++ [] = l) ∧ (∀ (o : Oper) (l k : List Oper), (o :: l) ++ k = o :: (l ++ k)) ∧ ∀ l : List Oper, [] ++ l = l :=
  ⟨fun _ => rfl, fun _ _ _ => rfl, fun i => by cases i <;> rfl, fun _ _ => rfl, fun _ _ _ => rfl, fun l => List.append_nil l, fun _ _ _ => rfl, fun _ => rfl⟩
theorem alk {B : Nat} {w w1 : World} {p : Prop} (h : Below B w w1) (s : w.heap.size ≤ w1.heap.size → p := by first | (intro hx; simp at hx; exact hx) | exact fun hx => hx) : (∀ g t n, g < B → isRow w1 g t n = isRow w g t n) ∧ (∀ g, g < B → rowOf w1 g = rowOf w g) ∧ (∀ g o n, g < B → isRange w1 ⟨g, o, none⟩ n = isRange w ⟨g, o, none⟩ n) ∧ (∀ g o n, g < B → rangeOf w1 ⟨g, o, none⟩ n = rangeOf w ⟨g, o, none⟩ n) ∧ (∀ g o n, g < B → fitsAt w1 g o n = fitsAt w g o n) ∧ (∀ g o, g < B → w1.cell? ⟨g, o, none⟩ = w.cell? ⟨g, o, none⟩) ∧ (∀ g o, g < B → w1.frozen? ⟨g, o, none⟩ = w.frozen? ⟨g, o, none⟩) ∧ (∀ g, g < B → isCells w1 g = isCells w g) ∧ p ∧ (∀ g, g < w.heap.size → g < w1.heap.size) ∧ ∀ g, g < w.heap.size → g ≤ w1.heap.size := by
  obtain ⟨x1, x2, x3, x4, x5, x6, x7, x8, x9, x10⟩ := alike h
  exact ⟨x1, x2, x3, x4, x5, x6, x7, x8, s x9, x10, fun g h => Nat.le_of_lt (x10 g h)⟩
theorem bk0 {p : Prop} (h : p := by repeat' (first | (with_reducible exact Below.refl _ _) | (with_reducible apply Below.drew) | (with_reducible refine Below.alloc ?_ ?_ _) | (with_reducible refine Below.setCell ?_ ?_ _) | (with_reducible refine below_setRow ?_ ?_ _) | (with_reducible refine below_setAt ?_ ?_ _ _) | (refine Keep.since (by assumption) ?_ ?_) | (refine below_since (by assumption) ?_ ?_) | (with_reducible exact Nat.le_refl _) | omega | (simp; done) | (simp; omega))) : p := h
theorem bk1 {p : Prop} (h : p := by first | omega | (simp; done) | (simp; omega)) : p := h
theorem bk2 {p : Prop} (h : p := by intro W hS; have xxq := alk hS.out; (try have zzq := zs w.heap.size W.heap.size); go_simp; try with_reducible rfl) : p := h
theorem bk3 {p : Prop} (h : p := by intro W hS; have xxq := alkU hS; (try have zzq := zs w.heap.size W.heap.size); go_simp; try with_reducible rfl) : p := h
theorem bk4 {p : Prop} (h : p := by repeat' (first | (with_reducible exact Below.refl _ _) | (with_reducible apply Below.drew) | (with_reducible refine Below.alloc ?_ ?_ _) | (with_reducible refine Below.setCell ?_ ?_ _) | (with_reducible refine below_setRow ?_ ?_ _) | (with_reducible refine below_setAt ?_ ?_ _ _) | (refine Keep.since (by assumption) ?_ ?_) | (refine below_since (by assumption) ?_ ?_) | (with_reducible exact Nat.le_refl _) | omega | (simp; done) | (simp; omega) | (exact Nat.le_refl _) | (show _ ≤ (World.alloc _ _).heap.size; simp; done))) : p := h
theorem bk5 {p : Prop} (h : p := by repeat' (first | (with_reducible exact Below.refl _ _) | (with_reducible apply Below.drew) | (with_reducible refine Below.alloc ?_ ?_ _) | (with_reducible refine Below.setCell ?_ ?_ _) | (with_reducible exact Nat.le_refl _) | omega | (simp; done) | (simp; omega))) : p := h
theorem bk6 {p : Prop} (h : p := by repeat' (first | (with_reducible exact Below.refl _ _) | (with_reducible apply Below.drew) | (with_reducible refine Below.alloc ?_ ?_ _) | (with_reducible refine Below.setCell ?_ ?_ _) | (with_reducible exact Nat.le_refl _) | (simp; done) | (simp; omega))) : p := h
theorem bk7 {p : Prop} (h : p := by repeat' (first | exact Upto.refl _ _ | (with_reducible apply Upto.drew) | (with_reducible refine upto_rowSelf ?_ _) | (with_reducible refine Upto.alloc ?_ _) | refine upto_since ?_ hk7.out ?_ | refine upto_since ?_ hbel ?_ | (with_reducible exact Nat.le_refl _) | omega | (exact Nat.le_refl _) | (show _ ≤ (World.alloc _ _).heap.size; simp; done))) : p := h
theorem bk8 {p : Prop} (h : p := by intro W hS; have xq := alike (hS.out); go_simp; try with_reducible rfl) : p := h
theorem bk9 {p : Prop} (h : p := by repeat' (first | exact Upto.refl _ _ | (with_reducible apply Upto.drew) | (with_reducible refine upto_rowSelf ?_ _) | (with_reducible refine Upto.alloc ?_ _) | refine upto_since ?_ hk2.out ?_ | refine upto_since ?_ hbel ?_ | (with_reducible exact Nat.le_refl _) | omega | (exact Nat.le_refl _) | (show _ ≤ (World.alloc _ _).heap.size; simp; done))) : p := h
theorem bk10 {p : Prop} (h : p := by repeat' (first | exact Upto.refl _ _ | (with_reducible apply Upto.drew) | (with_reducible refine upto_own ?_ _) | refine upto_after ?_ hk2.out)) : p := h
theorem bk11 {p : Prop} (h : p := by first | exact Nat.le_refl _ | (show _ ≤ (World.alloc _ _).heap.size; simp; done)) : p := h
theorem bk12 {p : Prop} (h : p := by intro W hS; have xq := alikeU (hS); go_simp; try with_reducible rfl) : p := h
theorem bk13 {p : Prop} (h : p := by subst hWG; first | omega | (simp; done) | (simp; omega)) : p := h
theorem bk14 {p : Prop} (h : p := by repeat' (first | exact Upto.refl _ _ | (with_reducible apply Upto.drew) | (with_reducible refine upto_own ?_ _) | refine upto_since ?_ hk3.out ?_ | (with_reducible exact Nat.le_refl _) | omega | (exact Nat.le_refl _))) : p := h
theorem bk15 {p : Prop} (h : p := by repeat' (first | (with_reducible exact Below.refl _ _) | (with_reducible apply Below.drew) | (with_reducible refine Below.alloc ?_ ?_ _) | (with_reducible refine Below.setCell ?_ ?_ _) | (with_reducible refine below_setRow ?_ ?_ _) | (with_reducible refine below_setAt ?_ ?_ _ _) | (refine Keep.since (by assumption) ?_ ?_) | (with_reducible exact Nat.le_refl _) | omega | (simp; done) | (simp; omega))) : p := h
theorem bk16 {p : Prop} (h : p := by repeat' (first | exact Upto.refl _ _ | apply Upto.drew | refine upto_rowSelf ?_ _ | refine Upto.alloc ?_ _)) : p := h
theorem bk17 {p : Prop} (h : p := by intro W hS; obtain ⟨x1, x2, x3, x4, x5, x6, x7, x8, x9, x10, y9⟩ := alk hS.out; (try have zz := zs w.heap.size W.heap.size); go_simp; try with_reducible rfl) : p := h
theorem bk18 {p : Prop} (h : p := by intro W hS; have xq := alike (hS); go_simp; try with_reducible rfl) : p := h
theorem bk19 {p : Prop} (h : p := by rw [get_ne (by decide), get_ne (by decide), get_ne (by decide), get_ne (by decide), get_ne (by decide), get_ne (by decide), get_ne (by decide)]; rfl) : p := h
theorem bk20 {p : Prop} (h : p := by first | exact Nat.le_refl _ | omega | (show _ ≤ (World.alloc _ _).heap.size; simp; done) | (show _ ≤ (World.alloc _ _).heap.size; simp; omega)) : p := h
theorem bk21 {p : Prop} (h : p := by repeat' (first | (with_reducible exact Below.refl _ _) | (with_reducible apply Below.drew) | (with_reducible refine Below.alloc ?_ ?_ _) | (with_reducible refine Below.setCell ?_ ?_ _) | (with_reducible refine below_setRow ?_ ?_ _) | (with_reducible refine below_setAt ?_ ?_ _ _) | (refine Keep.since (by assumption) ?_ ?_) | (refine below_since (by assumption) ?_ ?_) | (with_reducible exact Nat.le_refl _) | omega | (simp; done) | (simp; omega) | (exact Nat.le_refl _) | (show _ ≤ (World.alloc _ _).heap.size; simp; done) | exact size_two _ _ _)) : p := h
theorem bk22 {p : Prop} (h : p := by intro W hS; obtain ⟨x1q, x2q, x3q, x4q, x5q, x6q, x7q, x8q, x9q, x10q⟩ := alikeU hS; go_simp; try with_reducible rfl) : p := h
theorem bk23 {p : Prop} (h : p := by first | rfl | (simp; done) | (simp; omega)) : p := h
theorem bk24 {p : Prop} (h : p := by subst hWG; repeat' (first | (with_reducible exact Below.refl _ _) | (with_reducible apply Below.drew) | (with_reducible refine Below.alloc ?_ ?_ _) | (with_reducible refine Below.setCell ?_ ?_ _) | (with_reducible refine below_setRow ?_ ?_ _) | (with_reducible refine below_setAt ?_ ?_ _ _) | (refine Keep.since (by assumption) ?_ ?_) | (refine below_since (by assumption) ?_ ?_) | (with_reducible exact Nat.le_refl _) | omega | (simp; done) | (simp; omega))) : p := h
theorem bk25 {p : Prop} (h : p := by repeat' (first | exact Upto.refl _ _ | (with_reducible apply Upto.drew) | (with_reducible refine upto_own ?_ _) | (with_reducible refine Upto.set ?_ _ _) | (with_reducible refine Upto.alloc ?_ _) | exact hU7.out)) : p := h
theorem bk26 {p : Prop} (h : p := by repeat' (first | exact Upto.refl _ _ | (with_reducible apply Upto.drew) | (with_reducible refine upto_own ?_ _) | (with_reducible refine Upto.alloc ?_ _) | refine upto_after ?_ hk4.out)) : p := h
theorem bk27 {p : Prop} (h : p := by first | exact HO7.out | exact HO7.out.below ((Below.refl _ _).alloc (Nat.le_refl _) _)) : p := h
theorem bk28 {p : Prop} (h : p := by first | exact sl_one w7 #[.int .i64 x, .bool false, .int .u64 0, .int .u64 0, .int .i64 0, .int .i64 0, .int .i64 0, .slice none 0 0] 64 8 _ rfl (by first | assumption | rfl) (rfl) | exact (sl_drew (sl_one w6 #[.int .i64 x, .bool false, .int .u64 0, .int .u64 0, .int .i64 0, .int .i64 0, .int .i64 0, .slice none 0 0] 64 8 _ rfl (by first | assumption | rfl) (rfl))).below hk7.out) : p := h
theorem bk29 {p : Prop} (h : p := by first | exact Nat.le_refl _ | (simp; omega) | (refine Nat.le_trans hk7.out.size ?_; simp) | exact hk7.out.size) : p := h
theorem bk30 {p : Prop} (h : p := by subst hWG; rw [sr_isRow' _ _ _ _ _ _ (by omega)]; exact k8s) : p := h
theorem bk31 {p : Prop} (h : p := by subst hWG; rw [sr_row' _ _ _ _ (by omega)]; exact k8u) : p := h
theorem bk32 {p : Prop} (h : p := by rw [own_rangeOf r0 (by rw [sr_row _ m2]; simp), sr_row _ m2]; simp) : p := h
theorem bk33 {p : Prop} (h : p := by rw [sr_fits' _ _ _ _ _ _ (by omega)]; exact fits_row m3 (by omega)) : p := h
theorem bk34 {p : Prop} (h : p := by rw [sr_isRow' _ _ _ _ _ _ (by omega)]; exact m3) : p := h
theorem bk35 {p : Prop} (h : p := by rw [sr_row' _ _ _ _ (by omega)]; exact m4) : p := h
theorem bk36 {p : Prop} (h : p := by subst hWG; repeat' (first | (with_reducible exact Below.refl _ _) | (with_reducible apply Below.drew) | (with_reducible refine Below.alloc ?_ ?_ _) | (with_reducible refine Below.setCell ?_ ?_ _) | (with_reducible exact Nat.le_refl _) | omega | (simp; done) | (simp; omega))) : p := h
theorem bk37 {p : Prop} (h : p := by have := HQ3.out _ e; simp at this; omega) : p := h
theorem bk38 {p : Prop} (h : p := by repeat' (first | exact Upto.refl _ _ | (with_reducible apply Upto.drew) | (with_reducible refine upto_own ?_ _) | (with_reducible refine Upto.alloc ?_ _) | refine upto_since ?_ hk4.out ?_ | refine upto_since ?_ hk5.out ?_ | refine upto_since ?_ hbel ?_ | exact U9.out | (with_reducible exact Nat.le_refl _) | omega | (exact Nat.le_refl _) | exact U9.out.size | (show _ ≤ (World.alloc _ _).heap.size; rw [World.size_alloc]; have := U9.out.size; omega))) : p := h
theorem bk39 {p : Prop} (h : p := by first | exact HO2.out | exact HO2.out.below ((Below.refl _ _).alloc (Nat.le_refl _) _)) : p := h
theorem bk40 {p : Prop} (h : p := by first | exact sl_one w2 (valC v) 103 13 _ rfl (by first | assumption | rfl) (by first | assumption | rfl) | exact (sl_drew (sl_one w1 (valC v) 103 13 _ rfl (by first | assumption | rfl) (by first | assumption | rfl))).below hk2.out) : p := h
theorem bk41 {p : Prop} (h : p := by first | exact Nat.le_refl _ | (simp; omega) | (refine Nat.le_trans hk2.out.size ?_; simp) | exact hk2.out.size) : p := h
theorem bk42 {p : Prop} (h : p := by rw [own_rangeOf (by rw [sr_isCells]; exact qc) (by rw [sr_row _ qc]; simp), sr_row _ qc]; simp) : p := h
theorem bk43 {p : Prop} (h : p := by rw [x1g _ _ _ (by omega), sr_isRow' _ _ _ _ _ _ (by omega), x1e3 _ _ _ (by omega)]; exact p3) : p := h
theorem bk44 {p : Prop} (h : p := by rw [x2g _ (by omega), sr_row' _ _ _ _ (by omega), x2e3 _ (by omega)]; exact p3v) : p := h
theorem bk45 {p : Prop} (h : p := by rw [x1g _ _ _ (by omega)]; exact sr_isRow _ ((x1e3 _ _ _ (by omega)).trans p1r) rfl) : p := h
theorem bk46 {p : Prop} (h : p := by rw [x2g _ (by omega)]; exact sr_row _ qc) : p := h
theorem bk47 {p : Prop} (h : p := by have := HQ.out (w.heap.size + 1 + 1) e; omega) : p := h
theorem bk48 {p : Prop} (h : p := by obtain ⟨_, _, e, _⟩ := hM; simp only [Value.slice.injEq] at e; exact e.2.1) : p := h
theorem bk49 {p : Prop} (h : p := by simp only [pickP, List.length_map]; omega) : p := h
theorem bk50 {p : Prop} (h : p := by first | exact b37 | exact (hk2.out.mono hws).alloc (by omega) _ | exact hk2.out.mono hws | exact (Below.refl _ _).drew) : p := h
theorem bk51 {p : Prop} (h : p := by have := HQ4.out _ e; (try simp at this); omega) : p := h
theorem bk52 {p : Prop} (h : p := by repeat' (first | exact Upto.refl _ _ | (with_reducible apply Upto.drew) | (with_reducible refine upto_own ?_ _) | (with_reducible refine Upto.alloc ?_ _) | refine upto_after ?_ hk4.out | refine upto_after ?_ hk5.out)) : p := h
theorem bk53 {p : Prop} (h : p := by repeat' (first | exact Upto.refl _ _ | (with_reducible apply Upto.drew) | (with_reducible refine upto_own ?_ _) | (with_reducible refine Upto.set ?_ _ _) | (with_reducible refine upto_setRow ?_ ?_ _) | (with_reducible refine Upto.alloc ?_ _) | omega)) : p := h
theorem bk54 {p : Prop} (h : p := by first | (go_simp; done) | (go_simp; exact (at_row hr hC _ _).1)) : p := h
theorem bk55 {p : Prop} (h : p := by first | (go_simp; done) | (go_simp; exact (at_row hr hC _ _).2)) : p := h
theorem bk56 {p : Prop} (h : p := by first | exact b57 | exact (hk5.out.mono hws).alloc (by omega) _ | exact hk5.out.mono hws | exact (Below.refl _ _).drew) : p := h
theorem bk57 {p : Prop} (h : p := by rcases e with (⟨_, e⟩ | e) | e <;> first | omega | (simp only [drew_sizeU] at e; omega)) : p := h
theorem bk58 {p : Prop} (h : p := by rcases hq with hq | hq; exact hq; exact .inr (by simp only [drew_sizeU] at hq; omega)) : p := h
theorem bk59 {p : Prop} (h : p := by first | exact sd4 | (refine Nat.le_trans sd4 ?_; show _ ≤ (World.alloc _ _).heap.size; simp; done)) : p := h
theorem bk60 {p : Prop} (h : p := by first | exact hU2.out | exact Upto.of_below hk1.out | exact (Upto.refl _ _).drew | exact Upto.refl _ _) : p := h
theorem bk61 {p : Prop} (h : p := by repeat' (first | exact Upto.refl _ _ | (with_reducible refine upto_rowSelf ?_ _) | (with_reducible refine Upto.alloc ?_ _))) : p := h
theorem bk62 {p : Prop} (h : p := by subst hWG; rw [own_rangeOf k6d (by rw [k6b]; simp), k6b]; simp) : p := h
theorem bk63 {p : Prop} (h : p := by repeat' (first | exact Upto.refl _ _ | (with_reducible apply Upto.drew) | (with_reducible refine Upto.set ?_ _ _) | (with_reducible refine upto_own ?_ _))) : p := h
theorem bk64 {p : Prop} (h : p := by have := (Array.getElem?_eq_some_iff.1 ho).1; simpa using this) : p := h
theorem bk65 {p : Prop} (h : p := by rw [← hW0]; exact HT.out.below (by repeat' (first | (with_reducible exact Below.refl _ _) | (with_reducible apply Below.drew) | (with_reducible refine Below.alloc ?_ ?_ _) | (with_reducible refine Below.setCell ?_ ?_ _) | (with_reducible exact Nat.le_refl _) | omega | (simp; done) | (simp; omega)))) : p := h
theorem bk66 {p : Prop} (h : p := by rw [hW.cell (p := ⟨w.heap.size, 0, none⟩) (by show w.heap.size < _; omega) (by show w.heap.size ≠ _; omega)]; exact hc1) : p := h
theorem bk67 {p : Prop} (h : p := by rw [hW.cell (p := ⟨w.heap.size + 1, 0, none⟩) (by show w.heap.size + 1 < _; omega) (by show w.heap.size + 1 ≠ _; omega)]; exact hc2) : p := h
theorem bk68 {p : Prop} (h : p := by rw [hW.cell (p := ⟨w.heap.size + 1 + 1, 0, none⟩) (by show w.heap.size + 1 + 1 < _; omega) (by show w.heap.size + 1 + 1 ≠ _; omega)]; exact hc3) : p := h
end
end Go.Proofs.YtnncjbkepakgpaaGreat
