/-
  A REGION THAT DRAWS, WHOSE READS MAY COME WHENEVER: first those that read; then the quiet ones; then the last ones, each of which keeps the class of worlds.
  append TO A SLICE OF THE CALL's OWN: what else lay in memory lies as it was.
  THE WORLD IN MEMORY: tasks, parts, locks; an element of an own row is laid anew.
-/
import Derived.Test.YtnncjbkepakgpaaGreatA07
import Derived.Test.YtnncjbkepakgpaaGreatA09
import Derived.Test.YtnncjbkepakgpaaGreatA06
namespace Go.Proofs.YtnncjbkepakgpaaGreat
set_option linter.unusedVariables false
set_option linter.unusedSimpArgs false
set_option maxRecDepth 100000
section
open Go.RowKit
theorem below_since {B B' : Nat} {a W w3 : World} (k : Below B W w3) (h : Below B' a W) (hB : B' ≤ B) : Below B' a w3 := h.trans (k.mono hB)
theorem Own.weaken {W : World} {B B' : Nat} {e : TypeId} {n : Nat} {v : Value} {L : List (Array Value)} (h : Own W B e n v L) (hB : B' ≤ B) : Own W B' e n v L := by
  obtain ⟨⟨h1, h2⟩, h3⟩ := h
  refine ⟨⟨h1, ?_⟩, h3⟩
  rcases h2 with h2 | ⟨g, cap, cur, h4, h5, h6⟩
  · exact .inl h2
  · exact .inr ⟨g, cap, cur, h4, Nat.le_trans hB h5, h6⟩
section
variable {P : Program} {ops : Array Oper} {md : Region.Mode} {Q : Exit → Act → World → Prop} {C : World → Prop}
theorem wp_exits {o : Oper} {a : Act} {w : World} {K : Act → World → Prop} {Q Q' : Exit → Act → World → Prop} (h : ∀ c a w, Q (.panic c) a w → Q' (.panic c) a w) (hl : LetsOut Q → LetsOut Q') (hh : o.wp P a w K Q) : o.wp P a w K Q' := by
  unfold Oper.wp at *
  generalize (execOp a.eval o).run P w = r at *
  cases r with
  | ok n w' =>
    cases n <;> simp only [Oper.upon] at hh ⊢
    case enter f args =>
      refine Calls.mono hh fun e w'' he => ?_
      cases e with
      | returned u => exact he
      | panicked c => exact h _ _ _ he
      | outgrown => exact hl he
    all_goals exact hh
  | halt x w' =>
    cases x <;> simp only [Oper.upon] at hh ⊢
    case panic u => exact h _ _ _ hh
/-- Whatever order is picked, all worlds on the way being of the class. -/
def wpAnyC (P : Program) (md : Region.Mode) (ops : Array Oper) (C : World → Prop) (Q : Exit → Act → World → Prop) : Nat → Array Bool → Act → World → Prop
  | 0, L, a, w => Region.ready md ops L = [] ∧ Q .normal a w
  | f + 1, L, a, w => (Region.ready md ops L = [] → Q .normal a w) ∧ ∀ i ∈ Region.ready md ops L, wpOp P ops Q i (fun a' w' => C w' ∧ wpAnyC P md ops C Q f (L.setIfInBounds i true) a' w') a w
theorem any_of_C : ∀ (f : Nat) (L : Array Bool) (a : Act) (w : World), wpAnyC P md ops C Q f L a w → wpAny P md ops Q f L a w
  | 0, _, _, _, h => h
  | f + 1, _, _, _, h => ⟨h.1, fun i hi => wpOp_mono (fun a w h' => any_of_C f _ a w h'.2) (h.2 i hi)⟩
/-- In each world of the class it reads this value. -/
def ReadsIn (P : Program) (ops : Array Oper) (C : World → Prop) (o : Oper) (v : Value) (a : Act) : Prop :=
  (Region.wanted o (yielded ops a.tmps) = true ∧ ∀ w, C w → (execOp a.eval o).run P w = .ok (.value v) w) ∨ (Region.wanted o (yielded ops a.tmps) = false ∧ v = undef)
theorem ReadsIn.of_same {o : Oper} {v : Value} {a a' : Act} (hy : ReadsIn P ops C o v a) (he : execOp a'.eval o = execOp a.eval o)
    (hw : Region.wanted o (yielded ops a'.tmps) = Region.wanted o (yielded ops a.tmps)) : ReadsIn P ops C o v a' := by
  unfold ReadsIn at *
  rw [he, hw]
  exact hy
theorem ReadsIn.wpOp {i : Nat} {o : Oper} {v : Value} {a : Act} {w : World} (hi : ops[i]? = some o) (hC : C w) (hy : ReadsIn P ops C o v a) {K : Act → World → Prop} (h : K (a.put o.dst v) w) : wpOp P ops Q i K a w := by
  unfold Go.wpOp
  simp only [hi]
  rcases hy with ⟨hw, hv⟩ | ⟨hw, rfl⟩
  · simp only [hw, if_true, Oper.wp, hv w hC, Oper.upon]; exact .inl h
  · simp only [hw, Bool.false_eq_true, if_false]; exact h
theorem wpOp_putR {j : Nat} {oi oj : Oper} {v : Value} (hj : ops[j]? = some oj) (hap : oi.apart ops oj = true)
    (hsi : ∀ cs b, oi.op ≠ .select cs b) (hsj : ∀ cs b, oj.op ≠ .select cs b)
    (hQ : ∀ c a w, Q (.panic c) (a.put oi.dst v) w → Q (.panic c) a w) {K : Act → World → Prop} {a : Act} {w : World}
    (hy : ReadsIn P ops C oi v a) (h : wpOp P ops Q j K (a.put oi.dst v) w) :
    wpOp P ops Q j (fun a' w' => ReadsIn P ops C oi v a' ∧ K (a'.put oi.dst v) w') a w := by
  obtain ⟨h1, h2, h3⟩ := Oper.apart_spec hap
  have keep : ∀ (a : Act), ReadsIn P ops C oi v a → ∀ u, ReadsIn P ops C oi v (a.put oj.dst u) := fun a hy u =>
    hy.of_same (execOp_put oi hsi a oj.dst u h3) (wanted_put oi a oj.dst u h3)
  have keepD : ∀ d, ReadsIn P ops C oi v { a with defers := d :: a.defers } := fun d => hy.of_same rfl rfl
  unfold wpOp at *
  simp only [hj] at *
  rw [wanted_put oj a oi.dst v h1] at h
  split
  · rename_i hw
    simp only [hw, if_true] at h
    rcases h with h | ⟨hasks, hlets⟩
    case inr => exact .inr ⟨by unfold Oper.asks at *; rw [execOp_put oj hsj a oi.dst v h1] at hasks; exact hasks, hlets⟩
    refine .inl ?_
    unfold Oper.wp at *
    rw [execOp_put oj hsj a oi.dst v h1] at h
    generalize (execOp a.eval oj).run P w = r at *
    cases r with
    | ok n w' =>
      cases n <;> simp only [Oper.upon] at h ⊢
      case value u => exact ⟨keep a hy u, by rw [← Act.put_comm a v u h2]; exact h⟩
      case skip => exact ⟨keep a hy _, by rw [← Act.put_comm a v undef h2]; exact h⟩
      case defer d =>
        refine ⟨keep _ (keepD d) _, ?_⟩
        rw [← Act.put_comm _ v undef h2, ← Act.put_defers]
        exact h
      case enter f args =>
        refine Calls.mono h fun e w'' he => ?_
        cases e with
        | returned u => exact ⟨keep a hy u, by rw [← Act.put_comm a v u h2]; exact he⟩
        | panicked c => exact hQ _ _ _ he
        | outgrown => exact he
      case row row args => exact Rows.mono h fun u w'' he => ⟨keep a hy u, by rw [← Act.put_comm a v u h2]; exact he⟩
    | halt x w' =>
      cases x <;> simp only [Oper.upon] at h ⊢
      case panic u => exact hQ _ _ _ h
  · rename_i hw
    simp only [hw] at h
    exact ⟨keep a hy _, by rw [← Act.put_comm a v undef h2]; exact h⟩
theorem anyC_first {i : Nat} {oi : Oper} {v : Value} (hi : ops[i]? = some oi) (hsel : ∀ (j : Nat) (o : Oper) cs b, ops[j]? = some o → o.op ≠ .select cs b)
    (hQ : ∀ c a w, Q (.panic c) (a.put oi.dst v) w → Q (.panic c) a w) :
    ∀ (fuel : Nat) (listed : Array Bool) (a : Act) (w : World), C w →
      (∀ j oj, ops[j]? = some oj → j ≠ i → listed.getD j true = false → (∀ e ∈ oj.after, Region.binds md e = true → e.on ≠ i) → oi.apart ops oj = true) →
      i ∈ Region.ready md ops listed → ReadsIn P ops C oi v a →
      wpAnyC P md ops C Q fuel (listed.setIfInBounds i true) (a.put oi.dst v) w → wpAnyC P md ops C Q (fuel + 1) listed a w := by
  intro fuel
  induction fuel with
  | zero =>
    intro listed a w hC _ hr hy H
    refine ⟨fun h => (by rw [h] at hr; cases hr), fun j hj => ?_⟩
    by_cases hji : j = i
    · subst hji; exact hy.wpOp hi hC ⟨hC, H⟩
    · have := ready_mono hj hji
      rw [H.1] at this
      cases this
  | succ fuel ih =>
    intro listed a w hC hfree hr hy H
    refine ⟨fun h => (by rw [h] at hr; cases hr), fun j hj => ?_⟩
    by_cases hji : j = i
    · subst hji; exact hy.wpOp hi hC ⟨hC, H⟩
    · have h1 := H.2 j (ready_mono hj hji)
      obtain ⟨hjun, oj, hoj, hall⟩ := mem_ready.1 hj
      have hnot : ∀ e ∈ oj.after, Region.binds md e = true → e.on ≠ i := fun e he hb heq => by
        have h1 := hall e he hb
        have h0 := (mem_ready.1 hr).1
        rw [heq] at h1
        rcases Nat.lt_or_ge i listed.size with h' | h'
        · simp [h'] at h0 h1; rw [h0] at h1; cases h1
        · simp [Array.getElem?_eq_none h'] at h1
      have h2 := wpOp_putR hoj (hfree j oj hoj hji hjun hnot) (fun cs b => hsel i oi cs b hi) (fun cs b => hsel j oj cs b hoj) hQ hy h1
      have hfree' : ∀ k ok, ops[k]? = some ok → k ≠ i → (listed.setIfInBounds j true).getD k true = false →
          (∀ e ∈ ok.after, Region.binds md e = true → e.on ≠ i) → oi.apart ops ok = true := fun k ok hk hki hun hno => by
        refine hfree k ok hk hki ?_ hno
        by_cases hjk : j = k
        · subst hjk; exact hjun
        · rw [getD_set_ne true hjk] at hun; exact hun
      have hri : i ∈ Region.ready md ops (listed.setIfInBounds j true) := ready_mono hr (Ne.symm hji)
      refine wpOp_mono (fun a' w' h3 => ?_) h2
      obtain ⟨h4, h5, h6⟩ := h3
      have h7 : (listed.setIfInBounds i true).setIfInBounds j true = (listed.setIfInBounds j true).setIfInBounds i true := Array.setIfInBounds_comm _ _ (Ne.symm hji)
      rw [h7] at h6
      exact ⟨h5, ih (listed.setIfInBounds j true) a' w' h5 hfree' hri h4 h6⟩
/-- What follows an operation of the chain. -/
def chainQ (C : World → Prop) (K : Act → World → Prop) (Q : Exit → Act → World → Prop) : Exit → Act → World → Prop
  | .normal, a, w => C w ∧ K a w
  | .exit i, a, w => Q (.exit i) a w
  | .goto l, a, w => Q (.goto l) a w
  | .ret, a, w => Q .ret a w
  | .panic c, a, w => Q (.panic c) a w
  | .outgrown, a, w => Q .outgrown a w
theorem chain_on {K : Act → World → Prop} {a : Act} {w : World} (h : C w) (h' : K a w) : chainQ C K Q .normal a w := ⟨h, h'⟩
/-- The chain, one operation at a time. -/
def wpChain (P : Program) (ops : Array Oper) (C : World → Prop) (Q : Exit → Act → World → Prop) : List Oper → Act → World → Prop
  | [], a, w => Q .normal a w
  | o :: r, a, w => wpList P ops (chainQ C (wpChain P ops C Q r) Q) [o] a w
theorem chain_nil {a : Act} {w : World} (h : Q .normal a w) : wpChain P ops C Q [] a w := h
theorem chain_op {a : Act} {w : World} {o : Oper} {r : List Oper} (h : wpList P ops (chainQ C (wpChain P ops C Q r) Q) [o] a w) : wpChain P ops C Q (o :: r) a w := h
theorem chain_wpOp {a : Act} {w : World} {o : Oper} {r : List Oper} {i : Nat} (hi : ops[i]? = some o) (h : wpChain P ops C Q (o :: r) a w) : wpOp P ops Q i (fun a' w' => C w' ∧ wpChain P ops C Q r a' w') a w := by
  unfold wpChain wpList at h
  unfold wpOp
  simp only [hi]
  split
  · rename_i hw
    simp only [hw, if_true] at h
    rcases h with h | ⟨h1, h2⟩
    · exact .inl (wp_exits (fun c a w h => h) (fun h => h) h)
    · exact .inr ⟨h1, h2⟩
  · rename_i hw
    simp only [hw] at h
    exact h
theorem chain_any {l : List Oper} (hops : ops = l.toArray) : ∀ (rs : List Nat) (L : Array Bool) (a : Act) (w : World), schedB l.toArray [] rs L = true → wpChain P l.toArray C Q (pickL l rs) a w → wpAnyC P .any l.toArray C Q rs.length L a w
  | [], L, a, w, hB, h => by
    simp only [schedB, runsB, List.isEmpty_iff] at hB
    exact ⟨hB, h⟩
  | j :: rs, L, a, w, hB, h => by
    simp only [schedB, runsB, Bool.and_eq_true, beq_iff_eq] at hB
    obtain ⟨⟨h1, h2⟩, h3⟩ := hB
    obtain ⟨o, ho⟩ := Option.isSome_iff_exists.1 h2
    refine ⟨fun h0 => by rw [h0] at h1; exact absurd h1 (by simp), fun i hi => ?_⟩
    rw [h1] at hi
    simp only [List.mem_singleton] at hi
    subst hi
    have hp : pickL l (i :: rs) = o :: pickL l rs := by
      show nthL l i ++ _ = _
      rw [nth_some (by simpa using ho)]; rfl
    rw [hp] at h
    exact wpOp_mono (fun a' w' h' => ⟨h'.1, chain_any hops rs _ a' w' h3 h'.2⟩) (chain_wpOp ho h)
theorem anyC_more : ∀ (k m : Nat) (L : Array Bool) (a : Act) (w : World), wpAnyC P md ops C Q k L a w → wpAnyC P md ops C Q (m + k) L a w
  | 0, 0, _, _, _, h => h
  | 0, m + 1, _, _, _, h => ⟨fun _ => h.2, fun i hi => by rw [h.1] at hi; cases hi⟩
  | k + 1, m, L, a, w, h => ⟨h.1, fun i hi => wpOp_mono (fun a' w' h' => ⟨h'.1, anyC_more k m _ a' w' h'.2⟩) (h.2 i hi)⟩
theorem mixedC {l : List Oper} {qs rs : List Nat} {K : Act → Prop} {k : Nat} (hB : backB l rs = true) (hW : waitB l qs rs = true)
    (hK : ∀ a w, C w → K a → wpAnyC P .any l.toArray C Q k (lastL l.length rs) a w) (S : Array Bool → Prop) (hS : ∀ L i, S L → i ∈ Region.ready .any l.toArray L → S (L.setIfInBounds i true)) (hcl : ∀ L, S L → Closed l L) (hfs : ∀ L M, S L → Rl l.length rs L M → ∀ j, j < l.length → j ∉ rs → j ∉ qs → L.getD j false = true) : ∀ (f : Nat) (L M : Array Bool) (a : Act) (w : World), S L → Rl l.length rs L M → C w →
    wpAnyQ P .any l.toArray C K f M a → wpAnyC P .any l.toArray C Q (f + k) L a w := by
  intro f
  induction f with
  | zero =>
    intro L M a w hSL h hC hq
    have := all_listed h (stuck_done hB h hq.1)
    subst this
    rw [Nat.zero_add]
    exact hK a w hC hq.2
  | succ f ih =>
    intro L M a w hSL h hC hq
    by_cases hr : Region.ready .any l.toArray M = []
    · have := all_listed h (stuck_done hB h hr)
      subst this
      exact anyC_more _ _ _ _ _ (hK a w hC (hq.1 hr))
    · rw [show f + 1 + k = (f + k) + 1 by omega]
      have notrs : ∀ i, i ∈ Region.ready .any l.toArray M → i ∉ rs := fun i hi hrs => by
        obtain ⟨h0, o, ho, _⟩ := mem_ready.1 hi
        have hil : i < l.length := bk64
        have := h.hi i hrs hil
        simp [Array.getD_eq_getD_getElem?, this] at h0
      refine ⟨fun h0 => ?_, fun i hi => ?_⟩
      · obtain ⟨i, hi⟩ := List.exists_mem_of_ne_nil _ hr
        have := (ready_same hB h (notrs i hi)).2 hi
        rw [h0] at this; cases this
      · by_cases hrs : i ∈ rs
        · exfalso
          apply hr
          obtain ⟨h0, o, ho, hall⟩ := mem_ready.1 hi
          have ho' : l[i]? = some o := by simpa using ho
          have hq' : ∀ q ∈ qs, L.getD q false = true := fun q hqm => by
            have h1 := List.all_eq_true.1 hW i hrs
            exact reach_spec (hcl L hSL) _ i q o ho' hall (List.all_eq_true.1 h1 q hqm)
          refine List.eq_nil_iff_forall_not_mem.2 fun j hj => ?_
          have hjr := notrs j hj
          obtain ⟨h3, oj, hoj, _⟩ := mem_ready.1 hj
          have hjl : j < l.length := by have := (Array.getElem?_eq_some_iff.1 hoj).1; simpa using this
          have h4 : L.getD j false = true := by
            by_cases hjq : j ∈ qs
            · exact hq' j hjq
            · exact hfs L M hSL h j hjl hjr hjq
          rw [getD_same h hjr] at h4
          have hs : j < M.size := by rw [h.size']; exact hjl
          simp [hs] at h3 h4
          rw [h3] at h4; cases h4
        · have hi' := (ready_same hB h hrs).1 hi
          exact wpOp_of_qOp hC (fun a' w' hC' hK' => ⟨hC', ih _ _ a' w' (hS _ _ hSL hi) (h.set hrs) hC' hK'⟩) (hq.2 i hi')
/-- Those that read, in this order. -/
def wpReads (P : Program) (C : World → Prop) (K : Act → Prop) : List Oper → Act → Prop
  | [], a => K a
  | o :: r, a => ∃ v, (∀ w, C w → (execOp a.eval o).run P w = .ok (.value v) w) ∧ wpReads P C K r (a.put o.dst v)
theorem reads_nil {K : Act → Prop} {a : Act} (h : K a) : wpReads P C K [] a := h
theorem reads_op {K : Act → Prop} {a : Act} {o : Oper} {r : List Oper} {v : Value} (h : ∀ w, C w → (execOp a.eval o).run P w = .ok (.value v) w) (h' : wpReads P C K r (a.put o.dst v)) : wpReads P C K (o :: r) a := ⟨v, h, h'⟩
theorem reads_any {l : List Oper} (hs : Region.noSelect l.toArray = true) (hQ : ∀ c (a : Act) d v w, Q (.panic c) (a.put d v) w → Q (.panic c) a w) (w : World) (hC : C w) (K : Act → Prop) (m : Nat) : ∀ (fs : List Nat) (L : Array Bool) (a : Act), firstB l.toArray fs L = true →
    (∀ a, K a → wpAnyC P .any l.toArray C Q m (setAll L fs) a w) → wpReads P C K (pickL l fs) a → wpAnyC P .any l.toArray C Q (fs.length + m) L a w
  | [], L, a, hB, hK, h => by simpa [setAll] using hK a h
  | i :: fs, L, a, hB, hK, h => by
    simp only [firstB, Bool.and_eq_true] at hB
    obtain ⟨⟨⟨h1, h2⟩, h3⟩, h4⟩ := hB
    split at h3
    · rename_i o ho
      have hp : pickL l (i :: fs) = o :: pickL l fs := by
        show nthL l i ++ _ = _
        rw [nth_some (by simpa using ho)]; rfl
      rw [hp] at h
      obtain ⟨v, hv, h5⟩ := h
      have e : (i :: fs).length + m = (fs.length + m) + 1 := by simp; omega
      rw [e]
      refine anyC_first ho (Region.noSelect_spec hs) (fun c a w h => hQ c a _ _ w h) _ L a w hC (Region.free_spec ho h1) (by simpa using h2) (v := v) (.inl ⟨?_, hv⟩) (reads_any hs hQ w hC K m fs _ _ h4 (fun a h => by simpa [setAll] using hK a h) h5)
      unfold Region.wanted
      rw [Option.isNone_iff_eq_none.1 h3]
    · cases h3
/-- THE LAW. -/
theorem region_float {id : Nat} {a : Act} {w : World} {l : List Oper} (C : World → Prop) (fs qs rs : List Nat) (hm : P.follows .mixedOrders = true) (hB : mixB l fs qs rs = true) (hQ : ∀ c (a : Act) d v w, Q (.panic c) (a.put d v) w → Q (.panic c) a w) (hC : C w.drew)
    (h : wpReads P C (wpQuiet P l.toArray C (fun a' => ∀ w', C w' → wpChain P l.toArray C Q (pickL l rs) a' w') (pickL l qs)) (pickL l fs) a) : (Code.region id l.toArray true).wp P Q a w := by
  simp only [mixB, Bool.and_eq_true, decide_eq_true_eq] at hB
  obtain ⟨⟨⟨⟨⟨⟨⟨hs, hc⟩, hb⟩, hw, hcB⟩, hf⟩, hq⟩, hr⟩, hlen⟩ := hB
  simp only [coverB, Bool.and_eq_true, List.all_eq_true, List.mem_range, Bool.or_eq_true, List.contains_iff_mem, Bool.not_eq_true', decide_eq_true_eq] at hc
  obtain ⟨⟨⟨⟨c1, c2⟩, c3⟩, c4⟩, c5⟩ := hc
  have c2' : ∀ j ∈ fs, j ∉ rs := fun j hj hr => by have := c2 j hj; simp [hr] at this
  refine wp_region_any hm (any_of_C (C := C) _ _ _ _ ?_)
  have hsz : (Array.replicate l.length false).size = l.length := by simp
  obtain ⟨s1, g1⟩ := setAll_get l.length fs _ hsz
  obtain ⟨s2, g2⟩ := setAll_get l.length rs _ s1
  have hR : Rl l.length rs (setAll (Array.replicate l.length false) fs) (setAll (setAll (Array.replicate l.length false) fs) rs) := by
    refine ⟨s1, s2, fun j hj => ?_, fun j hj hn => ?_, fun j hj hn => ?_⟩
    · rcases Nat.lt_or_ge j l.length with hn | hn
      · rw [g2 j hn]
        simp [hj, s1, hn]
      · rw [Array.getElem?_eq_none (by omega), Array.getElem?_eq_none (by omega)]
    · rw [g1 j hn]
      have : j ∉ fs := fun e => c2' j e hj
      simp [this, hn]
    · rw [g2 j hn]; simp [hj]
  have key := reads_any (P := P) (Q := Q) (l := l) hs hQ w.drew hC (wpQuiet P l.toArray C (fun a' => ∀ w', C w' → wpChain P l.toArray C Q (pickL l rs) a' w') (pickL l qs)) (qs.length + rs.length) fs (Array.replicate l.length false) a hf (fun a1 h1 =>
    mixedC (C := C) (K := fun a' => ∀ w', C w' → wpChain P l.toArray C Q (pickL l rs) a' w') (k := rs.length) hb hw
      (fun a' w' hC' hK' => chain_any rfl rs _ a' w' hr (hK' w' hC'))
      (fun L => L.size = l.length ∧ Closed l L ∧ ∀ j ∈ fs, L.getD j false = true) (fun L i ⟨hL0, hL1, hL⟩ hi => ⟨by simpa using hL0, closed_set hL1 hL0 hi, fun j hj => by
        by_cases e : i = j
        · subst e
          by_cases hsz' : i < L.size
          · simp [Array.getD_eq_getD_getElem?, hsz']
          · have := hL i hj; simp [Array.getD_eq_getD_getElem?, Array.getElem?_eq_none (Nat.le_of_not_lt hsz')] at this
        · have := hL j hj
          simpa [Array.getD_eq_getD_getElem?, Array.getElem?_setIfInBounds, e] using this⟩) (fun L hL => hL.2.1)
      (fun L M hL _ j hj hjr hjq => by
        rcases c1 j hj with (h | h) | h
        · exact hL.2.2 j h
        · exact absurd h hjq
        · exact absurd h hjr)
      qs.length _ _ a1 w.drew ⟨s1, fun i o ho hL e he hb => by
        have hin : i < l.length := (List.getElem?_eq_some_iff.1 ho).1
        have hif : i ∈ fs := by
          have := g1 i hin
          simp only [Array.getD_eq_getD_getElem?, this] at hL
          simpa [hin] using hL
        have h1 := List.all_eq_true.1 hcB i hif
        rw [ho] at h1
        simp only [Array.all_eq_true_iff_forall_mem, Bool.or_eq_true, Bool.not_eq_true', List.contains_iff_mem] at h1
        rcases h1 e he with h2 | h2
        · rw [hb] at h2; cases h2
        · simp [Array.getD_eq_getD_getElem?, g1 e.on (c5 _ h2), h2], fun j hj => by
        have hjn := c5 j hj
        simp [Array.getD_eq_getD_getElem?, g1 j hjn, hj]⟩ hR hC (quiet_order hs qs _ a1 hq h1)) h
  have e : fs.length + (qs.length + rs.length) = l.toArray.size := by simp; omega
  rw [e] at key
  simpa using key
end
end
section
open Go.RowKit
theorem tailAppO1 {p : Prop} (h : p := by
  rcases List.mem_append.1 hC with hC | hC
  · exact hown.2 C hC
  · exact ⟨hM.sizes C hC, hM.ones C hC⟩) : p := h
theorem einfo32 : (Tryz.prog.info? 32).map (fun i => (i.zero, i.size, i.bytes)) = some (some (.slice none 0 0), 1, 24) := by kernel_rfl
theorem app62o {ops : Array Oper} {rest : List Oper} {o : Oper} {a : Act} {w : World} {Q : Exit → Act → World → Prop} (hgd : o.guard = none) (s x : Operand)
    (ho : o.op = .call { callee := .builtin .append, args := #[s, x], argTypes := #[48, 48] }) (B : Nat) (v : Value) (L M : List (Array Value)) (hs : a.eval s = v) (hown : Own w B 62 5 v L)
    (ad : Addr) (m k : Nat) (hx : a.eval x = .slice (some ad) m k) (hM : Sl w (.slice (some ad) m k) 5 M) (hlen : L.length + M.length ≤ 200000) (hbase : B ≤ w.heap.size)
    (h : ∀ v' w', Own w' B 62 5 v' (L ++ M) → Below B w w' → (∀ q, q < w.heap.size → v.ownBlock ≠ some q → w'.heap[q]? = w.heap[q]?) → w.heap.size ≤ w'.heap.size → wpList Tryz.prog ops Q rest (a.put o.dst v') w') : wpList Tryz.prog ops Q (o :: rest) a w := by
  obtain ⟨i0, hi, hz0, hz1, hz2⟩ := info_parts einfo62
  obtain ⟨h1, h2, h3⟩ := hM.flat (by decide)
  have hm : m = M.length := bk48
  subst hm
  refine wpList_append_own (P := Tryz.prog) _ hgd s x 48 ho B 62 i0 (.agg #[.slice none 0 0, .int .i64 0, .slice none 0 0, .slice none 0 0, .bool false]) 5 88 Tryz.underlying48 hi hz0 hz1 hz2 rfl (by decide) v L.length (flat L) hs hown.1 ad M.length k (flat M) hx h1 h2 h3 (by unfold maxLen; omega) (by omega) hbase fun v' w' k1 k2 k3 => h v' w' ⟨?_, ?_⟩ ?_ (fun q hq hne => k2.block q hq (fun e => hne e.symm)) k2.size
  · rw [flat_append, List.length_append]; exact k1
  · intro C hC
    exact tailAppO1
  · exact (Below.refl B w).grown k2 hbase fun q hq => (hown.base hq).1
theorem app41o {ops : Array Oper} {rest : List Oper} {o : Oper} {a : Act} {w : World} {Q : Exit → Act → World → Prop} (hgd : o.guard = none) (s x : Operand)
    (ho : o.op = .call { callee := .builtin .append, args := #[s, x], argTypes := #[32, 32] }) (B : Nat) (v : Value) (L M : List (Array Value)) (hs : a.eval s = v) (hown : Own w B 41 12 v L)
    (ad : Addr) (m k : Nat) (hx : a.eval x = .slice (some ad) m k) (hM : Sl w (.slice (some ad) m k) 12 M) (hlen : L.length + M.length ≤ 200000) (hbase : B ≤ w.heap.size)
    (h : ∀ v' w', Own w' B 41 12 v' (L ++ M) → Below B w w' → (∀ q, q < w.heap.size → v.ownBlock ≠ some q → w'.heap[q]? = w.heap[q]?) → w.heap.size ≤ w'.heap.size → wpList Tryz.prog ops Q rest (a.put o.dst v') w') : wpList Tryz.prog ops Q (o :: rest) a w := by
  obtain ⟨i0, hi, hz0, hz1, hz2⟩ := info_parts einfo41
  obtain ⟨h1, h2, h3⟩ := hM.flat (by decide)
  have hm : m = M.length := bk48
  subst hm
  refine wpList_append_own (P := Tryz.prog) _ hgd s x 32 ho B 41 i0 (.agg #[.int .i64 0, .bool false, .int .u64 0, .int .u64 0, .int .i64 0, .bool false, .int .u64 0, .int .u64 0, .int .i64 0, .int .i64 0, .int .i64 0, .bool false]) 12 96 Tryz.underlying32 hi hz0 hz1 hz2 rfl (by decide) v L.length (flat L) hs hown.1 ad M.length k (flat M) hx h1 h2 h3 (by unfold maxLen; omega) (by omega) hbase fun v' w' k1 k2 k3 => h v' w' ⟨?_, ?_⟩ ?_ (fun q hq hne => k2.block q hq (fun e => hne e.symm)) k2.size
  · rw [flat_append, List.length_append]; exact k1
  · intro C hC
    exact tailAppO1
  · exact (Below.refl B w).grown k2 hbase fun q hq => (hown.base hq).1
theorem app32o {ops : Array Oper} {rest : List Oper} {o : Oper} {a : Act} {w : World} {Q : Exit → Act → World → Prop} (hgd : o.guard = none) (s x : Operand)
    (ho : o.op = .call { callee := .builtin .append, args := #[s, x], argTypes := #[31, 31] }) (B : Nat) (v : Value) (L M : List (Array Value)) (hs : a.eval s = v) (hown : Own w B 32 1 v L)
    (ad : Addr) (m k : Nat) (hx : a.eval x = .slice (some ad) m k) (hM : Sl w (.slice (some ad) m k) 1 M) (hlen : L.length + M.length ≤ 200000) (hbase : B ≤ w.heap.size)
    (h : ∀ v' w', Own w' B 32 1 v' (L ++ M) → Below B w w' → (∀ q, q < w.heap.size → v.ownBlock ≠ some q → w'.heap[q]? = w.heap[q]?) → w.heap.size ≤ w'.heap.size → wpList Tryz.prog ops Q rest (a.put o.dst v') w') : wpList Tryz.prog ops Q (o :: rest) a w := by
  obtain ⟨i0, hi, hz0, hz1, hz2⟩ := info_parts einfo32
  obtain ⟨h1, h2, h3⟩ := hM.flat (by decide)
  have hm : m = M.length := bk48
  subst hm
  refine wpList_append_own (P := Tryz.prog) _ hgd s x 31 ho B 32 i0 (.slice none 0 0) 1 24 Tryz.underlying31 hi hz0 hz1 hz2 rfl (by decide) v L.length (flat L) hs hown.1 ad M.length k (flat M) hx h1 h2 h3 (by unfold maxLen; omega) (by omega) hbase fun v' w' k1 k2 k3 => h v' w' ⟨?_, ?_⟩ ?_ (fun q hq hne => k2.block q hq (fun e => hne e.symm)) k2.size
  · rw [flat_append, List.length_append]; exact k1
  · intro C hC
    exact tailAppO1
  · exact (Below.refl B w).grown k2 hbase fun q hq => (hown.base hq).1
theorem app129o {ops : Array Oper} {rest : List Oper} {o : Oper} {a : Act} {w : World} {Q : Exit → Act → World → Prop} (hgd : o.guard = none) (s x : Operand)
    (ho : o.op = .call { callee := .builtin .append, args := #[s, x], argTypes := #[44, 44] }) (B : Nat) (v : Value) (L M : List (Array Value)) (hs : a.eval s = v) (hown : Own w B 129 2 v L)
    (ad : Addr) (m k : Nat) (hx : a.eval x = .slice (some ad) m k) (hM : Sl w (.slice (some ad) m k) 2 M) (hlen : L.length + M.length ≤ 200000) (hbase : B ≤ w.heap.size)
    (h : ∀ v' w', Own w' B 129 2 v' (L ++ M) → Below B w w' → (∀ q, q < w.heap.size → v.ownBlock ≠ some q → w'.heap[q]? = w.heap[q]?) → w.heap.size ≤ w'.heap.size → wpList Tryz.prog ops Q rest (a.put o.dst v') w') : wpList Tryz.prog ops Q (o :: rest) a w := by
  obtain ⟨i0, hi, hz0, hz1, hz2⟩ := info_parts einfo129
  obtain ⟨h1, h2, h3⟩ := hM.flat (by decide)
  have hm : m = M.length := bk48
  subst hm
  refine wpList_append_own (P := Tryz.prog) _ hgd s x 44 ho B 129 i0 (.agg #[.int .i64 0, .slice none 0 0]) 2 32 Tryz.underlying44 hi hz0 hz1 hz2 rfl (by decide) v L.length (flat L) hs hown.1 ad M.length k (flat M) hx h1 h2 h3 (by unfold maxLen; omega) (by omega) hbase fun v' w' k1 k2 k3 => h v' w' ⟨?_, ?_⟩ ?_ (fun q hq hne => k2.block q hq (fun e => hne e.symm)) k2.size
  · rw [flat_append, List.length_append]; exact k1
  · intro C hC
    exact tailAppO1
  · exact (Below.refl B w).grown k2 hbase fun q hq => (hown.base hq).1
theorem app75o {ops : Array Oper} {rest : List Oper} {o : Oper} {a : Act} {w : World} {Q : Exit → Act → World → Prop} (hgd : o.guard = none) (s x : Operand)
    (ho : o.op = .call { callee := .builtin .append, args := #[s, x], argTypes := #[55, 55] }) (B : Nat) (v : Value) (L M : List (Array Value)) (hs : a.eval s = v) (hown : Own w B 75 10 v L)
    (ad : Addr) (m k : Nat) (hx : a.eval x = .slice (some ad) m k) (hM : Sl w (.slice (some ad) m k) 10 M) (hlen : L.length + M.length ≤ 200000) (hbase : B ≤ w.heap.size)
    (h : ∀ v' w', Own w' B 75 10 v' (L ++ M) → Below B w w' → (∀ q, q < w.heap.size → v.ownBlock ≠ some q → w'.heap[q]? = w.heap[q]?) → w.heap.size ≤ w'.heap.size → wpList Tryz.prog ops Q rest (a.put o.dst v') w') : wpList Tryz.prog ops Q (o :: rest) a w := by
  obtain ⟨i0, hi, hz0, hz1, hz2⟩ := info_parts einfo75
  obtain ⟨h1, h2, h3⟩ := hM.flat (by decide)
  have hm : m = M.length := bk48
  subst hm
  refine wpList_append_own (P := Tryz.prog) _ hgd s x 55 ho B 75 i0 (.agg #[.bool false, .int .u64 0, .int .u64 0, .int .i64 0, .bool false, .int .i64 0, .int .i64 0, .int .i64 0, .int .i64 0, .int .i64 0]) 10 80 Tryz.underlying55 hi hz0 hz1 hz2 rfl (by decide) v L.length (flat L) hs hown.1 ad M.length k (flat M) hx h1 h2 h3 (by unfold maxLen; omega) (by omega) hbase fun v' w' k1 k2 k3 => h v' w' ⟨?_, ?_⟩ ?_ (fun q hq hne => k2.block q hq (fun e => hne e.symm)) k2.size
  · rw [flat_append, List.length_append]; exact k1
  · intro C hC
    exact tailAppO1
  · exact (Below.refl B w).grown k2 hbase fun q hq => (hown.base hq).1
/-- Rows of elements of two types are two. -/
theorem Own.two {W : World} {B B' : Nat} {e e' : TypeId} {n n' : Nat} {v v' : Value} {L L' : List (Array Value)} (h : Own W B e n v L) (h' : Own W B' e' n' v' L') (ht : e ≠ e') {g : Nat} (hv : v.ownBlock = some g) : v'.ownBlock ≠ some g := by
  intro hv'
  obtain ⟨⟨_, h2⟩, _⟩ := h
  obtain ⟨⟨_, h2'⟩, _⟩ := h'
  rcases h2 with ⟨rfl, _⟩ | ⟨q, cap, cur, rfl, h4, h5, h6⟩
  · simp [Value.ownBlock] at hv
  rcases h2' with ⟨rfl, _⟩ | ⟨q', cap', cur', rfl, h4', h5', h6'⟩
  · simp [Value.ownBlock] at hv'
  simp only [Value.ownBlock, Option.some.injEq] at hv hv'
  subst hv hv'
  rw [h5] at h5'
  simp only [Option.some.injEq, Obj.cells.injEq] at h5'
  exact ht h5'.2.1
/-- A row beside the one that grows. -/
theorem Own.beside {W W' : World} {B B' : Nat} {e e' : TypeId} {n n' : Nat} {v v' : Value} {L L' : List (Array Value)} (h : Own W B e n v L) (h' : Own W B' e' n' v' L') (ht : e ≠ e') (hw : ∀ q, q < W.heap.size → v'.ownBlock ≠ some q → W'.heap[q]? = W.heap[q]?) : Own W' B e n v L :=
  h.same fun g hg hl => hw g hl (Own.two h h' ht hg)
end
section
open Go.RowKit
theorem flat_set {n : Nat} : ∀ {L : List (Array Value)} {i : Nat} {C : Array Value}, (∀ D ∈ L, D.size = n) → C.size = n → i < L.length → flat (L.set i C) = (flat L).take (i * n) ++ C.toList ++ (flat L).drop (i * n + n)
  | [], i, C, h, hC, hi => by simp at hi
  | D :: L, 0, C, h, hC, hi => by
    have hD := h D (by simp)
    have e : D.toList.length = n := by simpa using hD
    show flat (C :: L) = _
    simp only [flat, List.flatMap_cons, Nat.zero_mul, List.take_zero, List.nil_append, Nat.zero_add]
    rw [List.drop_append_of_le_length (by omega), List.drop_eq_nil_of_le (by omega), List.nil_append]
  | D :: L, i + 1, C, h, hC, hi => by
    have hD := h D (by simp)
    have e : D.toList.length = n := by simpa using hD
    have ih := flat_set (L := L) (i := i) (C := C) (fun E hE => h E (by simp [hE])) hC (by simpa using hi)
    show flat (D :: L.set i C) = _
    have e1 : flat (D :: L.set i C) = D.toList ++ flat (L.set i C) := by simp [flat]
    have e2 : flat (D :: L) = D.toList ++ flat L := by simp [flat]
    rw [e1, e2, ih]
    have a1 : (i + 1) * n = D.toList.length + i * n := by rw [e, Nat.add_mul]; omega
    have a2 : (i + 1) * n + n = D.toList.length + (i * n + n) := by omega
    rw [a1, Nat.add_assoc D.toList.length, List.take_length_add_append, List.drop_length_add_append]
    simp
theorem Own.setEl {W : World} {B : Nat} {e : TypeId} {n : Nat} {v : Value} {L : List (Array Value)} (h : Own W B e n v L) {i : Nat} (hi : i < L.length) {C : Array Value} (hC : C.size = n) (h1 : ones C = true) :
    ∃ g cap, v = .slice (some ⟨g, 0, none⟩) L.length cap ∧ L.length ≤ cap ∧ cap ≤ maxLen ∧ B ≤ g ∧ g < W.heap.size ∧ fitsAt W g (i * n) n = true ∧ Own (setAt W g (i * n) C) B e n v (L.set i C) := by
  obtain ⟨⟨k1, k2⟩, k3⟩ := h
  rcases k2 with ⟨_, k2⟩ | ⟨g, cap, cur, rfl, hB, hg, hc, hm, hz, ht⟩
  · omega
  have hgl : g < W.heap.size := (Array.getElem?_eq_some_iff.1 hg).1
  have hle : i * n + n ≤ cap * n := by
    have : (i + 1) * n ≤ cap * n := Nat.mul_le_mul_right n (by omega)
    rw [Nat.add_mul] at this; omega
  have hle2 : i * n + n ≤ L.length * n := by
    have : (i + 1) * n ≤ L.length * n := Nat.mul_le_mul_right n (by omega)
    rw [Nat.add_mul] at this; omega
  have hrow : rowOf W g = cur := by unfold rowOf; rw [hg]
  refine ⟨g, cap, rfl, hc, hm, hB, hgl, ?_, ?_⟩
  · unfold fitsAt; rw [hg]; simp; omega
  refine ⟨⟨?_, .inr ⟨g, cap, putAt cur (i * n) C, by simp, hB, ?_, by simpa using hc, hm, ?_, ?_⟩⟩, fun D hD => ?_⟩
  · rw [flat_length (n := n) fun D hD => ?_]
    rcases List.mem_or_eq_of_mem_set hD with hD | rfl
    · exact (k3 D hD).1
    · exact hC
  · rw [setAt, hrow]
    unfold World.setRow
    simp [Array.getElem?_modify, hg]
  · rw [putAt_size (by omega)]; exact hz
  · have hcl : cur.toList.length = cap * n := by simpa using hz
    have hll : (cur.toList.take (L.length * n)).length = L.length * n := by
      rw [List.length_take, hcl]
      exact Nat.min_eq_left (Nat.mul_le_mul_right n hc)
    rw [flat_set (fun D hD => (k3 D hD).1) hC hi, ← ht, List.length_set]
    have e0 : C.toList.length = n := by simpa using hC
    unfold putAt
    rw [hC]
    show ((cur.toList.take (i * n) ++ C.toList ++ cur.toList.drop (i * n + n))).take (L.length * n) = _
    rw [List.take_take, Nat.min_eq_left (by omega), List.drop_take, List.append_assoc, List.append_assoc, List.take_append, List.length_take, hcl, Nat.min_eq_left (by omega), List.take_of_length_le (by rw [List.length_take]; omega)]
    congr 1
    rw [List.take_append, e0, List.take_of_length_le (by omega)]
    congr 2
    omega
  · rcases List.mem_or_eq_of_mem_set hD with hD | rfl
    · exact k3 D hD
    · exact ⟨hC, h1⟩
/-- A slice of structs that reach further. -/
def Els {α : Type} (R : World → Array Value → α → Prop) (W : World) (Cs : List (Array Value)) (xs : List α) : Prop := Cs.length = xs.length ∧ ∀ (i : Nat) (C : Array Value) (x : α), Cs[i]? = some C → xs[i]? = some x → R W C x
section
variable {α : Type} {R : World → Array Value → α → Prop} {W W' : World} {Cs : List (Array Value)} {xs : List α}
theorem Els.mono (h : Els R W Cs xs) (hR : ∀ C x, R W C x → R W' C x) : Els R W' Cs xs := ⟨h.1, fun i C x h1 h2 => hR C x (h.2 i C x h1 h2)⟩
theorem Els.nil (R : World → Array Value → α → Prop) (W : World) : Els R W [] [] := ⟨rfl, fun i C x h => by simp at h⟩
theorem Els.snoc (h : Els R W Cs xs) {C : Array Value} {x : α} (hC : R W C x) : Els R W (Cs ++ [C]) (xs ++ [x]) := by
  refine ⟨by simp [h.1], fun i D y h1 h2 => ?_⟩
  rw [List.getElem?_append] at h1 h2
  split at h1
  · rename_i hi
    rw [if_pos (by rw [← h.1]; exact hi)] at h2
    exact h.2 i D y h1 h2
  · rename_i hi
    rw [if_neg (by rw [← h.1]; exact hi)] at h2
    rw [← h.1] at h2
    cases e : i - Cs.length with
    | zero => rw [e] at h1 h2; simp at h1 h2; subst h1 h2; exact hC
    | succ k => rw [e] at h1; simp at h1
theorem Els.set (h : Els R W Cs xs) {C : Array Value} {x : α} (hC : R W C x) (i : Nat) : Els R W (Cs.set i C) (xs.set i x) := by
  refine ⟨by simp [h.1], fun j D y h1 h2 => ?_⟩
  rw [List.getElem?_set] at h1 h2
  by_cases e : i = j
  · subst e
    by_cases hi : i < Cs.length
    · have hi' : i < xs.length := h.1 ▸ hi
      simp [hi] at h1
      simp [hi'] at h2
      subst h1 h2; exact hC
    · simp [hi] at h1
  · rw [if_neg e] at h1 h2
    exact h.2 j D y h1 h2
theorem Els.at (h : Els R W Cs xs) {i : Nat} {x : α} (hx : xs[i]? = some x) : ∃ C, Cs[i]? = some C ∧ R W C x := by
  have hi : i < Cs.length := by rw [h.1]; exact (List.getElem?_eq_some_iff.1 hx).1
  exact ⟨_, List.getElem?_eq_getElem hi, h.2 i _ x (List.getElem?_eq_getElem hi) hx⟩
end
def TaskAt (W : World) (C : Array Value) (t : Pm.Task) : Prop := ∃ vc vg vr, C = #[vc, .int .i64 t.nth, vg, vr, .bool false] ∧ Sl W vc 12 (t.calls.map callC) ∧ Sl W vg 13 (t.got.map valC) ∧ Sl W vr 8 (t.replies.map replyC)
def ShardAt (W : World) (C : Array Value) (s : Nat × List Nat) : Prop := ∃ v, C = #[.int .i64 s.1, v] ∧ Sl W v 10 (s.2.map peerC)
def shC (i : Nat) : Array Value := #[.int .i64 i]
def LockAt (W : World) (C : Array Value) (k : Nat × List Nat) : Prop := ∃ v, C = #[.int .i64 k.1, v] ∧ Sl W v 1 (k.2.map shC)
theorem TaskAt.below {W W' : World} {C : Array Value} {t : Pm.Task} (h : TaskAt W C t) (k : Below W.heap.size W W') : TaskAt W' C t := by
  obtain ⟨a, b, c, h0, h1, h2, h3⟩ := h
  exact ⟨a, b, c, h0, h1.below k, h2.below k, h3.below k⟩
theorem ShardAt.below {W W' : World} {C : Array Value} {t : Nat × List Nat} (h : ShardAt W C t) (k : Below W.heap.size W W') : ShardAt W' C t := by
  obtain ⟨a, h0, h1⟩ := h
  exact ⟨a, h0, h1.below k⟩
theorem LockAt.below {W W' : World} {C : Array Value} {t : Nat × List Nat} (h : LockAt W C t) (k : Below W.heap.size W W') : LockAt W' C t := by
  obtain ⟨a, h0, h1⟩ := h
  exact ⟨a, h0, h1.below k⟩
end
end Go.Proofs.YtnncjbkepakgpaaGreat
