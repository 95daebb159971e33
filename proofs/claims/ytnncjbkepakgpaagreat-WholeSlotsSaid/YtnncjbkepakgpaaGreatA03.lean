/-
  ACCEPTS AT ONCE, IN PLAIN LEAN: nobody waits for ever; how many are let in.
  AIDS FOR THE WALK OVER THE WORLD, IN PLAIN LEAN: an operation that is asked fits; how long things grow.
  THE PLAIN LAWS of mixing (layer 10): no Go in sight: numbers of 64 bits; unlike numbers are mixed to unlike ones.
-/
import Derived.Test.YtnncjbkepakgpaaGreatA02
set_option linter.unusedVariables false
set_option linter.unusedSimpArgs false
namespace Go.Proofs.YtnncjbkepakgpaaGreat.Pm
set_option linter.unusedVariables false
theorem sum_zero {α : Type} (f : α → Nat) : ∀ (z : List α), (∀ a ∈ z, f a = 0) → (z.map f).sum = 0
  | [], _ => rfl
  | x :: z, h => by
    simp only [List.map_cons, List.sum_cons]
    rw [h x (by simp), sum_zero f z fun a ha => h a (by simp [ha])]
section
variable {c : Cf} {w : Wd} {z : List Tk}
theorem over_live (x : Tk) : over x.1 = !decide (live x) := by
  unfold over live
  by_cases h : x.1.nth < x.1.calls.length
  · simp [h, Nat.not_le.2 h]
  · simp [h, Nat.le_of_not_lt h]
theorem next_eq (h : Inv c w z) {who : Nat} {x : Tk} (hx : z[who]? = some x) : next c w x.1 = if live x ∧ may w (opOf c (me x.1) x.2) = true then some (opOf c (me x.1) x.2) else none := by
  unfold next
  rw [over_live]
  by_cases hl : live x
  · obtain ⟨_, _, he⟩ := h.each who x hx
    obtain ⟨e1, e2, _⟩ := he hl
    simp only [hl, decide_true, Bool.not_true, Bool.false_eq_true, if_false, turn_at e1 e2, true_and]
  · simp [hl]
theorem task_at (h : Inv c w z) {who : Nat} {x : Tk} (hx : z[who]? = some x) : w.tasks[who]? = some x.1 := by
  rw [h.ts, List.getElem?_map, hx]; rfl
theorem task_of (h : Inv c w z) {who : Nat} {t : Task} (ht : w.tasks[who]? = some t) : ∃ x, z[who]? = some x ∧ x.1 = t := by
  rw [h.ts, List.getElem?_map] at ht
  cases e : z[who]? with
  | none => rw [e] at ht; cases ht
  | some x => rw [e] at ht; exact ⟨x, rfl, Option.some.inj ht⟩
theorem mem_enabled (h : Inv c w z) {who : Nat} : who ∈ enabled c w ↔ ∃ x, z[who]? = some x ∧ live x ∧ may w (opOf c (me x.1) x.2) = true := by
  unfold enabled
  rw [List.mem_filter, List.mem_range]
  constructor
  · rintro ⟨h1, h2⟩
    obtain ⟨x, hx, e⟩ := task_of h (List.getElem?_eq_getElem h1)
    rw [List.getElem?_eq_getElem h1, ← e] at h2
    simp only at h2
    rw [next_eq h hx] at h2
    split at h2
    · rename_i h3
      exact ⟨x, hx, h3.1, h3.2⟩
    · cases h2
  · rintro ⟨x, hx, h1, h2⟩
    have ht := task_at h hx
    refine ⟨(List.getElem?_eq_some_iff.1 ht).1, ?_⟩
    rw [ht]
    simp only
    rw [next_eq h hx, if_pos ⟨h1, h2⟩]; rfl
/-- A task that is enabled. -/
theorem enabled_step (h : Inv c w z) (hc : Ok c) (hz : z.length ≤ 8) {who : Nat} (he : who ∈ enabled c w) : ∃ t o, w.tasks[who]? = some t ∧ next c w t = some o ∧ over t = false ∧ turn c t = .pause o ∧ may w o = true ∧ step c w who = stepWith c w who t o ∧
    (∀ r, turn c { t with got := t.got ++ [(act w who o).2] } = r → r ≠ .bad) ∧ ∃ z', Inv c (step c w who) z' ∧ phi c (step c w who).inn z' < phi c w.inn z ∧ z'.map (fun x => x.1.calls) = z.map (fun x => x.1.calls) := by
  obtain ⟨x, hx, hl, hm⟩ := (mem_enabled h).1 he
  have ht := task_at h hx
  obtain ⟨_, _, hE⟩ := h.each who x hx
  obtain ⟨e1, e2, _⟩ := hE hl
  have hn : next c w x.1 = some (opOf c (me x.1) x.2) := by rw [next_eq h hx, if_pos ⟨hl, hm⟩]
  have hs : step c w who = stepWith c w who x.1 (opOf c (me x.1) x.2) := by
    unfold step
    rw [ht]
    simp only [hn]
  obtain ⟨h1, y, h2, h3, h4⟩ := h.step hc hz hx hl hm
  refine ⟨x.1, _, ht, hn, by rw [over_live]; simp [hl], turn_at e1 e2, hm, hs, h1, z.set who y, by rw [hs]; exact h3, by rw [hs]; exact h4, ?_⟩
  have hca : y.1.calls = x.1.calls := by
    rw [← h2]; unfold take; split <;> rfl
  apply List.ext_getElem?
  intro i
  simp only [List.getElem?_map]
  by_cases e : i = who
  · subst e
    have hlt : i < z.length := (List.getElem?_eq_some_iff.1 hx).1
    rw [List.getElem?_set]
    simp [hlt, hca, (List.getElem?_eq_some_iff.1 hx).2]
  · rw [List.getElem?_set, if_neg (Ne.symm e)]
/-- No turn is bad. -/
theorem turn_fine (h : Inv c w z) {who : Nat} {t : Task} (ht : w.tasks[who]? = some t) (ho : over t = false) : ∃ o, turn c t = .pause o := by
  obtain ⟨x, hx, rfl⟩ := task_of h ht
  rw [over_live] at ho
  have hl : live x := by simpa using ho
  obtain ⟨_, _, hE⟩ := h.each who x hx
  obtain ⟨e1, e2, _⟩ := hE hl
  exact ⟨_, turn_at e1 e2⟩
theorem blocked (h : Inv c w z) (hc : Ok c) (he : enabled c w = []) {i : Nat} {x : Tk} (hx : z[i]? = some x) (hl : live x) : x.2 = .lock ∨ ∃ j, x.2 = .lockAll j ∧ j < c.S := by
  have hm : may w (opOf c (me x.1) x.2) = false := by
    cases e : may w (opOf c (me x.1) x.2) with
    | false => rfl
    | true =>
      have := (mem_enabled h).2 ⟨x, hx, hl, e⟩
      rw [he] at this; cases this
  obtain ⟨_, _, hE⟩ := h.each i x hx
  obtain ⟨_, hf, _⟩ := hE hl
  have h0 := h.l0
  obtain ⟨t, p⟩ := x
  cases p with
  | share => simp only [opOf, may] at hm; rw [h0] at hm; cases hm
  | lock => exact .inl rfl
  | lockAll j => exact .inr ⟨j, rfl, hf⟩
  | _ => simp [opOf, may] at hm
theorem wait_holder (h : Inv c w z) (hc : Ok c) (he : enabled c w = []) {i q : Nat} {x : Tk} (hx : z[i]? = some x) (hl : live x) (hq : q < c.S) (ho : opOf c (me x.1) x.2 = .lock (2 + q)) : ∃ (k : Nat) (y : Tk) (j : Nat), z[k]? = some y ∧ live y ∧ y.2 = .lockAll j ∧ q < j ∧ j < c.S := by
  have hm : w.locks.getD (2 + q) 0 ≠ 0 := by
    intro e
    have := (mem_enabled h).2 ⟨x, hx, hl, by rw [ho]; simp only [may, e]; rfl⟩
    rw [he] at this; cases this
  rcases h.lk' q hq with h1 | ⟨k, y, h1, h2⟩
  · exact absurd h1 hm
  · have h3 := (h.lk q hq k y h1).2 h2
    rcases blocked h hc he h1 h3.1 with h4 | ⟨j, h4, h5⟩
    · have := h3.2; rw [h4] at this; exact absurd this (by simp [holdsP])
    · have := h3.2
      rw [h4] at this
      exact ⟨k, y, j, h1, h3.1, h4, this, h5⟩
theorem no_chain (h : Inv c w z) (hc : Ok c) (he : enabled c w = []) : ∀ (d j k : Nat) (y : Tk), c.S - j ≤ d → z[k]? = some y → live y → y.2 = .lockAll j → j < c.S → False
  | 0, j, k, y, h1, h2, h3, h4, h5 => by omega
  | d + 1, j, k, y, h1, h2, h3, h4, h5 => by
    obtain ⟨k', y', j', a1, a2, a3, a4, a5⟩ := wait_holder h hc he h2 h3 h5 (by rw [h4]; rfl)
    exact no_chain h hc he d j' k' y' (by omega) a1 a2 a3 a5
/-- If nobody is enabled, all is over. -/
theorem all_over (h : Inv c w z) (hc : Ok c) (he : enabled c w = []) {i : Nat} {x : Tk} (hx : z[i]? = some x) : ¬ live x := by
  intro hl
  have key : ∃ q, q < c.S ∧ opOf c (me x.1) x.2 = .lock (2 + q) := by
    rcases blocked h hc he hx hl with h1 | ⟨j, h1, h2⟩
    · exact ⟨_, hc.prt (me x.1), by rw [h1]; rfl⟩
    · exact ⟨j, h2, by rw [h1]; rfl⟩
  obtain ⟨q, hq, ho⟩ := key
  obtain ⟨k, y, j, h1, h2, h3, h4, h5⟩ := wait_holder h hc he hx hl hq ho
  exact no_chain h hc he _ j k y (Nat.le_refl _) h1 h2 h3 h5
theorem phi_zero (h : phi c w.inn z = 0) {i : Nat} {x : Tk} (hx : z[i]? = some x) : ¬ live x := by
  intro hl
  have h1 := sum_le (rem c w.inn) z i x hx
  unfold phi at h
  rw [show rem c w.inn x = remP c w.inn x.2 + (x.1.calls.length - x.1.nth - 1) * (c.most + full1 c + 5) by unfold rem; rw [if_pos hl]] at h1
  have : 0 < remP c w.inn x.2 := by
    cases x.2 <;> simp only [remP] <;> first | omega | (split <;> simp only [full1] <;> omega) | (rename_i ok; cases ok <;> simp only [remP, full1] <;> omega)
  omega
/-- How it ends. -/
theorem result (h : Inv c w z) (hc : Ok c) (ho : ∀ (i : Nat) (x : Tk), z[i]? = some x → ¬ live x) :
    (∀ (i : Nat) (t : Task), w.tasks[i]? = some t → over t = true ∧ t.replies.length = t.calls.length) ∧ w.inn = ((w.tasks.map fun t => t.replies.count true).sum : Nat) ∧
    ((w.tasks.map fun t => t.replies.count true).sum = min (w.tasks.map fun t => t.calls.length).sum c.most) ∧
    ((w.tasks.map fun t => t.replies.count false).sum = (w.tasks.map fun t => t.calls.length).sum - (w.tasks.map fun t => t.replies.count true).sum) ∧
    ((w.parts.map fun p => p.2.length).sum = (w.tasks.map fun t => t.replies.count true).sum) ∧ ∀ q, q < c.S → (partOf w q).1 = lenOf w q := by
  have h1 : ∀ (i : Nat) (t : Task), w.tasks[i]? = some t → over t = true ∧ t.replies.length = t.calls.length := fun i t ht => by
    obtain ⟨x, hx, rfl⟩ := task_of h ht
    obtain ⟨e1, e2, _⟩ := h.each i x hx
    have := ho i x hx
    refine ⟨by rw [over_live]; simp [this], ?_⟩
    unfold live at this; omega
  have hmem : ∀ x ∈ z, ¬ live x := fun x hx => by
    obtain ⟨i, hi⟩ := List.mem_iff_getElem?.1 hx
    exact ho i x hi
  have hw : (z.map wr).sum = 0 := by
    exact sum_zero wr z fun x hx => by simp [wr, hmem x hx]
  have hk : (z.map fun x => oks x + pend x).sum = (w.tasks.map fun t => t.replies.count true).sum := by
    rw [h.ts, List.map_map]
    exact sum_same _ _ z fun x hx => by simp [pend, hmem x hx, oks]
  have h2 : w.inn = ((w.tasks.map fun t => t.replies.count true).sum : Nat) := by rw [← hk]; exact h.s2
  have h3 : (w.tasks.map fun t => t.replies.count true).sum + (w.tasks.map fun t => t.replies.count false).sum = (w.tasks.map fun t => t.calls.length).sum := by
    have key : ∀ (l : List Task), (∀ t ∈ l, t.replies.length = t.calls.length) → (l.map fun t => t.replies.count true).sum + (l.map fun t => t.replies.count false).sum = (l.map fun t => t.calls.length).sum := by
      intro l
      induction l with
      | nil => intro _; rfl
      | cons t l ih =>
        intro hl
        have e1 := hl t (by simp)
        have e2 := ih fun t ht => hl t (by simp [ht])
        have e3 : ∀ r : List Bool, r.count true + r.count false = r.length := fun r => by
          induction r with
          | nil => rfl
          | cons b r ih => cases b <;> simp <;> omega
        have e4 := e3 t.replies
        simp only [List.map_cons, List.sum_cons]
        omega
    exact key _ fun t ht => by
      obtain ⟨i, hi⟩ := List.mem_iff_getElem?.1 ht
      exact (h1 i t hi).2
  have h4 := h.le
  have h5 : (w.tasks.map fun t => t.replies.count false).sum ≠ 0 → (c.most : Int) ≤ w.inn := fun hne => by
    have : ∃ x ∈ z, false ∈ x.1.replies := by
      apply Classical.byContradiction
      intro hn
      apply hne
      rw [h.ts, List.map_map]
      exact sum_zero _ z fun x hx => List.count_eq_zero.2 fun hf => hn ⟨x, hx, hf⟩
    obtain ⟨x, hx, hf⟩ := this
    obtain ⟨i, hi⟩ := List.mem_iff_getElem?.1 hx
    exact h.full i x hi (.inl hf)
  have h6 := h.s1
  rw [hw] at h6
  refine ⟨h1, h2, ?_, by omega, by omega, fun q hq => ?_⟩
  · by_cases e : (w.tasks.map fun t => t.replies.count false).sum = 0
    · omega
    · have := h5 e; omega
  · rcases h.pt q hq with h7 | ⟨i, x, l, h7, h8, _⟩
    · exact h7
    · exact absurd h8 (ho i x h7)
/-- The world before. -/
def zero (c : Cf) (ls : List (List Nat)) : Wd := ⟨0, List.replicate c.S (0, []), List.replicate (c.S + 2) 0, 0, ls.map fun l => ⟨l, 0, [], []⟩⟩
def zeroZ (ls : List (List Nat)) : List Tk := ls.map fun l => (⟨l, 0, [], []⟩, .share)
theorem zero_inv (hc : Ok c) (ls : List (List Nat)) (ha : ∀ (i : Nat) (l : List Nat) (k j : Nat) (m : List Nat) (n : Nat), ls[i]? = some l → ls[j]? = some m → k < l.length → n < m.length → ¬ (i = j ∧ k = n) → kOf (l.getD k 0) ≠ kOf (m.getD n 0)) : Inv c (zero c ls) (zeroZ ls) := by
  have hz : ∀ (i : Nat) (x : Tk), (zeroZ ls)[i]? = some x → ∃ l, ls[i]? = some l ∧ x = (⟨l, 0, [], []⟩, .share) := fun i x hx => by
    unfold zeroZ at hx
    rw [List.getElem?_map] at hx
    cases e : ls[i]? with
    | none => rw [e] at hx; cases hx
    | some l => rw [e] at hx; exact ⟨l, rfl, (Option.some.inj hx).symm⟩
  have hl : ∀ k, (zero c ls).locks.getD k 0 = 0 := fun k => by
    simp only [zero, List.getD_eq_getElem?_getD, List.getElem?_replicate]
    split <;> rfl
  have hp : ∀ q, partOf (zero c ls) q = (0, []) := fun q => by
    simp only [partOf, zero, List.getD_eq_getElem?_getD, List.getElem?_replicate]
    split <;> rfl
  refine ⟨?_, by simp [zero], hl 0, by simp [zero], fun q hq i x hx => ?_, fun q hq => .inl (hl _), fun q hq => .inl (by simp [lenOf, hp]), fun i x k hx h1 h2 h3 q hq => by rw [hp]; exact Clear.nil _, ?_, ?_, by simp [zero], fun i x hx h1 => ?_, fun i x hx => ?_, fun i x k j y m hx hy h1 h2 h3 => ?_⟩
  · simp [zero, zeroZ, Function.comp_def]
  · obtain ⟨l, _, rfl⟩ := hz i x hx
    rw [hl]
    simp [holds, holdsP]
  · have e1 : ((zero c ls).parts.map fun p => p.2.length).sum = 0 := sum_zero _ _ fun p hp => by
      simp only [zero] at hp
      rw [(List.mem_replicate.1 hp).2]; rfl
    have e2 : ((zeroZ ls).map wr).sum = 0 := sum_zero _ _ fun x hx => by
      obtain ⟨i, hi⟩ := List.mem_iff_getElem?.1 hx
      obtain ⟨l, _, rfl⟩ := hz i x hi
      simp [wr, atW]
    rw [e1, e2]; rfl
  · have e2 : ((zeroZ ls).map fun x => oks x + pend x).sum = 0 := sum_zero _ _ fun x hx => by
      obtain ⟨i, hi⟩ := List.mem_iff_getElem?.1 hx
      obtain ⟨l, _, rfl⟩ := hz i x hi
      simp [oks, pend, atW, wrote]
    rw [e2]; rfl
  · obtain ⟨l, _, rfl⟩ := hz i x hx
    simp [slowP] at h1
  · obtain ⟨l, _, rfl⟩ := hz i x hx
    exact ⟨Nat.zero_le _, rfl, fun _ => ⟨fun g => rfl, trivial, trivial⟩⟩
  · obtain ⟨l, e1, rfl⟩ := hz i x hx
    obtain ⟨m', e2, rfl⟩ := hz j y hy
    exact ha i l k j m' m e1 e2 h1 h2 h3
theorem zero_phi (ls : List (List Nat)) : phi c 0 (zeroZ ls) ≤ (ls.map List.length).sum * (c.most + full1 c + 5) + 16 * c.most := by
  have key : ∀ ls : List (List Nat), ((zeroZ ls).map (rem c 0)).sum ≤ (ls.map List.length).sum * (c.most + full1 c + 5) := by
    intro ls
    induction ls with
    | nil => simp [zeroZ]
    | cons l ls ih =>
      simp only [zeroZ, List.map_cons, List.sum_cons, Nat.add_mul] at ih ⊢
      have : rem c 0 (⟨l, 0, [], []⟩, .share) ≤ l.length * (c.most + full1 c + 5) := by
        unfold rem live
        cases l with
        | nil => simp
        | cons a l => simp only [List.length_cons, Nat.zero_lt_succ, if_true, remP, Nat.sub_zero, Nat.add_sub_cancel, Nat.add_mul l.length 1]; omega
      omega
  have := key ls
  unfold phi
  omega
end
end Go.Proofs.YtnncjbkepakgpaaGreat.Pm
namespace Go.Proofs.YtnncjbkepakgpaaGreat.Pm
set_option linter.unusedVariables false
def opFits (S : Nat) (p : Wd) : Op → Prop
  | .lock k => 1 ≤ k ∧ k ≤ S + 1
  | .free k _ => 1 ≤ k ∧ k ≤ S + 1
  | .size q => q < S
  | .slot q _ => q < S
  | .wslot q i _ => q < S ∧ i = (partOf p q).2.length ∧ i ≤ 900
  | .wsize q _ => q < S
  | _ => True
section
variable {c : Cf} {w : Wd} {z : List Tk}
theorem parts_len (h : Inv c w z) (hc : Ok c) {q : Nat} (hq : q < c.S) : (partOf w q).2.length ≤ 19 := by
  have h1 := h.s1
  have h2 := h.le
  have h3 := hc.most
  have hx : w.parts[q]? = some (partOf w q) := by
    unfold partOf
    rw [List.getD_eq_getElem?_getD, List.getElem?_eq_getElem (by rw [h.np]; exact hq)]; rfl
  have h4 := sum_le (fun p : Nat × List Nat => p.2.length) w.parts q _ hx
  omega
theorem op_fits (h : Inv c w z) (hc : Ok c) {who : Nat} {x : Tk} (hx : z[who]? = some x) (hl : live x) : opFits c.S w (opOf c (me x.1) x.2) := by
  obtain ⟨_, _, hE⟩ := h.each who x hx
  obtain ⟨_, hf, hp⟩ := hE hl
  have hS := hc.prt (me x.1)
  have hln := parts_len h hc hS
  obtain ⟨t, p⟩ := x
  cases p <;> (try simp only [opOf, opFits]) <;> (try simp only [fit] at hf) <;> (try simp only [PosOk, lenOf] at hp) <;> (try simp only at hS hln) <;> first | trivial | omega | exact ⟨hS, hp, by omega⟩
/-- How long things grow: at most by one a step. -/
structure Few (k : Nat) (w : Wd) : Prop where
  sh : w.sh ≤ k
  ts : ∀ t ∈ w.tasks, t.got.length ≤ k ∧ ∀ n : Int, .num n ∈ t.got → 0 ≤ n
theorem act_nn (h : Inv c w z) {who : Nat} (o : Op) : ∀ n : Int, (act w who o).2 = .num n → 0 ≤ n := by
  intro n e
  have h1 := h.s1
  cases o <;> simp only [act] at e <;> (try split at e) <;> (try simp only [Val.num.injEq] at e) <;> first | omega | skip
  · rename_i p i
    unfold slotAt at e
    split at e
    · cases e
    · simp only [Val.num.injEq] at e; omega
theorem act_sh (who : Nat) (o : Op) : (act w who o).1.sh ≤ w.sh + 1 := by
  cases o <;> simp only [act] <;> (try split) <;> simp
theorem Few.step (h : Inv c w z) (hc : Ok c) (hz : z.length ≤ 8) {k who : Nat} (hf : Few k w) (he : who ∈ enabled c w) : Few (k + 1) (step c w who) := by
  obtain ⟨t, o, ht, hn, _, _, _, hs, _, _⟩ := enabled_step h hc hz he
  rw [hs]
  unfold stepWith
  refine ⟨Nat.le_trans (act_sh who o) (Nat.succ_le_succ hf.sh), fun t' h' => ?_⟩
  rcases List.mem_or_eq_of_mem_set h' with h1 | rfl
  · have := hf.ts t' h1
    exact ⟨by omega, this.2⟩
  · have h1 := hf.ts t (List.mem_of_getElem? ht)
    have key : (t.got ++ [(act w who o).2]).length ≤ k + 1 ∧ ∀ n : Int, .num n ∈ t.got ++ [(act w who o).2] → 0 ≤ n := by
      refine ⟨by simp; omega, fun n hn => ?_⟩
      rcases List.mem_append.1 hn with h2 | h2
      · exact h1.2 n h2
      · exact act_nn h o n (List.mem_singleton.1 h2).symm
    unfold take
    split
    · exact ⟨Nat.zero_le _, fun n hn => by cases hn⟩
    · exact key
theorem Few.zero (c : Cf) (ls : List (List Nat)) : Few 0 (zero c ls) := by
  refine ⟨Nat.le_refl _, fun t ht => ?_⟩
  simp only [Pm.zero, List.mem_map] at ht
  obtain ⟨l, _, rfl⟩ := ht
  exact ⟨Nat.le_refl _, fun n hn => by cases hn⟩
end
end Go.Proofs.YtnncjbkepakgpaaGreat.Pm
namespace Go.Proofs.YtnncjbkepakgpaaGreat.Plain
/-- A number of 64 bits, as the integer that it is. -/
def toI (X : BitVec 64) : Int := X.toNat
def oneB (X : BitVec 64) : BitVec 64 :=
  let x1 := (X ^^^ X >>> 30) * 13787848793156543929#64
  let x2 := (x1 ^^^ x1 >>> 27) * 10723151780598845931#64
  x2 ^^^ x2 >>> 31
def rotB (X : BitVec 64) : BitVec 64 := X <<< 7 ||| X >>> 57
def stepB (h x : BitVec 64) : BitVec 64 := oneB (rotB h ^^^ oneB (x + 11400714819323198485#64))
def ofB (key : BitVec 64) (l : List (BitVec 64)) : BitVec 64 := l.foldl stepB (oneB (key + 11400714819323198485#64))
/-- A shift by at least one place, laid over a number, can be taken back. -/
theorem xorshift_inj {s : Nat} (hs : 0 < s) {X Y : BitVec 64} (h : X ^^^ X >>> s = Y ^^^ Y >>> s) : X = Y := by
  have key : ∀ (n i : Nat), 64 - i ≤ n → X.getLsbD i = Y.getLsbD i := by
    intro n
    induction n with
    | zero => intro i hi; rw [BitVec.getLsbD_of_ge X i (by omega), BitVec.getLsbD_of_ge Y i (by omega)]
    | succ n ih =>
      intro i hi
      have e := congrArg (fun Z => BitVec.getLsbD Z i) h
      simp only [BitVec.getLsbD_xor, BitVec.getLsbD_ushiftRight] at e
      by_cases h64 : i < 64
      · rw [ih (s + i) (by omega)] at e
        revert e
        cases X.getLsbD i <;> cases Y.getLsbD i <;> cases Y.getLsbD (s + i) <;> simp
      · rw [BitVec.getLsbD_of_ge X i (by omega), BitVec.getLsbD_of_ge Y i (by omega)]
  exact BitVec.eq_of_getLsbD_eq (fun i _ => key 64 i (by omega))
theorem mul_inj {c d : BitVec 64} (hcd : c * d = 1#64) {X Y : BitVec 64} (h : X * c = Y * c) : X = Y := by
  have e := congrArg (· * d) h
  simpa [BitVec.mul_assoc, hcd] using e
theorem c1_inv : 13787848793156543929#64 * 0x96de1b173f119089#64 = 1#64 := by decide
theorem c2_inv : 10723151780598845931#64 * 0x319642b2d24d8ec3#64 = 1#64 := by decide
theorem oneB_inj {X Y : BitVec 64} (h : oneB X = oneB Y) : X = Y := by
  unfold oneB at h
  exact xorshift_inj (by decide) (mul_inj c1_inv (xorshift_inj (by decide) (mul_inj c2_inv (xorshift_inj (by decide) h))))
theorem oneB_iff (X Y : BitVec 64) : oneB X = oneB Y ↔ X = Y := ⟨oneB_inj, fun h => by rw [h]⟩
theorem add_inj {X Y c : BitVec 64} (h : X + c = Y + c) : X = Y := by
  have e := congrArg (· - c) h
  simpa using e
theorem xor_inj {X Y c : BitVec 64} (h : c ^^^ X = c ^^^ Y) : X = Y := by
  have e := congrArg (c ^^^ ·) h
  simpa [← BitVec.xor_assoc] using e
theorem stepB_inj {h X Y : BitVec 64} (e : stepB h X = stepB h Y) : X = Y := add_inj (oneB_inj (xor_inj (oneB_inj e)))
theorem ofB_snoc (key : BitVec 64) (l : List (BitVec 64)) (x : BitVec 64) : ofB key (l ++ [x]) = stepB (ofB key l) x := by simp [ofB]
theorem ofB_last {key : BitVec 64} {l : List (BitVec 64)} (X Y : BitVec 64) : ofB key (l ++ [X]) = ofB key (l ++ [Y]) ↔ X = Y :=
  ⟨fun h => by rw [ofB_snoc, ofB_snoc] at h; exact stepB_inj h, fun h => by rw [h]⟩
theorem toI_lo (X : BitVec 64) : 0 ≤ toI X := by unfold toI; omega
theorem toI_hi (X : BitVec 64) : toI X < 18446744073709551616 := by unfold toI; have := X.isLt; omega
theorem toI_inj {X Y : BitVec 64} (h : toI X = toI Y) : X = Y := by unfold toI at h; exact BitVec.eq_of_toNat_eq (by omega)
theorem toI_iff (X Y : BitVec 64) : toI X = toI Y ↔ X = Y := ⟨toI_inj, fun h => by rw [h]⟩
theorem toI_ofInt {z : Int} (h0 : 0 ≤ z) (h1 : z < 18446744073709551616) : toI (BitVec.ofInt 64 z) = z := by
  unfold toI
  rw [BitVec.toNat_ofInt]
  have : z % (2 ^ 64 : Nat) = z := Int.emod_eq_of_lt h0 (by simpa using h1)
  rw [this]; omega
theorem toI_shr (X : BitVec 64) (s : Nat) : toI X / 2 ^ s = toI (X >>> s) := by
  unfold toI
  rw [BitVec.toNat_ushiftRight, Nat.shiftRight_eq_div_pow]
  simp
theorem toI_mul (X : BitVec 64) (c : Int) (C : BitVec 64) (hc : c = toI C) : toI X * c % 18446744073709551616 = toI (X * C) := by
  subst hc
  unfold toI
  rw [BitVec.toNat_mul]
  simp
theorem toI_add (X : BitVec 64) (c : Int) (C : BitVec 64) (hc : c = toI C) : (toI X + c) % 18446744073709551616 = toI (X + C) := by
  subst hc
  unfold toI
  rw [BitVec.toNat_add]
  simp
theorem toI_shl (X : BitVec 64) : toI X * 128 % 18446744073709551616 = toI (X <<< 7) := by
  unfold toI
  rw [BitVec.toNat_shiftLeft, Nat.shiftLeft_eq]
  simp
theorem rot_disjoint (X : BitVec 64) : X <<< 7 &&& X >>> 57 = 0#64 := by
  apply BitVec.eq_of_getLsbD_eq
  intro i hi
  simp only [BitVec.getLsbD_and, BitVec.getLsbD_shiftLeft, BitVec.getLsbD_ushiftRight]
  by_cases h : i < 7
  · simp [h]
  · have : X.getLsbD (57 + i) = false := BitVec.getLsbD_of_ge X _ (by omega)
    simp [this]
theorem rot_add (X : BitVec 64) : X <<< 7 + X >>> 57 = rotB X := by
  unfold rotB
  exact BitVec.add_eq_or_of_and_eq_zero _ _ (rot_disjoint X)
end Go.Proofs.YtnncjbkepakgpaaGreat.Plain
