/-
  ACCEPTS AT ONCE, IN PLAIN LEAN: a step keeps what is true, and leaves less to do.
  ACCEPTS AT ONCE, IN PLAIN LEAN: each step.
-/
import Derived.Test.YtnncjbkepakgpaaGreatA01
set_option linter.unusedVariables false
set_option linter.unusedSimpArgs false
namespace Go.Proofs.YtnncjbkepakgpaaGreat.Pm
set_option linter.unusedVariables false
def parts1 (c : Cf) : Nat := c.S * (c.most + 1)
def full1 (c : Cf) : Nat := 1 + c.S + parts1 c + c.S + 2
def remP (c : Cf) (n0 : Int) : Pos → Nat
  | .share => c.most + full1 c + 5
  | .bans => c.most + full1 c + 4
  | .lock => c.most + full1 c + 3
  | .size => c.most + full1 c + 2
  | .slot m _ => m + full1 c + 2
  | .inn _ => full1 c + 1
  | .swap _ n => if n = n0 then full1 c else full1 c + 2
  | .wslot _ => 4
  | .wsize _ => 3
  | .free true => 2
  | .free false => full1 c
  | .drop _ => 1
  | .lockAll j => (c.S - j) + parts1 c + c.S + 2
  | .rsize j _ => (c.S - j) * (c.most + 1) + c.S + 2
  | .rslot j m _ _ => (m + 1) + (c.S - 1 - j) * (c.most + 1) + c.S + 2
  | .sinn _ => c.S + 2
  | .freeAll i => i + 2
def rem (c : Cf) (n0 : Int) (x : Tk) : Nat := if live x then remP c n0 x.2 + (x.1.calls.length - x.1.nth - 1) * (c.most + full1 c + 5) else 0
/-- What is left to do, at most. -/
def phi (c : Cf) (n0 : Int) (z : List Tk) : Nat := (z.map (rem c n0)).sum + 16 * (c.most - n0.toNat)
section
variable {c : Cf} {w : Wd} {z : List Tk}
theorem me_got (t : Task) (g : List Val) : me { t with got := g } = me t := rfl
theorem turn_at {x : Tk} (he : ∀ g, accept c (me x.1) (x.1.got ++ g) = code c (me x.1) x.2 g) (hf : fit c x.2) : turn c x.1 = .pause (opOf c (me x.1) x.2) := by
  have := he []
  rw [List.append_nil, stop c _ _ hf] at this
  exact this
theorem turn_go {x : Tk} (he : ∀ g, accept c (me x.1) (x.1.got ++ g) = code c (me x.1) x.2 g) (hf : fit c x.2) (hS : 0 < c.S) {v : Val} (ho : okV c (me x.1) x.2 v) (hf' : fit c (nxt c (me x.1) x.2 v)) :
    turn c { x.1 with got := x.1.got ++ [v] } = .pause (opOf c (me x.1) (nxt c (me x.1) x.2 v)) ∧ ∀ g, accept c (me x.1) ((x.1.got ++ [v]) ++ g) = code c (me x.1) (nxt c (me x.1) x.2 v) g := by
  have key : ∀ g, accept c (me x.1) ((x.1.got ++ [v]) ++ g) = code c (me x.1) (nxt c (me x.1) x.2 v) g := fun g => by
    rw [List.append_assoc, he, List.singleton_append, go c _ _ _ _ hf hS ho]
  refine ⟨?_, key⟩
  have := key []
  rw [List.append_nil, stop c _ _ hf'] at this
  exact this
theorem take_go {x : Tk} (he : ∀ g, accept c (me x.1) (x.1.got ++ g) = code c (me x.1) x.2 g) (hf : fit c x.2) (hS : 0 < c.S) {v : Val} (ho : okV c (me x.1) x.2 v) (hf' : fit c (nxt c (me x.1) x.2 v)) : take c x.1 v = { x.1 with got := x.1.got ++ [v] } := by
  unfold take
  rw [(turn_go he hf hS ho hf').1]
theorem turn_last {t : Task} {b : Bool} (he : ∀ g, accept c (me t) (t.got ++ g) = code c (me t) (.drop b) g) (v : Val) : turn c { t with got := t.got ++ [v] } = .done b [] := by
  have := he [v]
  rw [last] at this
  exact this
theorem take_last {t : Task} {b : Bool} (he : ∀ g, accept c (me t) (t.got ++ g) = code c (me t) (.drop b) g) (v : Val) : take c t v = { t with replies := t.replies ++ [b], nth := t.nth + 1, got := [] } := by
  unfold take
  rw [turn_last he]
theorem fit_nxt (hc : Ok c) {m : Nat} {p : Pos} (hf : fit c p) (v : Val) : fit c (nxt c m p v) := by
  have ha : ∀ j all, fit c (after c j all) := fun j all => by
    unfold after; split
    · assumption
    · trivial
  cases p <;> simp only [nxt]
  case size => cases v <;> simp only [nxt] <;> first | trivial | (split <;> trivial)
  case slot m acc => cases m <;> cases v <;> trivial
  case inn l => cases v <;> simp only [nxt] <;> first | trivial | (split <;> trivial)
  case swap l n => split <;> trivial
  case free ok =>
    cases ok
    · exact hc.S
    · trivial
  case lockAll j => split
                    · assumption
                    · exact hc.S
  case rsize j all => cases v with
    | num n => simp only [nxt]; split
               · exact ha _ _
               · exact hf
    | who x => exact hf
  case rslot j m acc all => cases v with
    | num n => cases m <;> exact hf
    | who x => cases m with
      | zero => exact ha _ _
      | succ m => exact hf
  case sinn all => exact Nat.sub_lt hc.S (by omega)
  case freeAll i => cases i with
    | zero => trivial
    | succ i => exact Nat.lt_of_succ_lt hf
  all_goals trivial
theorem phi_same (n0 : Int) {who : Nat} {x y : Tk} (hx : z[who]? = some x) (h : rem c n0 y < rem c n0 x) : phi c n0 (z.set who y) < phi c n0 z := by
  have := sum_set (rem c n0) z who x y hx
  unfold phi
  omega
theorem rem_more (n : Int) (x : Tk) : rem c (n + 1) x ≤ rem c n x + 2 := by
  unfold rem
  split
  · suffices remP c (n + 1) x.2 ≤ remP c n x.2 + 2 by omega
    cases x.2 <;> simp only [remP] <;> first | omega | (split <;> split <;> omega) | (rename_i ok; cases ok <;> simp only [remP] <;> omega)
  · omega
theorem sum_more (n : Int) : ∀ (z : List Tk), (z.map (rem c (n + 1))).sum ≤ (z.map (rem c n)).sum + 2 * z.length
  | [] => by simp
  | x :: z => by
    have h1 := rem_more (c := c) n x
    have h2 := sum_more n z
    simp only [List.map_cons, List.sum_cons, List.length_cons]
    omega
theorem phi_more (n : Int) (hn : 0 ≤ n) (hm : n < c.most) {who : Nat} {x y : Tk} (hz : z.length ≤ 8) (hx : z[who]? = some x) (h : rem c (n + 1) y < rem c (n + 1) x) : phi c (n + 1) (z.set who y) < phi c n z := by
  have h1 := sum_set (rem c (n + 1)) z who x y hx
  have h2 := sum_more (c := c) n z
  unfold phi
  omega
/-- A step that leaves the parts and the counter. -/
theorem Inv.plain (h : Inv c w z) (hc : Ok c) {who : Nat} {x y : Tk} (hx : z[who]? = some x) {w1 : Wd} (hi : w1.inn = w.inn) (hp : w1.parts = w.parts) (hts : w1.tasks = w.tasks.set who y.1) (hca : y.1.calls = x.1.calls)
    (nl : w1.locks.length = c.S + 2) (l0 : w1.locks.getD 0 0 = 0)
    (lk : ∀ q, q < c.S → (holds c y q ↔ w1.locks.getD (2 + q) 0 = who + 1) ∧ ∀ i a, i ≠ who → z[i]? = some a → (holds c a q ↔ w1.locks.getD (2 + q) 0 = i + 1))
    (lk' : ∀ q, q < c.S → w1.locks.getD (2 + q) 0 = 0 ∨ w1.locks.getD (2 + q) 0 = who + 1 ∨ w1.locks.getD (2 + q) 0 = w.locks.getD (2 + q) 0)
    (hw : wr y = wr x) (hpe : oks y + pend y = oks x + pend x) (hnw : ∀ l, x.2 ≠ .wsize l)
    (hcl : ∀ k, y.1.nth ≤ k → (k = y.1.nth → wrote y.2 = false) → x.1.nth ≤ k ∧ (k = x.1.nth → wrote x.2 = false))
    (full : (false ∈ y.1.replies ∨ (live y ∧ slowP y.2 = true)) → (c.most : Int) ≤ w.inn) (each : Each c w1 y) : Inv c w1 (z.set who y) := by
  have hpo : ∀ q, partOf w1 q = partOf w q := fun q => by unfold partOf; rw [hp]
  refine h.next hc hx hts hca nl l0 (by rw [hp, h.np]) lk lk' (fun q hq h1 => ?_) (fun q hq => ?_) (by rw [hi, hp, hw]) (by rw [hi, hpe]) (by rw [hi]; exact Int.le_refl _) (by rw [hi]; exact h.le) (by rw [hi]; exact full) (fun i a q _ _ _ _ => by simp only [lenOf, hpo]) each
  · simp only [lenOf, hpo]
    rcases h1 with (h1 | h1) | ⟨_, _, l, h1⟩
    · exact .inl h1
    · exact .inr (.inl h1)
    · exact absurd h1 (hnw l)
  · rw [hpo]
    refine ⟨fun k h1 h2 h3 => ?_, fun i a k h0 h1 h2 h3 h4 => h.clear i a k h1 h2 h3 h4 q hq⟩
    obtain ⟨h4, h5⟩ := hcl k h1 h3
    rw [hca] at h2 ⊢
    exact h.clear who x k hx h4 h2 h5 q hq
/-- A step that leaves the locks, too. -/
theorem Inv.quiet (h : Inv c w z) (hc : Ok c) {who : Nat} {x y : Tk} (hx : z[who]? = some x) {w1 : Wd} (hi : w1.inn = w.inn) (hp : w1.parts = w.parts) (hk : w1.locks = w.locks) (hts : w1.tasks = w.tasks.set who y.1) (hca : y.1.calls = x.1.calls)
    (hh : ∀ q, q < c.S → (holds c y q ↔ holds c x q))
    (hw : wr y = wr x) (hpe : oks y + pend y = oks x + pend x) (hnw : ∀ l, x.2 ≠ .wsize l)
    (hcl : ∀ k, y.1.nth ≤ k → (k = y.1.nth → wrote y.2 = false) → x.1.nth ≤ k ∧ (k = x.1.nth → wrote x.2 = false))
    (full : (false ∈ y.1.replies ∨ (live y ∧ slowP y.2 = true)) → (c.most : Int) ≤ w.inn) (each : Each c w1 y) : Inv c w1 (z.set who y) :=
  h.plain hc hx hi hp hts hca (by rw [hk]; exact h.nl) (by rw [hk]; exact h.l0) (fun q hq => by rw [hk]; exact ⟨(hh q hq).trans (h.lk q hq who x hx), fun i a _ ha => h.lk q hq i a ha⟩) (fun q hq => by rw [hk]; exact .inr (.inr rfl)) hw hpe hnw hcl full each
theorem set_getD {l : List Nat} {k v j : Nat} (hk : k < l.length) : (l.set k v).getD j 0 = if j = k then v else l.getD j 0 := by
  simp only [List.getD_eq_getElem?_getD, List.getElem?_set]
  by_cases e : k = j
  · subst e; simp [hk]
  · simp [e, Ne.symm e]
/-- A lock is taken. -/
theorem Inv.taken (h : Inv c w z) (hc : Ok c) {who : Nat} {x y : Tk} (hx : z[who]? = some x) {w1 : Wd} {q0 : Nat} (hq0 : q0 < c.S) (h0 : w.locks.getD (2 + q0) 0 = 0) (hi : w1.inn = w.inn) (hp : w1.parts = w.parts) (hk : w1.locks = w.locks.set (2 + q0) (who + 1)) (hts : w1.tasks = w.tasks.set who y.1) (hca : y.1.calls = x.1.calls)
    (hh : ∀ q, q < c.S → (holds c y q ↔ holds c x q ∨ q = q0))
    (hw : wr y = wr x) (hpe : oks y + pend y = oks x + pend x) (hnw : ∀ l, x.2 ≠ .wsize l)
    (hcl : ∀ k, y.1.nth ≤ k → (k = y.1.nth → wrote y.2 = false) → x.1.nth ≤ k ∧ (k = x.1.nth → wrote x.2 = false))
    (full : (false ∈ y.1.replies ∨ (live y ∧ slowP y.2 = true)) → (c.most : Int) ≤ w.inn) (each : Each c w1 y) : Inv c w1 (z.set who y) := by
  have hlt : 2 + q0 < w.locks.length := by rw [h.nl]; omega
  refine h.plain hc hx hi hp hts hca (by rw [hk, List.length_set]; exact h.nl) (by rw [hk, set_getD hlt, if_neg (by omega)]; exact h.l0) (fun q hq => ?_) (fun q hq => ?_) hw hpe hnw hcl full each
  · rw [hk, set_getD hlt, hh q hq]
    by_cases e : q = q0
    · subst e
      refine ⟨by simp, fun i a hi' ha => ?_⟩
      rw [h.lk q hq i a ha, h0]
      simp; omega
    · rw [if_neg (by omega)]
      exact ⟨by rw [← h.lk q hq who x hx]; simp [e], fun i a _ ha => h.lk q hq i a ha⟩
  · rw [hk, set_getD hlt]
    split
    · exact .inr (.inl rfl)
    · exact .inr (.inr rfl)
/-- A lock is given back. -/
theorem Inv.freed (h : Inv c w z) (hc : Ok c) {who : Nat} {x y : Tk} (hx : z[who]? = some x) {w1 : Wd} {q0 : Nat} (hq0 : q0 < c.S) (hi : w1.inn = w.inn) (hp : w1.parts = w.parts) (hk : w1.locks = w.locks.set (2 + q0) 0) (hts : w1.tasks = w.tasks.set who y.1) (hca : y.1.calls = x.1.calls)
    (hx0 : holds c x q0) (hh : ∀ q, q < c.S → (holds c y q ↔ holds c x q ∧ q ≠ q0))
    (hw : wr y = wr x) (hpe : oks y + pend y = oks x + pend x) (hnw : ∀ l, x.2 ≠ .wsize l)
    (hcl : ∀ k, y.1.nth ≤ k → (k = y.1.nth → wrote y.2 = false) → x.1.nth ≤ k ∧ (k = x.1.nth → wrote x.2 = false))
    (full : (false ∈ y.1.replies ∨ (live y ∧ slowP y.2 = true)) → (c.most : Int) ≤ w.inn) (each : Each c w1 y) : Inv c w1 (z.set who y) := by
  have hlt : 2 + q0 < w.locks.length := by rw [h.nl]; omega
  have h0 := (h.lk q0 hq0 who x hx).1 hx0
  refine h.plain hc hx hi hp hts hca (by rw [hk, List.length_set]; exact h.nl) (by rw [hk, set_getD hlt, if_neg (by omega)]; exact h.l0) (fun q hq => ?_) (fun q hq => ?_) hw hpe hnw hcl full each
  · rw [hk, set_getD hlt, hh q hq]
    by_cases e : q = q0
    · subst e
      refine ⟨by simp, fun i a hi' ha => ?_⟩
      rw [h.lk q hq i a ha, h0]
      simp; omega
    · rw [if_neg (by omega)]
      exact ⟨by rw [← h.lk q hq who x hx]; simp [e], fun i a _ ha => h.lk q hq i a ha⟩
  · rw [hk, set_getD hlt]
    split
    · exact .inl rfl
    · exact .inr (.inr rfl)
end
end Go.Proofs.YtnncjbkepakgpaaGreat.Pm
namespace Go.Proofs.YtnncjbkepakgpaaGreat.Pm
set_option linter.unusedVariables false
section
variable {c : Cf} {w : Wd} {z : List Tk}
/-- The task behind an answer that is not its call's last. -/
def onward (c : Cf) (x : Tk) (v : Val) : Tk := ({ x.1 with got := x.1.got ++ [v] }, nxt c (me x.1) x.2 v)
theorem each_go (hc : Ok c) {x : Tk} (hE : Each c w x) (hl : live x) {v : Val} (hv : okV c (me x.1) x.2 v) {w1 : Wd} (hp : PosOk c w1 (me x.1) (nxt c (me x.1) x.2 v)) : Each c w1 (onward c x v) := by
  obtain ⟨h1, h2, h3⟩ := hE
  obtain ⟨h4, h5, h6⟩ := h3 hl
  refine ⟨h1, h2, fun _ => ⟨(turn_go h4 h5 hc.S hv (fit_nxt hc h5 v)).2, fit_nxt (m := me x.1) hc h5 v, hp⟩⟩
theorem rem_go {n n1 : Int} {x : Tk} (hl : live x) {v : Val} (h : remP c n1 (nxt c (me x.1) x.2 v) < remP c n x.2) : rem c n1 (onward c x v) < rem c n x := by
  have h1 : live (onward c x v) := hl
  unfold rem
  rw [if_pos h1, if_pos hl]
  simp only [onward]
  omega
theorem wr_go {x : Tk} {v : Val} (h : atW (nxt c (me x.1) x.2 v) = atW x.2) : wr (onward c x v) = wr x := by
  unfold wr
  simp only [onward, h]
  rfl
theorem pend_go {x : Tk} {v : Val} (h : atW (nxt c (me x.1) x.2 v) = atW x.2) (h' : wrote (nxt c (me x.1) x.2 v) = wrote x.2) : oks (onward c x v) + pend (onward c x v) = oks x + pend x := by
  unfold pend oks
  simp only [onward, h, h']
  rfl
theorem Inv.quietGo (h : Inv c w z) (hc : Ok c) {who : Nat} {x : Tk} (hx : z[who]? = some x) (hl : live x) {v : Val} (hv : okV c (me x.1) x.2 v) {w1 : Wd} (hi : w1.inn = w.inn) (hp : w1.parts = w.parts) (hk : w1.locks = w.locks) (hts : w1.tasks = w.tasks.set who (onward c x v).1)
    (hh : ∀ q, q < c.S → (holdsP c (me x.1) q (nxt c (me x.1) x.2 v) ↔ holdsP c (me x.1) q x.2)) (h1 : atW (nxt c (me x.1) x.2 v) = atW x.2) (h2 : wrote (nxt c (me x.1) x.2 v) = wrote x.2) (hnw : ∀ l, x.2 ≠ .wsize l)
    (hs : slowP (nxt c (me x.1) x.2 v) = true → (c.most : Int) ≤ w.inn) (hpos : PosOk c w1 (me x.1) (nxt c (me x.1) x.2 v)) : Inv c w1 (z.set who (onward c x v)) := by
  refine h.quiet hc hx hi hp hk hts rfl (fun q hq => ?_) (wr_go h1) (pend_go h1 h2) hnw (fun k h3 h4 => ⟨h3, fun e => by rw [← h2]; exact h4 e⟩) ?_ (each_go hc (h.each who x hx) hl hv hpos)
  · exact and_congr Iff.rfl (hh q hq)
  · rintro (h3 | ⟨h3, h4⟩)
    · exact h.full who x hx (.inl h3)
    · exact hs h4
theorem most_pos (h : Inv c w z) : 0 ≤ w.inn := by have := h.s2; omega
/-- What a step does. -/
def Stepped (c : Cf) (w : Wd) (z : List Tk) (who : Nat) (x : Tk) : Prop :=
  (∀ o, turn c { x.1 with got := x.1.got ++ [(act w who (opOf c (me x.1) x.2)).2] } = o → o ≠ .bad) ∧
  ∃ y : Tk, take c x.1 (act w who (opOf c (me x.1) x.2)).2 = y.1 ∧ Inv c (stepWith c w who x.1 (opOf c (me x.1) x.2)) (z.set who y) ∧ phi c (stepWith c w who x.1 (opOf c (me x.1) x.2)).inn (z.set who y) < phi c w.inn z
theorem stepped_go (h : Inv c w z) (hc : Ok c) {who : Nat} {x : Tk} (hx : z[who]? = some x) (hl : live x) (hd : ∀ b, x.2 ≠ .drop b) {v : Val} {w0 : Wd} (ha : act w who (opOf c (me x.1) x.2) = (w0, v))
    (h1 : ∀ w1, w1.inn = w0.inn → w1.parts = w0.parts → w1.locks = w0.locks → w1.tasks = w.tasks.set who (onward c x v).1 → okV c (me x.1) x.2 v → Inv c w1 (z.set who (onward c x v)))
    (h2 : phi c w0.inn (z.set who (onward c x v)) < phi c w.inn z) : Stepped c w z who x := by
  obtain ⟨_, _, he⟩ := h.each who x hx
  obtain ⟨e1, e2, e3⟩ := he hl
  have hv := h.answer hc hx hl hd
  rw [ha] at hv
  have hf := fit_nxt hc e2 (m := me x.1) v
  unfold Stepped stepWith
  rw [ha]
  simp only at hv ⊢
  refine ⟨fun o ho => ?_, onward c x v, ?_, ?_, h2⟩
  · rw [(turn_go e1 e2 hc.S hv hf).1] at ho
    subst ho; simp
  · rw [take_go e1 e2 hc.S hv hf]; rfl
  · refine h1 _ rfl rfl rfl ?_ hv
    simp only [take_go e1 e2 hc.S hv hf]; rfl
theorem rall_nil {w : Wd} (m : Nat) : RAll w m 0 [] := ⟨rfl, fun q l h => by simp at h⟩
theorem rall_snoc {w : Wd} {m j : Nat} {all : List (List Nat)} (h : RAll w m j all) {l : List Nat} (h1 : l.length = lenOf w j) (h2 : Clear m l) : RAll w m (j + 1) (all ++ [l]) := by
  refine ⟨by simp [h.1], fun q r hr => ?_⟩
  rw [List.getElem?_append] at hr
  split at hr
  · exact h.2 q r hr
  · rename_i h3
    have e : q - all.length = 0 := by
      have := (List.getElem?_eq_some_iff.1 hr).1
      simp at this; omega
    rw [e] at hr
    simp only [List.getElem?_cons_zero, Option.some.injEq] at hr
    subst hr
    have : q = j := by have := h.1; omega
    subst this
    exact ⟨h1, h2⟩
theorem rall_world {w w1 : Wd} (hp : w1.parts = w.parts) {m j : Nat} {all : List (List Nat)} (h : RAll w m j all) : RAll w1 m j all := ⟨h.1, fun q l hl => by have := h.2 q l hl; simpa [lenOf, partOf, hp] using this⟩
theorem lenOf_world {w w1 : Wd} (hp : w1.parts = w.parts) (q : Nat) : lenOf w1 q = lenOf w q := by simp [lenOf, partOf, hp]
theorem holds_after (m q j : Nat) (all : List (List Nat)) : holdsP c m q (after c j all) := by
  unfold after; split <;> trivial
theorem atW_after (j : Nat) (all : List (List Nat)) : atW (after c j all) = false ∧ wrote (after c j all) = false ∧ slowP (after c j all) = true := by
  unfold after; split <;> exact ⟨rfl, rfl, rfl⟩
theorem posOk_after {w : Wd} {m j : Nat} {all : List (List Nat)} (hj : j ≤ c.S) (h : RAll w m j all) : PosOk c w m (after c j all) := by
  unfold after
  split
  · exact h
  · have : j = c.S := by omega
    subst this; exact h
theorem rem_after {n : Int} {j : Nat} {all : List (List Nat)} (hj : j ≤ c.S) : remP c n (after c j all) ≤ (c.S - j) * (c.most + 1) + c.S + 2 := by
  unfold after
  split
  · exact Nat.le_refl _
  · simp only [remP]; omega
theorem Inv.step (h : Inv c w z) (hc : Ok c) (hz : z.length ≤ 8) {who : Nat} {x : Tk} (hx : z[who]? = some x) (hl : live x) (hm : may w (opOf c (me x.1) x.2) = true) : Stepped c w z who x := by
  obtain ⟨t, p⟩ := x
  have hE := h.each who _ hx
  obtain ⟨hn, hr, he⟩ := h.each who _ hx
  obtain ⟨e1, e2, e3⟩ := he hl
  have hfu := h.full who _ hx
  have hlen := fun q hq => h.len_le hc q hq
  have h0 := most_pos h
  have hlm : ∀ q, q < c.S → lenOf w q ≤ c.most := fun q hq => by
    have hp : w.parts[q]? = some (partOf w q) := by
      have : q < w.parts.length := by rw [h.np]; exact hq
      simp [partOf, List.getD_eq_getElem?_getD, this]
    have h1 := sum_le (fun p : Nat × List Nat => p.2.length) _ _ _ hp
    have h2 := h.s1
    have h3 := h.le
    unfold lenOf
    omega
  simp only at hn hr e1 e2 e3 hfu hm
  cases p with
  | drop b =>
    have ht := take_last e1 (act w who (opOf c (me t) (.drop b))).2
    have hl' : t.nth < t.calls.length := hl
    refine ⟨fun o ho => ?_, ({ t with replies := t.replies ++ [b], nth := t.nth + 1, got := [] }, .share), ht, ?_, ?_⟩
    · rw [turn_last e1] at ho; subst ho; simp
    · refine h.quiet hc hx rfl rfl rfl ?_ rfl (fun q hq => ?_) ?_ ?_ (fun l => by simp) (fun k h1 _ => ?_) ?_ ?_
      · simp only [stepWith, ht]
      · simp [holds, holdsP]
      · simp [wr, atW]
      · cases b <;> simp [oks, pend, atW, wrote, hl, List.count_append]
      · simp only at h1
        exact ⟨by simp only; omega, fun e => by simp only at e; omega⟩
      · rintro (h1 | ⟨_, h1⟩)
        · rcases List.mem_append.1 h1 with h2 | h2
          · exact hfu (.inl h2)
          · rw [← List.mem_singleton.1 h2] at hfu
            exact hfu (.inr ⟨hl, rfl⟩)
        · simp [slowP] at h1
      · exact ⟨hl', by simp [hr], fun _ => ⟨fun g => rfl, trivial, trivial⟩⟩
    · refine phi_same _ hx ?_
      unfold rem
      rw [if_pos hl]
      simp only [remP]
      split
      · rename_i h1
        have h2 : t.nth + 1 < t.calls.length := h1
        obtain ⟨k, hk⟩ : ∃ k, t.calls.length - t.nth - 1 = k + 1 := ⟨t.calls.length - t.nth - 2, by omega⟩
        rw [show t.calls.length - (t.nth + 1) - 1 = k by omega, hk, Nat.add_mul]
        omega
      · omega
  | share =>
    refine stepped_go h hc hx hl (fun b => by simp) (v := .num 0) rfl (fun w1 a1 a2 a3 a4 hv => ?_) (phi_same _ hx (rem_go hl ?_))
    · exact h.quietGo hc hx hl hv a1 a2 a3 a4 (fun q hq => Iff.rfl) rfl rfl (fun l => by simp) (fun e => by simp [nxt, slowP] at e) trivial
    · simp only [nxt, remP]; omega
  | bans =>
    refine stepped_go h hc hx hl (fun b => by simp) (v := .num 0) rfl (fun w1 a1 a2 a3 a4 hv => ?_) (phi_same _ hx (rem_go hl ?_))
    · exact h.quietGo hc hx hl hv a1 a2 a3 a4 (fun q hq => Iff.rfl) rfl rfl (fun l => by simp) (fun e => by simp [nxt, slowP] at e) trivial
    · simp only [nxt, remP]; omega
  | lock =>
    have hk : w.locks.getD (2 + c.prt (me t)) 0 = 0 := by simpa [may, opOf] using hm
    refine stepped_go h hc hx hl (fun b => by simp) (v := .num 0) rfl (fun w1 a1 a2 a3 a4 hv => ?_) (phi_same _ hx (rem_go hl ?_))
    · refine h.taken hc hx (hc.prt _) hk a1 a2 a3 a4 rfl (fun q hq => ?_) (wr_go rfl) (pend_go rfl rfl) (fun l => by simp) (fun k h3 h4 => ⟨h3, fun _ => rfl⟩) ?_ (each_go hc hE hl hv trivial)
      · simp only [holds, onward, nxt, holdsP, and_false, false_or]
        exact ⟨fun h => h.2, fun h => ⟨hl, h⟩⟩
      · rintro (h3 | ⟨_, h3⟩)
        · exact hfu (.inl h3)
        · simp [onward, nxt, slowP] at h3
    · simp only [nxt, remP]; omega
  | size =>
    have hs := h.size_eq hx (hc.prt _) ⟨hl, rfl⟩ (fun l => by simp)
    have hm' := hlm _ (hc.prt (me t))
    simp only at hs
    refine stepped_go h hc hx hl (fun b => by simp) (v := .num (partOf w (c.prt (me t))).1) rfl (fun w1 a1 a2 a3 a4 hv => ?_) (phi_same _ hx (rem_go hl ?_))
    · refine h.quietGo hc hx hl hv a1 a2 a3 a4 (fun q hq => ?_) ?_ ?_ (fun l => by simp) (fun e => ?_) ?_
      · simp only [nxt]; split <;> exact Iff.rfl
      · simp only [nxt]; split <;> rfl
      · simp only [nxt]; split <;> rfl
      · simp only [nxt] at e; split at e <;> simp [slowP] at e
      · simp only [nxt, Int.toNat_natCast]
        split
        · simp only [PosOk, lenOf_world a2, List.length_nil]; omega
        · refine ⟨?_, Clear.nil _⟩
          rw [lenOf_world a2, List.length_nil]; omega
    · simp only [nxt, Int.toNat_natCast]
      split <;> simp only [remP] <;> omega
  | slot m acc =>
    obtain ⟨p1, p2⟩ := e3
    obtain ⟨a, h3, h4⟩ := h.slot_ok hx hl rfl (hc.prt (me t)) (i := acc.length) (by omega)
    simp only at h3 h4
    refine stepped_go h hc hx hl (fun b => by simp) (v := .who a) (by simp only [opOf, act, h3]) (fun w1 a1 a2 a3 a4 hv => ?_) (phi_same _ hx (rem_go hl ?_))
    · cases m with
      | zero =>
        refine h.quietGo hc hx hl hv a1 a2 a3 a4 (fun q hq => Iff.rfl) rfl rfl (fun l => by simp) (fun e => by simp [nxt, slowP] at e) ?_
        simp only [nxt, PosOk, lenOf_world a2, List.length_append, List.length_singleton]; omega
      | succ m =>
        refine h.quietGo hc hx hl hv a1 a2 a3 a4 (fun q hq => Iff.rfl) rfl rfl (fun l => by simp) (fun e => by simp [nxt, slowP] at e) ⟨?_, p2.snoc h4⟩
        simp only [lenOf_world a2, List.length_append, List.length_singleton]; omega
    · cases m <;> simp only [nxt, remP] <;> omega
  | inn l =>
    refine stepped_go h hc hx hl (fun b => by simp) (v := .num w.inn) rfl (fun w1 a1 a2 a3 a4 hv => ?_) (phi_same _ hx (rem_go hl ?_))
    · refine h.quietGo hc hx hl hv a1 a2 a3 a4 (fun q hq => ?_) ?_ ?_ (fun l => by simp) (fun e => ?_) ?_
      · simp only [nxt]; split <;> exact Iff.rfl
      · simp only [nxt]; split <;> rfl
      · simp only [nxt]; split <;> rfl
      · simp only [nxt] at e; split at e
        · assumption
        · simp [slowP] at e
      · simp only [nxt]
        split
        · trivial
        · refine ⟨by rw [lenOf_world a2]; exact e3, by omega, by rw [a1]; exact Int.le_refl _⟩
    · simp only [nxt]
      split
      · simp only [remP]; omega
      · simp [remP]
  | swap l n =>
    obtain ⟨p1, p2, p3⟩ := e3
    by_cases hi : w.inn = n
    · subst hi
      refine stepped_go h hc hx hl (fun b => by simp) (v := .num 1) (w0 := { w with inn := w.inn + 1 }) (by simp [opOf, act]) (fun w1 a1 a2 a3 a4 hv => ?_) (phi_more _ h0 p2 hz hx (rem_go hl ?_))
      · have hpo : ∀ q, partOf w1 q = partOf w q := fun q => by unfold partOf; rw [a2]
        have hy : live (onward c (t, Pos.swap l w.inn) (.num 1)) := hl
        refine h.next hc hx a4 rfl (by rw [a3]; exact h.nl) (by rw [a3]; exact h.l0) (by rw [a2]; exact h.np) (fun q hq => ?_) (fun q hq => by rw [a3]; exact .inr (.inr rfl)) (fun q hq h1 => ?_) (fun q hq => ?_) ?_ ?_ (by rw [a1]; simp; omega) (by rw [a1]; simp; omega) ?_ (fun i a q _ _ _ _ => by simp only [lenOf, hpo]) (each_go hc hE hl hv ?_)
        · rw [a3]
          have hyh : holds c (onward c (t, Pos.swap l w.inn) (.num 1)) q ↔ holds c (t, Pos.swap l w.inn) q := by simp [holds, onward, nxt, holdsP, live, me]
          exact ⟨hyh.trans (h.lk q hq who _ hx), fun i a _ ha => h.lk q hq i a ha⟩
        · simp only [lenOf, hpo]
          rcases h1 with (h1 | h1) | ⟨_, _, l', h1⟩
          · exact .inl h1
          · exact .inr (.inl h1)
          · simp at h1
        · rw [hpo]
          exact ⟨fun k h1 h2 h3 => h.clear who _ k hx h1 h2 (fun _ => rfl) q hq, fun i a k _ h1 h2 h3 h4 => h.clear i a k h1 h2 h3 h4 q hq⟩
        · rw [a1, a2]
          have w1 : wr (t, Pos.swap l w.inn) = 0 := by simp [wr, atW]
          have w2 : wr (onward c (t, Pos.swap l w.inn) (.num 1)) = 1 := by unfold wr; rw [if_pos ⟨hy, by simp [onward, nxt, atW]⟩]
          rw [w1, w2]; simp only; omega
        · rw [a1]
          have w1 : pend (t, Pos.swap l w.inn) = 0 := by simp [pend, atW, wrote]
          have w2 : pend (onward c (t, Pos.swap l w.inn) (.num 1)) = 1 := by unfold pend; rw [if_pos ⟨hy, by simp [onward, nxt, atW]⟩]
          have w3 : oks (onward c (t, Pos.swap l w.inn) (.num 1)) = oks (t, Pos.swap l w.inn) := rfl
          rw [w1, w2, w3]; simp only; omega
        · rintro (h3 | ⟨_, h3⟩)
          · have := hfu (.inl h3); omega
          · simp [onward, nxt, slowP] at h3
        · simp only [nxt, if_true, PosOk, lenOf_world a2]; exact p1
      · simp only [nxt, if_true, remP]
        split <;> simp [full1, parts1] <;> omega
    · refine stepped_go h hc hx hl (fun b => by simp) (v := .num 0) (w0 := w) (by simp [opOf, act, hi]) (fun w1 a1 a2 a3 a4 hv => ?_) (phi_same _ hx (rem_go hl ?_))
      · refine h.quietGo hc hx hl hv a1 a2 a3 a4 (fun q hq => ?_) ?_ ?_ (fun l => by simp) (fun e => ?_) ?_
        · simp only [nxt]; exact Iff.rfl
        · simp [nxt, atW]
        · simp [nxt, wrote]
        · simp [nxt, slowP] at e
        · simp [nxt, PosOk, lenOf_world a2]; exact p1
      · simp [nxt, remP, Ne.symm hi]
  | wslot l =>
    have hq0 := hc.prt (me t)
    have hlt : c.prt (me t) < w.parts.length := by rw [h.np]; exact hq0
    have p1 : l.length = lenOf w (c.prt (me t)) := e3
    have hold : w.locks.getD (2 + c.prt (me t)) 0 = who + 1 := (h.lk _ hq0 who _ hx).1 ⟨hl, rfl⟩
    have hsz := h.size_eq hx hq0 ⟨hl, rfl⟩ (fun l => by simp)
    have ha : act w who (opOf c (me t) (.wslot l)) = ({ w with parts := w.parts.set (c.prt (me t)) ((partOf w (c.prt (me t))).1, (partOf w (c.prt (me t))).2 ++ [me t]) }, .num 0) := by
      have q1 : (partOf w (c.prt (me t))).2.take l.length = (partOf w (c.prt (me t))).2 := List.take_of_length_le (by unfold lenOf at p1; omega)
      have q2 : (partOf w (c.prt (me t))).2.drop (l.length + 1) = [] := List.drop_eq_nil_of_le (by unfold lenOf at p1; omega)
      simp only [opOf, act]
      rw [if_neg (by unfold lenOf at p1; omega), q1, q2]
    refine stepped_go h hc hx hl (fun b => by simp) ha (fun w1 a1 a2 a3 a4 hv => ?_) (phi_same _ hx (rem_go hl ?_))
    · have hy : live (onward c (t, Pos.wslot l) (.num 0)) := hl
      have hpo : ∀ q, partOf w1 q = if q = c.prt (me t) then ((partOf w (c.prt (me t))).1, (partOf w (c.prt (me t))).2 ++ [me t]) else partOf w q := fun q => by
        show w1.parts.getD q (0, []) = _
        rw [a2]
        simp only [List.getD_eq_getElem?_getD, List.getElem?_set]
        by_cases e : c.prt (me t) = q
        · subst e; simp [hlt]
        · simp [e, Ne.symm e, partOf]
      refine h.next hc hx a4 rfl (by rw [a3]; exact h.nl) (by rw [a3]; exact h.l0) (by rw [a2]; simpa using h.np) (fun q hq => ?_) (fun q hq => by rw [a3]; exact .inr (.inr rfl)) (fun q hq h1 => ?_) (fun q hq => ?_) ?_ ?_ (by rw [a1]; exact Int.le_refl _) (by rw [a1]; exact h.le) ?_ (fun i a q h1 h2 h3 h4 => ?_) (each_go hc hE hl hv ?_)
      · rw [a3]
        exact ⟨h.lk q hq who (t, Pos.wslot l) hx, fun i a _ ha => h.lk q hq i a ha⟩
      · by_cases e : q = c.prt (me t)
        · exact .inr (.inr ⟨e.symm, hy, l, rfl⟩)
        · have : partOf w1 q = partOf w q := by rw [hpo, if_neg e]
          simp only [lenOf, this]
          rcases h1 with (h1 | h1) | ⟨_, _, l', h1⟩
          · exact .inl h1
          · exact .inr (.inl h1)
          · simp at h1
      · rw [hpo]
        have hle : ∀ i a k, z[i]? = some a → k < a.1.calls.length → ¬ (i = who ∧ k = t.nth) → Clear (a.1.calls.getD k 0) (partOf w q).2 → Clear (a.1.calls.getD k 0) (if q = c.prt (me t) then ((partOf w (c.prt (me t))).1, (partOf w (c.prt (me t))).2 ++ [me t]) else partOf w q).2 := fun i a k h1 h2 h3 h4 => by
          split
          · rename_i e
            subst e
            refine h4.snoc ?_
            exact Ne.symm (h.apart i a k who _ t.nth h1 hx h2 hl h3)
          · exact h4
        refine ⟨fun k h1 h2 h3 => ?_, fun i a k h0 h1 h2 h3 h4 => hle i a k h1 h3 (fun e => h0 e.1) (h.clear i a k h1 h2 h3 h4 q hq)⟩
        refine hle who (t, .wslot l) k hx h2 (fun e => ?_) (h.clear who (t, .wslot l) k hx h1 h2 (fun _ => rfl) q hq)
        have := h3 e.2
        simp [onward, nxt, wrote] at this
      · rw [a1, a2]
        have e := sum_set (fun p : Nat × List Nat => p.2.length) w.parts (c.prt (me t)) (partOf w (c.prt (me t))) ((partOf w (c.prt (me t))).1, (partOf w (c.prt (me t))).2 ++ [me t]) (by simp [partOf, List.getD_eq_getElem?_getD, hlt])
        have w1 : wr (t, Pos.wslot l) = 1 := by unfold wr; rw [if_pos ⟨hl, rfl⟩]
        have w2 : wr (onward c (t, Pos.wslot l) (.num 0)) = 0 := by simp [wr, onward, nxt, atW]
        rw [w1, w2]
        simp only [List.length_append, List.length_singleton] at e ⊢
        omega
      · rw [a1]
        have w1 : pend (t, Pos.wslot l) = 1 := by unfold pend; rw [if_pos ⟨hl, rfl⟩]
        have w2 : pend (onward c (t, Pos.wslot l) (.num 0)) = 1 := by unfold pend; rw [if_pos ⟨hy, rfl⟩]
        have w3 : oks (onward c (t, Pos.wslot l) (.num 0)) = oks (t, Pos.wslot l) := rfl
        rw [w1, w2, w3]
      · rw [a1]
        rintro (h3 | ⟨_, h3⟩)
        · exact hfu (.inl h3)
        · simp [onward, nxt, slowP] at h3
      · have e : q ≠ c.prt (me t) := fun e => by
          subst e
          have := (h.lk _ h4 i a h2).1 h3
          omega
        simp only [lenOf, hpo, if_neg e]
      · simp only [nxt, PosOk, lenOf, hpo, if_true, List.length_append, List.length_singleton]
        unfold lenOf at p1; omega
    · simp only [nxt, remP]; omega
  | wsize l =>
    have hq0 := hc.prt (me t)
    have hlt : c.prt (me t) < w.parts.length := by rw [h.np]; exact hq0
    have p1 : l.length + 1 = lenOf w (c.prt (me t)) := e3
    have hold : w.locks.getD (2 + c.prt (me t)) 0 = who + 1 := (h.lk _ hq0 who _ hx).1 ⟨hl, rfl⟩
    refine stepped_go h hc hx hl (fun b => by simp) (v := .num 0) (w0 := { w with parts := w.parts.set (c.prt (me t)) (l.length + 1, (partOf w (c.prt (me t))).2) }) rfl (fun w1 a1 a2 a3 a4 hv => ?_) (phi_same _ hx (rem_go hl ?_))
    · have hy : live (onward c (t, Pos.wsize l) (.num 0)) := hl
      have hpo : ∀ q, partOf w1 q = if q = c.prt (me t) then (l.length + 1, (partOf w (c.prt (me t))).2) else partOf w q := fun q => by
        show w1.parts.getD q (0, []) = _
        rw [a2]
        simp only [List.getD_eq_getElem?_getD, List.getElem?_set]
        by_cases e : c.prt (me t) = q
        · subst e; simp [hlt]
        · simp [e, Ne.symm e, partOf]
      have hp2 : ∀ q, (partOf w1 q).2 = (partOf w q).2 := fun q => by
        rw [hpo]
        split
        · rename_i e; subst e; rfl
        · rfl
      refine h.next hc hx a4 rfl (by rw [a3]; exact h.nl) (by rw [a3]; exact h.l0) (by rw [a2]; simpa using h.np) (fun q hq => ?_) (fun q hq => by rw [a3]; exact .inr (.inr rfl)) (fun q hq h1 => ?_) (fun q hq => ?_) ?_ ?_ (by rw [a1]; exact Int.le_refl _) (by rw [a1]; exact h.le) ?_ (fun i a q h1 h2 h3 h4 => ?_) (each_go hc hE hl hv trivial)
      · rw [a3]
        exact ⟨h.lk q hq who (t, Pos.wsize l) hx, fun i a _ ha => h.lk q hq i a ha⟩
      · by_cases e : q = c.prt (me t)
        · left
          subst e
          simp only [lenOf, hp2]
          rw [hpo, if_pos rfl]; exact p1
        · have : partOf w1 q = partOf w q := by rw [hpo, if_neg e]
          simp only [lenOf, this]
          rcases h1 with (h1 | h1) | ⟨h1, _⟩
          · exact .inl h1
          · exact .inr (.inl h1)
          · exact absurd h1.symm e
      · rw [hp2]
        exact ⟨fun k h1 h2 h3 => h.clear who (t, .wsize l) k hx h1 h2 (fun e => by have := h3 e; simp [onward, nxt, wrote] at this) q hq, fun i a k _ h1 h2 h3 h4 => h.clear i a k h1 h2 h3 h4 q hq⟩
      · rw [a1, a2]
        have e := sum_set (fun p : Nat × List Nat => p.2.length) w.parts (c.prt (me t)) (partOf w (c.prt (me t))) (l.length + 1, (partOf w (c.prt (me t))).2) (by simp [partOf, List.getD_eq_getElem?_getD, hlt])
        have w1 : wr (t, Pos.wsize l) = 0 := by simp [wr, atW]
        have w2 : wr (onward c (t, Pos.wsize l) (.num 0)) = 0 := by simp [wr, onward, nxt, atW]
        rw [w1, w2]
        simp only at e ⊢
        omega
      · rw [a1, pend_go rfl rfl]
      · rw [a1]
        rintro (h3 | ⟨_, h3⟩)
        · exact hfu (.inl h3)
        · simp [onward, nxt, slowP] at h3
      · simp only [lenOf, hp2]
    · simp only [nxt, remP]; omega
  | free ok =>
    have hq0 := hc.prt (me t)
    have hold : w.locks.getD (2 + c.prt (me t)) 0 = who + 1 := (h.lk _ hq0 who _ hx).1 ⟨hl, rfl⟩
    refine stepped_go h hc hx hl (fun b => by simp) (v := .num 0) (w0 := { w with locks := w.locks.set (2 + c.prt (me t)) 0 }) (by simp only [opOf, act, if_pos hold]) (fun w1 a1 a2 a3 a4 hv => ?_) (phi_same _ hx (rem_go hl ?_))
    · refine h.freed hc hx hq0 a1 a2 a3 a4 rfl ⟨hl, rfl⟩ (fun q hq => ?_) (wr_go ?_) (pend_go ?_ ?_) (fun l => by simp) (fun k h3 h4 => ⟨h3, fun e => ?_⟩) ?_ (each_go hc hE hl hv ?_)
      · cases ok
        · simp [holds, onward, nxt, holdsP]
        · simp [holds, onward, nxt, holdsP]
      · cases ok <;> rfl
      · cases ok <;> rfl
      · cases ok <;> rfl
      · cases ok
        · rfl
        · have := h4 e; simp [onward, nxt, wrote] at this
      · rintro (h3 | ⟨_, h3⟩)
        · exact hfu (.inl h3)
        · cases ok
          · exact hfu (.inr ⟨hl, rfl⟩)
          · simp [onward, nxt, slowP] at h3
      · cases ok <;> trivial
    · cases ok <;> simp only [nxt, remP, full1] <;> omega
  | lockAll j =>
    have hj : j < c.S := e2
    have hk : w.locks.getD (2 + j) 0 = 0 := by simpa [may, opOf] using hm
    refine stepped_go h hc hx hl (fun b => by simp) (v := .num 0) rfl (fun w1 a1 a2 a3 a4 hv => ?_) (phi_same _ hx (rem_go hl ?_))
    · refine h.taken hc hx hj hk a1 a2 a3 a4 rfl (fun q hq => ?_) (wr_go ?_) (pend_go ?_ ?_) (fun l => by simp) (fun k h3 h4 => ⟨h3, fun _ => rfl⟩) ?_ (each_go hc hE hl hv ?_)
      · simp only [holds, onward, nxt]
        constructor
        · rintro ⟨_, h1⟩
          split at h1
          · have h1 : q < j + 1 := h1
            by_cases e : q = j
            · exact .inr e
            · exact .inl ⟨hl, show q < j by omega⟩
          · by_cases e : q = j
            · exact .inr e
            · exact .inl ⟨hl, show q < j by omega⟩
        · intro h1
          refine ⟨hl, ?_⟩
          have : q < j + 1 := by
            rcases h1 with ⟨_, h1⟩ | h1
            · have h1 : q < j := h1
              omega
            · omega
          split
          · exact this
          · trivial
      · simp only [nxt]; split <;> rfl
      · simp only [nxt]; split <;> rfl
      · simp only [nxt]; split <;> rfl
      · rintro (h3 | ⟨_, h3⟩)
        · exact hfu (.inl h3)
        · exact hfu (.inr ⟨hl, rfl⟩)
      · simp only [nxt]
        split
        · trivial
        · exact rall_nil _
    · simp only [nxt]
      split
      · simp only [remP]; omega
      · have : c.S - j = 1 := by omega
        simp only [remP, this, Nat.sub_zero, parts1]; omega
  | rsize j all =>
    have hj : j < c.S := e2
    have p1 : RAll w (me t) j all := e3
    have hs := h.size_eq hx hj ⟨hl, trivial⟩ (fun l => by simp)
    have hm' := hlm _ hj
    refine stepped_go h hc hx hl (fun b => by simp) (v := .num (partOf w j).1) rfl (fun w1 a1 a2 a3 a4 hv => ?_) (phi_same _ hx (rem_go hl ?_))
    · refine h.quietGo hc hx hl hv a1 a2 a3 a4 (fun q hq => ?_) ?_ ?_ (fun l => by simp) (fun e => hfu (.inr ⟨hl, rfl⟩)) ?_
      · simp only [nxt]
        split
        · exact ⟨fun _ => trivial, fun _ => holds_after _ _ _ _⟩
        · exact Iff.rfl
      · simp only [nxt]; split
        · exact (atW_after _ _).1
        · rfl
      · simp only [nxt]; split
        · exact (atW_after _ _).2.1
        · rfl
      · simp only [nxt, Int.toNat_natCast]
        split
        · rename_i e
          refine posOk_after (by omega) (rall_world a2 (rall_snoc p1 ?_ (Clear.nil _)))
          rw [List.length_nil]; omega
        · refine ⟨rall_world a2 p1, ?_, Clear.nil _⟩
          rw [lenOf_world a2, List.length_nil]; omega
    · obtain ⟨k, hk⟩ : ∃ k, c.S - j = k + 1 := ⟨c.S - j - 1, by omega⟩
      simp only [nxt, Int.toNat_natCast]
      split
      · have := rem_after (c := c) (n := w.inn) (j := j + 1) (all := all ++ [[]]) (by omega)
        rw [show c.S - (j + 1) = k by omega] at this
        show remP c w.inn (after c (j + 1) (all ++ [[]])) < (c.S - j) * (c.most + 1) + c.S + 2
        rw [hk, Nat.add_mul]; omega
      · simp only [remP, hk, Nat.add_mul, show c.S - 1 - j = k by omega]
        omega
  | rslot j m acc all =>
    have hj : j < c.S := e2
    obtain ⟨p1, p2, p3⟩ := e3
    obtain ⟨a, h3, h4⟩ := h.slot_ok hx hl rfl hj (i := acc.length) (by omega)
    simp only at h3 h4
    refine stepped_go h hc hx hl (fun b => by simp) (v := .who a) (by simp only [opOf, act, h3]) (fun w1 a1 a2 a3 a4 hv => ?_) (phi_same _ hx (rem_go hl ?_))
    · cases m with
      | zero =>
        refine h.quietGo hc hx hl hv a1 a2 a3 a4 (fun q hq => ⟨fun _ => trivial, fun _ => holds_after _ _ _ _⟩) (atW_after _ _).1 (atW_after _ _).2.1 (fun l => by simp) (fun e => hfu (.inr ⟨hl, rfl⟩)) ?_
        refine posOk_after (by omega) (rall_world a2 (rall_snoc p1 ?_ (p3.snoc h4)))
        simp; omega
      | succ m =>
        refine h.quietGo hc hx hl hv a1 a2 a3 a4 (fun q hq => Iff.rfl) rfl rfl (fun l => by simp) (fun e => hfu (.inr ⟨hl, rfl⟩)) ⟨rall_world a2 p1, ?_, p3.snoc h4⟩
        simp only [lenOf_world a2, List.length_append, List.length_singleton]; omega
    · cases m with
      | zero =>
        have := rem_after (c := c) (n := w.inn) (j := j + 1) (all := all ++ [acc ++ [a]]) (by omega)
        rw [show c.S - (j + 1) = c.S - 1 - j by omega] at this
        show remP c w.inn (after c (j + 1) (all ++ [acc ++ [a]])) < (0 + 1) + (c.S - 1 - j) * (c.most + 1) + c.S + 2
        omega
      | succ m => simp only [nxt, remP]; omega
  | sinn all =>
    refine stepped_go h hc hx hl (fun b => by simp) (v := .num w.inn) rfl (fun w1 a1 a2 a3 a4 hv => ?_) (phi_same _ hx (rem_go hl ?_))
    · refine h.quietGo hc hx hl hv a1 a2 a3 a4 (fun q hq => ?_) rfl rfl (fun l => by simp) (fun e => hfu (.inr ⟨hl, rfl⟩)) trivial
      exact ⟨fun _ => trivial, fun _ => show q ≤ c.S - 1 by omega⟩
    · have := hc.S
      simp only [nxt, remP]; omega
  | freeAll i =>
    have hi : i < c.S := e2
    have hold : w.locks.getD (2 + i) 0 = who + 1 := (h.lk _ hi who _ hx).1 ⟨hl, Nat.le_refl i⟩
    refine stepped_go h hc hx hl (fun b => by simp) (v := .num 0) (w0 := { w with locks := w.locks.set (2 + i) 0 }) (by simp only [opOf, act, if_pos hold]) (fun w1 a1 a2 a3 a4 hv => ?_) (phi_same _ hx (rem_go hl ?_))
    · refine h.freed hc hx hi a1 a2 a3 a4 rfl ⟨hl, Nat.le_refl i⟩ (fun q hq => ?_) (wr_go ?_) (pend_go ?_ ?_) (fun l => by simp) (fun k h3 h4 => ⟨h3, fun e => rfl⟩) ?_ (each_go hc hE hl hv ?_)
      · cases i with
        | zero => simp [holds, onward, nxt, holdsP]
        | succ i =>
          simp only [holds, onward, nxt, holdsP]
          exact ⟨fun ⟨_, h1⟩ => ⟨⟨hl, by omega⟩, by omega⟩, fun ⟨⟨_, h1⟩, h2⟩ => ⟨hl, by omega⟩⟩
      · cases i <;> rfl
      · cases i <;> rfl
      · cases i <;> rfl
      · rintro (h3 | ⟨_, h3⟩)
        · exact hfu (.inl h3)
        · exact hfu (.inr ⟨hl, rfl⟩)
      · cases i <;> trivial
    · cases i <;> simp only [nxt, remP] <;> omega
end
end Go.Proofs.YtnncjbkepakgpaaGreat.Pm
