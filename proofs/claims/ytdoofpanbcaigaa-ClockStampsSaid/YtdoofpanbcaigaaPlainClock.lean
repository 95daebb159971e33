/-
  THE PLAIN LAWS of what happened ahead of what (layer 46): no Go in sight.
-/
namespace Go.Proofs.Ytdoofpanbcaigaa.Plain
open Classical

/-- A step happened ahead of another one, or is it. -/
inductive Reach (ld : Nat → Nat → Bool) : Nat → Nat → Prop
  | refl (i : Nat) : Reach ld i i
  | step {i m k : Nat} : Reach ld i m → m < k → ld m k = true → Reach ld i k

theorem Reach.le {ld : Nat → Nat → Bool} {i k : Nat} (h : Reach ld i k) : i ≤ k := by
  induction h with
  | refl => exact Nat.le_refl _
  | step _ h1 _ ih => omega
theorem Reach.trans {ld : Nat → Nat → Bool} {i m k : Nat} (h : Reach ld i m) (h' : Reach ld m k) : Reach ld i k := by
  induction h' with
  | refl => exact h
  | step _ h1 h2 ih => exact .step ih h1 h2
theorem Reach.last {ld : Nat → Nat → Bool} {i k : Nat} (h : Reach ld i k) (hik : i < k) : ∃ m, i ≤ m ∧ m < k ∧ ld m k = true ∧ Reach ld i m := by
  cases h with
  | refl => omega
  | step h1 h2 h3 => exact ⟨_, h1.le, h2, h3, h1⟩
noncomputable def rb (ld : Nat → Nat → Bool) (i k : Nat) : Bool := decide (Reach ld i k)
theorem rb_true {ld : Nat → Nat → Bool} {i k : Nat} : rb ld i k = true ↔ Reach ld i k := by simp [rb]
theorem rb_self (ld : Nat → Nat → Bool) (i : Nat) : rb ld i i = true := rb_true.2 (.refl i)
theorem rb_gt {ld : Nat → Nat → Bool} {i k : Nat} (h : k < i) : rb ld i k = false := by
  cases hb : rb ld i k with
  | false => rfl
  | true => have := (rb_true.1 hb).le; omega

/-! ### the program's way: the places ahead of k, by the steps from the last one down -/
def Mid (ld : Nat → Nat → Bool) (k t j : Nat) : Prop := j = k ∨ ∃ m, t ≤ m ∧ m < k ∧ ld m k = true ∧ Reach ld j m
noncomputable def mb (ld : Nat → Nat → Bool) (k t j : Nat) : Bool := decide (Mid ld k t j)
theorem mb_start (ld : Nat → Nat → Bool) (k j : Nat) : mb ld k k j = decide (j = k) := by
  unfold mb Mid
  congr 1
  apply propext
  constructor
  · rintro (h | ⟨m, h1, h2, _⟩)
    · exact h
    · omega
  · exact Or.inl
theorem mb_end (ld : Nat → Nat → Bool) (k j : Nat) : mb ld k 0 j = rb ld j k := by
  unfold mb rb Mid
  congr 1
  apply propext
  constructor
  · rintro (rfl | ⟨m, _, h2, h3, h4⟩)
    · exact .refl _
    · exact .step h4 h2 h3
  · intro h
    cases h with
    | refl => exact Or.inl rfl
    | step h1 h2 h3 => exact Or.inr ⟨_, Nat.zero_le _, h2, h3, h1⟩
theorem mb_true {ld : Nat → Nat → Bool} {k t j : Nat} : mb ld k t j = true ↔ Mid ld k t j := by simp [mb]
theorem mb_skip {ld : Nat → Nat → Bool} {k t : Nat} (ht : t < k) (h : mb ld k (t + 1) t = true) (j : Nat) : mb ld k t j = mb ld k (t + 1) j := by
  have h := mb_true.1 h
  unfold Mid at h
  unfold mb Mid
  congr 1
  apply propext
  constructor
  · rintro (h1 | ⟨m, h1, h2, h3, h4⟩)
    · exact Or.inl h1
    · by_cases e : m = t
      · subst e
        rcases h with h5 | ⟨m', h5, h6, h7, h8⟩
        · omega
        · exact Or.inr ⟨m', h5, h6, h7, h4.trans h8⟩
      · exact Or.inr ⟨m, by omega, h2, h3, h4⟩
  · rintro (h1 | ⟨m, h1, h2, h3, h4⟩)
    · exact Or.inl h1
    · exact Or.inr ⟨m, by omega, h2, h3, h4⟩
theorem mb_no {ld : Nat → Nat → Bool} {k t : Nat} (h : ld t k = false) (j : Nat) : mb ld k t j = mb ld k (t + 1) j := by
  unfold mb Mid at *
  congr 1
  apply propext
  constructor
  · rintro (h1 | ⟨m, h1, h2, h3, h4⟩)
    · exact Or.inl h1
    · by_cases e : m = t
      · subst e; rw [h] at h3; cases h3
      · exact Or.inr ⟨m, by omega, h2, h3, h4⟩
  · rintro (h1 | ⟨m, h1, h2, h3, h4⟩)
    · exact Or.inl h1
    · exact Or.inr ⟨m, by omega, h2, h3, h4⟩
theorem mb_take {ld : Nat → Nat → Bool} {k t : Nat} (ht : t < k) (h : ld t k = true) (j : Nat) : mb ld k t j = (mb ld k (t + 1) j || rb ld j t) := by
  rw [Bool.eq_iff_iff]
  simp only [mb, rb, Bool.or_eq_true, decide_eq_true_eq]
  unfold Mid
  constructor
  · rintro (h1 | ⟨m, h1, h2, h3, h4⟩)
    · exact Or.inl (Or.inl h1)
    · by_cases e : m = t
      · subst e; exact Or.inr h4
      · exact Or.inl (Or.inr ⟨m, by omega, h2, h3, h4⟩)
  · rintro ((h1 | ⟨m, h1, h2, h3, h4⟩) | h4)
    · exact Or.inl h1
    · exact Or.inr ⟨m, by omega, h2, h3, h4⟩
    · exact Or.inr ⟨t, Nat.le_refl _, ht, h, h4⟩

/-! ### the document's way: forward, from i on -/
def Fw (ld : Nat → Nat → Bool) (i k t : Nat) : Prop := ∃ m, i ≤ m ∧ m < t ∧ ld m k = true ∧ Reach ld i m
noncomputable def fb (ld : Nat → Nat → Bool) (i k t : Nat) : Bool := decide (Fw ld i k t)
theorem fb_start (ld : Nat → Nat → Bool) (i k : Nat) : fb ld i k i = false := by
  simp only [fb, decide_eq_false_iff_not]
  rintro ⟨m, h1, h2, _⟩; omega
theorem fb_step {ld : Nat → Nat → Bool} {i k t : Nat} (hi : i ≤ t) (h : fb ld i k t = false) : fb ld i k (t + 1) = (rb ld i t && ld t k) := by
  rw [Bool.eq_iff_iff]
  simp only [fb, rb, Bool.and_eq_true, decide_eq_true_eq]
  simp only [fb, decide_eq_false_iff_not] at h
  constructor
  · rintro ⟨m, h1, h2, h3, h4⟩
    by_cases e : m = t
    · subst e; exact ⟨h4, h3⟩
    · exact absurd ⟨m, h1, by omega, h3, h4⟩ h
  · rintro ⟨h1, h2⟩; exact ⟨t, hi, by omega, h2, h1⟩
theorem fb_true {ld : Nat → Nat → Bool} {i k t : Nat} (ht : t ≤ k) (h : fb ld i k t = true) : rb ld i k = true := by
  simp only [fb, decide_eq_true_eq] at h
  obtain ⟨m, _, h2, h3, h4⟩ := h
  exact rb_true.2 (.step h4 (by omega) h3)
theorem fb_end {ld : Nat → Nat → Bool} {i k : Nat} (hik : i < k) : fb ld i k k = rb ld i k := by
  rw [Bool.eq_iff_iff]
  simp only [fb, rb, decide_eq_true_eq]
  constructor
  · rintro ⟨m, _, h2, h3, h4⟩; exact .step h4 h2 h3
  · intro h
    obtain ⟨m, h1, h2, h3, h4⟩ := h.last hik
    exact ⟨m, h1, h2, h3, h4⟩

/-! ### counting -/
/-- How many places below t are so. -/
def cnt (p : Nat → Bool) : Nat → Nat
  | 0 => 0
  | t + 1 => cnt p t + (if p t then 1 else 0)
theorem cnt_le (p : Nat → Bool) (t : Nat) : cnt p t ≤ t := by
  induction t with
  | zero => exact Nat.le_refl _
  | succ t ih => unfold cnt; split <;> omega
theorem cnt_mono {p q : Nat → Bool} (t : Nat) (h : ∀ j, j < t → p j = true → q j = true) : cnt p t ≤ cnt q t := by
  induction t with
  | zero => exact Nat.le_refl _
  | succ t ih =>
    have := ih (fun j hj => h j (by omega))
    have h' := h t (by omega)
    unfold cnt
    cases hp : p t <;> cases hq : q t <;> simp_all <;> omega
theorem cnt_more (p : Nat → Bool) {s t : Nat} (h : s ≤ t) : cnt p s ≤ cnt p t := by
  induction t with
  | zero => have : s = 0 := by omega
            subst this; exact Nat.le_refl _
  | succ t ih =>
    by_cases e : s = t + 1
    · subst e; exact Nat.le_refl _
    · have := ih (by omega)
      have : cnt p t ≤ cnt p (t + 1) := by conv => rhs; unfold cnt
                                           omega
      omega
theorem cnt_stop (p : Nat → Bool) {s t : Nat} (h : s ≤ t) (hn : ∀ j, s ≤ j → j < t → p j = false) : cnt p t = cnt p s := by
  induction t with
  | zero => have : s = 0 := by omega
            subst this; rfl
  | succ t ih =>
    by_cases e : s = t + 1
    · subst e; rfl
    · have h1 := ih (by omega) (fun j h1 h2 => hn j h1 (by omega))
      have h2 := hn t (by omega) (by omega)
      have h3 : cnt p (t + 1) = cnt p t + (if p t then 1 else 0) := rfl
      rw [h3, h2, h1]; simp

/-- THE LAW OF CLOCKS: a step happened ahead of another one just if that one's clock counts it. -/
theorem clock_law {ld : Nat → Nat → Bool} {who : Nat → Int} (hw : ∀ m k, m < k → who m = who k → ld m k = true) {i k : Nat} (hik : i ≤ k) :
    rb ld i k = decide (cnt (fun j => who j == who i) (i + 1) ≤ cnt (fun j => rb ld j k && who j == who i) (k + 1)) := by
  have chain : ∀ m n, m ≤ n → who m = who n → Reach ld m n := fun m n h e => by
    by_cases e' : m = n
    · subst e'; exact .refl _
    · exact .step (.refl m) (by omega) (hw m n (by omega) e)
  rw [Bool.eq_iff_iff, decide_eq_true_eq, rb_true]
  constructor
  · intro h
    refine Nat.le_trans (cnt_mono (q := fun j => rb ld j k && who j == who i) (i + 1) fun j hj hp => ?_) (cnt_more _ (by omega))
    simp only [beq_iff_eq] at hp
    have := (chain j i (by omega) hp).trans h
    simp [rb_true.2 this, hp]
  · intro h
    cases hr : rb ld i k with
    | true => exact rb_true.1 hr
    | false =>
      exfalso
      have h1 : cnt (fun j => rb ld j k && who j == who i) (k + 1) = cnt (fun j => rb ld j k && who j == who i) i := cnt_stop _ (by omega) fun j h1 h2 => by
        cases hb : (rb ld j k && who j == who i) with
        | false => rfl
        | true =>
          simp only [Bool.and_eq_true, beq_iff_eq] at hb
          have := rb_true.2 ((chain i j h1 hb.2.symm).trans (rb_true.1 hb.1))
          rw [hr] at this; cases this
      have h2 : cnt (fun j => rb ld j k && who j == who i) i ≤ cnt (fun j => who j == who i) i := cnt_mono i fun j _ hp => by
        simp only [Bool.and_eq_true] at hp; exact hp.2
      have h3 : cnt (fun j => who j == who i) (i + 1) = cnt (fun j => who j == who i) i + 1 := by
        conv => lhs; unfold cnt
        simp
      omega
end Go.Proofs.Ytdoofpanbcaigaa.Plain
