/-
  MEMORY AS A WHOLE; WHAT BECOMES OF IT BY AN OPERATION.
  A REGION THAT DRAWS: A READ THAT IS GUARDED COMES FIRST, OR IS PASSED OVER.
  THE WORLD: WHAT A TASK MAY DO NEXT; WHETHER ALL ARE OVER.
-/
import Derived.Test.YtnncjbkepakgpaaGreatA32
import Derived.Test.YtnncjbkepakgpaaGreatA03
import Derived.Test.YtnncjbkepakgpaaGreatA34
import Derived.Test.YtnncjbkepakgpaaGreatA14
import Derived.Test.YtnncjbkepakgpaaGreatA07
namespace Go.Proofs.YtnncjbkepakgpaaGreat
set_option linter.unusedVariables false
set_option linter.unusedSimpArgs false
set_option maxRecDepth 100000
set_option maxHeartbeats 800000
section
open Go.RowKit
theorem tailDoLaw1 {p : Prop} (h : p := by
  exact ⟨_, rfl, same (p' := p) (s1.below hb) (e1.mono fun _ _ h => h.below hb) (s2.below hb) (e2.mono fun _ _ h => h.below hb) hm hq hr, hb⟩) : p := h
def memC (inn : Int) (vS vL : Value) : Array Value := #[.int .i64 inn, .int .i64 0, .slice none 0 0, .slice none 0 0, vS, vL]
/-- The sharers of lock k: sorted, not more than s; none but at the first. -/
def ShOk (s k : Nat) (l : List Nat) : Prop := l.Pairwise (· ≤ ·) ∧ l.length ≤ s ∧ (1 ≤ k → l = [])
def MemAt (W : World) (M : Array Value) (p : Pm.Wd) : Prop :=
  ∃ vS vL CS CL lk, M = memC p.inn vS vL ∧ Sl W vS 2 CS ∧ Els ShardAt W CS p.parts ∧ Sl W vL 2 CL ∧ Els LockAt W CL lk ∧ lk.map Prod.fst = p.locks ∧ ∀ k x, lk[k]? = some x → ShOk p.sh k x.2
theorem MemAt.below {W W' : World} {M : Array Value} {p : Pm.Wd} (h : MemAt W M p) (k : Below W.heap.size W W') : MemAt W' M p := by
  obtain ⟨vS, vL, CS, CL, lk, h0, h1, h2, h3, h4, h5, h6⟩ := h
  exact ⟨vS, vL, CS, CL, lk, h0, h1.below k, h2.mono fun _ _ h => h.below k, h3.below k, h4.mono fun _ _ h => h.below k, h5, h6⟩
theorem MemAt.tasks {W : World} {M : Array Value} {p : Pm.Wd} (h : MemAt W M p) (t : List Pm.Task) : MemAt W M { p with tasks := t } := h
theorem MemAt.size {W : World} {M : Array Value} {p : Pm.Wd} (h : MemAt W M p) : M.size = 6 := by
  obtain ⟨vS, vL, CS, CL, lk, rfl, -⟩ := h; rfl
theorem MemAt.ones {W : World} {M : Array Value} {p : Pm.Wd} (h : MemAt W M p) : ones M = true := by
  obtain ⟨vS, vL, CS, CL, lk, rfl, ⟨_, _, rfl, _⟩, -, ⟨_, _, rfl, _⟩, -⟩ := h; rfl
/-- .. which reaches such blocks alone. -/
structure ReIn (R : Nat → Prop) (vS vL : Value) (CS CL : List (Array Value)) : Prop where
  s : ∀ q, vS.ownBlock = some q → R q
  l : ∀ q, vL.ownBlock = some q → R q
  cs : ∀ C ∈ CS, ∀ q, Reach C q → R q
  cl : ∀ C ∈ CL, ∀ q, Reach C q → R q
def MemIn (R : Nat → Prop) (W : World) (M : Array Value) (p : Pm.Wd) : Prop :=
  ∃ vS vL CS CL lk, M = memC p.inn vS vL ∧ Sl W vS 2 CS ∧ Els ShardAt W CS p.parts ∧ Sl W vL 2 CL ∧ Els LockAt W CL lk ∧ lk.map Prod.fst = p.locks ∧ (∀ k x, lk[k]? = some x → ShOk p.sh k x.2) ∧ ReIn R vS vL CS CL
theorem MemIn.at {R : Nat → Prop} {W : World} {M : Array Value} {p : Pm.Wd} (h : MemIn R W M p) : MemAt W M p := by
  obtain ⟨vS, vL, CS, CL, lk, h0, h1, h2, h3, h4, h5, h6, _⟩ := h
  exact ⟨vS, vL, CS, CL, lk, h0, h1, h2, h3, h4, h5, h6⟩
theorem reach_two {i : Int} {v : Value} {q : Nat} : Reach #[.int .i64 i, v] q ↔ v.ownBlock = some q := by
  constructor
  · rintro ⟨u, hu, hq⟩
    simp only [List.mem_cons, List.not_mem_nil, or_false] at hu
    rcases hu with rfl | rfl
    · cases hq
    · exact hq
  · intro h; exact ⟨v, by simp, h⟩
theorem MemAt.in {W : World} {M : Array Value} {p : Pm.Wd} (h : MemAt W M p) : MemIn (fun g => g < W.heap.size) W M p := by
  obtain ⟨vS, vL, CS, CL, lk, h0, h1, h2, h3, h4, h5, h6⟩ := h
  refine ⟨vS, vL, CS, CL, lk, h0, h1, h2, h3, h4, h5, h6, fun q hq => h1.lt hq, fun q hq => h3.lt hq, fun C hC q hq => ?_, fun C hC q hq => ?_⟩
  · obtain ⟨i, hi⟩ := List.mem_iff_getElem?.1 hC
    have hl : i < p.parts.length := by rw [← h2.1]; exact (List.getElem?_eq_some_iff.1 hi).1
    obtain ⟨v, rfl, hv⟩ := h2.2 i C _ hi (List.getElem?_eq_getElem hl)
    exact hv.lt (reach_two.1 hq)
  · obtain ⟨i, hi⟩ := List.mem_iff_getElem?.1 hC
    have hl : i < lk.length := by rw [← h4.1]; exact (List.getElem?_eq_some_iff.1 hi).1
    obtain ⟨v, rfl, hv⟩ := h4.2 i C _ hi (List.getElem?_eq_getElem hl)
    exact hv.lt (reach_two.1 hq)
theorem MemIn.upto {R : Nat → Prop} {T : Nat} {W W' : World} {M : Array Value} {p : Pm.Wd} (h : MemIn R W M p) (k : Upto T W W') (hT : ¬ R T) : MemIn R W' M p := by
  obtain ⟨vS, vL, CS, CL, lk, h0, h1, h2, h3, h4, h5, h6, h7⟩ := h
  refine ⟨vS, vL, CS, CL, lk, h0, h1.upto k (fun e => hT (h7.s _ e)), ⟨h2.1, fun i C x hC hx => ?_⟩, h3.upto k (fun e => hT (h7.l _ e)), ⟨h4.1, fun i C x hC hx => ?_⟩, h5, h6, h7⟩
  · obtain ⟨v, rfl, hv⟩ := h2.2 i C x hC hx
    exact ⟨v, rfl, hv.upto k fun e => hT (h7.cs _ (List.mem_of_getElem? hC) _ (reach_two.2 e))⟩
  · obtain ⟨v, rfl, hv⟩ := h4.2 i C x hC hx
    exact ⟨v, rfl, hv.upto k fun e => hT (h7.cl _ (List.mem_of_getElem? hC) _ (reach_two.2 e))⟩
theorem MemIn.below {R : Nat → Prop} {W W' : World} {M : Array Value} {p : Pm.Wd} (h : MemIn R W M p) (k : Below W.heap.size W W') : MemIn R W' M p := by
  obtain ⟨vS, vL, CS, CL, lk, h0, h1, h2, h3, h4, h5, h6, h7⟩ := h
  exact ⟨vS, vL, CS, CL, lk, h0, h1.below k, h2.mono fun _ _ h => h.below k, h3.below k, h4.mono fun _ _ h => h.below k, h5, h6, h7⟩
theorem ReIn.mono {R R' : Nat → Prop} {vS vL : Value} {CS CL : List (Array Value)} (h : ReIn R vS vL CS CL) (k : ∀ q, R q → R' q) : ReIn R' vS vL CS CL :=
  ⟨fun q hq => k q (h.s q hq), fun q hq => k q (h.l q hq), fun C hC q hq => k q (h.cs C hC q hq), fun C hC q hq => k q (h.cl C hC q hq)⟩
theorem ReIn.lock {R : Nat → Prop} {vS vL vL' : Value} {CS CL : List (Array Value)} (h : ReIn R vS vL CS CL) (h1 : ∀ q, vL'.ownBlock = some q → R q) (k : Nat) (i : Int) (v : Value) (h2 : ∀ q, v.ownBlock = some q → R q) : ReIn R vS vL' CS (CL.set k #[.int .i64 i, v]) :=
  ⟨h.s, h1, h.cs, fun C hC q hq => by
    rcases List.mem_or_eq_of_mem_set hC with hC | rfl
    · exact h.cl C hC q hq
    · exact h2 q (reach_two.1 hq)⟩
theorem ReIn.part {R : Nat → Prop} {vS vL vS' : Value} {CS CL : List (Array Value)} (h : ReIn R vS vL CS CL) (h1 : ∀ q, vS'.ownBlock = some q → R q) (k : Nat) (i : Int) (v : Value) (h2 : ∀ q, v.ownBlock = some q → R q) : ReIn R vS' vL (CS.set k #[.int .i64 i, v]) CL :=
  ⟨h1, h.l, fun C hC q hq => by
    rcases List.mem_or_eq_of_mem_set hC with hC | rfl
    · exact h.cs C hC q hq
    · exact h2 q (reach_two.1 hq), h.cl⟩
theorem getD_some {α : Type} {L : List α} {k : Nat} {d : α} (h : k < L.length) : L[k]? = some (L.getD k d) := by
  rw [List.getD_eq_getElem?_getD, List.getElem?_eq_getElem h]; rfl
/-- A lock that is there. -/
theorem lock_at {W : World} {vL : Value} {CL : List (Array Value)} {lk : List (Nat × List Nat)} {locks : List Nat} {s k : Nat} (h : Sl W vL 2 CL) (e : Els LockAt W CL lk) (hm : lk.map Prod.fst = locks) (hq : ∀ k x, lk[k]? = some x → ShOk s k x.2) (hk : k < locks.length) :
    ∃ l a c, lk[k]? = some (locks.getD k 0, l) ∧ CL[k]? = some #[.int .i64 (locks.getD k 0 : Nat), .slice a l.length c] ∧ Sl W (.slice a l.length c) 1 (l.map shC) ∧ ShOk s k l := by
  have hk' : k < lk.length := by rw [← hm] at hk; simpa using hk
  have hx := List.getElem?_eq_getElem hk'
  obtain ⟨C, hC, v, rfl, hv⟩ := e.at hx
  have hf : (lk[k]).1 = locks.getD k 0 := by
    subst hm
    rw [List.getD_eq_getElem?_getD, List.getElem?_map, hx]; rfl
  obtain ⟨a, c, rfl, -⟩ := id hv
  simp only [List.length_map] at hC hv
  exact ⟨(lk[k]).2, a, c, by rw [hx, ← hf], by rw [hC, hf], hv, hq _ _ hx⟩
theorem locks_set {W : World} {CL : List (Array Value)} {lk : List (Nat × List Nat)} {locks : List Nat} {s s' : Nat} (e : Els LockAt W CL lk) (hm : lk.map Prod.fst = locks) (hq : ∀ k x, lk[k]? = some x → ShOk s k x.2) (hs : s ≤ s') (k b : Nat) (l : List Nat) (v : Value) (hv : Sl W v 1 (l.map shC)) (hl : ShOk s' k l) :
    Els LockAt W (CL.set k #[.int .i64 (b : Nat), v]) (lk.set k (b, l)) ∧ (lk.set k (b, l)).map Prod.fst = locks.set k b ∧ ∀ j x, (lk.set k (b, l))[j]? = some x → ShOk s' j x.2 := by
  refine ⟨e.set (x := (b, l)) ⟨v, rfl, hv⟩ k, by rw [List.map_set, hm], fun j x hx => ?_⟩
  rw [List.getElem?_set] at hx
  split at hx
  · rename_i ej
    subst ej
    split at hx
    · cases hx; exact hl
    · cases hx
  · have := hq j x hx
    exact ⟨this.1, Nat.le_trans this.2.1 hs, this.2.2⟩
theorem set_getD {α : Type} {L : List α} {k : Nat} {d : α} : L.set k (L.getD k d) = L := by
  apply List.ext_getElem?
  intro i
  rw [List.getElem?_set]
  split
  · rename_i e
    subst e
    split
    · rename_i h; exact (getD_some h).symm
    · rename_i h; exact (List.getElem?_eq_none (Nat.le_of_not_lt h)).symm
  · rfl
theorem do_law (S : Nat) (h0 : 1 ≤ S) (h1 : S ≤ 8) (p : Pm.Wd) (who : Nat) (hw : who ≤ 100) (hS : p.parts.length = S) (hL : p.locks.length = S + 2) (hsh : p.sh ≤ 80000) (o : Pm.Op) (hf : Pm.opFits S p o) (hmay : Pm.may p o = true) (R : Nat → Prop) (M : Array Value) (w : World) (h : MemIn R w M p) :
    Calls Tryz.prog 52 #[.agg M, .agg (opC o), .int .i64 who] w fun e w' => ∃ M', e = .returned (.tuple #[.agg M', .agg (valC (Pm.act p who o).2)]) ∧ MemIn (fun g => R g ∨ w.heap.size ≤ g) w' M' (Pm.act p who o).1 ∧ Below w.heap.size w w' := by
  obtain ⟨vS, vL, CS, CL, lk, rfl, s1, e1, s2, e2, hm, hq, hr0⟩ := h
  have hr := hr0.mono (R' := fun g => R g ∨ w.heap.size ≤ g) fun q h => .inl h
  have hCS : CS.length = S := e1.1.trans hS
  have hCL : CL.length ≤ 1000 := by
    have := e2.1; have h2 : lk.length = p.locks.length := by rw [← hm]; simp
    omega
  have hvS : ∃ aS cS, vS = .slice aS S cS := by obtain ⟨a, c, rfl, -⟩ := s1; exact ⟨a, c, by rw [hCS]⟩
  obtain ⟨aS, cS, rfl⟩ := hvS
  obtain ⟨l0, a0, c0, hk0, hC0, hv0, hq0⟩ := lock_at (k := 0) s2 e2 hm hq (by omega)
  have same : ∀ {w' : World} {vS' vL' : Value} {CS' CL' : List (Array Value)} {lk' : List (Nat × List Nat)} {p' : Pm.Wd}, Sl w' vS' 2 CS' → Els ShardAt w' CS' p'.parts → Sl w' vL' 2 CL' → Els LockAt w' CL' lk' → lk'.map Prod.fst = p'.locks → (∀ k x, lk'[k]? = some x → ShOk p'.sh k x.2) → ReIn (fun g => R g ∨ w.heap.size ≤ g) vS' vL' CS' CL' → MemIn (fun g => R g ∨ w.heap.size ≤ g) w' (memC p'.inn vS' vL') p' := fun a b c d e f g => ⟨_, _, _, _, _, rfl, a, b, c, d, e, f, g⟩
  have part : ∀ q, q < S → ∃ v, CS[q]? = some #[.int .i64 ((Pm.partOf p q).1 : Nat), v] ∧ Sl w v 10 ((Pm.partOf p q).2.map peerC) := fun q hq => by
    have hx : p.parts[q]? = some (Pm.partOf p q) := getD_some (by omega)
    obtain ⟨C, hC, v, rfl, hv⟩ := e1.at hx
    exact ⟨v, hC, hv⟩
  cases o with
  | lock k =>
    obtain ⟨f1, f2⟩ := hf
    have f3 : p.locks.getD k 0 = 0 := by simpa [Pm.may] using hmay
    obtain ⟨l, a, c, hk, hC, hv, hlo⟩ := lock_at (k := k) s2 e2 hm hq (by omega)
    obtain rfl := hlo.2.2 f1
    rw [f3] at hC
    refine (do_lock S h0 h1 k p.inn aS cS vL CL who hw hCL f2 c a hC w s2).mono ?_
    rintro e w' ⟨vL', rfl, hs, hfr, hb⟩
    obtain ⟨g1, g2, g3⟩ := locks_set (e2.mono fun _ _ h => h.below hb) hm hq (Nat.le_refl _) k (who + 1) [] _ (hv.below hb) hlo
    exact ⟨_, rfl, same (p' := (Pm.act p who (.lock k)).1) (s1.below hb) (e1.mono fun _ _ h => h.below hb) hs g1 g2 g3 (hr.lock (fun q hq => .inr (hfr q hq)) k _ _ (fun q hq => hr.cl _ (List.mem_of_getElem? hC) q (reach_two.2 hq))), hb⟩
  | share =>
    have hf0 : p.locks.getD 0 0 = 0 := by simpa [Pm.may] using hmay
    rw [hf0] at hC0
    refine (do_share S h0 h1 p.inn aS cS vL CL who hw hCL l0 c0 a0 hq0.1 (by have := hq0.2.1; omega) hC0 w s2 hv0).mono ?_
    rintro e w' ⟨vL', l', v', rfl, hs, hv, hp, hl, hfr, hfv, hb⟩
    obtain ⟨g1, g2, g3⟩ := locks_set (s' := p.sh + 1) (e2.mono fun _ _ h => h.below hb) hm hq (Nat.le_succ _) 0 0 l' _ hv ⟨hp, by have := hq0.2.1; omega, fun h => by omega⟩
    have e0 : p.locks.set 0 0 = p.locks := by
      have := set_getD (L := p.locks) (k := 0) (d := 0)
      rwa [hf0] at this
    exact ⟨_, rfl, same (p' := (Pm.act p who .share).1) (s1.below hb) (e1.mono fun _ _ h => h.below hb) hs g1 (g2.trans e0) g3 (hr.lock (fun q hq => .inr (hfr q hq)) 0 _ _ (fun q hq => (hfv q hq).elim (fun h => hr.cl _ (List.mem_of_getElem? hC0) q (reach_two.2 h)) .inr)), hb⟩
  | free k m =>
    obtain ⟨f1, f2⟩ := hf
    obtain ⟨l, a, c, hk, hC, hv, hlo⟩ := lock_at (k := k) s2 e2 hm hq (by omega)
    by_cases hb : p.locks.getD k 0 = who + 1
    · rw [hb] at hC
      refine (do_free_hit S h0 h1 k m p.inn aS cS vL CL who hw hCL f2 _ c a hC w s2).mono ?_
      rintro e w' ⟨vL', rfl, hs, hfr, hb'⟩
      obtain ⟨g1, g2, g3⟩ := locks_set (e2.mono fun _ _ h => h.below hb') hm hq (Nat.le_refl _) k 0 l _ (hv.below hb') hlo
      simp only [Pm.act, hb, if_true]
      exact ⟨_, rfl, same (p' := { p with locks := p.locks.set k 0 }) (s1.below hb') (e1.mono fun _ _ h => h.below hb') hs g1 g2 g3 (hr.lock (fun q hq => .inr (hfr q hq)) k _ _ (fun q hq => hr.cl _ (List.mem_of_getElem? hC) q (reach_two.2 hq))), hb'⟩
    · refine (do_free_miss S h0 h1 k m p.inn aS cS vL CL who hw hCL f2 _ _ c hb a hC w s2).mono ?_
      rintro e w' ⟨vL', rfl, hs, hfr, hb'⟩
      obtain ⟨g1, g2, g3⟩ := locks_set (e2.mono fun _ _ h => h.below hb') hm hq (Nat.le_refl _) k (p.locks.getD k 0) l _ (hv.below hb') hlo
      simp only [Pm.act, hb, if_false]
      exact ⟨_, rfl, same (p' := p) (s1.below hb') (e1.mono fun _ _ h => h.below hb') hs g1 (g2.trans set_getD) g3 (hr.lock (fun q hq => .inr (hfr q hq)) k _ _ (fun q hq => hr.cl _ (List.mem_of_getElem? hC) q (reach_two.2 hq))), hb'⟩
  | drop =>
    refine (do_drop S h0 h1 p.inn aS cS vL CL who hw hCL (p.locks.getD 0 0) l0 c0 a0 hq0.1 (by have := hq0.2.1; omega) hC0 w s2 hv0).mono ?_
    rintro e w' ⟨vL', l', v', rfl, hs, hv, hp, hl, hfr, hfv, hb⟩
    obtain ⟨g1, g2, g3⟩ := locks_set (e2.mono fun _ _ h => h.below hb) hm hq (Nat.le_refl _) 0 (p.locks.getD 0 0) l' _ hv ⟨hp, by have := hq0.2.1; omega, fun h => by omega⟩
    exact ⟨_, rfl, same (p' := p) (s1.below hb) (e1.mono fun _ _ h => h.below hb) hs g1 (g2.trans set_getD) g3 (hr.lock (fun q hq => .inr (hfr q hq)) 0 _ _ (fun q hq => (hfv q hq).elim (fun h => hr.cl _ (List.mem_of_getElem? hC0) q (reach_two.2 h)) .inr)), hb⟩
  | bans =>
    refine (do_bans S h0 h1 p.inn aS cS vL CL who hw hCL _ _ _ _ hC0 w s2).mono ?_
    rintro e w' ⟨rfl, hb⟩
    exact tailDoLaw1
  | inn =>
    refine (do_inn S h0 h1 p.inn aS cS vL CL who hw hCL _ _ _ _ hC0 w s2).mono ?_
    rintro e w' ⟨rfl, hb⟩
    exact tailDoLaw1
  | size q =>
    obtain ⟨v, hC, hv⟩ := part q hf
    refine (do_size S h0 h1 q _ v CS p.inn aS cS vL CL who hw hCL hf hC _ _ _ _ hC0 w s2 s1).mono ?_
    rintro e w' ⟨rfl, hb⟩
    exact tailDoLaw1
  | slot q i =>
    obtain ⟨v, hC, hv⟩ := part q hf
    rcases Nat.lt_or_ge i (Pm.partOf p q).2.length with hi | hi
    · have hc := List.getElem?_eq_getElem hi
      refine (do_slot_some S h0 h1 q _ v CS i _ _ p.inn aS cS vL CL who hw hCL hf hC hc _ _ _ _ hC0 w s2 s1 hv).mono ?_
      rintro e w' ⟨rfl, hb⟩
      have ev : (Pm.act p who (.slot q i)).2 = .who ((Pm.partOf p q).2[i]) := by simp only [Pm.act, Pm.slotAt, hc]
      rw [ev]
      exact tailDoLaw1
    · refine (do_slot_none S h0 h1 q _ v CS i _ p.inn aS cS vL CL who hw hCL hf hC hi _ _ _ _ hC0 w s2 s1 hv).mono ?_
      rintro e w' ⟨rfl, hb⟩
      have ev : (Pm.act p who (.slot q i)).2 = .num 0 := by simp only [Pm.act, Pm.slotAt, List.getElem?_eq_none hi]
      rw [ev]
      exact tailDoLaw1
  | wslot q i c =>
    obtain ⟨f1, rfl, f3⟩ := hf
    obtain ⟨v, hC, hv⟩ := part q f1
    refine (do_wslot S h0 h1 q _ c _ v CS p.inn aS cS vL CL who hw hCL f1 (by omega) f3 hC _ _ _ _ hC0 w s2 s1 hv).mono ?_
    rintro e w' ⟨v', v'', rfl, hs, hv', hfr, hfv, hb⟩
    have ep : (Pm.act p who (.wslot q (Pm.partOf p q).2.length c)).1 = { p with parts := p.parts.set q ((Pm.partOf p q).1, (Pm.partOf p q).2 ++ [c]) } := by
      simp only [Pm.act, Nat.lt_irrefl, if_false]
      rw [List.take_length, List.drop_eq_nil_of_le (Nat.le_succ _)]
    rw [ep]
    exact ⟨_, rfl, same (p' := { p with parts := p.parts.set q ((Pm.partOf p q).1, (Pm.partOf p q).2 ++ [c]) }) hs ((e1.mono fun _ _ h => h.below hb).set (x := ((Pm.partOf p q).1, (Pm.partOf p q).2 ++ [c])) ⟨v'', rfl, hv'⟩ q) (s2.below hb) (e2.mono fun _ _ h => h.below hb) hm hq (hr.part (fun q hq => .inr (hfr q hq)) q _ _ (fun q hq => .inr (hfv q hq))), hb⟩
  | wsize q n =>
    obtain ⟨v, hC, hv⟩ := part q hf
    refine (do_wsize S h0 h1 q n _ v CS p.inn aS cS vL CL who hw hCL hf (by obtain ⟨_, _, rfl, _⟩ := hv; rfl) (by omega) hC _ _ _ _ hC0 w s2 s1).mono ?_
    rintro e w' ⟨v', rfl, hs, hfr, hb⟩
    exact ⟨_, rfl, same (p' := (Pm.act p who (.wsize q n)).1) hs ((e1.mono fun _ _ h => h.below hb).set (x := (n, (Pm.partOf p q).2)) ⟨v, rfl, hv.below hb⟩ q) (s2.below hb) (e2.mono fun _ _ h => h.below hb) hm hq (hr.part (fun q hq => .inr (hfr q hq)) q _ _ (fun q' hq => hr.cs _ (List.mem_of_getElem? hC) q' (reach_two.2 hq))), hb⟩
  | swap n =>
    by_cases hn : p.inn = n
    · refine (do_swap_hit S h0 h1 n p.inn aS cS vL CL who hw hCL hn _ _ _ _ hC0 w s2).mono ?_
      rintro e w' ⟨rfl, hb⟩
      simp only [Pm.act, hn, if_true]
      exact ⟨_, rfl, same (p' := { p with inn := n + 1 }) (s1.below hb) (e1.mono fun _ _ h => h.below hb) (s2.below hb) (e2.mono fun _ _ h => h.below hb) hm hq hr, hb⟩
    · refine (do_swap_miss S h0 h1 n p.inn aS cS vL CL who hw hCL hn _ _ _ _ hC0 w s2).mono ?_
      rintro e w' ⟨rfl, hb⟩
      simp only [Pm.act, hn, if_false]
      exact tailDoLaw1
end
section
open Go.RowKit
section
variable {P : Program} {Q : Exit → Act → World → Prop} {C : World → Prop} {l : List Oper} {L : Array Bool} {f : Nat} {a : Act} {w : World}
def gRead (P : Program) (ops : Array Oper) (C : World → Prop) (K : Act → Prop) : List Oper → Act → Prop
  | [o], a => ∃ v, ReadsIn P ops C o v a ∧ K (a.put o.dst v)
  | _, _ => False
theorem gread_yes {ops : Array Oper} {K : Act → Prop} {o : Oper} {v : Value} (hw : Region.wanted o (yielded ops a.tmps) = true) (h : ∀ W, C W → (execOp a.eval o).run P W = .ok (.value v) W) (hK : K (a.put o.dst v)) : gRead P ops C K [o] a := ⟨v, .inl ⟨hw, h⟩, hK⟩
theorem gread_no {ops : Array Oper} {K : Act → Prop} {o : Oper} (hw : Region.wanted o (yielded ops a.tmps) = false) (hK : K (a.put o.dst undef)) : gRead P ops C K [o] a := ⟨undef, .inr ⟨hw, rfl⟩, hK⟩
theorem tree_gread (i : Nat) (hB : (Region.noSelect l.toArray && Region.free .any l.toArray L i && (Region.ready .any l.toArray L).contains i && (l[i]?).isSome) = true) (hQ : ∀ c (a : Act) d v w, Q (.panic c) (a.put d v) w → Q (.panic c) a w) (hC : C w)
    (h : gRead P l.toArray C (fun a' => wpAnyC P .any l.toArray C Q f (L.setIfInBounds i true) a' w) (nthL l i) a) : wpAnyC P .any l.toArray C Q (f + 1) L a w := by
  simp only [Bool.and_eq_true] at hB
  obtain ⟨⟨⟨hs, h1⟩, h2⟩, h3⟩ := hB
  obtain ⟨o, ho, e⟩ := nth_of h3
  rw [e] at h
  obtain ⟨v, hv, h⟩ := h
  have ho' : l.toArray[i]? = some o := by simpa using ho
  exact anyC_first ho' (Region.noSelect_spec hs) (fun c a w h => hQ c a _ _ w h) _ L a w hC (Region.free_spec ho' h1) (by simpa using h2) hv h
end
end
section
open Go.RowKit
attribute [local go_sem ↓] exec_load_47 exec_store_47 exec_load_62 exec_store_62 exec_load_51 exec_store_51 exec_load_105 exec_store_105 exec_load_29 exec_store_29
attribute [local go_sem] run_load47r run_store47i run_load62r run_store62i run_load51r run_store51i run_load105r run_store105i run_load29r run_store29i lt_up isRng_new rngOf_new isRange_past rangeOf_past isRange_drew rangeOf_drew fits_new fits_past fits_drew setAt_new setAt_past setAt_drew putAt_whole putAt_lit extract_whole extract_lit one_int one_bool one_slice one_ptr ones_lit onesL_nil onesL_cons isRow_new rowOf_new isRow_past rowOf_past isRow_drew rowOf_drew lt2 lt3 lt4 List.take_succ_cons List.take_zero List.drop_succ_cons List.drop_zero List.cons_append List.nil_append List.length_cons List.length_nil List.size_toArray setRow_new setRow_past own_cell own_frozen own_set own_isRange own_rangeOf own_fits setAt_row sr_sr sr_size sr_row sr_row' sr_isRow sr_isRow' sr_fits' sr_cell' sr_frozen' sr_isRange' sr_rangeOf' sr_isCells isCells_new isCells_past isCells_drew valC_size valC_ones opC_size opC_ones replyC_size srs_isRange srs_rangeOf srs_fits srs_cell srs_frozen
/-- mem.May. -/
theorem may_law (S : Nat) (h0 : 1 ≤ S) (h1 : S ≤ 8) (p : Pm.Wd) (who : Int) (hS : p.parts.length = S) (hL : p.locks.length = S + 2) (o : Pm.Op) (hf : Pm.opFits S p o) (M : Array Value) (w : World) (h : MemAt w M p) :
    Calls Tryz.prog 82 #[.agg M, .agg (opC o), .int .i64 who] w fun e w' => e = .returned (.bool (Pm.may p o)) ∧ Below w.heap.size w w' := by
  obtain ⟨vS, vL, CS, CL, lk, rfl, s1, e1, s2, e2, hm, hq⟩ := h
  have hCS : CS.length = S := e1.1.trans hS
  have hvS : ∃ aS cS, vS = .slice aS S cS := by obtain ⟨a, c, rfl, -⟩ := s1; exact ⟨a, c, by rw [hCS]⟩
  obtain ⟨aS, cS, rfl⟩ := hvS
  obtain ⟨l0, a0, c0, hk0, hC0, hv0, hq0⟩ := lock_at (k := 0) s2 e2 hm hq (by omega)
  cases o with
  | lock k =>
    obtain ⟨f1, f2⟩ := hf
    obtain ⟨l, a, c, hk, hC, hv, hlo⟩ := lock_at (k := k) s2 e2 hm hq (by omega)
    obtain rfl := hlo.2.2 f1
    by_cases hb : p.locks.getD k 0 = 0
    · simp only [Pm.may, hb]
      exact may_lock_y k S h0 h1 f2 p.inn aS cS _ _ c a vL CL hC hb rfl who w s2
    · rw [show Pm.may p (.lock k) = false by simp only [Pm.may]; exact beq_eq_false_iff_ne.2 hb]
      exact may_lock_n k S h0 h1 f2 p.inn aS cS _ _ c a vL CL hC (fun h => hb h.1) who w s2
  | share =>
    by_cases hb : p.locks.getD 0 0 = 0
    · simp only [Pm.may, hb]
      exact may_share_y S h0 h1 p.inn aS cS _ _ c0 a0 vL CL hC0 hb who w s2
    · rw [show Pm.may p .share = false by simp only [Pm.may]; exact beq_eq_false_iff_ne.2 hb]
      exact may_share_n S h0 h1 p.inn aS cS _ _ c0 a0 vL CL hC0 hb who w s2
  | free k m =>
    obtain ⟨f1, f2⟩ := hf
    obtain ⟨l, a, c, hk, hC, hv, hlo⟩ := lock_at (k := k) s2 e2 hm hq (by omega)
    exact may_free_y k m S h0 h1 f2 p.inn aS cS _ _ c a vL CL hC who w s2
  | drop => exact may_drop_y S h0 h1 p.inn aS cS _ _ c0 a0 vL CL hC0 who w s2
  | bans => exact may_bans_y S h0 h1 p.inn aS cS _ _ c0 a0 vL CL hC0 who w s2
  | inn => exact may_inn_y S h0 h1 p.inn aS cS _ _ c0 a0 vL CL hC0 who w s2
  | size q => exact may_size_y q S h0 h1 hf p.inn aS cS _ _ c0 a0 vL CL hC0 who w s2
  | slot q i => exact may_slot_y q i S h0 h1 hf p.inn aS cS _ _ c0 a0 vL CL hC0 who w s2
  | wslot q i c => exact may_wslot_y q i c S h0 h1 hf.1 p.inn aS cS _ _ c0 a0 vL CL hC0 who w s2
  | wsize q n => exact may_wsize_y q n S h0 h1 hf p.inn aS cS _ _ c0 a0 vL CL hC0 who w s2
  | swap n => exact may_swap_y n S h0 h1 p.inn aS cS _ _ c0 a0 vL CL hC0 who w s2
/-- world.around. -/
theorem around_law (x : Int) (hx : -9223372036854775808 ≤ x ∧ x ≤ 9223372036854775807) (m : Nat) (h0 : 1 ≤ m) (h1 : m ≤ 100) (w : World) : Calls Tryz.prog 24 #[.int .i64 x, .int .i64 m] w fun e w' => ∃ r : Nat, r < m ∧ e = .returned (.int .i64 r) ∧ w = w' := by
  have hm0 : ¬ ((m : Int) = 0) := by omega
  have hm1 : ¬ ((m : Int) = -1) := by omega
  have hm2 : (m : Int) ≠ -1 := by omega
  have q1 := Int.tmod_lt_of_pos x (show (0 : Int) < m by omega)
  have q2 : -(m : Int) < Int.tmod x m := Int.lt_tmod_of_pos x (by omega)
  have e1 : IntKind.i64.wrap (Int.tmod x m + m) = Int.tmod x m + m := by rw [IntKind.wrap_i64]; omega
  have q3 := Int.tmod_lt_of_pos (Int.tmod x m + m) (show (0 : Int) < m by omega)
  have q4 : 0 ≤ Int.tmod (Int.tmod x m + m) m := Int.tmod_nonneg _ (by omega)
  have e2 : IntKind.i64.wrap (Int.tmod x m) = Int.tmod x m := by rw [IntKind.wrap_i64]; omega
  have e3 : IntKind.i64.wrap (Int.tmod (Int.tmod x m + m) m) = Int.tmod (Int.tmod x m + m) m := by rw [IntKind.wrap_i64]; omega
  go_enter Tryz.func24, Tryz.ntmps24
  go_wp2
  go_ret
  have q5 := Int.emod_lt_of_pos (Int.tmod x m + m) (show (0 : Int) < m by omega)
  have q6 := Int.emod_nonneg (Int.tmod x m + m) (show (m : Int) ≠ 0 by omega)
  exact ⟨((Int.tmod x m + m) % (m : Int)).toNat, by omega, by rw [Int.toNat_of_nonneg q6]; rfl, rfl⟩
theorem over1_law (t : Pm.Task) (hle : t.nth ≤ t.calls.length) (C : Array Value) (w : World) (ht : TaskAt w C t) : Calls Tryz.prog 26 #[.agg C] w fun e w' => e = .returned (.bool (!Pm.over t)) ∧ Below w.heap.size w w' := by
  have HO := Lib.hid (fun (W : World) (b : Below w.heap.size w W) => over_law t hle C W (ht.below b))
  obtain ⟨vc, vg, vr, rfl, h1, h2, h3⟩ := ht
  have o1 : vc.oneCell' = true := by obtain ⟨_, _, rfl, _⟩ := h1; rfl
  have o2 : vg.oneCell' = true := by obtain ⟨_, _, rfl, _⟩ := h2; rfl
  have o3 : vr.oneCell' = true := by obtain ⟨_, _, rfl, _⟩ := h3; rfl
  clear h1 h2 h3
  go_enter Tryz.func26, Tryz.ntmps26
  go_wp2_with (go_at_call 27; refine (HO.out _ (bk5)).mono ?_; rintro e w1 ⟨rfl, hb⟩; have hk := Keep.mk hb; clear hb)
  go_ret
  exact ⟨rfl, bk0⟩
/-- slices.IndexFunc over tasks that are all over. -/
theorem index_over (ts : List Pm.Task) (ho : ∀ (i : Nat) (t : Pm.Task), ts[i]? = some t → Pm.over t = true ∧ t.nth ≤ t.calls.length) (CT : List (Array Value)) (v : Value) (w : World) (h : Sl w v 5 CT) (he : Els TaskAt w CT ts) (hl : ts.length ≤ 1000) :
    Calls Tryz.prog 56 #[v, .func (.func 26) #[] #[]] w fun e w' => e = .returned (.int .i64 (-1)) ∧ Below w.heap.size w w' := by
  have H := Lib.hid h
  have HE := Lib.hid he
  have hcs : CT.length = ts.length := he.1
  obtain ⟨a, cap, rfl, -⟩ := id h
  rw [hcs] at H ⊢
  clear h he
  go_enter Tryz.func56, Tryz.ntmps56
  go_wp2
  go_loopg [8] ts.length (fun g s8 wr => ∃ k : Nat, s8 = .int .i64 k ∧ k + g = ts.length ∧ Keep w wr)
  case atStart => exact ⟨0, rfl, by omega, ⟨Below.refl _ _⟩⟩
  case round =>
    obtain ⟨k, rfl, hg, HB⟩ := hrel
    have hws := HB.out.size
    cases gk with
    | zero =>
      have hk : ¬ ((k : Int) < (ts.length : Int)) := by omega
      go_wp2
      refine bodyPost_ret (results_tmp rfl _ _ _) rfl ?_
      exact ⟨rfl, HB.out⟩
    | succ m =>
      have hk : k < ts.length := by omega
      have hkz : (k : Int) < (ts.length : Int) := by omega
      have hn0 : ¬ ((k : Int) < 0) := by omega
      have h0k : 0 ≤ (k : Int) := by omega
      obtain ⟨C, hC, hT⟩ := HE.out.at (List.getElem?_eq_getElem hk)
      obtain ⟨g, o, cL, e1, hgw, e2, e3, e4, e5⟩ := sl_at H.out hC
      simp only [Value.slice.injEq] at e1
      obtain ⟨rfl, -, -⟩ := e1
      have hgr : g < wr.heap.size := by omega
      have e2' : isRange wr ⟨g, o + k * 5, none⟩ 5 = true := by rw [(alike (HB.out)).2.2.1 _ _ _ hgw]; exact e2
      have e3' : rangeOf wr ⟨g, o + k * 5, none⟩ 5 = C := by rw [(alike (HB.out)).2.2.2.1 _ _ _ hgw]; exact e3
      clear e2 e3
      obtain ⟨q1, q2⟩ := ho k ts[k] (List.getElem?_eq_getElem hk)
      have HF := Lib.hid (over1_law ts[k] q2 C wr (hT.below HB.out))
      rw [q1] at HF
      clear hT hC q1 q2
      go_wp2_with (go_at_call 26; refine HF.out.mono ?_; rintro e w1 ⟨rfl, hb⟩; have hk1 := Keep.mk hb; clear hb)
      go_roundg m
      case measure => omega
      case rel => exact ⟨k + 1, by simp, by omega, ⟨HB.out.trans (hk1.out.mono hws)⟩⟩
/-- slices.ContainsFunc likewise. -/
theorem contains_over (ts : List Pm.Task) (ho : ∀ (i : Nat) (t : Pm.Task), ts[i]? = some t → Pm.over t = true ∧ t.nth ≤ t.calls.length) (CT : List (Array Value)) (v : Value) (w : World) (h : Sl w v 5 CT) (he : Els TaskAt w CT ts) (hl : ts.length ≤ 1000) :
    Calls Tryz.prog 25 #[v, .func (.func 26) #[] #[]] w fun e w' => e = .returned (.bool false) ∧ Below w.heap.size w w' := by
  have HI := Lib.hid (index_over ts ho CT v w h he hl)
  clear h he ho
  go_enter Tryz.func25, Tryz.ntmps25
  go_wp2_with (go_at_call 56; refine HI.out.mono ?_; rintro e w1 ⟨rfl, hb⟩; have hk1 := Keep.mk hb; clear hb)
  go_ret
  exact ⟨by first | rfl | (simp; done), hk1.out⟩
/-- world.Over, when all are over. -/
theorem world_over (most S : Nat) (aS aL aT aG : Option Addr) (nS cS nL cL nT cT nG cG : Nat) (inn : Int) (ts : List Pm.Task) (ho : ∀ (i : Nat) (t : Pm.Task), ts[i]? = some t → Pm.over t = true ∧ t.nth ≤ t.calls.length) (CT : List (Array Value)) (w : World) (h : Sl w (.slice aT nT cT) 5 CT) (he : Els TaskAt w CT ts) (hl : ts.length ≤ 1000) :
    Calls Tryz.prog 10 #[.agg (#[.int .i64 most, .int .i64 4, .int .i64 S, .int .i64 64, .int .i64 64, .int .u64 1, .int .i64 1, .int .i64 1, .int .i64 1, .int .i64 64, .int .i64 100, .int .i64 100, .int .i64 1000, .int .i64 2, .int .i64 64, .int .i64 4, .int .i64 inn, .int .i64 0, .slice none 0 0, .slice none 0 0, .slice aS nS cS, .slice aL nL cL, .slice aT nT cT, .slice aG nG cG])] w fun e w' => e = .returned (.bool true) ∧ Below w.heap.size w w' := by
  have HI := Lib.hid (fun (W : World) (b : Below w.heap.size w W) => contains_over ts ho CT _ W (h.below b) (he.mono fun _ _ x => x.below b) hl)
  clear h he ho
  go_enter Tryz.func10, Tryz.ntmps10
  go_wp2_with (go_at_call 25; refine (HI.out _ (bk5)).mono ?_; rintro e w1 ⟨rfl, hb⟩; have hk1 := Keep.mk hb; clear hb)
  go_ret
  exact ⟨rfl, bk0⟩
end
end Go.Proofs.YtnncjbkepakgpaaGreat
