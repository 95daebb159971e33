/-
  A REGION THAT DRAWS ITS ORDER, WALKED IN ONE ORDER THAT IS LAID AHEAD: first some operations that yield a value in whatever world; then the others, one by one, each the only one that may come up.
  HOW THE PLAIN THINGS LIE IN MEMORY: cells of calls, values, operations, replies; slices of structs.
-/
import Derived.Test.YtnncjbkepakgpaaGreatA04
import Derived.Test.YtnncjbkepakgpaaGreatA01
import Derived.Laws.AppendOwn
import Derived.OwnWalk
namespace Go.Proofs.YtnncjbkepakgpaaGreat
set_option linter.unusedVariables false
set_option linter.unusedSimpArgs false
section
open Go.RowKit
section
variable {P : Program} {Q : Exit → Act → World → Prop}
/-- The operation at a place, as a list. -/
def nthL : List Oper → Nat → List Oper
  | [], _ => []
  | o :: _, 0 => [o]
  | _ :: l, n + 1 => nthL l n
def pickL (L : List Oper) : List Nat → List Oper
  | [] => []
  | i :: is => nthL L i ++ pickL L is
theorem nth_some : ∀ {L : List Oper} {i : Nat} {o : Oper}, L[i]? = some o → nthL L i = [o]
  | [], _, _, h => by simp at h
  | _ :: _, 0, _, h => by simp at h; simp [nthL, h]
  | _ :: L, i + 1, _, h => by simpa [nthL] using nth_some (L := L) (i := i) (by simpa using h)
/-- Operations that yield in whatever world, in this order. -/
def wpFirst (P : Program) (K : Act → Prop) : List Oper → Act → Prop
  | [], a => K a
  | o :: r, a => ∃ v, (∀ w, (execOp a.eval o).run P w = .ok (.value v) w) ∧ wpFirst P K r (a.put o.dst v)
theorem first_nil {K : Act → Prop} {a : Act} (h : K a) : wpFirst P K [] a := h
theorem first_op {K : Act → Prop} {a : Act} {o : Oper} {r : List Oper} {v : Value} (h : ∀ w, (execOp a.eval o).run P w = .ok (.value v) w) (h' : wpFirst P K r (a.put o.dst v)) : wpFirst P K (o :: r) a := ⟨v, h, h'⟩
def runsB (ops : Array Oper) : List Nat → Array Bool → Bool
  | [], L => (Region.ready .any ops L).isEmpty
  | j :: rs, L => (Region.ready .any ops L == [j]) && (ops[j]?).isSome && runsB ops rs (L.setIfInBounds j true)
def schedB (ops : Array Oper) : List Nat → List Nat → Array Bool → Bool
  | [], rs, L => runsB ops rs L
  | i :: fs, rs, L => Region.free .any ops L i && (Region.ready .any ops L).contains i && (match ops[i]? with | some o => o.guard.isNone | none => false) && schedB ops fs rs (L.setIfInBounds i true)
theorem sched_runs {l : List Oper} : ∀ (rs : List Nat) (L : Array Bool) (a : Act) (w : World), schedB l.toArray [] rs L = true → wpList P l.toArray Q (pickL l rs) a w → wpAny P .any l.toArray Q rs.length L a w
  | [], L, a, w, hB, h => by
    simp only [schedB, runsB, List.isEmpty_iff] at hB
    exact ⟨hB, h⟩
  | j :: rs, L, a, w, hB, h => by
    simp only [schedB, runsB, Bool.and_eq_true, beq_iff_eq] at hB
    obtain ⟨⟨h1, h2⟩, h3⟩ := hB
    obtain ⟨o, ho⟩ := Option.isSome_iff_exists.1 h2
    refine ⟨fun h0 => by rw [h0] at h1; exact absurd h1 (by simp), fun i hi => ?_⟩
    rw [h1] at hi
    simp only [List.mem_singleton] at hi
    subst hi
    have hp : pickL l (i :: rs) = o :: pickL l rs := by
      show nthL l i ++ _ = _
      rw [nth_some (by simpa using ho)]; rfl
    rw [hp] at h
    refine wpOp_mono (fun a' w' h' => sched_runs rs _ a' w' h3 h') ?_
    unfold wpOp
    rw [ho]
    exact h
theorem sched_first {l : List Oper} (hs : Region.noSelect l.toArray = true) (hQ : ∀ c (a : Act) d v w, Q (.panic c) (a.put d v) w → Q (.panic c) a w) (w : World) (rs : List Nat) : ∀ (fs : List Nat) (L : Array Bool) (a : Act), schedB l.toArray fs rs L = true →
    wpFirst P (fun a' => wpList P l.toArray Q (pickL l rs) a' w) (pickL l fs) a → wpAny P .any l.toArray Q (fs.length + rs.length) L a w
  | [], L, a, hB, h => by simpa using sched_runs rs L a w hB h
  | i :: fs, L, a, hB, h => by
    simp only [schedB, Bool.and_eq_true] at hB
    obtain ⟨⟨⟨h1, h2⟩, h3⟩, h4⟩ := hB
    split at h3
    · rename_i o ho
      have hp : pickL l (i :: fs) = o :: pickL l fs := by
        show nthL l i ++ _ = _
        rw [nth_some (by simpa using ho)]; rfl
      rw [hp] at h
      obtain ⟨v, hv, h5⟩ := h
      have e : (i :: fs).length + rs.length = (fs.length + rs.length) + 1 := by simp; omega
      rw [e]
      refine wpAny_take ho hs h1 h2 (fun c a w h => hQ c a _ _ w h) (v := v) (.inl ⟨?_, hv⟩) (sched_first hs hQ w rs fs _ _ h4 h5)
      unfold Region.wanted
      rw [Option.isNone_iff_eq_none.1 h3]
    · cases h3
theorem region_sched {id : Nat} {a : Act} {w : World} {l : List Oper} (fs rs : List Nat) (hm : P.follows .mixedOrders = true) (hs : Region.noSelect l.toArray = true) (hn : fs.length + rs.length = l.length)
    (hB : schedB l.toArray fs rs (Array.replicate l.length false) = true) (hQ : ∀ c (a : Act) d v w, Q (.panic c) (a.put d v) w → Q (.panic c) a w)
    (h : wpFirst P (fun a' => wpList P l.toArray Q (pickL l rs) a' w.drew) (pickL l fs) a) : (Code.region id l.toArray true).wp P Q a w := by
  refine wp_region_any hm ?_
  have := sched_first (Q := Q) hs hQ w.drew rs fs _ a hB h
  rw [hn] at this
  simpa using this
end
end
section
open Go.RowKit
def loOf (c : Nat) : Int := 167772161 + 65536 * (Pm.kOf c : Int)
def nilS : Value := .slice none 0 0
def peerC (c : Nat) : Array Value := #[.bool false, .int .u64 0, .int .u64 (loOf c), .int .i64 80, .bool true, .int .i64 (Pm.tOf c), .int .i64 0, .int .i64 (Pm.tOf c), .int .i64 0, .int .i64 0]
def valC : Pm.Val → Array Value
  | .num n => #[.int .i64 n, .bool false, .int .u64 0, .int .u64 0, .int .i64 0, .bool false, .int .i64 0, .int .i64 0, .int .i64 0, .int .i64 0, .int .i64 0, .slice none 0 0, .slice none 0 0]
  | .who c => #[.int .i64 0, .bool false, .int .u64 0, .int .u64 (loOf c), .int .i64 80, .bool true, .int .i64 (Pm.tOf c), .int .i64 0, .int .i64 (Pm.tOf c), .int .i64 0, .int .i64 0, .slice none 0 0, .slice none 0 0]
/-- An operation. -/
def opC : Pm.Op → Array Value
  | .lock k => #[.int .i64 1, .int .i64 k, .int .i64 0, .int .i64 0, .int .i64 0, .int .i64 0, .int .i64 0, .int .i64 0, .bool false, .int .u64 0, .int .u64 0, .int .i64 0, .bool false, .int .i64 0, .int .i64 0, .int .i64 0, .int .i64 0, .int .i64 0, .slice none 0 0, .slice none 0 0, .bool false]
  | .share => #[.int .i64 2, .int .i64 0, .int .i64 0, .int .i64 0, .int .i64 0, .int .i64 0, .int .i64 0, .int .i64 0, .bool false, .int .u64 0, .int .u64 0, .int .i64 0, .bool false, .int .i64 0, .int .i64 0, .int .i64 0, .int .i64 0, .int .i64 0, .slice none 0 0, .slice none 0 0, .bool false]
  | .free k m => #[.int .i64 3, .int .i64 k, .int .i64 0, .int .i64 0, .int .i64 0, .int .i64 0, .int .i64 0, .int .i64 0, .bool false, .int .u64 0, .int .u64 0, .int .i64 0, .bool false, .int .i64 0, .int .i64 0, .int .i64 0, .int .i64 0, .int .i64 0, .slice none 0 0, .slice none 0 0, .bool m]
  | .drop => #[.int .i64 4, .int .i64 0, .int .i64 0, .int .i64 0, .int .i64 0, .int .i64 0, .int .i64 0, .int .i64 0, .bool false, .int .u64 0, .int .u64 0, .int .i64 0, .bool false, .int .i64 0, .int .i64 0, .int .i64 0, .int .i64 0, .int .i64 0, .slice none 0 0, .slice none 0 0, .bool false]
  | .bans => #[.int .i64 5, .int .i64 0, .int .i64 3, .int .i64 0, .int .i64 0, .int .i64 0, .int .i64 0, .int .i64 0, .bool false, .int .u64 0, .int .u64 0, .int .i64 0, .bool false, .int .i64 0, .int .i64 0, .int .i64 0, .int .i64 0, .int .i64 0, .slice none 0 0, .slice none 0 0, .bool false]
  | .inn => #[.int .i64 5, .int .i64 0, .int .i64 1, .int .i64 0, .int .i64 0, .int .i64 0, .int .i64 0, .int .i64 0, .bool false, .int .u64 0, .int .u64 0, .int .i64 0, .bool false, .int .i64 0, .int .i64 0, .int .i64 0, .int .i64 0, .int .i64 0, .slice none 0 0, .slice none 0 0, .bool false]
  | .size p => #[.int .i64 5, .int .i64 0, .int .i64 5, .int .i64 p, .int .i64 0, .int .i64 0, .int .i64 0, .int .i64 0, .bool false, .int .u64 0, .int .u64 0, .int .i64 0, .bool false, .int .i64 0, .int .i64 0, .int .i64 0, .int .i64 0, .int .i64 0, .slice none 0 0, .slice none 0 0, .bool false]
  | .slot p i => #[.int .i64 5, .int .i64 0, .int .i64 6, .int .i64 p, .int .i64 i, .int .i64 0, .int .i64 0, .int .i64 0, .bool false, .int .u64 0, .int .u64 0, .int .i64 0, .bool false, .int .i64 0, .int .i64 0, .int .i64 0, .int .i64 0, .int .i64 0, .slice none 0 0, .slice none 0 0, .bool false]
  | .wslot p i c => #[.int .i64 6, .int .i64 0, .int .i64 6, .int .i64 p, .int .i64 i, .int .i64 0, .int .i64 0, .int .i64 0, .bool false, .int .u64 0, .int .u64 (loOf c), .int .i64 80, .bool true, .int .i64 (Pm.tOf c), .int .i64 0, .int .i64 (Pm.tOf c), .int .i64 0, .int .i64 0, .slice none 0 0, .slice none 0 0, .bool false]
  | .wsize p n => #[.int .i64 6, .int .i64 0, .int .i64 5, .int .i64 p, .int .i64 0, .int .i64 0, .int .i64 0, .int .i64 n, .bool false, .int .u64 0, .int .u64 0, .int .i64 0, .bool false, .int .i64 0, .int .i64 0, .int .i64 0, .int .i64 0, .int .i64 0, .slice none 0 0, .slice none 0 0, .bool false]
  | .swap n => #[.int .i64 7, .int .i64 0, .int .i64 1, .int .i64 0, .int .i64 0, .int .i64 n, .int .i64 (n + 1), .int .i64 0, .bool false, .int .u64 0, .int .u64 0, .int .i64 0, .bool false, .int .i64 0, .int .i64 0, .int .i64 0, .int .i64 0, .int .i64 0, .slice none 0 0, .slice none 0 0, .bool true]
def callC (c : Nat) : Array Value := #[.int .i64 1, .bool false, .int .u64 0, .int .u64 (loOf c), .int .i64 80, .bool false, .int .u64 0, .int .u64 0, .int .i64 0, .int .i64 (Pm.tOf c), .int .i64 0, .bool false]
def confC (most S : Nat) : Array Value := #[.int .i64 most, .int .i64 4, .int .i64 S, .int .i64 64, .int .i64 64, .int .u64 1, .int .i64 1, .int .i64 1, .int .i64 1, .int .i64 64, .int .i64 100, .int .i64 100, .int .i64 1000, .int .i64 2, .int .i64 64, .int .i64 4]
def doorC (most S c : Nat) : Array Value := confC most S ++ callC c
def replyC (b : Bool) : Array Value := #[.int .i64 (if b then 0 else 5), .bool false, .int .u64 0, .int .u64 0, .int .i64 0, .int .i64 0, .int .i64 0, .slice none 0 0]
def zeroReply : Array Value := #[.int .i64 0, .bool false, .int .u64 0, .int .u64 0, .int .i64 0, .int .i64 0, .int .i64 0, .slice none 0 0]
theorem valC_size (v : Pm.Val) : (valC v).size = 13 := by cases v <;> rfl
theorem valC_ones (v : Pm.Val) : ones (valC v) = true := by cases v <;> rfl
theorem opC_size (o : Pm.Op) : (opC o).size = 21 := by cases o <;> rfl
theorem opC_ones (o : Pm.Op) : ones (opC o) = true := by cases o <;> rfl
theorem peerC_size (c : Nat) : (peerC c).size = 10 := rfl
theorem callC_size (c : Nat) : (callC c).size = 12 := rfl
theorem confC_size (a b : Nat) : (confC a b).size = 16 := rfl
theorem doorC_size (a b c : Nat) : (doorC a b c).size = 28 := rfl
theorem replyC_size (b : Bool) : (replyC b).size = 8 := rfl
theorem addr_add (g o k : Nat) : (⟨g, o, none⟩ : Addr).add k = ⟨g, o + k, none⟩ := by unfold Addr.add; split <;> simp_all
/-! Elements of n cells each, from a place on. -/
structure ElemAt (W : World) (g o n : Nat) (C : Array Value) : Prop where
  lt : g < W.heap.size
  is : isRange W ⟨g, o, none⟩ n = true
  of : rangeOf W ⟨g, o, none⟩ n = C
  one : ones C = true
theorem ElemAt.size {W : World} {g o n : Nat} {C : Array Value} (h : ElemAt W g o n C) : C.size = n := by rw [← h.of]; exact range_size _ _ _
theorem ElemAt.block {W W' : World} {g o n : Nat} {C : Array Value} (h : ElemAt W g o n C) (hw : W'.heap[g]? = W.heap[g]?) : ElemAt W' g o n C := by
  have e := range_same (W := W) (W' := W') (p := ⟨g, o, none⟩) (n := n) hw
  refine ⟨?_, e.1.trans h.is, e.2.trans h.of, h.one⟩
  rcases Nat.lt_or_ge g W'.heap.size with h' | h'
  · exact h'
  · rw [Array.getElem?_eq_none h', Array.getElem?_eq_getElem h.lt] at hw; cases hw
theorem ElemAt.cell {W : World} {g o n : Nat} {C : Array Value} (h : ElemAt W g o n C) {k : Nat} {v : Value} (hv : C[k]? = some v) : W.cell? ⟨g, o + k, none⟩ = some v := by
  have hk : k < n := by rw [← h.size]; exact (Array.getElem?_eq_some_iff.1 hv).1
  have := range_at h.is hk
  rw [h.of, hv] at this
  simpa [addr_add] using this
/-- The cells of a list of elements. -/
def flat (L : List (Array Value)) : List Value := L.flatMap Array.toList
theorem flat_append (L M : List (Array Value)) : flat (L ++ M) = flat L ++ flat M := by simp [flat]
theorem flat_length {n : Nat} : ∀ {L : List (Array Value)}, (∀ C ∈ L, C.size = n) → (flat L).length = L.length * n
  | [], _ => by simp [flat]
  | C :: L, h => by
    have h1 := h C (by simp)
    have h2 := flat_length (L := L) fun D hD => h D (by simp [hD])
    simp only [flat, List.flatMap_cons, List.length_append, Array.length_toList, List.length_cons] at h2 ⊢
    rw [h1, h2, Nat.add_mul]; omega
theorem flat_at {n : Nat} : ∀ {L : List (Array Value)} {i k : Nat} {C : Array Value} {v : Value}, (∀ C ∈ L, C.size = n) → L[i]? = some C → C[k]? = some v → (flat L)[i * n + k]? = some v
  | [], _, _, _, _, _, h, _ => by simp at h
  | D :: L, 0, k, C, v, hs, h, hv => by
    simp only [List.getElem?_cons_zero, Option.some.injEq] at h
    subst h
    have hk := (Array.getElem?_eq_some_iff.1 hv).1
    simp only [flat, List.flatMap_cons, Nat.zero_mul, Nat.zero_add]
    rw [List.getElem?_append_left (by simpa using hk)]
    simpa using hv
  | D :: L, i + 1, k, C, v, hs, h, hv => by
    have h1 := hs D (by simp)
    have := flat_at (L := L) (i := i) (fun C hC => hs C (by simp [hC])) (by simpa using h) hv
    simp only [flat, List.flatMap_cons] at this ⊢
    rw [List.getElem?_append_right (by simp [h1, Nat.add_mul]; omega)]
    simp only [Array.length_toList, h1]
    rw [show (i + 1) * n + k - n = i * n + k by rw [Nat.add_mul]; omega]
    exact this
theorem flat_split {n : Nat} (hn : 0 < n) {L : List (Array Value)} (hs : ∀ C ∈ L, C.size = n) {j : Nat} {u : Value} (h : (flat L)[j]? = some u) : ∃ C, L[j / n]? = some C ∧ C[j % n]? = some u := by
  have hj := (List.getElem?_eq_some_iff.1 h).1
  rw [flat_length hs] at hj
  have hi : j / n < L.length := (Nat.div_lt_iff_lt_mul hn).2 hj
  have hm := Nat.mod_lt j hn
  have hC := hs _ (List.getElem_mem hi)
  obtain ⟨v, hv⟩ : ∃ v, (L[j / n])[j % n]? = some v := ⟨_, Array.getElem?_eq_getElem (by rw [hC]; exact hm)⟩
  refine ⟨_, List.getElem?_eq_getElem hi, ?_⟩
  have := flat_at hs (List.getElem?_eq_getElem hi) hv
  rw [Nat.mul_comm, Nat.div_add_mod, h] at this
  rw [hv, this]
/-- A slice in memory: elements of n cells each. -/
def Sl (W : World) (v : Value) (n : Nat) (L : List (Array Value)) : Prop :=
  ∃ a cap, v = .slice a L.length cap ∧ L.length ≤ cap ∧ cap ≤ maxLen ∧ ((a = none ∧ L = []) ∨ ∃ g o, a = some ⟨g, o, none⟩ ∧ g < W.heap.size ∧ ∀ i C, L[i]? = some C → ElemAt W g (o + i * n) n C)
theorem Sl.nil (W : World) (n : Nat) : Sl W (.slice none 0 0) n [] := ⟨none, 0, rfl, Nat.le_refl _, Nat.zero_le _, .inl ⟨rfl, rfl⟩⟩
theorem Sl.same {W W' : World} {v : Value} {n : Nat} {L : List (Array Value)} (h : Sl W v n L) (hs : W.heap.size ≤ W'.heap.size) (hw : ∀ g, v.ownBlock = some g → g < W.heap.size → W'.heap[g]? = W.heap[g]?) : Sl W' v n L := by
  obtain ⟨a, cap, rfl, h1, h2, h3⟩ := h
  refine ⟨a, cap, rfl, h1, h2, ?_⟩
  rcases h3 with h3 | ⟨g, o, rfl, hg, h3⟩
  · exact .inl h3
  · exact .inr ⟨g, o, rfl, Nat.lt_of_lt_of_le hg hs, fun i C hC => (h3 i C hC).block (hw g rfl hg)⟩
theorem Sl.below {W W' : World} {v : Value} {n : Nat} {L : List (Array Value)} (h : Sl W v n L) (hb : Below W.heap.size W W') : Sl W' v n L :=
  h.same hb.size fun g _ hg => hb.block g hg
theorem Sl.upto {W W' : World} {v : Value} {n T : Nat} {L : List (Array Value)} (h : Sl W v n L) (hb : Upto T W W') (hT : v.ownBlock ≠ some T) : Sl W' v n L :=
  h.same hb.size fun g hv hg => hb.block g hg (fun e => hT (by rw [← e]; exact hv))
theorem Sl.lt {W : World} {v : Value} {n : Nat} {L : List (Array Value)} (h : Sl W v n L) {g : Nat} (hg : v.ownBlock = some g) : g < W.heap.size := by
  obtain ⟨a, cap, rfl, h1, h2, h3⟩ := h
  rcases h3 with ⟨rfl, _⟩ | ⟨q, o, rfl, hq, h3⟩
  · simp [Value.ownBlock] at hg
  · simp only [Value.ownBlock, Option.some.injEq] at hg; subst hg; exact hq
theorem Sl.sizes {W : World} {v : Value} {n : Nat} {L : List (Array Value)} (h : Sl W v n L) : ∀ C ∈ L, C.size = n := by
  obtain ⟨a, cap, rfl, h1, h2, h3⟩ := h
  rcases h3 with ⟨_, rfl⟩ | ⟨q, o, rfl, hq, h3⟩
  · intro C hC; simp at hC
  · intro C hC
    obtain ⟨i, hi⟩ := List.mem_iff_getElem?.1 hC
    exact (h3 i C hi).size
theorem Sl.ones {W : World} {v : Value} {n : Nat} {L : List (Array Value)} (h : Sl W v n L) : ∀ C ∈ L, ones C = true := by
  obtain ⟨a, cap, rfl, h1, h2, h3⟩ := h
  rcases h3 with ⟨_, rfl⟩ | ⟨q, o, rfl, hq, h3⟩
  · intro C hC; simp at hC
  · intro C hC
    obtain ⟨i, hi⟩ := List.mem_iff_getElem?.1 hC
    exact (h3 i C hi).one
/-- The slice's cells, one by one. -/
theorem Sl.flat {W : World} {a : Addr} {m c n : Nat} {L : List (Array Value)} (hn : 0 < n) (h : Sl W (.slice (some a) m c) n L) : (flat L).length = m * n ∧ (∀ j u, (flat L)[j]? = some u → W.cell? (a.add j) = some u) ∧ ∀ u ∈ Go.Proofs.YtnncjbkepakgpaaGreat.flat L, u.oneCell' = true := by
  have hs := h.sizes
  have h1 := h.ones
  obtain ⟨a', cap, e, _, _, h3⟩ := h
  simp only [Value.slice.injEq] at e
  obtain ⟨rfl, rfl, rfl⟩ := e
  rcases h3 with ⟨h3, _⟩ | ⟨g, o, h3, hg, h4⟩
  · cases h3
  · simp only [Option.some.injEq] at h3
    subst h3
    refine ⟨flat_length hs, fun j u hu => ?_, fun u hu => ?_⟩
    · obtain ⟨C, hC, hv⟩ := flat_split hn hs hu
      have := (h4 _ _ hC).cell hv
      have e : o + j / n * n + j % n = o + j := by rw [Nat.add_assoc, Nat.mul_comm, Nat.div_add_mod]
      rw [e] at this
      simpa [addr_add] using this
    · simp only [Go.Proofs.YtnncjbkepakgpaaGreat.flat, List.mem_flatMap, Array.mem_toList_iff] at hu
      obtain ⟨C, hC, hu⟩ := hu
      have := ones_all (h1 C hC)
      rw [Array.all_eq_true_iff_forall_mem] at this
      exact this u hu
/-- A slice that the call has made: from block B on. -/
def Own (W : World) (B : Nat) (e : TypeId) (n : Nat) (v : Value) (L : List (Array Value)) : Prop := W.ownsRow B e n v L.length (flat L) ∧ (∀ C ∈ L, C.size = n ∧ ones C = true)
theorem Own.nil (W : World) (B : Nat) (e : TypeId) (n : Nat) : Own W B e n (.slice none 0 0) [] := ⟨World.ownsRow_nil _ _ _ _, by simp⟩
theorem Own.base {W : World} {B : Nat} {e : TypeId} {n : Nat} {v : Value} {L : List (Array Value)} (h : Own W B e n v L) {g : Nat} (hg : v.ownBlock = some g) : B ≤ g ∧ g < W.heap.size := h.1.lt g hg
theorem Own.same {W W' : World} {B : Nat} {e : TypeId} {n : Nat} {v : Value} {L : List (Array Value)} (h : Own W B e n v L) (hw : ∀ g, v.ownBlock = some g → g < W.heap.size → W'.heap[g]? = W.heap[g]?) : Own W' B e n v L := by
  refine ⟨⟨h.1.1, ?_⟩, h.2⟩
  rcases h.1.2 with h2 | ⟨g, cap, cur, h3, h4, h5, h6⟩
  · exact .inl h2
  · refine .inr ⟨g, cap, cur, h3, h4, ?_, h6⟩
    rw [hw g (by rw [h3]; rfl) (Array.getElem?_eq_some_iff.1 h5).1]; exact h5
theorem Own.below {W W' : World} {B : Nat} {e : TypeId} {n : Nat} {v : Value} {L : List (Array Value)} (h : Own W B e n v L) (hb : Below W.heap.size W W') : Own W' B e n v L := h.same fun g _ hg => hb.block g hg
theorem Own.upto {W W' : World} {B T : Nat} {e : TypeId} {n : Nat} {v : Value} {L : List (Array Value)} (h : Own W B e n v L) (hb : Upto T W W') (hT : T < B) : Own W' B e n v L :=
  h.same fun g hv hg => hb.block g hg (by have := (h.base hv).1; omega)
theorem Own.sl {W : World} {B : Nat} {e : TypeId} {n : Nat} {v : Value} {L : List (Array Value)} (h : Own W B e n v L) : Sl W v n L := by
  obtain ⟨⟨h1, h2⟩, h3⟩ := h
  have hs : ∀ C ∈ L, C.size = n := fun C hC => (h3 C hC).1
  rcases h2 with ⟨rfl, h2⟩ | ⟨g, cap, cur, rfl, h4, h5, h6, h7, h8, h9⟩
  · have : L = [] := List.eq_nil_of_length_eq_zero h2
    subst this; exact Sl.nil _ _
  · have hg := (Array.getElem?_eq_some_iff.1 h5).1
    refine ⟨_, cap, rfl, h6, h7, .inr ⟨g, 0, rfl, hg, fun i C hC => ?_⟩⟩
    have hCs := hs C (List.mem_of_getElem? hC)
    have hr := range_of (W := W) (p := ⟨g, 0 + i * n, none⟩) (cs := C.toList) (n := n) (by simpa using hCs) (fun k v hv => by
      have h10 := flat_at hs hC (k := k) (v := v) (by simpa using hv)
      rw [← h9] at h10
      have h11 : cur.toList[i * n + k]? = some v := by
        rw [List.getElem?_take] at h10
        split at h10
        · exact h10
        · cases h10
      have : W.cell? ⟨g, i * n + k, none⟩ = some v := by
        rw [cell_of_row W g _ cur e (0, 0) h5]; simpa using h11
      simpa [addr_add] using this)
    exact ⟨hg, hr.1, by simpa using hr.2, (h3 C (List.mem_of_getElem? hC)).2⟩
/-- A slice of one element that was just built. -/
theorem sl_one (w : World) (C : Array Value) (t : TypeId) (n : Nat) (g : Nat) (hg : g = w.heap.size) (hn : C.size = n) (h1 : ones C = true) : Sl (w.alloc (.cells C t)) (.slice (some ⟨g, 0, none⟩) 1 1) n [C] := by
  subst hg
  refine ⟨_, 1, rfl, Nat.le_refl _, by unfold maxLen; omega, .inr ⟨w.heap.size, 0, rfl, by simp, fun i D hD => ?_⟩⟩
  match i, hD with
  | 0, hD =>
    simp only [List.getElem?_cons_zero, Option.some.injEq] at hD
    subst hD
    refine ⟨by simp, ?_, ?_, h1⟩
    · simpa using isRange_new w C t w.heap.size n rfl hn
    · simpa using rangeOf_new w C t w.heap.size n rfl hn
  | i + 1, hD => simp at hD
/-- append: the law. -/
theorem app_own {P : Program} {ops : Array Oper} {rest : List Oper} {o : Oper} {a : Act} {w : World} {Q : Exit → Act → World → Prop} (hgd : o.guard = none) (s x : Operand) (t : TypeId)
    (ho : o.op = .call { callee := .builtin .append, args := #[s, x], argTypes := #[t, t] })
    (B : Nat) (e : TypeId) (i : TypeInfo) (z : Value) (n bytes : Nat) (ht : P.underlying t = some (.slice e)) (hi : P.info? e = some i) (hz : i.zero = some z)
    (hsize : i.size = n) (hby : i.bytes = bytes) (hzs : z.cells.size = n) (hsz : 0 < n)
    (v : Value) (L M : List (Array Value)) (hs : a.eval s = v) (hown : Own w B e n v L)
    (ad : Addr) (m c : Nat) (hx : a.eval x = .slice (some ad) m c) (hM : Sl w (.slice (some ad) m c) n M)
    (hbytes : (L.length + M.length) * bytes ≤ 140737488355328) (hlen : L.length + M.length ≤ 1000000) (hbase : B ≤ w.heap.size)
    (h : ∀ v' w', Own w' B e n v' (L ++ M) → Below B w w' → (v' = .slice none 0 0 ↔ v = .slice none 0 0 ∧ M = []) → wpList P ops Q rest (a.put o.dst v') w') : wpList P ops Q (o :: rest) a w := by
  obtain ⟨h1, h2, h3⟩ := hM.flat hsz
  have hm : m = M.length := by obtain ⟨_, _, e, _⟩ := hM; simp only [Value.slice.injEq] at e; exact e.2.1
  subst hm
  refine wpList_append_own (P := P) _ hgd s x t ho B e i z n bytes ht hi hz hsize hby hzs hsz v L.length (flat L) hs hown.1 ad M.length c (flat M) hx h1 h2 h3 (by unfold maxLen; omega) hbytes hbase fun v' w' k1 k2 k3 => h v' w' ⟨?_, ?_⟩ ?_ ?_
  · rw [flat_append, List.length_append]; exact k1
  · intro C hC
    rcases List.mem_append.1 hC with hC | hC
    · exact hown.2 C hC
    · exact ⟨hM.sizes C hC, hM.ones C hC⟩
  · exact (Below.refl B w).grown k2 hbase fun q hq => (hown.base hq).1
  · rw [k3]
    constructor
    · rintro ⟨e1, e2⟩; exact ⟨e1, List.eq_nil_of_length_eq_zero e2⟩
    · rintro ⟨e1, e2⟩; exact ⟨e1, by rw [e2]; rfl⟩
end
end Go.Proofs.YtnncjbkepakgpaaGreat
