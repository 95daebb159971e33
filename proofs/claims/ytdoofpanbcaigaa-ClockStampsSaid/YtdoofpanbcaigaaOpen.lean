/-
  ARGUMENTS, OPENED BY THEIR TYPE'S LEAVES: a struct or an array by value (structs within structs too) is a row of cells, each an integer of its kind, a bool, or something else of one cell.
-/
import Derived.ProofKit
import Derived.OpenShut
import Derived.Deep.Slices
namespace Go.Proofs.Ytdoofpanbcaigaa
open Go.ChangeShapes Go.WideShapes Go.ChangeAt Go.RowKit

inductive Leaf where
  | int (k : IntKind)
  | bool
  | any

/-- A value is as the leaf says. -/
def Leaf.ok : Leaf → Value → Prop
  | .int k, v => ∃ n, v = .int k n ∧ (Lit.int k n).wf = true
  | .bool, v => ∃ b, v = .bool b
  | .any, _ => True

def fits : List Leaf → List Value → Prop
  | [], [] => True
  | l :: ls, v :: vs => l.ok v ∧ fits ls vs
  | _, _ => False

theorem fits_nil {cs : List Value} (h : fits [] cs) : cs = [] := by cases cs <;> simp_all [fits]
theorem fits_int {k : IntKind} {ls : List Leaf} {cs : List Value} (h : fits (.int k :: ls) cs) : ∃ n vs, cs = .int k n :: vs ∧ (Lit.int k n).wf = true ∧ fits ls vs := by
  cases cs with
  | nil => simp [fits] at h
  | cons v vs =>
    obtain ⟨⟨n, rfl, hw⟩, h⟩ := h
    exact ⟨n, vs, rfl, hw, h⟩
theorem fits_bool {ls : List Leaf} {cs : List Value} (h : fits (.bool :: ls) cs) : ∃ b vs, cs = .bool b :: vs ∧ fits ls vs := by
  cases cs with
  | nil => simp [fits] at h
  | cons v vs =>
    obtain ⟨⟨b, rfl⟩, h⟩ := h
    exact ⟨b, vs, rfl, h⟩
theorem fits_any {ls : List Leaf} {cs : List Value} (h : fits (.any :: ls) cs) : ∃ v vs, cs = v :: vs ∧ fits ls vs := by
  cases cs with
  | nil => simp [fits] at h
  | cons v vs => exact ⟨v, vs, rfl, h.2⟩
theorem fits_append : ∀ {a b : List Leaf} {x y : List Value}, fits a x → fits b y → fits (a ++ b) (x ++ y)
  | [], _, [], _, _, h => h
  | _ :: _, _, _ :: _, _, h, h' => ⟨h.1, fits_append h.2 h'⟩
  | [], _, _ :: _, _, h, _ => h.elim
  | _ :: _, _, [], _, h, _ => h.elim
theorem fits_length : ∀ {a : List Leaf} {x : List Value}, fits a x → x.length = a.length
  | [], [], _ => rfl
  | _ :: _, _ :: _, h => by simp [fits_length h.2]
  | [], _ :: _, h => h.elim
  | _ :: _, [], h => h.elim

/-- The leaves of the fields from cell o on: each begins where the one ahead of it ended. -/
def fieldLeaves (P : Program) (sub : TypeId → Option (List Leaf)) : Nat → List Field → Option (List Leaf)
  | _, [] => some []
  | o, f :: fs => (sub f.type).bind fun l => if f.offset = o ∧ P.cellsOf f.type = l.length then (fieldLeaves P sub (o + l.length) fs).map (l ++ ·) else none

/-- The leaves of a type. -/
def leavesOf (P : Program) : Nat → TypeId → Option (List Leaf)
  | 0, _ => none
  | f + 1, t =>
    match P.underlying t with
    | some .bool => some [.bool]
    | some (.int k) => some [.int k]
    | some (.struct fs) => (fieldLeaves P (leavesOf P f) 0 fs.toList).bind fun l => if P.cellsOf t = l.length then some l else none
    | some (.array n e) => (leavesOf P f e).bind fun l => if P.cellsOf e = l.length ∧ P.cellsOf t = n * l.length then some (List.replicate n l).flatten else none
    | some (.slice _) => some [.any]
    | _ => none

section
variable {H : Type} {enc : TypeId × Value → H} {P : Program} {w : World} {base : Nat} {spare : Nat → Bool} {held : Bool}

theorem trod_slice_one {fuel : Nat} {t e : TypeId} {cs : List Value} {x : DataW H × List MemPlace} (ht : P.underlying t = some (.slice e)) (h : DataW.trod enc P w base spare held fuel t cs = some x) : ∃ v, cs = [v] := by
  rcases Go.Deep.open_slice ht h with ⟨rfl, _⟩ | ⟨a, len, cap, m, n, D, Pl, rfl, _⟩
  · exact ⟨_, rfl⟩
  · exact ⟨_, rfl⟩

theorem fieldLeaves_fits {sub : TypeId → Option (List Leaf)} (hsub : ∀ t l n cs x, sub t = some l → DataW.trod enc P w base spare held n t cs = some x → fits l cs) {n : Nat} {cs : List Value} :
    ∀ (fs : List Field) (o : Nat) (l : List Leaf), fieldLeaves P sub o fs = some l → cs.length = o + l.length →
      (∀ f ∈ fs, ∃ x, DataW.trod enc P w base spare held n f.type ((cs.drop f.offset).take (P.cellsOf f.type)) = some x) → fits l (cs.drop o)
  | [], o, l, h, hlen, _ => by
    simp [fieldLeaves] at h; subst h
    rw [List.drop_of_length_le (by simp at hlen; omega)]; trivial
  | f :: fs, o, l, h, hlen, hall => by
    simp only [fieldLeaves, Option.bind_eq_some_iff] at h
    obtain ⟨a, ha, h⟩ := h
    split at h
    · rename_i hc
      obtain ⟨ho, hn⟩ := hc
      simp only [Option.map_eq_some_iff] at h
      obtain ⟨b, hb, rfl⟩ := h
      obtain ⟨x, hx⟩ := hall f (by simp)
      have h1 := hsub _ _ _ _ _ ha hx
      have h2 := fieldLeaves_fits hsub fs (o + a.length) b hb (by simp at hlen; omega) (fun g hg => hall g (by simp [hg]))
      have := fits_append h1 h2
      rw [ho, hn] at this
      have e : (cs.drop o).take a.length ++ cs.drop (o + a.length) = cs.drop o := by
        rw [← List.drop_drop, List.take_append_drop]
      rwa [e] at this
    · cases h

theorem rows_fits {l : List Leaf} {k : Nat} {cs : List Value} (hk : k = l.length) : ∀ (n o : Nat), cs.length = o + n * k → (∀ i, i < n → fits l ((cs.drop (o + i * k)).take k)) → fits (List.replicate n l).flatten (cs.drop o)
  | 0, o, hlen, _ => by rw [List.drop_of_length_le (by omega)]; trivial
  | n + 1, o, hlen, h => by
    have h0 := h 0 (by omega)
    have hr := rows_fits (cs := cs) hk n (o + k) (by rw [hlen, Nat.add_mul]; omega) (fun i hi => by
      have := h (i + 1) (by omega)
      rwa [show o + (i + 1) * k = o + k + i * k from by rw [Nat.add_mul]; omega] at this)
    have e : (cs.drop o).take k ++ cs.drop (o + k) = cs.drop o := by rw [← List.drop_drop, List.take_append_drop]
    have := fits_append h0 hr
    rw [show o + 0 * k = o from by omega, e] at this
    simpa [List.replicate_succ] using this

theorem leaves_fit : ∀ (f : Nat) (t : TypeId) (l : List Leaf) (n : Nat) (cs : List Value) (x : DataW H × List MemPlace), leavesOf P f t = some l → DataW.trod enc P w base spare held n t cs = some x → fits l cs
  | 0, _, _, _, _, _, h, _ => by simp [leavesOf] at h
  | f + 1, t, l, n, cs, x, h, hx => by
    unfold leavesOf at h
    split at h
    · rename_i ht
      simp at h; subst h
      obtain ⟨b, rfl, _⟩ := DataW.trod_bool ht hx
      exact ⟨⟨b, rfl⟩, trivial⟩
    · rename_i k ht
      simp at h; subst h
      obtain ⟨m, rfl, _, hw⟩ := DataW.trod_int ht hx
      exact ⟨⟨m, rfl, hw⟩, trivial⟩
    · rename_i fs ht
      simp only [Option.bind_eq_some_iff] at h
      obtain ⟨a, ha, h⟩ := h
      split at h
      · rename_i hc
        simp at h; subst h
        obtain ⟨xs, m, _, _, hlen, hxs, hf⟩ := DataW.trod_struct ht hx
        have := fieldLeaves_fits (cs := cs) (n := m) (fun t l n cs x => leaves_fit f t l n cs x) fs.toList 0 a ha (by omega) (fun g hg => by
          obtain ⟨i, hi, rfl⟩ := List.getElem_of_mem hg
          have hi' : i < fs.size := by simpa using hi
          have e := hf i fs[i] (by simp [hi'])
          rw [List.getElem?_eq_getElem (by omega)] at e
          exact ⟨_, by simpa using e⟩)
        simpa using this
      · cases h
    · rename_i m e ht
      simp only [Option.bind_eq_some_iff] at h
      obtain ⟨a, ha, h⟩ := h
      split at h
      · rename_i hc
        simp at h; subst h
        obtain ⟨xs, k, _, _, hlen, hxs, hf⟩ := Go.DataW.trod_array ht hx
        have := rows_fits (cs := cs) hc.1 m 0 (by rw [hlen, hc.2, hc.1]; omega) (fun i hi => by
          have e' := hf i hi
          rw [List.getElem?_eq_getElem (by omega)] at e'
          have := leaves_fit f _ _ _ _ _ ha e'
          rwa [show 0 + i * P.cellsOf e = i * P.cellsOf e from by omega])
        simpa using this
      · cases h
    · rename_i e ht
      simp at h; subst h
      obtain ⟨v, rfl⟩ := trod_slice_one ht hx
      exact ⟨trivial, trivial⟩
    · cases h

/-- A struct by value, or an array: its cells, each as its leaf says. -/
theorem open_flat {r : Reach} {b0 : Nat} {t : TypeId} {v : Value} {d : DataW H} {p : List MemPlace} {f : Nat} {l : List Leaf} (hl : leavesOf P f t = some l)
    (hs : (match P.underlying t with | some (.struct _) => true | some (.array _ _) => true | _ => false) = true) (hv : Value.okWide P w r b0 t v) (h : DataW.Trod enc P w base spare held t v d p) : ∃ cs : List Value, v = .agg cs.toArray ∧ fits l cs := by
  have ⟨cs, hcs⟩ : ∃ cs, v = .agg cs := by
    unfold Value.okWide at hv
    split at hs
    · rename_i fs ht; rw [ht] at hv; obtain ⟨cs, h1, _⟩ := hv; exact ⟨cs, h1⟩
    · rename_i n e ht; rw [ht] at hv; obtain ⟨cs, h1, _⟩ := hv; exact ⟨cs, h1⟩
    · cases hs
  subst hcs
  obtain ⟨n, hn⟩ := h
  refine ⟨cs.toList, by simp, ?_⟩
  exact leaves_fit f t l n _ _ hl (by simpa [Value.cells] using hn)
end
end Go.Proofs.Ytdoofpanbcaigaa
