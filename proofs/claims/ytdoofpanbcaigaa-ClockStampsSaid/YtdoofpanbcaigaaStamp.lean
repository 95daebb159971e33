/-
  CLOCKS IN MEMORY (layer 46): a slice of rows of numbers, built by append.
-/
import Derived.Test.YtdoofpanbcaigaaClock5
import Derived.OwnWalk
namespace Go.Proofs.Ytdoofpanbcaigaa
open Go.RowKit
set_option linter.unusedVariables false

/-- k rows are appended; row j holds the numbers 'val j'. -/
structure StOut (w1 W : World) (n' k : Nat) (v : Value) (hs : Nat → Nat) (val : Nat → Nat → Int) : Prop where
  below : Below w1.heap.size w1 W
  own : W.ownsRow w1.heap.size 80 1 v k ((List.range k).map fun j => .slice (some ⟨hs j, 0, none⟩) n' n')
  lo : ∀ j, j < k → w1.heap.size ≤ hs j
  rise : ∀ i j, i < j → j < k → hs i < hs j
  rows : ∀ j, j < k → W.rowIs (hs j) 3 n' (fun x => .int .i64 (val j x))

theorem own_other {B : Nat} {W W' : World} {v : Value} {k : Nat} {xs : List Value} (h : W.ownsRow B 80 1 v k xs) {g n : Nat} {f : Nat → Value} (hr : W.rowIs g 3 n f) (hw : ∀ k, k < W.heap.size → k ≠ g → W'.heap[k]? = W.heap[k]?) : W'.ownsRow B 80 1 v k xs := by
  obtain ⟨h1, h2⟩ := h
  refine ⟨h1, ?_⟩
  rcases h2 with h2 | ⟨q, cap, cur, e1, e2, e3, e4⟩
  · exact .inl h2
  · refine .inr ⟨q, cap, cur, e1, e2, ?_, e4⟩
    obtain ⟨c, hc, _⟩ := hr
    have hne : q ≠ g := fun e => by subst e; rw [e3] at hc; cases hc
    have hlt := (Array.getElem?_eq_some_iff.1 e3).1
    rw [hw q hlt hne, e3]
theorem own_not {B : Nat} {W : World} {v : Value} {k : Nat} {xs : List Value} (h : W.ownsRow B 80 1 v k xs) {g n : Nat} {f : Nat → Value} (hr : W.rowIs g 3 n f) : some g ≠ v.ownBlock := by
  rcases h.2 with ⟨rfl, _⟩ | ⟨q, cap, cur, rfl, e2, e3, e4⟩
  · simp [Value.ownBlock]
  · obtain ⟨c, hc, _⟩ := hr
    intro e
    simp only [Value.ownBlock, Option.some.injEq] at e
    subst e
    rw [e3] at hc; cases hc

theorem st_below {w1 W W' : World} {n' k : Nat} {v : Value} {hs : Nat → Nat} {val : Nat → Nat → Int} (h : StOut w1 W n' k v hs val) (hb : Below W.heap.size W W') : StOut w1 W' n' k v hs val := by
  refine ⟨h.below.trans (hb.mono h.below.size), ?_, h.lo, h.rise, fun j hj => (h.rows j hj).of_block (hb.block _ (h.rows j hj).lt)⟩
  obtain ⟨h1, h2⟩ := h.own
  refine ⟨h1, ?_⟩
  rcases h2 with h2 | ⟨q, cap, cur, e1, e2, e3, e4⟩
  · exact .inl h2
  · exact .inr ⟨q, cap, cur, e1, e2, (hb.block q (Array.getElem?_eq_some_iff.1 e3).1).trans e3, e4⟩
/-- A row more is appended. -/
theorem st_more {w1 W W' : World} {n' k g : Nat} {v v' : Value} {hs : Nat → Nat} {val : Nat → Nat → Int} (h : StOut w1 W n' k v hs val) (hg : W.rowIs g 3 n' (fun x => .int .i64 (val k x))) (hlo : w1.heap.size ≤ g) (hnew : ∀ j, j < k → hs j < g) {T : TypeId}
    (hown : W'.ownsRow w1.heap.size 80 1 v' (k + 1) ((List.range k).map (fun j => .slice (some ⟨hs j, 0, none⟩) n' n') ++ [.slice (some ⟨g, 0, none⟩) n' n'])) (hgr : (W.alloc (.cells #[.slice (some ⟨g, 0, none⟩) n' n'] T)).grownBy W' v.ownBlock) :
    StOut w1 W' n' (k + 1) v' (fun j => if j = k then g else hs j) val := by
  have hb := h.below.alloc h.below.size (.cells #[.slice (some ⟨g, 0, none⟩) n' n'] T)
  have kept : ∀ q m f, W.rowIs q 3 m f → W'.rowIs q 3 m f := fun q m f hr => by
    refine (hr.alloc _).of_block (hgr.block q (hr.alloc _).lt (own_not h.own hr))
  refine ⟨hb.grown hgr hb.size fun q hq => (h.own.lt q hq).1, ?_, fun j hj => ?_, fun i j hij hj => ?_, fun j hj => ?_⟩
  · have e : ((List.range (k + 1)).map fun j => Value.slice (some ⟨if j = k then g else hs j, 0, none⟩) n' n') = (List.range k).map (fun j => .slice (some ⟨hs j, 0, none⟩) n' n') ++ [.slice (some ⟨g, 0, none⟩) n' n'] := by
      rw [List.range_succ, List.map_append]
      congr 1
      · refine List.map_congr_left fun j hj => ?_
        have := List.mem_range.1 hj
        rw [if_neg (by omega)]
      · simp
    rw [e]; exact hown
  · by_cases e : j = k
    · simp [e, hlo]
    · simp [e]; exact h.lo j (by omega)
  · have e1 : i ≠ k := by omega
    by_cases e : j = k
    · simp [e, e1]; exact hnew i (by omega)
    · simp [e, e1]; exact h.rise i j hij (by omega)
  · by_cases e : j = k
    · subst e; simpa using kept _ _ _ hg
    · simp only [e, if_false]; exact kept _ _ _ (h.rows j (by omega))

/-- A row of numbers is under way, beside the k rows. -/
structure StIn (w1 W : World) (n' k : Nat) (v : Value) (hs : Nat → Nat) (val : Nat → Nat → Int) (g : Nat) (f : Nat → Int) : Prop where
  out : StOut w1 W n' k v hs val
  lo : w1.heap.size ≤ g
  new : ∀ j, j < k → hs j < g
  row : W.rowIs g 3 n' (fun x => .int .i64 (f x))
theorem stIn_start {w1 W : World} {n' k : Nat} {v : Value} {hs : Nat → Nat} {val : Nat → Nat → Int} (h : StOut w1 W n' k v hs val) : StIn w1 (W.alloc (.cells (madeCells #[.int .i64 0] n') 3)) n' k v hs val W.heap.size (fun _ => 0) :=
  ⟨st_below h ((Below.refl _ _).alloc (Nat.le_refl _) _), h.below.size, fun j hj => (h.rows j hj).lt, World.rowIs_made W (.int .i64 0) n' 3⟩
theorem stIn_set {w1 W : World} {n' k g x : Nat} {v : Value} {hs : Nat → Nat} {val : Nat → Nat → Int} {f f' : Nat → Int} {u : Int} (h : StIn w1 W n' k v hs val g f) (hf : ∀ j, j < n' → f' j = if j = x then u else f j) :
    StIn w1 (W.setCell ⟨g, x, none⟩ (.int .i64 u)) n' k v hs val g f' := by
  refine ⟨⟨h.out.below.setCell h.lo _, own_other h.out.own h.row (fun q _ hq => Below.heap_setCell W _ _ q hq), h.out.lo, h.out.rise, fun j hj => (h.out.rows j hj).setOther (show hs j ≠ g by have := h.new j hj; omega) _⟩, h.lo, h.new, (h.row.set x _).congr fun j hj => ?_⟩
  rw [hf j hj]; split <;> rfl
theorem stIn_same {w1 W : World} {n' k g : Nat} {v : Value} {hs : Nat → Nat} {val : Nat → Nat → Int} {f f' : Nat → Int} (h : StIn w1 W n' k v hs val g f) (hf : ∀ j, j < n' → f' j = f j) : StIn w1 W n' k v hs val g f' :=
  ⟨h.out, h.lo, h.new, h.row.congr fun j hj => by rw [hf j hj]⟩

theorem cell_lt' {W : World} {p : Addr} {v : Value} (h : W.cell? p = some v) : p.block < W.heap.size := by
  rcases Nat.lt_or_ge p.block W.heap.size with h' | h'
  · exact h'
  · unfold World.cell? at h
    simp [Array.getElem?_eq_none h'] at h
/-- A slice of N rows of n' numbers each, to be read. -/
def SlAt (W : World) (v : Value) (N n' : Nat) (hs : Nat → Nat) (val : Nat → Nat → Int) : Prop :=
  ∃ (a : Option Addr) (g cap : Nat), v = .slice a N cap ∧ (0 < N → a = some ⟨g, 0, none⟩) ∧ (∀ k, k < N → W.cell? ⟨g, k, none⟩ = some (.slice (some ⟨hs k, 0, none⟩) n' n')) ∧ ∀ k, k < N → W.rowIs (hs k) 3 n' (fun x => .int .i64 (val k x))
theorem sl_of {w1 W : World} {n' N : Nat} {v : Value} {hs : Nat → Nat} {val : Nat → Nat → Int} (h : StOut w1 W n' N v hs val) : SlAt W v N n' hs val := by
  have hown := h.own
  rcases hown.2 with ⟨rfl, rfl⟩ | ⟨q, cap, cur, rfl, e2, e3, e4⟩
  · exact ⟨none, 0, 0, rfl, fun h => absurd h (Nat.lt_irrefl _), fun k hk => absurd hk (Nat.not_lt_zero _), fun k hk => absurd hk (Nat.not_lt_zero _)⟩
  · refine ⟨some ⟨q, 0, none⟩, q, cap, rfl, fun _ => rfl, fun k hk => ?_, h.rows⟩
    have := hown.cells (g := q) rfl k (.slice (some ⟨hs k, 0, none⟩) n' n') (by simp [hk])
    have e : (⟨q, 0, none⟩ : Addr).add k = ⟨q, k, none⟩ := by unfold Addr.add; split <;> simp_all
    rwa [e] at this
theorem sl_below {W W' : World} {v : Value} {N n' : Nat} {hs : Nat → Nat} {val : Nat → Nat → Int} (h : SlAt W v N n' hs val) (hb : Below W.heap.size W W') : SlAt W' v N n' hs val := by
  obtain ⟨a, g, cap, h1, h2, h3, h4⟩ := h
  exact ⟨a, g, cap, h1, h2, fun k hk => (hb.cell (cell_lt' (h3 k hk))).trans (h3 k hk), fun k hk => row_keep (h4 k hk) hb⟩
end Go.Proofs.Ytdoofpanbcaigaa
