/-
  A BOX THAT IS KNOWN WHOLE: a struct of many cells is loaded from its box by one law, its cells under one name.
-/
import Derived.Test.YtdoofpanbcaigaaHalf
import Derived.Laws.Rows
namespace Go.Proofs.Ytdoofpanbcaigaa
open Go.RowKit

/-- Block g is a row of n cells of type t. -/
def isRow (W : World) (g : Nat) (t : TypeId) (n : Nat) : Bool :=
  match W.heap[g]? with
  | some (.cells cs u fr) => decide (u = t) && decide (fr = (0, 0)) && decide (cs.size = n)
  | _ => false
/-- Its cells. -/
def rowOf (W : World) (g : Nat) : Array Value :=
  match W.heap[g]? with
  | some (.cells cs _ _) => cs
  | _ => #[]

theorem row_heap {W : World} {g n : Nat} {t : TypeId} (h : isRow W g t n = true) : W.heap[g]? = some (.cells (rowOf W g) t (0, 0)) ∧ (rowOf W g).size = n := by
  unfold isRow at h
  unfold rowOf
  split at h
  · rename_i cs u fr e
    simp only [Bool.and_eq_true, decide_eq_true_eq] at h
    obtain ⟨⟨rfl, rfl⟩, rfl⟩ := h
    rw [e]
    exact ⟨rfl, rfl⟩
  · cases h
theorem row_of {W : World} {g n : Nat} {t : TypeId} {C : Array Value} (h : W.heap[g]? = some (.cells C t (0, 0))) (hn : C.size = n) : isRow W g t n = true ∧ rowOf W g = C := by
  unfold isRow rowOf
  rw [h]
  simp [hn]
theorem row_lt {W : World} {g n : Nat} {t : TypeId} (h : isRow W g t n = true) : g < W.heap.size := by
  rcases Nat.lt_or_ge g W.heap.size with h' | h'
  · exact h'
  · have := (row_heap h).1
    rw [Array.getElem?_eq_none h'] at this; cases this
theorem row_below {W W' : World} {g n : Nat} {t : TypeId} (hb : Below W.heap.size W W') (h : isRow W g t n = true) : isRow W' g t n = true ∧ rowOf W' g = rowOf W g := by
  have e := hb.block g (row_lt h)
  unfold isRow rowOf at *
  rw [e]
  exact ⟨h, rfl⟩
theorem row_cell {W : World} {g n : Nat} {t : TypeId} (h : isRow W g t n = true) (i : Nat) : W.cell? ⟨g, i, none⟩ = (rowOf W g)[i]? :=
  cell_of_row W g i _ t (0, 0) (row_heap h).1
theorem row_new (w : World) (C : Array Value) (t : TypeId) {n : Nat} (hn : C.size = n) : isRow (w.alloc (.cells C t)) w.heap.size t n = true ∧ rowOf (w.alloc (.cells C t)) w.heap.size = C :=
  row_of (MapKept.heap_alloc w _).1 hn

theorem info43 : (Try.prog.info? 43).map (·.size) = some 16 := by kernel_rfl
theorem load_43 {W : World} {g : Nat} (h : isRow W g 43 16 = true) : (loadVar 43 ⟨g, 0, none⟩).run Try.prog W = .ok (.agg (rowOf W g)) W :=
  run_loadVar_row W g 43 43 _ (0, 0) _ (row_heap h).1 Try.underlying43 rfl (by rw [(row_heap h).2]; exact info43)

/-- A conf is loaded: by one law. (As the kit does for its built-ins: taken ahead of any unfolding.) -/
def loadConf (v : Value) : Sem Next := do pure (.value (← Instr.loadAt 43 v))
theorem exec_load_43 (ρ : Operand → Value) (dst : Option Tmp) (x : Operand) (ty : TypeId) (pos : String) (after : Array Edge) (guard : Option (Nat × Bool)) :
    execOp ρ { dst, op := .load 43 x, type := ty, pos, after, guard } = loadConf (ρ x) := rfl
theorem run_loadConf {W : World} {g : Nat} (h : isRow W g 43 16 = true) : (loadConf (.pointer (some ⟨g, 0, none⟩))).run Try.prog W = .ok (.value (.agg (rowOf W g))) W := by
  simp only [loadConf, Instr.loadAt, Instr.sureAddr, Sem.run_bind, Sem.run_pure, Result.andThen_ok, load_43 h]
theorem isRow_new (w : World) (C : Array Value) (t : TypeId) (g n : Nat) (hg : g = w.heap.size) (hn : C.size = n) : isRow (w.alloc (.cells C t)) g t n = true := by
  subst hg; exact (row_new w C t hn).1
theorem rowOf_new (w : World) (C : Array Value) (t : TypeId) (g : Nat) (hg : g = w.heap.size) : rowOf (w.alloc (.cells C t)) g = C := by
  subst hg; exact (row_new w C t rfl).2
theorem isRow_past (w : World) (o : Obj) (t : TypeId) (g n : Nat) (hg : g < w.heap.size) : isRow (w.alloc o) g t n = isRow w g t n := by
  unfold isRow; rw [Below.heap_alloc w o g hg]
theorem rowOf_past (w : World) (o : Obj) (g : Nat) (hg : g < w.heap.size) : rowOf (w.alloc o) g = rowOf w g := by
  unfold rowOf; rw [Below.heap_alloc w o g hg]
theorem isRow_drew (w : World) (t : TypeId) (g n : Nat) : isRow w.drew g t n = isRow w g t n := rfl
theorem rowOf_drew (w : World) (g : Nat) : rowOf w.drew g = rowOf w g := rfl
theorem isRow_drewN (w : World) (t : TypeId) (g n m : Nat) : isRow (w.drewN m) g t n = isRow w g t n := rfl
theorem rowOf_drewN (w : World) (g m : Nat) : rowOf (w.drewN m) g = rowOf w g := rfl

/-- .. and stored, by one law. -/
def storeConf (a v : Value) : Sem Next := do Instr.storeAt 43 a v; pure .skip
theorem exec_store_43 (ρ : Operand → Value) (dst : Option Tmp) (x y : Operand) (ty : TypeId) (pos : String) (after : Array Edge) (guard : Option (Nat × Bool)) :
    execOp ρ { dst, op := .store 43 x y, type := ty, pos, after, guard } = storeConf (ρ x) (ρ y) := rfl
theorem run_storeConf {W : World} {g : Nat} {C : Array Value} (h : isRow W g 43 16 = true) (hn : C.size = 16) (h1 : C.all (·.oneCell') = true) : (storeConf (.pointer (some ⟨g, 0, none⟩)) (.agg C)).run Try.prog W = .ok .skip (W.setRow g C) := by
  obtain ⟨h2, h3⟩ := row_heap h
  simp only [storeConf, Instr.storeAt, Instr.sureAddr, Sem.run_bind, Sem.run_pure, Result.andThen_ok, run_storeVar_row W g 43 43 _ C h2 (by rw [hn]; exact info43) (by rw [h3, hn]) h1]
theorem isRow_set {W : World} {g : Nat} {t : TypeId} {n : Nat} {C : Array Value} (h : isRow W g t n = true) (hn : C.size = n) : isRow (W.setRow g C) g t n = true :=
  (row_of (setRow_heap W g _ C t (0, 0) (row_heap h).1) hn).1
theorem rowOf_set {W : World} {g : Nat} {t : TypeId} {n : Nat} {C : Array Value} (h : isRow W g t n = true) : rowOf (W.setRow g C) g = C :=
  (row_of (setRow_heap W g _ C t (0, 0) (row_heap h).1) rfl).2
theorem below_setRow {B : Nat} {a w : World} (h : Below B a w) {g : Nat} (hg : B ≤ g) (C : Array Value) : Below B a (w.setRow g C) := by
  refine ⟨h.os, h.tape, h.output, ?_, fun k hk => ?_⟩
  · have := h.size
    simpa [World.setRow] using this
  · rw [← h.block k hk]
    simp only [World.setRow, Array.getElem?_modify]
    rw [if_neg (by omega)]

theorem setRow_new (w : World) (old C : Array Value) (t : TypeId) : (w.alloc (.cells old t)).setRow w.heap.size C = w.alloc (.cells C t) := by
  have e : (w.heap.push (.cells old t (0, 0))).modify w.heap.size (fun | .cells _ elem frozen => .cells C elem frozen | o => o) = w.heap.push (.cells C t (0, 0)) := by
    apply Array.ext_getElem?
    intro i
    simp only [Array.getElem?_modify, Array.getElem?_push]
    by_cases h : w.heap.size = i
    · subst h; simp
    · simp [h, Ne.symm h]
  exact congrArg (fun h => ({ w with heap := h } : World)) e
theorem run_storeConf_new (w : World) (old C : Array Value) (ho : old.size = 16) (hn : C.size = 16) (h1 : C.all (·.oneCell') = true) :
    (storeConf (.pointer (some ⟨w.heap.size, 0, none⟩)) (.agg C)).run Try.prog (w.alloc (.cells old 43)) = .ok .skip (w.alloc (.cells C 43)) := by
  rw [run_storeConf (row_new w old 43 ho).1 hn h1, setRow_new]

/-- A box of the call's own holds what it held, and nothing old has turned. -/
theorem heldR {g n : Nat} {t : TypeId} {w W W' : World} {C : Array Value} (h : isRow W g t n = true ∧ rowOf W g = C ∧ Below w.heap.size w W) (hb : Below W.heap.size W W') :
    isRow W' g t n = true ∧ rowOf W' g = C ∧ Below w.heap.size w W' := by
  obtain ⟨h1, h2, h3⟩ := h
  obtain ⟨k1, k2⟩ := row_below hb h1
  exact ⟨k1, k2.trans h2, h3.trans (hb.mono h3.size)⟩
theorem heldR_below {g n : Nat} {t : TypeId} {w W : World} {C : Array Value} (h : isRow W g t n = true ∧ rowOf W g = C ∧ Below w.heap.size w W) : Below w.heap.size w W := h.2.2
end Go.Proofs.Ytdoofpanbcaigaa
