/-
  ROWS AND RANGES OF CELLS: a struct is loaded, and stored, whole, its cells under one name.
-/
import Derived.Test.YtnncjbkepakgpaaGreatProg
import Derived.WalkKit
import Derived.ProofKit
import Derived.BigQuiet
import Derived.Lib.MinMax
import Derived.Lib.Hide
import Derived.Laws.Rows
import Derived.Deep.Slices
import Derived.Deep.RegionHeld3
import Derived.Deep.DeepCutAuto
import Derived.Deep.OwnRows
import Derived.Deep.LoopGhost
import Derived.MapKept
namespace Go.Proofs.YtnncjbkepakgpaaGreat
set_option linter.unusedVariables false
set_option linter.unusedSimpArgs false
open Go.RowKit
/-- Block g is a row of n cells of type t. -/
def isRow (W : World) (g : Nat) (t : TypeId) (n : Nat) : Bool :=
  match W.heap[g]? with
  | some (.cells cs u fr) => decide (u = t) && decide (fr = (0, 0)) && decide (cs.size = n)
  | _ => false
/-- Its cells. -/
def rowOf (W : World) (g : Nat) : Array Value :=
  match W.heap[g]? with
  | some (.cells cs _ _) => cs
  | _ => #[]
theorem row_heap {W : World} {g n : Nat} {t : TypeId} (h : isRow W g t n = true) : W.heap[g]? = some (.cells (rowOf W g) t (0, 0)) ∧ (rowOf W g).size = n := by
  unfold isRow at h
  unfold rowOf
  split at h
  · rename_i cs u fr e
    simp only [Bool.and_eq_true, decide_eq_true_eq] at h
    obtain ⟨⟨rfl, rfl⟩, rfl⟩ := h
    rw [e]
    exact ⟨rfl, rfl⟩
  · cases h
theorem row_of {W : World} {g n : Nat} {t : TypeId} {C : Array Value} (h : W.heap[g]? = some (.cells C t (0, 0))) (hn : C.size = n) : isRow W g t n = true ∧ rowOf W g = C := by
  unfold isRow rowOf
  rw [h]
  simp [hn]
theorem row_lt {W : World} {g n : Nat} {t : TypeId} (h : isRow W g t n = true) : g < W.heap.size := by
  rcases Nat.lt_or_ge g W.heap.size with h' | h'
  · exact h'
  · have := (row_heap h).1
    rw [Array.getElem?_eq_none h'] at this; cases this
theorem row_below {W W' : World} {g n : Nat} {t : TypeId} (hb : Below W.heap.size W W') (h : isRow W g t n = true) : isRow W' g t n = true ∧ rowOf W' g = rowOf W g := by
  have e := hb.block g (row_lt h)
  unfold isRow rowOf at *
  rw [e]
  exact ⟨h, rfl⟩
theorem row_cell {W : World} {g n : Nat} {t : TypeId} (h : isRow W g t n = true) (i : Nat) : W.cell? ⟨g, i, none⟩ = (rowOf W g)[i]? :=
  cell_of_row W g i _ t (0, 0) (row_heap h).1
theorem row_new (w : World) (C : Array Value) (t : TypeId) {n : Nat} (hn : C.size = n) : isRow (w.alloc (.cells C t)) w.heap.size t n = true ∧ rowOf (w.alloc (.cells C t)) w.heap.size = C :=
  row_of (MapKept.heap_alloc w _).1 hn
theorem isRow_new (w : World) (C : Array Value) (t : TypeId) (g n : Nat) (hg : g = w.heap.size) (hn : C.size = n) : isRow (w.alloc (.cells C t)) g t n = true := by
  subst hg; exact (row_new w C t hn).1
theorem rowOf_new (w : World) (C : Array Value) (t : TypeId) (g : Nat) (hg : g = w.heap.size) : rowOf (w.alloc (.cells C t)) g = C := by
  subst hg; exact (row_new w C t rfl).2
theorem isRow_past (w : World) (o : Obj) (t : TypeId) (g n : Nat) (hg : g < w.heap.size) : isRow (w.alloc o) g t n = isRow w g t n := by
  unfold isRow; rw [Below.heap_alloc w o g hg]
theorem rowOf_past (w : World) (o : Obj) (g : Nat) (hg : g < w.heap.size) : rowOf (w.alloc o) g = rowOf w g := by
  unfold rowOf; rw [Below.heap_alloc w o g hg]
theorem isRow_drew (w : World) (t : TypeId) (g n : Nat) : isRow w.drew g t n = isRow w g t n := rfl
theorem rowOf_drew (w : World) (g : Nat) : rowOf w.drew g = rowOf w g := rfl
theorem isRow_drewN (w : World) (t : TypeId) (g n m : Nat) : isRow (w.drewN m) g t n = isRow w g t n := rfl
theorem rowOf_drewN (w : World) (g m : Nat) : rowOf (w.drewN m) g = rowOf w g := rfl
theorem isRow_set {W : World} {g : Nat} {t : TypeId} {n : Nat} {C : Array Value} (h : isRow W g t n = true) (hn : C.size = n) : isRow (W.setRow g C) g t n = true :=
  (row_of (setRow_heap W g _ C t (0, 0) (row_heap h).1) hn).1
theorem rowOf_set {W : World} {g : Nat} {t : TypeId} {n : Nat} {C : Array Value} (h : isRow W g t n = true) : rowOf (W.setRow g C) g = C :=
  (row_of (setRow_heap W g _ C t (0, 0) (row_heap h).1) rfl).2
theorem row_setRow_other {W : World} {g y n : Nat} {t : TypeId} (D : Array Value) (hy : y ≠ g) : isRow (W.setRow y D) g t n = isRow W g t n ∧ rowOf (W.setRow y D) g = rowOf W g := by
  have : (W.setRow y D).heap[g]? = W.heap[g]? := by simp only [World.setRow, Array.getElem?_modify]; rw [if_neg hy]
  unfold isRow rowOf; rw [this]; exact ⟨rfl, rfl⟩
theorem below_setRow {B : Nat} {a w : World} (h : Below B a w) {g : Nat} (hg : B ≤ g) (C : Array Value) : Below B a (w.setRow g C) := by
  refine ⟨h.os, h.tape, h.output, ?_, fun k hk => ?_⟩
  · have := h.size
    simpa [World.setRow] using this
  · rw [← h.block k hk]
    simp only [World.setRow, Array.getElem?_modify]
    rw [if_neg (by omega)]
theorem setRow_new (w : World) (old C : Array Value) (t : TypeId) (g : Nat) (hg : g = w.heap.size) : (w.alloc (.cells old t)).setRow g C = w.alloc (.cells C t) := by
  subst hg
  have e : (w.heap.push (.cells old t (0, 0))).modify w.heap.size (fun | .cells _ elem frozen => .cells C elem frozen | o => o) = w.heap.push (.cells C t (0, 0)) := by
    apply Array.ext_getElem?
    intro i
    simp only [Array.getElem?_modify, Array.getElem?_push]
    by_cases h : w.heap.size = i
    · subst h; simp
    · simp [h, Ne.symm h]
  exact congrArg (fun h => ({ w with heap := h } : World)) e
theorem setRow_past (w : World) (o : Obj) (g : Nat) (C : Array Value) (hg : g < w.heap.size) : (w.alloc o).setRow g C = (w.setRow g C).alloc o := by
  have e : ∀ (f : Obj → Obj), (w.heap.push o).modify g f = (w.heap.modify g f).push o := fun f => by
    apply Array.ext_getElem?
    intro i
    simp only [Array.getElem?_modify, Array.getElem?_push, Array.size_modify]
    by_cases h : w.heap.size = i
    · subst h
      rw [if_neg (by omega)]; simp
    · simp only [show ¬ i = w.heap.size from fun e => h e.symm, if_false]
  exact congrArg (fun h => ({ w with heap := h } : World)) (e _)
/-- Of the blocks that were there only T may have turned. -/
structure Upto (T : Nat) (w w' : World) : Prop where
  os : w'.os = w.os
  tape : w'.tape = w.tape
  output : w'.output = w.output
  size : w.heap.size ≤ w'.heap.size
  block : ∀ k, k < w.heap.size → k ≠ T → w'.heap[k]? = w.heap[k]?
theorem Upto.refl (T : Nat) (w : World) : Upto T w w := ⟨rfl, rfl, rfl, Nat.le_refl _, fun _ _ _ => rfl⟩
theorem Upto.trans {T : Nat} {a b c : World} (h : Upto T a b) (k : Upto T b c) : Upto T a c :=
  ⟨k.os.trans h.os, k.tape.trans h.tape, k.output.trans h.output, Nat.le_trans h.size k.size, fun i hi hT => (k.block i (Nat.lt_of_lt_of_le hi h.size) hT).trans (h.block i hi hT)⟩
theorem Upto.of_below {T : Nat} {w w' : World} (h : Below w.heap.size w w') : Upto T w w' := ⟨h.os, h.tape, h.output, h.size, fun k hk _ => h.block k hk⟩
theorem Upto.below {T B : Nat} {w w' : World} (h : Upto T w w') (hB : B ≤ T) (hw : B ≤ w.heap.size) : Below B w w' := ⟨h.os, h.tape, h.output, h.size, fun k hk => h.block k (by omega) (by omega)⟩
theorem Upto.alloc {T : Nat} {w w' : World} (h : Upto T w w') (o : Obj) : Upto T w (w'.alloc o) :=
  h.trans (.of_below ((Below.refl _ _).alloc (Nat.le_refl _) o))
theorem Upto.set {T : Nat} {w w' : World} (h : Upto T w w') (i : Nat) (v : Value) : Upto T w (w'.setCell ⟨T, i, none⟩ v) :=
  h.trans ⟨rfl, rfl, rfl, by simp [World.setCell], fun k _ hk => Below.heap_setCell w' ⟨T, i, none⟩ v k hk⟩
theorem Upto.drew {T : Nat} {w w' : World} (h : Upto T w w') : Upto T w w'.drew := ⟨h.os, h.tape, h.output, h.size, h.block⟩
theorem Upto.cell {T : Nat} {w w' : World} (h : Upto T w w') {p : Addr} (hp : p.block < w.heap.size) (hT : p.block ≠ T) : w'.cell? p = w.cell? p := World.cell?_of_block (w := w) (h.block _ hp hT)
/-- The n cells from p on, and that they are there. -/
def rangeOf (W : World) (p : Addr) (n : Nat) : Array Value := ((List.range n).map fun k => (W.cell? (p.add k)).getD undef).toArray
def isRange (W : World) (p : Addr) (n : Nat) : Bool := (List.range n).all fun k => (W.cell? (p.add k)).isSome
theorem range_at {W : World} {p : Addr} {n : Nat} (h : isRange W p n = true) {k : Nat} (hk : k < n) : W.cell? (p.add k) = (rangeOf W p n)[k]? := by
  have h' := List.all_eq_true.1 h k (List.mem_range.2 hk)
  obtain ⟨v, hv⟩ := Option.isSome_iff_exists.1 h'
  simp [rangeOf, hk, hv]
theorem range_size (W : World) (p : Addr) (n : Nat) : (rangeOf W p n).size = n := by simp [rangeOf]
theorem range_of {W : World} {p : Addr} {n : Nat} {cs : List Value} (hn : cs.length = n) (h : ∀ k v, cs[k]? = some v → W.cell? (p.add k) = some v) : isRange W p n = true ∧ rangeOf W p n = cs.toArray := by
  have g : ∀ k, k < n → W.cell? (p.add k) = cs[k]? := fun k hk => by
    have hk' : k < cs.length := by omega
    rw [List.getElem?_eq_getElem hk', h k _ (List.getElem?_eq_getElem hk')]
  refine ⟨List.all_eq_true.2 fun k hk => ?_, ?_⟩
  · have hk' := List.mem_range.1 hk
    rw [g k hk', List.getElem?_eq_getElem (by omega)]; rfl
  · apply Array.ext_getElem?
    intro k
    by_cases hk : k < n
    · have hk' : k < cs.length := by omega
      simp [rangeOf, hk, g k hk, List.getElem?_eq_getElem hk']
    · have : cs.length ≤ k := by omega
      simp [rangeOf, hk, List.getElem?_eq_none this]
theorem add_block (b : Addr) (m : Nat) : (b.add m).block = b.block := by unfold Addr.add; split <;> rfl
theorem range_same {W W' : World} {p : Addr} {n : Nat} (h : W'.heap[p.block]? = W.heap[p.block]?) : isRange W' p n = isRange W p n ∧ rangeOf W' p n = rangeOf W p n := by
  have g : ∀ k, W'.cell? (p.add k) = W.cell? (p.add k) := fun k => World.cell?_of_block (w := W) (by rw [add_block]; exact h)
  constructor
  · simp [isRange, g]
  · simp [rangeOf, g]
theorem isRange_past (w : World) (o : Obj) (p : Addr) (n : Nat) (h : p.block < w.heap.size) : isRange (w.alloc o) p n = isRange w p n := (range_same (Below.heap_alloc w o p.block h)).1
theorem rangeOf_past (w : World) (o : Obj) (p : Addr) (n : Nat) (h : p.block < w.heap.size) : rangeOf (w.alloc o) p n = rangeOf w p n := (range_same (Below.heap_alloc w o p.block h)).2
theorem range_new (w : World) (C : Array Value) (t : TypeId) : isRange (w.alloc (.cells C t)) ⟨w.heap.size, 0, none⟩ C.size = true ∧ rangeOf (w.alloc (.cells C t)) ⟨w.heap.size, 0, none⟩ C.size = C := by
  have h := range_of (W := w.alloc (.cells C t)) (p := ⟨w.heap.size, 0, none⟩) (cs := C.toList) (n := C.size) (by simp) (fun k v hk => by
    have e : (⟨w.heap.size, 0, none⟩ : Addr).add k = ⟨w.heap.size, k, none⟩ := by unfold Addr.add; split <;> simp_all
    rw [e, World.cell?_alloc_new]; simpa using hk)
  simpa using h
theorem isRange_new (w : World) (C : Array Value) (t : TypeId) (g n : Nat) (hg : g = w.heap.size) (hn : C.size = n) : isRange (w.alloc (.cells C t)) ⟨g, 0, none⟩ n = true := by
  subst hg hn; exact (range_new w C t).1
theorem rangeOf_new (w : World) (C : Array Value) (t : TypeId) (g n : Nat) (hg : g = w.heap.size) (hn : C.size = n) : rangeOf (w.alloc (.cells C t)) ⟨g, 0, none⟩ n = C := by
  subst hg hn; exact (range_new w C t).2
theorem isRange_drew (w : World) (p : Addr) (n : Nat) : isRange w.drew p n = isRange w p n := rfl
theorem rangeOf_drew (w : World) (p : Addr) (n : Nat) : rangeOf w.drew p n = rangeOf w p n := rfl
theorem isRange_set (w : World) (g i : Nat) (v : Value) (p : Addr) (n : Nat) (h : p.block ≠ g) : isRange (w.setCell ⟨g, i, none⟩ v) p n = isRange w p n := (range_same (Below.heap_setCell w ⟨g, i, none⟩ v p.block h)).1
theorem rangeOf_set' (w : World) (g i : Nat) (v : Value) (p : Addr) (n : Nat) (h : p.block ≠ g) : rangeOf (w.setCell ⟨g, i, none⟩ v) p n = rangeOf w p n := (range_same (Below.heap_setCell w ⟨g, i, none⟩ v p.block h)).2
theorem range_below {W W' : World} {p : Addr} {n : Nat} (hb : Below W.heap.size W W') (h : isRange W p n = true) (hn : p.block < W.heap.size) : isRange W' p n = true ∧ rangeOf W' p n = rangeOf W p n := by
  have e := range_same (W := W) (W' := W') (p := p) (n := n) (hb.block _ hn)
  exact ⟨e.1.trans h, e.2⟩
theorem cell_lt {W : World} {p : Addr} {v : Value} (h : W.cell? p = some v) : p.block < W.heap.size := by
  rcases Nat.lt_or_ge p.block W.heap.size with h' | h'
  · exact h'
  · unfold World.cell? at h
    simp [Array.getElem?_eq_none h'] at h
theorem range_lt {W : World} {p : Addr} {n : Nat} (h : isRange W p n = true) (hn : 0 < n) : p.block < W.heap.size := by
  have h0 := List.all_eq_true.1 h 0 (List.mem_range.2 hn)
  obtain ⟨v, hv⟩ := Option.isSome_iff_exists.1 h0
  have := cell_lt hv
  rwa [add_block] at this
theorem load_range {T : TypeId} {n : Nat} {d : TypeDesc} (hi : (Tryz.prog.info? T).map (·.size) = some n) (hu : Tryz.prog.underlying T = some d) (hd : (match d with | .struct _ | .array _ _ => true | _ => false) = true) {W : World} {p : Addr} (h : isRange W p n = true) :
    (loadVar T p).run Tryz.prog W = .ok (.agg (rangeOf W p n)) W := by
  have hl : (loadCells p (rangeOf W p n).toList.length).run Tryz.prog W = .ok (rangeOf W p n).toList.toArray W :=
    run_loadCells_list (P := Tryz.prog) W p (rangeOf W p n).toList (fun j v hv => by
      have hj : j < n := by
        have := (List.getElem?_eq_some_iff.1 hv).1
        simpa [rangeOf] using this
      rw [range_at h hj]; simpa using hv)
  simp only [Array.length_toList, Array.toArray_toList, range_size] at hl
  cases hq : Tryz.prog.info? T with
  | none => rw [hq] at hi; cases hi
  | some i =>
    have hs : i.size = n := by rw [hq] at hi; simpa using hi
    have hagg : (isAgg T).run Tryz.prog W = .ok true W := by
      unfold isAgg
      rw [Sem.run_bind, run_underlying hu W]
      cases d <;> simp_all
    simp [loadVar, Sem.run_bind, hagg, sizeOf, typeInfo, hq, hs, hl]
theorem one_int (k : IntKind) (n : Int) : (Value.int k n).oneCell' = true := rfl
theorem one_bool (b : Bool) : (Value.bool b).oneCell' = true := rfl
theorem one_slice (a : Option Addr) (n c : Nat) : (Value.slice a n c).oneCell' = true := rfl
theorem one_ptr (a : Option Addr) : (Value.pointer a).oneCell' = true := rfl
/-- All its values are of one cell. -/
def onesL : List Value → Bool
  | [] => true
  | v :: l => v.oneCell' && onesL l
def ones (C : Array Value) : Bool := onesL C.toList
theorem ones_lit (l : List Value) : ones l.toArray = onesL l := rfl
theorem onesL_nil : onesL [] = true := rfl
theorem onesL_cons (v : Value) (l : List Value) : onesL (v :: l) = (v.oneCell' && onesL l) := rfl
theorem ones_all {C : Array Value} (h : ones C = true) : C.all (·.oneCell') = true := by
  obtain ⟨l⟩ := C
  have : ∀ l : List Value, onesL l = true → l.all (·.oneCell') = true := fun l => by
    induction l with
    | nil => intro _; rfl
    | cons v l ih =>
      intro h
      simp only [onesL, Bool.and_eq_true] at h
      simp only [List.all_cons, Bool.and_eq_true]
      exact ⟨h.1, ih h.2⟩
  have h' := this l h
  simpa using h'
theorem info29 : (Tryz.prog.info? 29).map (·.size) = some 16 := by kernel_rfl
def load29 (v : Value) : Sem Next := do pure (.value (← Instr.loadAt 29 v))
theorem exec_load_29 (ρ : Operand → Value) (dst : Option Tmp) (x : Operand) (ty : TypeId) (pos : String) (after : Array Edge) (guard : Option (Nat × Bool)) :
    execOp ρ { dst, op := .load 29 x, type := ty, pos, after, guard } = load29 (ρ x) := rfl
theorem run_load29 {W : World} {g : Nat} (h : isRow W g 29 16 = true) : (load29 (.pointer (some ⟨g, 0, none⟩))).run Tryz.prog W = .ok (.value (.agg (rowOf W g))) W := by
  simp only [load29, Instr.loadAt, Instr.sureAddr, Sem.run_bind, Sem.run_pure, Result.andThen_ok, run_loadVar_row W g 29 29 _ (0, 0) _ (row_heap h).1 Tryz.underlying29 rfl (by rw [(row_heap h).2]; exact info29)]
theorem run_load29r {W : World} {p : Addr} (h : isRange W p 16 = true) : (load29 (.pointer (some p))).run Tryz.prog W = .ok (.value (.agg (rangeOf W p 16))) W := by
  simp only [load29, Instr.loadAt, Instr.sureAddr, Sem.run_bind, Sem.run_pure, Result.andThen_ok, load_range info29 Tryz.underlying29 rfl h]
def store29 (a v : Value) : Sem Next := do Instr.storeAt 29 a v; pure .skip
theorem exec_store_29 (ρ : Operand → Value) (dst : Option Tmp) (x y : Operand) (ty : TypeId) (pos : String) (after : Array Edge) (guard : Option (Nat × Bool)) :
    execOp ρ { dst, op := .store 29 x y, type := ty, pos, after, guard } = store29 (ρ x) (ρ y) := rfl
theorem run_store29 {W : World} {g : Nat} {C : Array Value} (h : isRow W g 29 16 = true) (hn : C.size = 16) (h1 : ones C = true) : (store29 (.pointer (some ⟨g, 0, none⟩)) (.agg C)).run Tryz.prog W = .ok .skip (W.setRow g C) := by
  obtain ⟨h2, h3⟩ := row_heap h
  simp only [store29, Instr.storeAt, Instr.sureAddr, Sem.run_bind, Sem.run_pure, Result.andThen_ok, run_storeVar_row W g 29 29 _ C h2 (by rw [hn]; exact info29) (by rw [h3, hn]) (ones_all h1)]
theorem info41 : (Tryz.prog.info? 41).map (·.size) = some 12 := by kernel_rfl
def load41 (v : Value) : Sem Next := do pure (.value (← Instr.loadAt 41 v))
theorem exec_load_41 (ρ : Operand → Value) (dst : Option Tmp) (x : Operand) (ty : TypeId) (pos : String) (after : Array Edge) (guard : Option (Nat × Bool)) :
    execOp ρ { dst, op := .load 41 x, type := ty, pos, after, guard } = load41 (ρ x) := rfl
theorem run_load41 {W : World} {g : Nat} (h : isRow W g 41 12 = true) : (load41 (.pointer (some ⟨g, 0, none⟩))).run Tryz.prog W = .ok (.value (.agg (rowOf W g))) W := by
  simp only [load41, Instr.loadAt, Instr.sureAddr, Sem.run_bind, Sem.run_pure, Result.andThen_ok, run_loadVar_row W g 41 41 _ (0, 0) _ (row_heap h).1 Tryz.underlying41 rfl (by rw [(row_heap h).2]; exact info41)]
theorem run_load41r {W : World} {p : Addr} (h : isRange W p 12 = true) : (load41 (.pointer (some p))).run Tryz.prog W = .ok (.value (.agg (rangeOf W p 12))) W := by
  simp only [load41, Instr.loadAt, Instr.sureAddr, Sem.run_bind, Sem.run_pure, Result.andThen_ok, load_range info41 Tryz.underlying41 rfl h]
def store41 (a v : Value) : Sem Next := do Instr.storeAt 41 a v; pure .skip
theorem exec_store_41 (ρ : Operand → Value) (dst : Option Tmp) (x y : Operand) (ty : TypeId) (pos : String) (after : Array Edge) (guard : Option (Nat × Bool)) :
    execOp ρ { dst, op := .store 41 x y, type := ty, pos, after, guard } = store41 (ρ x) (ρ y) := rfl
theorem run_store41 {W : World} {g : Nat} {C : Array Value} (h : isRow W g 41 12 = true) (hn : C.size = 12) (h1 : ones C = true) : (store41 (.pointer (some ⟨g, 0, none⟩)) (.agg C)).run Tryz.prog W = .ok .skip (W.setRow g C) := by
  obtain ⟨h2, h3⟩ := row_heap h
  simp only [store41, Instr.storeAt, Instr.sureAddr, Sem.run_bind, Sem.run_pure, Result.andThen_ok, run_storeVar_row W g 41 41 _ C h2 (by rw [hn]; exact info41) (by rw [h3, hn]) (ones_all h1)]
theorem info64 : (Tryz.prog.info? 64).map (·.size) = some 8 := by kernel_rfl
def load64 (v : Value) : Sem Next := do pure (.value (← Instr.loadAt 64 v))
theorem exec_load_64 (ρ : Operand → Value) (dst : Option Tmp) (x : Operand) (ty : TypeId) (pos : String) (after : Array Edge) (guard : Option (Nat × Bool)) :
    execOp ρ { dst, op := .load 64 x, type := ty, pos, after, guard } = load64 (ρ x) := rfl
theorem run_load64 {W : World} {g : Nat} (h : isRow W g 64 8 = true) : (load64 (.pointer (some ⟨g, 0, none⟩))).run Tryz.prog W = .ok (.value (.agg (rowOf W g))) W := by
  simp only [load64, Instr.loadAt, Instr.sureAddr, Sem.run_bind, Sem.run_pure, Result.andThen_ok, run_loadVar_row W g 64 64 _ (0, 0) _ (row_heap h).1 Tryz.underlying64 rfl (by rw [(row_heap h).2]; exact info64)]
theorem run_load64r {W : World} {p : Addr} (h : isRange W p 8 = true) : (load64 (.pointer (some p))).run Tryz.prog W = .ok (.value (.agg (rangeOf W p 8))) W := by
  simp only [load64, Instr.loadAt, Instr.sureAddr, Sem.run_bind, Sem.run_pure, Result.andThen_ok, load_range info64 Tryz.underlying64 rfl h]
def store64 (a v : Value) : Sem Next := do Instr.storeAt 64 a v; pure .skip
theorem exec_store_64 (ρ : Operand → Value) (dst : Option Tmp) (x y : Operand) (ty : TypeId) (pos : String) (after : Array Edge) (guard : Option (Nat × Bool)) :
    execOp ρ { dst, op := .store 64 x y, type := ty, pos, after, guard } = store64 (ρ x) (ρ y) := rfl
theorem run_store64 {W : World} {g : Nat} {C : Array Value} (h : isRow W g 64 8 = true) (hn : C.size = 8) (h1 : ones C = true) : (store64 (.pointer (some ⟨g, 0, none⟩)) (.agg C)).run Tryz.prog W = .ok .skip (W.setRow g C) := by
  obtain ⟨h2, h3⟩ := row_heap h
  simp only [store64, Instr.storeAt, Instr.sureAddr, Sem.run_bind, Sem.run_pure, Result.andThen_ok, run_storeVar_row W g 64 64 _ C h2 (by rw [hn]; exact info64) (by rw [h3, hn]) (ones_all h1)]
theorem info75 : (Tryz.prog.info? 75).map (·.size) = some 10 := by kernel_rfl
def load75 (v : Value) : Sem Next := do pure (.value (← Instr.loadAt 75 v))
theorem exec_load_75 (ρ : Operand → Value) (dst : Option Tmp) (x : Operand) (ty : TypeId) (pos : String) (after : Array Edge) (guard : Option (Nat × Bool)) :
    execOp ρ { dst, op := .load 75 x, type := ty, pos, after, guard } = load75 (ρ x) := rfl
theorem run_load75 {W : World} {g : Nat} (h : isRow W g 75 10 = true) : (load75 (.pointer (some ⟨g, 0, none⟩))).run Tryz.prog W = .ok (.value (.agg (rowOf W g))) W := by
  simp only [load75, Instr.loadAt, Instr.sureAddr, Sem.run_bind, Sem.run_pure, Result.andThen_ok, run_loadVar_row W g 75 75 _ (0, 0) _ (row_heap h).1 Tryz.underlying75 rfl (by rw [(row_heap h).2]; exact info75)]
theorem run_load75r {W : World} {p : Addr} (h : isRange W p 10 = true) : (load75 (.pointer (some p))).run Tryz.prog W = .ok (.value (.agg (rangeOf W p 10))) W := by
  simp only [load75, Instr.loadAt, Instr.sureAddr, Sem.run_bind, Sem.run_pure, Result.andThen_ok, load_range info75 Tryz.underlying75 rfl h]
def store75 (a v : Value) : Sem Next := do Instr.storeAt 75 a v; pure .skip
theorem exec_store_75 (ρ : Operand → Value) (dst : Option Tmp) (x y : Operand) (ty : TypeId) (pos : String) (after : Array Edge) (guard : Option (Nat × Bool)) :
    execOp ρ { dst, op := .store 75 x y, type := ty, pos, after, guard } = store75 (ρ x) (ρ y) := rfl
theorem run_store75 {W : World} {g : Nat} {C : Array Value} (h : isRow W g 75 10 = true) (hn : C.size = 10) (h1 : ones C = true) : (store75 (.pointer (some ⟨g, 0, none⟩)) (.agg C)).run Tryz.prog W = .ok .skip (W.setRow g C) := by
  obtain ⟨h2, h3⟩ := row_heap h
  simp only [store75, Instr.storeAt, Instr.sureAddr, Sem.run_bind, Sem.run_pure, Result.andThen_ok, run_storeVar_row W g 75 75 _ C h2 (by rw [hn]; exact info75) (by rw [h3, hn]) (ones_all h1)]
theorem info103 : (Tryz.prog.info? 103).map (·.size) = some 13 := by kernel_rfl
def load103 (v : Value) : Sem Next := do pure (.value (← Instr.loadAt 103 v))
theorem exec_load_103 (ρ : Operand → Value) (dst : Option Tmp) (x : Operand) (ty : TypeId) (pos : String) (after : Array Edge) (guard : Option (Nat × Bool)) :
    execOp ρ { dst, op := .load 103 x, type := ty, pos, after, guard } = load103 (ρ x) := rfl
theorem run_load103 {W : World} {g : Nat} (h : isRow W g 103 13 = true) : (load103 (.pointer (some ⟨g, 0, none⟩))).run Tryz.prog W = .ok (.value (.agg (rowOf W g))) W := by
  simp only [load103, Instr.loadAt, Instr.sureAddr, Sem.run_bind, Sem.run_pure, Result.andThen_ok, run_loadVar_row W g 103 103 _ (0, 0) _ (row_heap h).1 Tryz.underlying103 rfl (by rw [(row_heap h).2]; exact info103)]
theorem run_load103r {W : World} {p : Addr} (h : isRange W p 13 = true) : (load103 (.pointer (some p))).run Tryz.prog W = .ok (.value (.agg (rangeOf W p 13))) W := by
  simp only [load103, Instr.loadAt, Instr.sureAddr, Sem.run_bind, Sem.run_pure, Result.andThen_ok, load_range info103 Tryz.underlying103 rfl h]
def store103 (a v : Value) : Sem Next := do Instr.storeAt 103 a v; pure .skip
theorem exec_store_103 (ρ : Operand → Value) (dst : Option Tmp) (x y : Operand) (ty : TypeId) (pos : String) (after : Array Edge) (guard : Option (Nat × Bool)) :
    execOp ρ { dst, op := .store 103 x y, type := ty, pos, after, guard } = store103 (ρ x) (ρ y) := rfl
theorem run_store103 {W : World} {g : Nat} {C : Array Value} (h : isRow W g 103 13 = true) (hn : C.size = 13) (h1 : ones C = true) : (store103 (.pointer (some ⟨g, 0, none⟩)) (.agg C)).run Tryz.prog W = .ok .skip (W.setRow g C) := by
  obtain ⟨h2, h3⟩ := row_heap h
  simp only [store103, Instr.storeAt, Instr.sureAddr, Sem.run_bind, Sem.run_pure, Result.andThen_ok, run_storeVar_row W g 103 103 _ C h2 (by rw [hn]; exact info103) (by rw [h3, hn]) (ones_all h1)]
theorem info105 : (Tryz.prog.info? 105).map (·.size) = some 21 := by kernel_rfl
def load105 (v : Value) : Sem Next := do pure (.value (← Instr.loadAt 105 v))
theorem exec_load_105 (ρ : Operand → Value) (dst : Option Tmp) (x : Operand) (ty : TypeId) (pos : String) (after : Array Edge) (guard : Option (Nat × Bool)) :
    execOp ρ { dst, op := .load 105 x, type := ty, pos, after, guard } = load105 (ρ x) := rfl
theorem run_load105 {W : World} {g : Nat} (h : isRow W g 105 21 = true) : (load105 (.pointer (some ⟨g, 0, none⟩))).run Tryz.prog W = .ok (.value (.agg (rowOf W g))) W := by
  simp only [load105, Instr.loadAt, Instr.sureAddr, Sem.run_bind, Sem.run_pure, Result.andThen_ok, run_loadVar_row W g 105 105 _ (0, 0) _ (row_heap h).1 Tryz.underlying105 rfl (by rw [(row_heap h).2]; exact info105)]
theorem run_load105r {W : World} {p : Addr} (h : isRange W p 21 = true) : (load105 (.pointer (some p))).run Tryz.prog W = .ok (.value (.agg (rangeOf W p 21))) W := by
  simp only [load105, Instr.loadAt, Instr.sureAddr, Sem.run_bind, Sem.run_pure, Result.andThen_ok, load_range info105 Tryz.underlying105 rfl h]
def store105 (a v : Value) : Sem Next := do Instr.storeAt 105 a v; pure .skip
theorem exec_store_105 (ρ : Operand → Value) (dst : Option Tmp) (x y : Operand) (ty : TypeId) (pos : String) (after : Array Edge) (guard : Option (Nat × Bool)) :
    execOp ρ { dst, op := .store 105 x y, type := ty, pos, after, guard } = store105 (ρ x) (ρ y) := rfl
theorem run_store105 {W : World} {g : Nat} {C : Array Value} (h : isRow W g 105 21 = true) (hn : C.size = 21) (h1 : ones C = true) : (store105 (.pointer (some ⟨g, 0, none⟩)) (.agg C)).run Tryz.prog W = .ok .skip (W.setRow g C) := by
  obtain ⟨h2, h3⟩ := row_heap h
  simp only [store105, Instr.storeAt, Instr.sureAddr, Sem.run_bind, Sem.run_pure, Result.andThen_ok, run_storeVar_row W g 105 105 _ C h2 (by rw [hn]; exact info105) (by rw [h3, hn]) (ones_all h1)]
theorem info107 : (Tryz.prog.info? 107).map (·.size) = some 37 := by kernel_rfl
def load107 (v : Value) : Sem Next := do pure (.value (← Instr.loadAt 107 v))
theorem exec_load_107 (ρ : Operand → Value) (dst : Option Tmp) (x : Operand) (ty : TypeId) (pos : String) (after : Array Edge) (guard : Option (Nat × Bool)) :
    execOp ρ { dst, op := .load 107 x, type := ty, pos, after, guard } = load107 (ρ x) := rfl
theorem run_load107 {W : World} {g : Nat} (h : isRow W g 107 37 = true) : (load107 (.pointer (some ⟨g, 0, none⟩))).run Tryz.prog W = .ok (.value (.agg (rowOf W g))) W := by
  simp only [load107, Instr.loadAt, Instr.sureAddr, Sem.run_bind, Sem.run_pure, Result.andThen_ok, run_loadVar_row W g 107 107 _ (0, 0) _ (row_heap h).1 Tryz.underlying107 rfl (by rw [(row_heap h).2]; exact info107)]
theorem run_load107r {W : World} {p : Addr} (h : isRange W p 37 = true) : (load107 (.pointer (some p))).run Tryz.prog W = .ok (.value (.agg (rangeOf W p 37))) W := by
  simp only [load107, Instr.loadAt, Instr.sureAddr, Sem.run_bind, Sem.run_pure, Result.andThen_ok, load_range info107 Tryz.underlying107 rfl h]
def store107 (a v : Value) : Sem Next := do Instr.storeAt 107 a v; pure .skip
theorem exec_store_107 (ρ : Operand → Value) (dst : Option Tmp) (x y : Operand) (ty : TypeId) (pos : String) (after : Array Edge) (guard : Option (Nat × Bool)) :
    execOp ρ { dst, op := .store 107 x y, type := ty, pos, after, guard } = store107 (ρ x) (ρ y) := rfl
theorem run_store107 {W : World} {g : Nat} {C : Array Value} (h : isRow W g 107 37 = true) (hn : C.size = 37) (h1 : ones C = true) : (store107 (.pointer (some ⟨g, 0, none⟩)) (.agg C)).run Tryz.prog W = .ok .skip (W.setRow g C) := by
  obtain ⟨h2, h3⟩ := row_heap h
  simp only [store107, Instr.storeAt, Instr.sureAddr, Sem.run_bind, Sem.run_pure, Result.andThen_ok, run_storeVar_row W g 107 107 _ C h2 (by rw [hn]; exact info107) (by rw [h3, hn]) (ones_all h1)]
theorem info198 : (Tryz.prog.info? 198).map (·.size) = some 31 := by kernel_rfl
def load198 (v : Value) : Sem Next := do pure (.value (← Instr.loadAt 198 v))
theorem exec_load_198 (ρ : Operand → Value) (dst : Option Tmp) (x : Operand) (ty : TypeId) (pos : String) (after : Array Edge) (guard : Option (Nat × Bool)) :
    execOp ρ { dst, op := .load 198 x, type := ty, pos, after, guard } = load198 (ρ x) := rfl
theorem run_load198 {W : World} {g : Nat} (h : isRow W g 198 31 = true) : (load198 (.pointer (some ⟨g, 0, none⟩))).run Tryz.prog W = .ok (.value (.agg (rowOf W g))) W := by
  simp only [load198, Instr.loadAt, Instr.sureAddr, Sem.run_bind, Sem.run_pure, Result.andThen_ok, run_loadVar_row W g 198 198 _ (0, 0) _ (row_heap h).1 Tryz.underlying198 rfl (by rw [(row_heap h).2]; exact info198)]
theorem run_load198r {W : World} {p : Addr} (h : isRange W p 31 = true) : (load198 (.pointer (some p))).run Tryz.prog W = .ok (.value (.agg (rangeOf W p 31))) W := by
  simp only [load198, Instr.loadAt, Instr.sureAddr, Sem.run_bind, Sem.run_pure, Result.andThen_ok, load_range info198 Tryz.underlying198 rfl h]
def store198 (a v : Value) : Sem Next := do Instr.storeAt 198 a v; pure .skip
theorem exec_store_198 (ρ : Operand → Value) (dst : Option Tmp) (x y : Operand) (ty : TypeId) (pos : String) (after : Array Edge) (guard : Option (Nat × Bool)) :
    execOp ρ { dst, op := .store 198 x y, type := ty, pos, after, guard } = store198 (ρ x) (ρ y) := rfl
theorem run_store198 {W : World} {g : Nat} {C : Array Value} (h : isRow W g 198 31 = true) (hn : C.size = 31) (h1 : ones C = true) : (store198 (.pointer (some ⟨g, 0, none⟩)) (.agg C)).run Tryz.prog W = .ok .skip (W.setRow g C) := by
  obtain ⟨h2, h3⟩ := row_heap h
  simp only [store198, Instr.storeAt, Instr.sureAddr, Sem.run_bind, Sem.run_pure, Result.andThen_ok, run_storeVar_row W g 198 198 _ C h2 (by rw [hn]; exact info198) (by rw [h3, hn]) (ones_all h1)]
theorem info203 : (Tryz.prog.info? 203).map (·.size) = some 28 := by kernel_rfl
def load203 (v : Value) : Sem Next := do pure (.value (← Instr.loadAt 203 v))
theorem exec_load_203 (ρ : Operand → Value) (dst : Option Tmp) (x : Operand) (ty : TypeId) (pos : String) (after : Array Edge) (guard : Option (Nat × Bool)) :
    execOp ρ { dst, op := .load 203 x, type := ty, pos, after, guard } = load203 (ρ x) := rfl
theorem run_load203 {W : World} {g : Nat} (h : isRow W g 203 28 = true) : (load203 (.pointer (some ⟨g, 0, none⟩))).run Tryz.prog W = .ok (.value (.agg (rowOf W g))) W := by
  simp only [load203, Instr.loadAt, Instr.sureAddr, Sem.run_bind, Sem.run_pure, Result.andThen_ok, run_loadVar_row W g 203 203 _ (0, 0) _ (row_heap h).1 Tryz.underlying203 rfl (by rw [(row_heap h).2]; exact info203)]
theorem run_load203r {W : World} {p : Addr} (h : isRange W p 28 = true) : (load203 (.pointer (some p))).run Tryz.prog W = .ok (.value (.agg (rangeOf W p 28))) W := by
  simp only [load203, Instr.loadAt, Instr.sureAddr, Sem.run_bind, Sem.run_pure, Result.andThen_ok, load_range info203 Tryz.underlying203 rfl h]
def store203 (a v : Value) : Sem Next := do Instr.storeAt 203 a v; pure .skip
theorem exec_store_203 (ρ : Operand → Value) (dst : Option Tmp) (x y : Operand) (ty : TypeId) (pos : String) (after : Array Edge) (guard : Option (Nat × Bool)) :
    execOp ρ { dst, op := .store 203 x y, type := ty, pos, after, guard } = store203 (ρ x) (ρ y) := rfl
theorem run_store203 {W : World} {g : Nat} {C : Array Value} (h : isRow W g 203 28 = true) (hn : C.size = 28) (h1 : ones C = true) : (store203 (.pointer (some ⟨g, 0, none⟩)) (.agg C)).run Tryz.prog W = .ok .skip (W.setRow g C) := by
  obtain ⟨h2, h3⟩ := row_heap h
  simp only [store203, Instr.storeAt, Instr.sureAddr, Sem.run_bind, Sem.run_pure, Result.andThen_ok, run_storeVar_row W g 203 203 _ C h2 (by rw [hn]; exact info203) (by rw [h3, hn]) (ones_all h1)]
theorem info62 : (Tryz.prog.info? 62).map (·.size) = some 5 := by kernel_rfl
def load62 (v : Value) : Sem Next := do pure (.value (← Instr.loadAt 62 v))
theorem exec_load_62 (ρ : Operand → Value) (dst : Option Tmp) (x : Operand) (ty : TypeId) (pos : String) (after : Array Edge) (guard : Option (Nat × Bool)) :
    execOp ρ { dst, op := .load 62 x, type := ty, pos, after, guard } = load62 (ρ x) := rfl
theorem run_load62 {W : World} {g : Nat} (h : isRow W g 62 5 = true) : (load62 (.pointer (some ⟨g, 0, none⟩))).run Tryz.prog W = .ok (.value (.agg (rowOf W g))) W := by
  simp only [load62, Instr.loadAt, Instr.sureAddr, Sem.run_bind, Sem.run_pure, Result.andThen_ok, run_loadVar_row W g 62 62 _ (0, 0) _ (row_heap h).1 Tryz.underlying62 rfl (by rw [(row_heap h).2]; exact info62)]
theorem run_load62r {W : World} {p : Addr} (h : isRange W p 5 = true) : (load62 (.pointer (some p))).run Tryz.prog W = .ok (.value (.agg (rangeOf W p 5))) W := by
  simp only [load62, Instr.loadAt, Instr.sureAddr, Sem.run_bind, Sem.run_pure, Result.andThen_ok, load_range info62 Tryz.underlying62 rfl h]
def store62 (a v : Value) : Sem Next := do Instr.storeAt 62 a v; pure .skip
theorem exec_store_62 (ρ : Operand → Value) (dst : Option Tmp) (x y : Operand) (ty : TypeId) (pos : String) (after : Array Edge) (guard : Option (Nat × Bool)) :
    execOp ρ { dst, op := .store 62 x y, type := ty, pos, after, guard } = store62 (ρ x) (ρ y) := rfl
theorem run_store62 {W : World} {g : Nat} {C : Array Value} (h : isRow W g 62 5 = true) (hn : C.size = 5) (h1 : ones C = true) : (store62 (.pointer (some ⟨g, 0, none⟩)) (.agg C)).run Tryz.prog W = .ok .skip (W.setRow g C) := by
  obtain ⟨h2, h3⟩ := row_heap h
  simp only [store62, Instr.storeAt, Instr.sureAddr, Sem.run_bind, Sem.run_pure, Result.andThen_ok, run_storeVar_row W g 62 62 _ C h2 (by rw [hn]; exact info62) (by rw [h3, hn]) (ones_all h1)]
theorem info101 : (Tryz.prog.info? 101).map (·.size) = some 3 := by kernel_rfl
def load101 (v : Value) : Sem Next := do pure (.value (← Instr.loadAt 101 v))
theorem exec_load_101 (ρ : Operand → Value) (dst : Option Tmp) (x : Operand) (ty : TypeId) (pos : String) (after : Array Edge) (guard : Option (Nat × Bool)) :
    execOp ρ { dst, op := .load 101 x, type := ty, pos, after, guard } = load101 (ρ x) := rfl
theorem run_load101 {W : World} {g : Nat} (h : isRow W g 101 3 = true) : (load101 (.pointer (some ⟨g, 0, none⟩))).run Tryz.prog W = .ok (.value (.agg (rowOf W g))) W := by
  simp only [load101, Instr.loadAt, Instr.sureAddr, Sem.run_bind, Sem.run_pure, Result.andThen_ok, run_loadVar_row W g 101 101 _ (0, 0) _ (row_heap h).1 Tryz.underlying101 rfl (by rw [(row_heap h).2]; exact info101)]
theorem run_load101r {W : World} {p : Addr} (h : isRange W p 3 = true) : (load101 (.pointer (some p))).run Tryz.prog W = .ok (.value (.agg (rangeOf W p 3))) W := by
  simp only [load101, Instr.loadAt, Instr.sureAddr, Sem.run_bind, Sem.run_pure, Result.andThen_ok, load_range info101 Tryz.underlying101 rfl h]
def store101 (a v : Value) : Sem Next := do Instr.storeAt 101 a v; pure .skip
theorem exec_store_101 (ρ : Operand → Value) (dst : Option Tmp) (x y : Operand) (ty : TypeId) (pos : String) (after : Array Edge) (guard : Option (Nat × Bool)) :
    execOp ρ { dst, op := .store 101 x y, type := ty, pos, after, guard } = store101 (ρ x) (ρ y) := rfl
theorem run_store101 {W : World} {g : Nat} {C : Array Value} (h : isRow W g 101 3 = true) (hn : C.size = 3) (h1 : ones C = true) : (store101 (.pointer (some ⟨g, 0, none⟩)) (.agg C)).run Tryz.prog W = .ok .skip (W.setRow g C) := by
  obtain ⟨h2, h3⟩ := row_heap h
  simp only [store101, Instr.storeAt, Instr.sureAddr, Sem.run_bind, Sem.run_pure, Result.andThen_ok, run_storeVar_row W g 101 101 _ C h2 (by rw [hn]; exact info101) (by rw [h3, hn]) (ones_all h1)]
theorem info36 : (Tryz.prog.info? 36).map (·.size) = some 4 := by kernel_rfl
def load36 (v : Value) : Sem Next := do pure (.value (← Instr.loadAt 36 v))
theorem exec_load_36 (ρ : Operand → Value) (dst : Option Tmp) (x : Operand) (ty : TypeId) (pos : String) (after : Array Edge) (guard : Option (Nat × Bool)) :
    execOp ρ { dst, op := .load 36 x, type := ty, pos, after, guard } = load36 (ρ x) := rfl
theorem run_load36 {W : World} {g : Nat} (h : isRow W g 36 4 = true) : (load36 (.pointer (some ⟨g, 0, none⟩))).run Tryz.prog W = .ok (.value (.agg (rowOf W g))) W := by
  simp only [load36, Instr.loadAt, Instr.sureAddr, Sem.run_bind, Sem.run_pure, Result.andThen_ok, run_loadVar_row W g 36 36 _ (0, 0) _ (row_heap h).1 Tryz.underlying36 rfl (by rw [(row_heap h).2]; exact info36)]
theorem run_load36r {W : World} {p : Addr} (h : isRange W p 4 = true) : (load36 (.pointer (some p))).run Tryz.prog W = .ok (.value (.agg (rangeOf W p 4))) W := by
  simp only [load36, Instr.loadAt, Instr.sureAddr, Sem.run_bind, Sem.run_pure, Result.andThen_ok, load_range info36 Tryz.underlying36 rfl h]
def store36 (a v : Value) : Sem Next := do Instr.storeAt 36 a v; pure .skip
theorem exec_store_36 (ρ : Operand → Value) (dst : Option Tmp) (x y : Operand) (ty : TypeId) (pos : String) (after : Array Edge) (guard : Option (Nat × Bool)) :
    execOp ρ { dst, op := .store 36 x y, type := ty, pos, after, guard } = store36 (ρ x) (ρ y) := rfl
theorem run_store36 {W : World} {g : Nat} {C : Array Value} (h : isRow W g 36 4 = true) (hn : C.size = 4) (h1 : ones C = true) : (store36 (.pointer (some ⟨g, 0, none⟩)) (.agg C)).run Tryz.prog W = .ok .skip (W.setRow g C) := by
  obtain ⟨h2, h3⟩ := row_heap h
  simp only [store36, Instr.storeAt, Instr.sureAddr, Sem.run_bind, Sem.run_pure, Result.andThen_ok, run_storeVar_row W g 36 36 _ C h2 (by rw [hn]; exact info36) (by rw [h3, hn]) (ones_all h1)]
theorem info51 : (Tryz.prog.info? 51).map (·.size) = some 24 := by kernel_rfl
def load51 (v : Value) : Sem Next := do pure (.value (← Instr.loadAt 51 v))
theorem exec_load_51 (ρ : Operand → Value) (dst : Option Tmp) (x : Operand) (ty : TypeId) (pos : String) (after : Array Edge) (guard : Option (Nat × Bool)) :
    execOp ρ { dst, op := .load 51 x, type := ty, pos, after, guard } = load51 (ρ x) := rfl
theorem run_load51 {W : World} {g : Nat} (h : isRow W g 51 24 = true) : (load51 (.pointer (some ⟨g, 0, none⟩))).run Tryz.prog W = .ok (.value (.agg (rowOf W g))) W := by
  simp only [load51, Instr.loadAt, Instr.sureAddr, Sem.run_bind, Sem.run_pure, Result.andThen_ok, run_loadVar_row W g 51 51 _ (0, 0) _ (row_heap h).1 Tryz.underlying51 rfl (by rw [(row_heap h).2]; exact info51)]
theorem run_load51r {W : World} {p : Addr} (h : isRange W p 24 = true) : (load51 (.pointer (some p))).run Tryz.prog W = .ok (.value (.agg (rangeOf W p 24))) W := by
  simp only [load51, Instr.loadAt, Instr.sureAddr, Sem.run_bind, Sem.run_pure, Result.andThen_ok, load_range info51 Tryz.underlying51 rfl h]
def store51 (a v : Value) : Sem Next := do Instr.storeAt 51 a v; pure .skip
theorem exec_store_51 (ρ : Operand → Value) (dst : Option Tmp) (x y : Operand) (ty : TypeId) (pos : String) (after : Array Edge) (guard : Option (Nat × Bool)) :
    execOp ρ { dst, op := .store 51 x y, type := ty, pos, after, guard } = store51 (ρ x) (ρ y) := rfl
theorem run_store51 {W : World} {g : Nat} {C : Array Value} (h : isRow W g 51 24 = true) (hn : C.size = 24) (h1 : ones C = true) : (store51 (.pointer (some ⟨g, 0, none⟩)) (.agg C)).run Tryz.prog W = .ok .skip (W.setRow g C) := by
  obtain ⟨h2, h3⟩ := row_heap h
  simp only [store51, Instr.storeAt, Instr.sureAddr, Sem.run_bind, Sem.run_pure, Result.andThen_ok, run_storeVar_row W g 51 51 _ C h2 (by rw [hn]; exact info51) (by rw [h3, hn]) (ones_all h1)]
theorem info47 : (Tryz.prog.info? 47).map (·.size) = some 6 := by kernel_rfl
def load47 (v : Value) : Sem Next := do pure (.value (← Instr.loadAt 47 v))
theorem exec_load_47 (ρ : Operand → Value) (dst : Option Tmp) (x : Operand) (ty : TypeId) (pos : String) (after : Array Edge) (guard : Option (Nat × Bool)) :
    execOp ρ { dst, op := .load 47 x, type := ty, pos, after, guard } = load47 (ρ x) := rfl
theorem run_load47 {W : World} {g : Nat} (h : isRow W g 47 6 = true) : (load47 (.pointer (some ⟨g, 0, none⟩))).run Tryz.prog W = .ok (.value (.agg (rowOf W g))) W := by
  simp only [load47, Instr.loadAt, Instr.sureAddr, Sem.run_bind, Sem.run_pure, Result.andThen_ok, run_loadVar_row W g 47 47 _ (0, 0) _ (row_heap h).1 Tryz.underlying47 rfl (by rw [(row_heap h).2]; exact info47)]
theorem run_load47r {W : World} {p : Addr} (h : isRange W p 6 = true) : (load47 (.pointer (some p))).run Tryz.prog W = .ok (.value (.agg (rangeOf W p 6))) W := by
  simp only [load47, Instr.loadAt, Instr.sureAddr, Sem.run_bind, Sem.run_pure, Result.andThen_ok, load_range info47 Tryz.underlying47 rfl h]
def store47 (a v : Value) : Sem Next := do Instr.storeAt 47 a v; pure .skip
theorem exec_store_47 (ρ : Operand → Value) (dst : Option Tmp) (x y : Operand) (ty : TypeId) (pos : String) (after : Array Edge) (guard : Option (Nat × Bool)) :
    execOp ρ { dst, op := .store 47 x y, type := ty, pos, after, guard } = store47 (ρ x) (ρ y) := rfl
theorem run_store47 {W : World} {g : Nat} {C : Array Value} (h : isRow W g 47 6 = true) (hn : C.size = 6) (h1 : ones C = true) : (store47 (.pointer (some ⟨g, 0, none⟩)) (.agg C)).run Tryz.prog W = .ok .skip (W.setRow g C) := by
  obtain ⟨h2, h3⟩ := row_heap h
  simp only [store47, Instr.storeAt, Instr.sureAddr, Sem.run_bind, Sem.run_pure, Result.andThen_ok, run_storeVar_row W g 47 47 _ C h2 (by rw [hn]; exact info47) (by rw [h3, hn]) (ones_all h1)]
theorem info279 : (Tryz.prog.info? 279).map (·.size) = some 21 := by kernel_rfl
def load279 (v : Value) : Sem Next := do pure (.value (← Instr.loadAt 279 v))
theorem exec_load_279 (ρ : Operand → Value) (dst : Option Tmp) (x : Operand) (ty : TypeId) (pos : String) (after : Array Edge) (guard : Option (Nat × Bool)) :
    execOp ρ { dst, op := .load 279 x, type := ty, pos, after, guard } = load279 (ρ x) := rfl
theorem run_load279 {W : World} {g : Nat} (h : isRow W g 279 21 = true) : (load279 (.pointer (some ⟨g, 0, none⟩))).run Tryz.prog W = .ok (.value (.agg (rowOf W g))) W := by
  simp only [load279, Instr.loadAt, Instr.sureAddr, Sem.run_bind, Sem.run_pure, Result.andThen_ok, run_loadVar_row W g 279 279 _ (0, 0) _ (row_heap h).1 Tryz.underlying279 rfl (by rw [(row_heap h).2]; exact info279)]
theorem run_load279r {W : World} {p : Addr} (h : isRange W p 21 = true) : (load279 (.pointer (some p))).run Tryz.prog W = .ok (.value (.agg (rangeOf W p 21))) W := by
  simp only [load279, Instr.loadAt, Instr.sureAddr, Sem.run_bind, Sem.run_pure, Result.andThen_ok, load_range info279 Tryz.underlying279 rfl h]
def store279 (a v : Value) : Sem Next := do Instr.storeAt 279 a v; pure .skip
theorem exec_store_279 (ρ : Operand → Value) (dst : Option Tmp) (x y : Operand) (ty : TypeId) (pos : String) (after : Array Edge) (guard : Option (Nat × Bool)) :
    execOp ρ { dst, op := .store 279 x y, type := ty, pos, after, guard } = store279 (ρ x) (ρ y) := rfl
theorem run_store279 {W : World} {g : Nat} {C : Array Value} (h : isRow W g 279 21 = true) (hn : C.size = 21) (h1 : ones C = true) : (store279 (.pointer (some ⟨g, 0, none⟩)) (.agg C)).run Tryz.prog W = .ok .skip (W.setRow g C) := by
  obtain ⟨h2, h3⟩ := row_heap h
  simp only [store279, Instr.storeAt, Instr.sureAddr, Sem.run_bind, Sem.run_pure, Result.andThen_ok, run_storeVar_row W g 279 279 _ C h2 (by rw [hn]; exact info279) (by rw [h3, hn]) (ones_all h1)]
theorem info129 : (Tryz.prog.info? 129).map (·.size) = some 2 := by kernel_rfl
def load129 (v : Value) : Sem Next := do pure (.value (← Instr.loadAt 129 v))
theorem exec_load_129 (ρ : Operand → Value) (dst : Option Tmp) (x : Operand) (ty : TypeId) (pos : String) (after : Array Edge) (guard : Option (Nat × Bool)) :
    execOp ρ { dst, op := .load 129 x, type := ty, pos, after, guard } = load129 (ρ x) := rfl
theorem run_load129 {W : World} {g : Nat} (h : isRow W g 129 2 = true) : (load129 (.pointer (some ⟨g, 0, none⟩))).run Tryz.prog W = .ok (.value (.agg (rowOf W g))) W := by
  simp only [load129, Instr.loadAt, Instr.sureAddr, Sem.run_bind, Sem.run_pure, Result.andThen_ok, run_loadVar_row W g 129 129 _ (0, 0) _ (row_heap h).1 Tryz.underlying129 rfl (by rw [(row_heap h).2]; exact info129)]
theorem run_load129r {W : World} {p : Addr} (h : isRange W p 2 = true) : (load129 (.pointer (some p))).run Tryz.prog W = .ok (.value (.agg (rangeOf W p 2))) W := by
  simp only [load129, Instr.loadAt, Instr.sureAddr, Sem.run_bind, Sem.run_pure, Result.andThen_ok, load_range info129 Tryz.underlying129 rfl h]
def store129 (a v : Value) : Sem Next := do Instr.storeAt 129 a v; pure .skip
theorem exec_store_129 (ρ : Operand → Value) (dst : Option Tmp) (x y : Operand) (ty : TypeId) (pos : String) (after : Array Edge) (guard : Option (Nat × Bool)) :
    execOp ρ { dst, op := .store 129 x y, type := ty, pos, after, guard } = store129 (ρ x) (ρ y) := rfl
theorem run_store129 {W : World} {g : Nat} {C : Array Value} (h : isRow W g 129 2 = true) (hn : C.size = 2) (h1 : ones C = true) : (store129 (.pointer (some ⟨g, 0, none⟩)) (.agg C)).run Tryz.prog W = .ok .skip (W.setRow g C) := by
  obtain ⟨h2, h3⟩ := row_heap h
  simp only [store129, Instr.storeAt, Instr.sureAddr, Sem.run_bind, Sem.run_pure, Result.andThen_ok, run_storeVar_row W g 129 129 _ C h2 (by rw [hn]; exact info129) (by rw [h3, hn]) (ones_all h1)]
theorem info186 : (Tryz.prog.info? 186).map (·.size) = some 2 := by kernel_rfl
def load186 (v : Value) : Sem Next := do pure (.value (← Instr.loadAt 186 v))
theorem exec_load_186 (ρ : Operand → Value) (dst : Option Tmp) (x : Operand) (ty : TypeId) (pos : String) (after : Array Edge) (guard : Option (Nat × Bool)) :
    execOp ρ { dst, op := .load 186 x, type := ty, pos, after, guard } = load186 (ρ x) := rfl
theorem run_load186 {W : World} {g : Nat} (h : isRow W g 186 2 = true) : (load186 (.pointer (some ⟨g, 0, none⟩))).run Tryz.prog W = .ok (.value (.agg (rowOf W g))) W := by
  simp only [load186, Instr.loadAt, Instr.sureAddr, Sem.run_bind, Sem.run_pure, Result.andThen_ok, run_loadVar_row W g 186 186 _ (0, 0) _ (row_heap h).1 Tryz.underlying186 rfl (by rw [(row_heap h).2]; exact info186)]
theorem run_load186r {W : World} {p : Addr} (h : isRange W p 2 = true) : (load186 (.pointer (some p))).run Tryz.prog W = .ok (.value (.agg (rangeOf W p 2))) W := by
  simp only [load186, Instr.loadAt, Instr.sureAddr, Sem.run_bind, Sem.run_pure, Result.andThen_ok, load_range info186 Tryz.underlying186 rfl h]
def store186 (a v : Value) : Sem Next := do Instr.storeAt 186 a v; pure .skip
theorem exec_store_186 (ρ : Operand → Value) (dst : Option Tmp) (x y : Operand) (ty : TypeId) (pos : String) (after : Array Edge) (guard : Option (Nat × Bool)) :
    execOp ρ { dst, op := .store 186 x y, type := ty, pos, after, guard } = store186 (ρ x) (ρ y) := rfl
theorem run_store186 {W : World} {g : Nat} {C : Array Value} (h : isRow W g 186 2 = true) (hn : C.size = 2) (h1 : ones C = true) : (store186 (.pointer (some ⟨g, 0, none⟩)) (.agg C)).run Tryz.prog W = .ok .skip (W.setRow g C) := by
  obtain ⟨h2, h3⟩ := row_heap h
  simp only [store186, Instr.storeAt, Instr.sureAddr, Sem.run_bind, Sem.run_pure, Result.andThen_ok, run_storeVar_row W g 186 186 _ C h2 (by rw [hn]; exact info186) (by rw [h3, hn]) (ones_all h1)]
theorem info143 : (Tryz.prog.info? 143).map (·.size) = some 5 := by kernel_rfl
def load143 (v : Value) : Sem Next := do pure (.value (← Instr.loadAt 143 v))
theorem exec_load_143 (ρ : Operand → Value) (dst : Option Tmp) (x : Operand) (ty : TypeId) (pos : String) (after : Array Edge) (guard : Option (Nat × Bool)) :
    execOp ρ { dst, op := .load 143 x, type := ty, pos, after, guard } = load143 (ρ x) := rfl
theorem run_load143 {W : World} {g : Nat} (h : isRow W g 143 5 = true) : (load143 (.pointer (some ⟨g, 0, none⟩))).run Tryz.prog W = .ok (.value (.agg (rowOf W g))) W := by
  simp only [load143, Instr.loadAt, Instr.sureAddr, Sem.run_bind, Sem.run_pure, Result.andThen_ok, run_loadVar_row W g 143 143 _ (0, 0) _ (row_heap h).1 Tryz.underlying143 rfl (by rw [(row_heap h).2]; exact info143)]
theorem run_load143r {W : World} {p : Addr} (h : isRange W p 5 = true) : (load143 (.pointer (some p))).run Tryz.prog W = .ok (.value (.agg (rangeOf W p 5))) W := by
  simp only [load143, Instr.loadAt, Instr.sureAddr, Sem.run_bind, Sem.run_pure, Result.andThen_ok, load_range info143 Tryz.underlying143 rfl h]
def store143 (a v : Value) : Sem Next := do Instr.storeAt 143 a v; pure .skip
theorem exec_store_143 (ρ : Operand → Value) (dst : Option Tmp) (x y : Operand) (ty : TypeId) (pos : String) (after : Array Edge) (guard : Option (Nat × Bool)) :
    execOp ρ { dst, op := .store 143 x y, type := ty, pos, after, guard } = store143 (ρ x) (ρ y) := rfl
theorem run_store143 {W : World} {g : Nat} {C : Array Value} (h : isRow W g 143 5 = true) (hn : C.size = 5) (h1 : ones C = true) : (store143 (.pointer (some ⟨g, 0, none⟩)) (.agg C)).run Tryz.prog W = .ok .skip (W.setRow g C) := by
  obtain ⟨h2, h3⟩ := row_heap h
  simp only [store143, Instr.storeAt, Instr.sureAddr, Sem.run_bind, Sem.run_pure, Result.andThen_ok, run_storeVar_row W g 143 143 _ C h2 (by rw [hn]; exact info143) (by rw [h3, hn]) (ones_all h1)]
theorem res_row {fn : Func} {p : Tmp} {ty t : TypeId} {n : Nat} {C : Array Value} (h : fn.results = #[.cell p ty]) (tmps : Array Value) (W : World) (g : Nat)
    (hp : tmps.getD p undef = .pointer (some ⟨g, 0, none⟩)) (hr : isRow W g t n = true) (hC : rowOf W g = C) (hi : (Tryz.prog.info? ty).map (·.size) = some n) (hagg : ∀ w, (isAgg ty).run Tryz.prog w = .ok true w) : (results fn tmps).run Tryz.prog W = .ok (.agg C) W := by
  obtain ⟨h1, h2⟩ := row_heap hr
  rw [hC] at h1 h2
  have hl : (loadCells ⟨g, 0, none⟩ C.toList.length).run Tryz.prog W = .ok C.toList.toArray W :=
    run_loadCells_list (P := Tryz.prog) W ⟨g, 0, none⟩ C.toList (fun j v hv => by
      have hadd : (⟨g, 0, none⟩ : Addr).add j = ⟨g, j, none⟩ := by unfold Addr.add; split <;> simp_all
      rw [hadd, cell_of_row W g j _ t (0, 0) h1]
      simpa using hv)
  have hp' : tmps[p]?.getD undef = .pointer (some ⟨g, 0, none⟩) := by simpa using hp
  cases hq : Tryz.prog.info? ty with
  | none => rw [hq] at hi; cases hi
  | some i =>
    have hs : i.size = C.size := by rw [hq] at hi; rw [h2]; simpa using hi
    simp only [Array.length_toList, Array.toArray_toList] at hl
    simp [results, h, hp', asAddr, loadVar, Sem.run_bind, hagg, sizeOf, typeInfo, hq, hs, hl]
theorem agg29 (w : World) : (isAgg 29).run Tryz.prog w = .ok true w := by unfold isAgg; rw [Sem.run_bind, run_underlying Tryz.underlying29 w]; rfl
theorem agg41 (w : World) : (isAgg 41).run Tryz.prog w = .ok true w := by unfold isAgg; rw [Sem.run_bind, run_underlying Tryz.underlying41 w]; rfl
theorem agg64 (w : World) : (isAgg 64).run Tryz.prog w = .ok true w := by unfold isAgg; rw [Sem.run_bind, run_underlying Tryz.underlying64 w]; rfl
theorem agg75 (w : World) : (isAgg 75).run Tryz.prog w = .ok true w := by unfold isAgg; rw [Sem.run_bind, run_underlying Tryz.underlying75 w]; rfl
theorem agg103 (w : World) : (isAgg 103).run Tryz.prog w = .ok true w := by unfold isAgg; rw [Sem.run_bind, run_underlying Tryz.underlying103 w]; rfl
theorem agg105 (w : World) : (isAgg 105).run Tryz.prog w = .ok true w := by unfold isAgg; rw [Sem.run_bind, run_underlying Tryz.underlying105 w]; rfl
theorem agg107 (w : World) : (isAgg 107).run Tryz.prog w = .ok true w := by unfold isAgg; rw [Sem.run_bind, run_underlying Tryz.underlying107 w]; rfl
theorem agg198 (w : World) : (isAgg 198).run Tryz.prog w = .ok true w := by unfold isAgg; rw [Sem.run_bind, run_underlying Tryz.underlying198 w]; rfl
theorem agg203 (w : World) : (isAgg 203).run Tryz.prog w = .ok true w := by unfold isAgg; rw [Sem.run_bind, run_underlying Tryz.underlying203 w]; rfl
theorem agg62 (w : World) : (isAgg 62).run Tryz.prog w = .ok true w := by unfold isAgg; rw [Sem.run_bind, run_underlying Tryz.underlying62 w]; rfl
theorem agg101 (w : World) : (isAgg 101).run Tryz.prog w = .ok true w := by unfold isAgg; rw [Sem.run_bind, run_underlying Tryz.underlying101 w]; rfl
theorem agg36 (w : World) : (isAgg 36).run Tryz.prog w = .ok true w := by unfold isAgg; rw [Sem.run_bind, run_underlying Tryz.underlying36 w]; rfl
theorem agg51 (w : World) : (isAgg 51).run Tryz.prog w = .ok true w := by unfold isAgg; rw [Sem.run_bind, run_underlying Tryz.underlying51 w]; rfl
theorem agg47 (w : World) : (isAgg 47).run Tryz.prog w = .ok true w := by unfold isAgg; rw [Sem.run_bind, run_underlying Tryz.underlying47 w]; rfl
theorem agg279 (w : World) : (isAgg 279).run Tryz.prog w = .ok true w := by unfold isAgg; rw [Sem.run_bind, run_underlying Tryz.underlying279 w]; rfl
theorem agg129 (w : World) : (isAgg 129).run Tryz.prog w = .ok true w := by unfold isAgg; rw [Sem.run_bind, run_underlying Tryz.underlying129 w]; rfl
theorem agg186 (w : World) : (isAgg 186).run Tryz.prog w = .ok true w := by unfold isAgg; rw [Sem.run_bind, run_underlying Tryz.underlying186 w]; rfl
theorem agg143 (w : World) : (isAgg 143).run Tryz.prog w = .ok true w := by unfold isAgg; rw [Sem.run_bind, run_underlying Tryz.underlying143 w]; rfl
end Go.Proofs.YtnncjbkepakgpaaGreat
