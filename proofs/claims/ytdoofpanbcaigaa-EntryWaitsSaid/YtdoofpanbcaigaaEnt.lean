/-
  AN ENTRY's BOX KNOWN WHOLE: loaded and stored by one law, beside a conf's.
-/
import Derived.Test.YtdoofpanbcaigaaEntry4
namespace Go.Proofs.Ytdoofpanbcaigaa
open Go.RowKit
set_option linter.unusedVariables false

theorem u64_of_wf {x : Int} (h : (Lit.int .u64 x).wf = true) : 0 ≤ x ∧ x < 18446744073709551616 := by
  simp [Lit.wf, IntKind.min, IntKind.max, IntKind.signed, IntKind.bits] at h
  exact ⟨by omega, by omega⟩
theorem info86 : (Try.prog.info? 86).map (·.size) = some 7 := by kernel_rfl
theorem load_86 {W : World} {g : Nat} (h : isRow W g 86 7 = true) : (loadVar 86 ⟨g, 0, none⟩).run Try.prog W = .ok (.agg (rowOf W g)) W :=
  run_loadVar_row W g 86 86 _ (0, 0) _ (row_heap h).1 Try.underlying86 rfl (by rw [(row_heap h).2]; exact info86)
/-- An entry is loaded: by one law. -/
def loadEnt (v : Value) : Sem Next := do pure (.value (← Instr.loadAt 86 v))
theorem exec_load_86 (ρ : Operand → Value) (dst : Option Tmp) (x : Operand) (ty : TypeId) (pos : String) (after : Array Edge) (guard : Option (Nat × Bool)) :
    execOp ρ { dst, op := .load 86 x, type := ty, pos, after, guard } = loadEnt (ρ x) := rfl
theorem run_loadEnt {W : World} {g : Nat} (h : isRow W g 86 7 = true) : (loadEnt (.pointer (some ⟨g, 0, none⟩))).run Try.prog W = .ok (.value (.agg (rowOf W g))) W := by
  simp only [loadEnt, Instr.loadAt, Instr.sureAddr, Sem.run_bind, Sem.run_pure, Result.andThen_ok, load_86 h]
/-- .. and stored, by one law. -/
def storeEnt (a v : Value) : Sem Next := do Instr.storeAt 86 a v; pure .skip
theorem exec_store_86 (ρ : Operand → Value) (dst : Option Tmp) (x y : Operand) (ty : TypeId) (pos : String) (after : Array Edge) (guard : Option (Nat × Bool)) :
    execOp ρ { dst, op := .store 86 x y, type := ty, pos, after, guard } = storeEnt (ρ x) (ρ y) := rfl
theorem ent_one (v6 : Bool) (hi lo port st fl nx : Int) : (#[Value.bool v6, .int .u64 hi, .int .u64 lo, .int .i64 port, .int .i64 st, .int .i64 fl, .int .i64 nx] : Array Value).all (·.oneCell') = true := by kernel_rfl
theorem run_storeEnt {W : World} {g : Nat} {v6 : Bool} {hi lo port st fl nx : Int} (h : isRow W g 86 7 = true) : (storeEnt (.pointer (some ⟨g, 0, none⟩)) (.agg #[.bool v6, .int .u64 hi, .int .u64 lo, .int .i64 port, .int .i64 st, .int .i64 fl, .int .i64 nx])).run Try.prog W = .ok .skip (W.setRow g #[.bool v6, .int .u64 hi, .int .u64 lo, .int .i64 port, .int .i64 st, .int .i64 fl, .int .i64 nx]) := by
  obtain ⟨h2, h3⟩ := row_heap h
  simp only [storeEnt, Instr.storeAt, Instr.sureAddr, Sem.run_bind, Sem.run_pure, Result.andThen_ok, run_storeVar_row W g 86 86 _ #[.bool v6, .int .u64 hi, .int .u64 lo, .int .i64 port, .int .i64 st, .int .i64 fl, .int .i64 nx] h2 (by exact info86) (by rw [h3]; rfl) (ent_one v6 hi lo port st fl nx)]
theorem run_storeEnt_new (w : World) (g : Nat) (hg : g = w.heap.size) (v6 : Bool) (hi lo port st fl nx : Int) (old : Array Value) (ho : old.size = 7) :
    (storeEnt (.pointer (some ⟨g, 0, none⟩)) (.agg #[.bool v6, .int .u64 hi, .int .u64 lo, .int .i64 port, .int .i64 st, .int .i64 fl, .int .i64 nx])).run Try.prog (w.alloc (.cells old 86)) = .ok .skip (w.alloc (.cells #[.bool v6, .int .u64 hi, .int .u64 lo, .int .i64 port, .int .i64 st, .int .i64 fl, .int .i64 nx] 86)) := by
  subst hg
  rw [run_storeEnt (row_new w old 86 ho).1, setRow_new]
theorem row_setRow_other {W : World} {g y n : Nat} {t : TypeId} (D : Array Value) (hy : y ≠ g) : isRow (W.setRow y D) g t n = isRow W g t n ∧ rowOf (W.setRow y D) g = rowOf W g := by
  have : (W.setRow y D).heap[g]? = W.heap[g]? := by simp only [World.setRow, Array.getElem?_modify]; rw [if_neg hy]
  unfold isRow rowOf; rw [this]; exact ⟨rfl, rfl⟩

/-- A conf's box and an entry's box hold what they held, and nothing old has turned. -/
theorem heldCE {gc ge : Nat} {C E : Array Value} {wc W W' : World} (h : isRow W gc 43 16 = true ∧ rowOf W gc = C ∧ isRow W ge 86 7 = true ∧ rowOf W ge = E ∧ Below wc.heap.size wc W) (hb : Below W.heap.size W W') :
    isRow W' gc 43 16 = true ∧ rowOf W' gc = C ∧ isRow W' ge 86 7 = true ∧ rowOf W' ge = E ∧ Below wc.heap.size wc W' := by
  obtain ⟨h1, h2, h3, h4, h5⟩ := h
  obtain ⟨k1, k2⟩ := row_below hb h1
  obtain ⟨k3, k4⟩ := row_below hb h3
  exact ⟨k1, k2.trans h2, k3, k4.trans h4, h5.trans (hb.mono h5.size)⟩
theorem heldCE_below {gc ge : Nat} {C E : Array Value} {wc W : World} (h : isRow W gc 43 16 = true ∧ rowOf W gc = C ∧ isRow W ge 86 7 = true ∧ rowOf W ge = E ∧ Below wc.heap.size wc W) : Below wc.heap.size wc W := h.2.2.2.2
theorem heldCE_row {gc ge : Nat} {C E : Array Value} {wc W : World} (h : isRow W gc 43 16 = true ∧ rowOf W gc = C ∧ isRow W ge 86 7 = true ∧ rowOf W ge = E ∧ Below wc.heap.size wc W) : isRow W ge 86 7 = true := h.2.2.1
theorem heldCE_set {gc ge y : Nat} {C E D : Array Value} {wc W : World} (h : isRow W gc 43 16 = true ∧ rowOf W gc = C ∧ isRow W ge 86 7 = true ∧ rowOf W ge = E ∧ Below wc.heap.size wc W) (hc : gc < ge) (he : ge < y) (hy : wc.heap.size ≤ gc) :
    isRow (W.setRow y D) gc 43 16 = true ∧ rowOf (W.setRow y D) gc = C ∧ isRow (W.setRow y D) ge 86 7 = true ∧ rowOf (W.setRow y D) ge = E ∧ Below wc.heap.size wc (W.setRow y D) := by
  obtain ⟨h1, h2, h3, h4, h5⟩ := h
  obtain ⟨e1, e2⟩ := row_setRow_other (W := W) (g := gc) (y := y) (n := 16) (t := 43) D (by omega)
  obtain ⟨e3, e4⟩ := row_setRow_other (W := W) (g := ge) (y := y) (n := 7) (t := 86) D (by omega)
  exact ⟨e1.trans h1, e2.trans h2, e3.trans h3, e4.trans h4, below_setRow h5 (by omega) D⟩
theorem heldCE_swap {gc ge : Nat} {C E : Array Value} {wc W : World} {o o' : Obj} (h : isRow (W.alloc o) gc 43 16 = true ∧ rowOf (W.alloc o) gc = C ∧ isRow (W.alloc o) ge 86 7 = true ∧ rowOf (W.alloc o) ge = E ∧ Below wc.heap.size wc (W.alloc o)) (hc : gc < ge) (he : ge < W.heap.size) (hy : wc.heap.size ≤ gc) :
    isRow (W.alloc o') gc 43 16 = true ∧ rowOf (W.alloc o') gc = C ∧ isRow (W.alloc o') ge 86 7 = true ∧ rowOf (W.alloc o') ge = E ∧ Below wc.heap.size wc (W.alloc o') := by
  obtain ⟨h1, h2, h3, h4, h5⟩ := h
  rw [isRow_past _ _ _ _ _ (by omega)] at h1 h3
  rw [rowOf_past _ _ _ (by omega)] at h2 h4
  refine ⟨(isRow_past _ _ _ _ _ (by omega)).trans h1, (rowOf_past _ _ _ (by omega)).trans h2, (isRow_past _ _ _ _ _ (by omega)).trans h3, (rowOf_past _ _ _ (by omega)).trans h4, h5.os, h5.tape, h5.output, ?_, fun i hi => ?_⟩
  · have := h5.size; simpa using this
  · rw [Below.heap_alloc W o' i (by omega), ← Below.heap_alloc W o i (by omega)]; exact h5.block i hi
theorem heldCE_val {gc ge : Nat} {C E : Array Value} {wc W : World} (h : isRow W gc 43 16 = true ∧ rowOf W gc = C ∧ isRow W ge 86 7 = true ∧ rowOf W ge = E ∧ Below wc.heap.size wc W) : rowOf W ge = E := h.2.2.2.1
/-- Two entries' boxes hold what they held. -/
theorem heldEE {a b : Nat} {E F : Array Value} {v : Value} {w W W' : World} (h : isRow W a 86 7 = true ∧ rowOf W a = E ∧ isRow W b 86 7 = true ∧ rowOf W b = F ∧ W.cell? ⟨a, 5, none⟩ = some v ∧ Hid (Below w.heap.size w W)) (hb : Below W.heap.size W W') :
    isRow W' a 86 7 = true ∧ rowOf W' a = E ∧ isRow W' b 86 7 = true ∧ rowOf W' b = F ∧ W'.cell? ⟨a, 5, none⟩ = some v ∧ Hid (Below w.heap.size w W') := by
  obtain ⟨h1, h2, h3, h4, h5, h6⟩ := h
  obtain ⟨k1, k2⟩ := row_below hb h1
  obtain ⟨k3, k4⟩ := row_below hb h3
  exact ⟨k1, k2.trans h2, k3, k4.trans h4, (hb.cell (p := ⟨a, 5, none⟩) (row_lt h1)).trans h5, Lib.hid (h6.out.trans (hb.mono h6.out.size))⟩
/-- A fresh box of an entry, not yet stored into, laid behind the box ge. -/
def FreshE (ge : Nat) (W : World) (y : Nat) : Prop := isRow W y 86 7 = true ∧ ge < y
theorem freshE_later {ge : Nat} {W W' : World} {y : Nat} (hb : Below W.heap.size W W') (k : Hid (FreshE ge W y)) : FreshE ge W' y := ⟨(row_below hb k.out.1).1, k.out.2⟩
theorem freshE_new {ge : Nat} {W W' : World} {Z : Array Value} (hb : Below (W.alloc (.cells Z 86)).heap.size (W.alloc (.cells Z 86)) W') (hZ : Z.size = 7) (hS : ge < W.heap.size) : FreshE ge W' W.heap.size := ⟨(row_below hb (row_new W Z 86 hZ).1).1, hS⟩
end Go.Proofs.Ytdoofpanbcaigaa
