/-
  THE WALKS of layer 46 (clock): a step read whole, wherever it lies; counter, Leads.
-/
import Derived.Test.YtdoofpanbcaigaaBox
import Derived.Test.YtdoofpanbcaigaaSlices
import Derived.Test.YtdoofpanbcaigaaClass
namespace Go.Proofs.Ytdoofpanbcaigaa
open Go.RowKit
set_option linter.unusedVariables false

/-- The n cells from p on, and that they are there. -/
def rangeOf (W : World) (p : Addr) (n : Nat) : Array Value := ((List.range n).map fun k => (W.cell? (p.add k)).getD undef).toArray
def isRange (W : World) (p : Addr) (n : Nat) : Bool := (List.range n).all fun k => (W.cell? (p.add k)).isSome
theorem range_at {W : World} {p : Addr} {n : Nat} (h : isRange W p n = true) {k : Nat} (hk : k < n) : W.cell? (p.add k) = (rangeOf W p n)[k]? := by
  have h' := List.all_eq_true.1 h k (List.mem_range.2 hk)
  obtain ⟨v, hv⟩ := Option.isSome_iff_exists.1 h'
  simp [rangeOf, hk, hv]
theorem range_size (W : World) (p : Addr) (n : Nat) : (rangeOf W p n).size = n := by simp [rangeOf]
theorem range_of {W : World} {p : Addr} {n : Nat} {cs : List Value} (hn : cs.length = n) (h : ∀ k v, cs[k]? = some v → W.cell? (p.add k) = some v) : isRange W p n = true ∧ rangeOf W p n = cs.toArray := by
  have g : ∀ k, k < n → W.cell? (p.add k) = cs[k]? := fun k hk => by
    have hk' : k < cs.length := by omega
    rw [List.getElem?_eq_getElem hk', h k _ (List.getElem?_eq_getElem hk')]
  refine ⟨List.all_eq_true.2 fun k hk => ?_, ?_⟩
  · have hk' := List.mem_range.1 hk
    rw [g k hk', List.getElem?_eq_getElem (by omega)]; rfl
  · apply Array.ext_getElem?
    intro k
    by_cases hk : k < n
    · have hk' : k < cs.length := by omega
      simp [rangeOf, hk, g k hk, List.getElem?_eq_getElem hk']
    · have : cs.length ≤ k := by omega
      simp [rangeOf, hk, List.getElem?_eq_none this]
theorem range_same {W W' : World} {p : Addr} {n : Nat} (h : W'.heap[p.block]? = W.heap[p.block]?) : isRange W' p n = isRange W p n ∧ rangeOf W' p n = rangeOf W p n := by
  have g : ∀ k, W'.cell? (p.add k) = W.cell? (p.add k) := fun k => World.cell?_of_block (w := W) (by
    have e : (p.add k).block = p.block := by unfold Addr.add; split <;> rfl
    rw [e]; exact h)
  constructor
  · simp [isRange, g]
  · simp [rangeOf, g]
theorem info75 : (Try.prog.info? 75).map (·.size) = some 37 := by kernel_rfl
theorem load_75 {W : World} {p : Addr} (h : isRange W p 37 = true) : (loadVar 75 p).run Try.prog W = .ok (.agg (rangeOf W p 37)) W := by
  have hl : (loadCells p (rangeOf W p 37).toList.length).run Try.prog W = .ok (rangeOf W p 37).toList.toArray W :=
    run_loadCells_list (P := Try.prog) W p (rangeOf W p 37).toList (fun j v hv => by
      have hj : j < 37 := by
        have := (List.getElem?_eq_some_iff.1 hv).1
        simpa [rangeOf] using this
      rw [range_at h hj]; simpa using hv)
  simp only [Array.length_toList, Array.toArray_toList, range_size] at hl
  cases hq : Try.prog.info? 75 with
  | none => have := info75; rw [hq] at this; cases this
  | some i =>
    have hs : i.size = 37 := by have := info75; rw [hq] at this; simpa using this
    have hagg : (isAgg 75).run Try.prog W = .ok true W := by
      unfold isAgg
      rw [Sem.run_bind, run_underlying Try.underlying75 W]
      rfl
    simp [loadVar, Sem.run_bind, hagg, sizeOf, typeInfo, hq, hs, hl]
/-- A step is loaded: by one law. -/
def loadStep (v : Value) : Sem Next := do pure (.value (← Instr.loadAt 75 v))
theorem exec_load_75 (ρ : Operand → Value) (dst : Option Tmp) (x : Operand) (ty : TypeId) (pos : String) (after : Array Edge) (guard : Option (Nat × Bool)) :
    execOp ρ { dst, op := .load 75 x, type := ty, pos, after, guard } = loadStep (ρ x) := rfl
theorem run_loadStep {W : World} {p : Addr} (h : isRange W p 37 = true) : (loadStep (.pointer (some p))).run Try.prog W = .ok (.value (.agg (rangeOf W p 37))) W := by
  simp only [loadStep, Instr.loadAt, Instr.sureAddr, Sem.run_bind, Sem.run_pure, Result.andThen_ok, load_75 h]

/-- The number in a cell. -/
def intAt (C : Array Value) (i : Nat) : Int := match C[i]? with | some (.int _ n) => n | _ => 0
/-- A step's cells, of which five are read. -/
structure IsStep (C : Array Value) : Prop where
  size : C.size = 37
  who : C[0]? = some (.int .i64 (intAt C 0))
  kind : C[2]? = some (.int .i64 (intAt C 2))
  lock : C[3]? = some (.int .i64 (intAt C 3))
  loc : C[4]? = some (.int .i64 (intAt C 4))
  loc1 : C[5]? = some (.int .i64 (intAt C 5))
  loc2 : C[6]? = some (.int .i64 (intAt C 6))
  got : C[23]? = some (.int .i64 (intAt C 23))
/-- Does a step lead to another one? -/
def leads (A B : Array Value) : Bool :=
  intAt A 0 == intAt B 0 || intAt A 2 == 3 && intAt A 3 == intAt B 3 && (intAt B 2 == 1 || intAt B 2 == 2) || intAt A 2 == 4 && intAt A 3 == intAt B 3 && intAt B 2 == 1 ||
  intAt A 2 == 7 && intAt A 23 == 1 && (intAt A 4 == 1 || intAt A 4 == 2) && intAt A 4 == intAt B 4 && (intAt B 2 == 5 || intAt B 2 == 7)

set_option maxHeartbeats 1000000 in
/-- clock.counter. -/
theorem counter_any (k s t : Value) (n : Int) (hk : k = .int .i64 n) (w : World) : Calls Try.prog 85 #[.agg #[k, s, t]] w fun e w' => e = .returned (.bool (n == 1 || n == 2)) ∧ Below w.heap.size w w' := by
  subst hk
  go_enter Try.func85, Try.ntmps85
  go_wp2
  all_goals go_ret
  all_goals exact ⟨ret_bool (by simp_all), (Below.refl _ _).alloc (Nat.le_refl _) _⟩

set_option maxRecDepth 100000 in
set_option maxHeartbeats 4000000 in
/-- doormanref46.Leads. -/
theorem rleads_any {A B : Array Value} (hA : IsStep A) (hB : IsStep B) (w : World) : Calls Try.prog 62 #[.agg A, .agg B] w fun e w' => e = .returned (.bool (leads A B)) ∧ Below w.heap.size w w' := by
  have E : Hid (leads A B = _) := Lib.hid (by unfold leads; rfl)
  obtain ⟨-, a0, a2, a3, a4, a5, a6, a23⟩ := hA
  obtain ⟨-, b0, b2, b3, b4, -, -, b23⟩ := hB
  generalize leads A B = R at *
  generalize intAt A 0 = x0 at *
  generalize intAt A 2 = x2 at *
  generalize intAt A 3 = x3 at *
  generalize intAt A 4 = x4 at *
  generalize intAt A 23 = x23 at *
  generalize intAt B 0 = y0 at *
  generalize intAt B 2 = y2 at *
  generalize intAt B 3 = y3 at *
  generalize intAt B 4 = y4 at *
  generalize intAt B 23 = y23 at *
  go_enter Try.func62, Try.ntmps62
  go_wp2
  all_goals go_ret
  all_goals exact ⟨ret_bool (by rw [E.out, Bool.eq_iff_iff]; simp_all), ((Below.refl _ _).alloc (Nat.le_refl _) _).alloc (by simp) _⟩

set_option maxRecDepth 100000 in
set_option maxHeartbeats 4000000 in
/-- clock.Leads. -/
theorem leads_any {A B : Array Value} (hA : IsStep A) (hB : IsStep B) (w : World) : Calls Try.prog 61 #[.agg A, .agg B] w fun e w' => e = .returned (.bool (leads A B)) ∧ Below w.heap.size w w' := by
  have E : Hid (leads A B = _) := Lib.hid (by unfold leads; rfl)
  obtain ⟨-, a0, a2, a3, a4, a5, a6, a23⟩ := hA
  obtain ⟨-, b0, b2, b3, b4, -, -, b23⟩ := hB
  generalize leads A B = R at *
  generalize intAt A 0 = x0 at *
  generalize intAt A 2 = x2 at *
  generalize intAt A 3 = x3 at *
  generalize intAt A 4 = x4 at *
  generalize intAt A 5 = x5 at *
  generalize intAt A 6 = x6 at *
  generalize intAt A 23 = x23 at *
  generalize intAt B 0 = y0 at *
  generalize intAt B 2 = y2 at *
  generalize intAt B 3 = y3 at *
  generalize intAt B 4 = y4 at *
  generalize intAt B 23 = y23 at *
  have HB0 : Hid (Below w.heap.size w ((w.alloc (.cells A 75)).alloc (.cells B 75))) := Lib.hid (((Below.refl _ _).alloc (Nat.le_refl _) _).alloc (by simp) _)
  go_enter Try.func61, Try.ntmps61
  go_wp2_with (first
    | (go_at_call 85; refine (counter_any _ _ _ x4 rfl _).mono ?_; rintro e w1 ⟨rfl, hb⟩
       obtain ⟨k0, m0, k1, m1, hz⟩ := boxes2 hb
       have c4 : w1.cell? ⟨w.heap.size, 4, none⟩ = some (.int .i64 x4) := k0 4 _ a4
       have d4 : w1.cell? ⟨w.heap.size + 1, 4, none⟩ = some (.int .i64 y4) := k1 4 _ b4
       have HB1 : Hid (Below w.heap.size w w1) := Lib.hid (HB0.out.trans (hb.mono (by simp; omega)))
       clear hb k0 k1 m0 m1 hz))
  all_goals go_ret
  all_goals exact ⟨ret_bool (by rw [E.out, Bool.eq_iff_iff]; simp_all), by first | exact Hid.out (by assumption) | exact HB0.out⟩
end Go.Proofs.Ytdoofpanbcaigaa
