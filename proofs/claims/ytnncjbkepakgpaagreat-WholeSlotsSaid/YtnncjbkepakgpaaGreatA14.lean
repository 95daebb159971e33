/-
  THE TAPE: an operation cleaned; ask.
  THE TAPE'S METHODS.
  LOCKS AND COUNTERS, BY ONE.
  A REGION THAT DRAWS, WHOSE READS COME FIRST: what is left of it, in each order that is left (few).
-/
import Derived.Test.YtnncjbkepakgpaaGreatA13
import Derived.Test.YtnncjbkepakgpaaGreatA07
import Derived.Test.YtnncjbkepakgpaaGreatA09
import Derived.Test.YtnncjbkepakgpaaGreatA10
namespace Go.Proofs.YtnncjbkepakgpaaGreat
set_option linter.unusedVariables false
set_option linter.unusedSimpArgs false
set_option maxRecDepth 100000
set_option maxHeartbeats 4000000
section
open Go.RowKit
attribute [local go_sem ↓] exec_load_103 exec_store_103 exec_load_105 exec_store_105 exec_load_101 exec_store_101
attribute [local go_sem] run_load103 run_load103r run_store103 run_load105 run_load105r run_store105 run_load101 run_load101r run_store101 isRow_new rowOf_new isRow_past rowOf_past isRow_drew rowOf_drew setRow_new setRow_past isRange_past rangeOf_past isRange_drew rangeOf_drew one_int one_bool one_slice one_ptr ones_lit onesL_nil onesL_cons isRow_set rowOf_set
attribute [local go_sem] lt2 lt3
theorem cells21 {O : Array Value} (h : O.size = 21) : ∃ x0 x1 x2 x3 x4 x5 x6 x7 x8 x9 x10 x11 x12 x13 x14 x15 x16 x17 x18 x19 x20 : Value, O = #[x0, x1, x2, x3, x4, x5, x6, x7, x8, x9, x10, x11, x12, x13, x14, x15, x16, x17, x18, x19, x20] := by
  obtain ⟨l⟩ := O
  match l, h with
  | [x0, x1, x2, x3, x4, x5, x6, x7, x8, x9, x10, x11, x12, x13, x14, x15, x16, x17, x18, x19, x20], _ => exact ⟨_, _, _, _, _, _, _, _, _, _, _, _, _, _, _, _, _, _, _, _, _, rfl⟩
theorem fold_whole {Z O : Array Value} (hZ : Z.size = 21) (hO : O.size = 21) : Array.foldl (fun cs x => cs.setIfInBounds x.snd x.fst) Z O.zipIdx 0 21 = O := by
  obtain ⟨_, _, _, _, _, _, _, _, _, _, _, _, _, _, _, _, _, _, _, _, _, rfl⟩ := cells21 hZ
  obtain ⟨_, _, _, _, _, _, _, _, _, _, _, _, _, _, _, _, _, _, _, _, _, rfl⟩ := cells21 hO
  simp
/-- What a code that is left at an operation panics with. -/
def pauseV (O : Array Value) : Value := .iface 279 (.agg O)
/-- ask, behind the last value: it panics. -/
theorem ask_end (T : Nat) (a : Option Addr) (cap : Nat) (O : Array Value) (hO : O.size = 21) (w : World) (ht : w.cell? ⟨T, 0, none⟩ = some (.slice a 0 cap)) (hT : T < w.heap.size)
    (hc : ∀ w, Calls Tryz.prog 431 #[.agg O] w fun e w' => e = .returned (.agg O) ∧ Below w.heap.size w w') :
    Calls Tryz.prog 430 #[.pointer (some ⟨T, 0, none⟩), .agg O] w fun e w' => e = .panicked [{ v := pauseV O, recovered := false }] ∧ Below w.heap.size w w' := by
  have hT2 : T < w.heap.size + 1 := by omega
  have HC := Lib.hid hc
  have hfw := fun (Z : Array Value) (hZ : Z.size = 21) => fold_whole hZ hO
  clear hc
  go_enter Tryz.func430, Tryz.ntmps430
  go_wp2_with fail
  refine (HC.out _).mono ?_; rintro e w1 ⟨rfl, hb⟩
  have HB : Hid (Below w.heap.size w w1) := Lib.hid ((((Below.refl _ _).alloc (Nat.le_refl _) _).alloc (by simp) _).trans (hb.mono (by simp; omega)))
  clear hb
  go_wp2
  exact ⟨rfl, rfl, HB.out⟩
/-- The values from the tape's place on: N of them, each of thirteen cells. -/
def GotAt (W : World) (a : Option Addr) (N : Nat) (G : Nat → Array Value) : Prop := ∀ i, i < N → ∃ b, a = some b ∧ isRange W (b.add (i * 13)) 13 = true ∧ rangeOf W (b.add (i * 13)) 13 = G i ∧ b.block < W.heap.size
/-- The tape's place has gone on by one value; N are left. -/
def NextAt (T : Nat) (w : World) (b : Addr) (N cap : Nat) (w' : World) : Prop :=
  Upto T w w' ∧ ∃ a' cap', w'.cell? ⟨T, 0, none⟩ = some (.slice a' N cap') ∧ w'.frozen? ⟨T, 0, none⟩ = false ∧ N ≤ cap' ∧ cap' ≤ cap ∧ (0 < N → a' = some (b.add 13)) ∧ (a' = some b ∨ a' = some (b.add 13))
/-- ask: the next value. -/
theorem ask_next (T : Nat) (b : Addr) (N cap : Nat) (O V : Array Value) (w : World) (ht : w.cell? ⟨T, 0, none⟩ = some (.slice (some b) (N + 1) cap)) (hf : w.frozen? ⟨T, 0, none⟩ = false) (hT : T < w.heap.size) (hN : N + 1 ≤ cap) (hcap : cap ≤ maxLen)
    (h1 : isRange w b 13 = true) (h2 : rangeOf w b 13 = V) (hV : ones V = true) (hVs : V.size = 13) (hb : b.block < w.heap.size) :
    Calls Tryz.prog 430 #[.pointer (some ⟨T, 0, none⟩), .agg O] w fun e w' => e = .returned (.agg V) ∧ NextAt T w b N cap w' := by
  have hT2 : T < w.heap.size + 1 := by omega
  have hT3 : T < w.heap.size + 1 + 1 := by omega
  have hb2 : b.block < w.heap.size + 1 := by omega
  have hb3 : b.block < w.heap.size + 1 + 1 := by omega
  have hNz : ((N : Int) + 1 == 0) = false := by simp; omega
  have key : ∀ (cap : Nat) (a' : Option Addr) (cap' : Nat), N ≤ cap' → cap' ≤ cap → (0 < N → a' = some (b.add 13)) → (a' = some b ∨ a' = some (b.add 13)) → ∀ (W' : World), W' = (((w.setCell ⟨T, 0, none⟩ (.slice a' N cap')).alloc (.cells O 105)).alloc (.cells V 103)).alloc (.cells V 103) →
      NextAt T w b N cap W' := by
    rintro cap a' cap' k1 k2 k3 k4 W' rfl
    have hu : Upto T (w.setCell ⟨T, 0, none⟩ (.slice a' N cap')) ((((w.setCell ⟨T, 0, none⟩ (.slice a' N cap')).alloc (.cells O 105)).alloc (.cells V 103)).alloc (.cells V 103)) := (((Upto.refl _ _).alloc _).alloc _).alloc _
    have hbl : Below w.heap.size (w.setCell ⟨T, 0, none⟩ (.slice a' N cap')) ((((w.setCell ⟨T, 0, none⟩ (.slice a' N cap')).alloc (.cells O 105)).alloc (.cells V 103)).alloc (.cells V 103)) :=
      (((Below.refl _ _).alloc (by simp [World.setCell]) _).alloc (by simp [World.setCell]) _).alloc (by simp [World.setCell]; omega) _
    refine ⟨((Upto.refl T w).set 0 _).trans hu, a', cap', ?_, ?_, k1, k2, k3, k4⟩
    · rw [hbl.cell (p := ⟨T, 0, none⟩) hT, World.cell?_setCell_same _ _ _ ht]
    · rw [hbl.frozen (p := ⟨T, 0, none⟩) hT]; simpa using hf
  have HK := Lib.hid key
  clear key
  go_enter Tryz.func430, Tryz.ntmps430
  go_wp2
  all_goals refine bodyPost_ret (v := .agg V) (res_row (t := 103) Tryz.results430 _ _ _ rfl (by simp [go_sem, hVs]) (by simp [go_sem]) info103 agg103) rfl ⟨rfl, ?_⟩
  all_goals first
    | exact HK.out 1 (some b) 0 (by omega) (by omega) (fun h => by omega) (.inl rfl) _ rfl
    | exact HK.out cap (some ⟨b.block, b.off + 13, none⟩) (cap - 1) (by omega) (by omega) (fun _ => rfl) (.inr rfl) _ rfl
/-- op.Clean. -/
theorem clean_op (o : Pm.Op) (w : World) : Calls Tryz.prog 431 #[.agg (opC o)] w fun e w' => e = .returned (.agg (opC o)) ∧ Below w.heap.size w w' := by
  cases o with
  | lock k => exact clean_lock k w
  | share => exact clean_share w
  | free k m => exact clean_free k m w
  | drop => exact clean_drop w
  | bans => exact clean_bans w
  | inn => exact clean_inn w
  | size p => exact clean_size p w
  | slot p i => exact clean_slot p i w
  | wslot p i c => exact clean_wslot p i c w
  | wsize p n => exact clean_wsize p n w
  | swap n => exact clean_swap n w
/-- The tape in block T: the values L are to come. -/
structure TapeAt (W : World) (T : Nat) (L : List Pm.Val) : Prop where
  lt : T < W.heap.size
  fr : W.frozen? ⟨T, 0, none⟩ = false
  at' : ∃ v, W.cell? ⟨T, 0, none⟩ = some v ∧ Sl W v 13 (L.map valC) ∧ ∀ b, v.ownBlock = some b → b < T
theorem TapeAt.below {W W' : World} {T : Nat} {L : List Pm.Val} (h : TapeAt W T L) (hb : Below W.heap.size W W') : TapeAt W' T L := by
  obtain ⟨h1, h2, v, h3, h4, h5⟩ := h
  exact ⟨Nat.lt_of_lt_of_le h1 hb.size, by rw [hb.frozen (p := ⟨T, 0, none⟩) h1]; exact h2, v, by rw [hb.cell (p := ⟨T, 0, none⟩) h1]; exact h3, h4.below hb, h5⟩
theorem Upto.frozen {T : Nat} {w w' : World} (h : Upto T w w') {p : Addr} (hp : p.block < w.heap.size) (hT : p.block ≠ T) : w'.frozen? p = w.frozen? p := by
  unfold World.frozen?; rw [h.block _ hp hT]
/-- ask: the next value, or a panic. -/
theorem ask_law (T : Nat) (L : List Pm.Val) (o : Pm.Op) (w : World) (h : TapeAt w T L) : Calls Tryz.prog 430 #[.pointer (some ⟨T, 0, none⟩), .agg (opC o)] w fun e w' => Upto T w w' ∧ match L with
    | [] => e = .panicked [{ v := pauseV (opC o), recovered := false }]
    | v :: r => e = .returned (.agg (valC v)) ∧ TapeAt w' T r := by
  obtain ⟨h1, h2, v, h3, h4, h5⟩ := h
  obtain ⟨a, cap, rfl, c1, c2, c3⟩ := h4
  cases L with
  | nil => exact (ask_end T a cap (opC o) (opC_size o) w h3 h1 (clean_op o)).mono fun e w' ⟨k1, k2⟩ => ⟨Upto.of_below k2, k1⟩
  | cons x r =>
    rcases c3 with ⟨_, c3⟩ | ⟨g, o', rfl, hg, c3⟩
    · simp at c3
    · have hx := c3 0 (valC x) rfl
      simp only [Nat.zero_mul, Nat.add_zero] at hx
      simp only [List.map_cons, List.length_cons, List.length_map] at h3 c1
      refine (ask_next T ⟨g, o', none⟩ r.length cap (opC o) (valC x) w h3 h2 h1 c1 c2 hx.is hx.of hx.one (valC_size x) hg).mono fun e w' ⟨k1, k2, a', cap', k3, k4, k5, k6, k7, k8⟩ => ⟨k2, k1, ?_⟩
      have hgl : g < T := h5 g rfl
      have hgT : g ≠ T := by omega
      refine ⟨Nat.lt_of_lt_of_le h1 k2.size, k4, _, k3, ⟨a', cap', by simp, by simpa using k5, Nat.le_trans k6 c2, ?_⟩, ?_⟩
      · cases r with
        | nil =>
          rcases k8 with rfl | rfl
          · exact .inr ⟨g, o', rfl, Nat.lt_of_lt_of_le hg k2.size, fun i C hC => by simp at hC⟩
          · exact .inr ⟨g, o' + 13, by rw [addr_add], Nat.lt_of_lt_of_le hg k2.size, fun i C hC => by simp at hC⟩
        | cons y r =>
          refine .inr ⟨g, o' + 13, by rw [k7 (by simp), addr_add], Nat.lt_of_lt_of_le hg k2.size, fun i C hC => ?_⟩
          have := c3 (i + 1) C (by simpa using hC)
          rw [show o' + 13 + i * 13 = o' + (i + 1) * 13 by omega]
          exact this.block (k2.block g hg hgT)
      · rcases k8 with rfl | rfl
        · exact h5
        · rw [addr_add]; exact fun b e => by simp only [Value.ownBlock, Option.some.injEq] at e; omega
end
section
open Go.RowKit
attribute [local go_sem ↓] exec_load_101 exec_store_101 exec_load_103 exec_store_103 exec_load_105 exec_store_105
attribute [local go_sem] run_load101r run_store101 run_load103r run_store103 run_load105r run_store105 isRng_new rngOf_new isRange_past rangeOf_past isRange_drew rangeOf_drew fits_new fits_past fits_drew setAt_new setAt_past setAt_drew putAt_whole putAt_lit extract_whole extract_lit one_int one_bool one_slice one_ptr ones_lit onesL_nil onesL_cons isRow_new rowOf_new isRow_past rowOf_past isRow_drew rowOf_drew lt2 lt3 lt4 List.take_succ_cons List.take_zero List.drop_succ_cons List.drop_zero List.cons_append List.nil_append List.length_cons List.length_nil List.size_toArray sr_size sr_row sr_row' sr_isRow sr_isRow' sr_fits' sr_cell' sr_frozen' sr_isRange' sr_rangeOf' sr_isCells isCells_new isCells_past isCells_drew valC_size valC_ones opC_size opC_ones replyC_size
theorem packMeth1 {p : Prop} (h : PQ p := by
  have HT := Lib.hid h
  have hlt := h.lt
  have hn0 : ¬ (w.heap.size = T) := by omega
  have hn1 : ¬ (w.heap.size + 1 = T) := by omega
  have hn2 : ¬ (w.heap.size + 1 + 1 = T) := by omega
  exact pq (And.intro HT (And.intro hlt (And.intro hn0 (And.intro hn1 hn2))))) : p := h
theorem tailMeth1 {p : Prop} (h : p := by
  exact bodyPost_ret (v := .agg _) (res_row (t := 103) Tryz.results424 _ _ _ rfl (by simp [go_sem, *]) (by simp [go_sem, *]) info103 agg103) rfl ⟨upto_setRow ((Upto.of_below (bk6)).trans hu) (by simp) _, rfl, tape_setRow hA (by omega) _⟩) : p := h
theorem tailMeth2 {p : Prop} (h : p := by
  exact bodyPost_end (results_none rfl _ _ _) rfl ⟨(Upto.of_below (bk6)).trans hu, rfl, hA⟩) : p := h
/-- What a method of the tape answers: the next value, or a panic. -/
def Asked (T : Nat) (L : List Pm.Val) (o : Pm.Op) (ret : Pm.Val → Value) (w : World) (e : Ending) (w' : World) : Prop := Upto T w w' ∧ match L with
  | [] => e = .panicked [{ v := pauseV (opC o), recovered := false }]
  | v :: r => e = .returned (ret v) ∧ TapeAt w' T r
def isOne : Pm.Val → Bool
  | .num n => n == 1
  | .who _ => (0 : Int) == 1
theorem upto_setRow {T : Nat} {a w : World} (h : Upto T a w) {g : Nat} (hg : a.heap.size ≤ g) (C : Array Value) : Upto T a (w.setRow g C) := by
  obtain ⟨h1, h2, h3, h4, h5⟩ := h
  refine ⟨h1, h2, h3, by rw [sr_size]; exact h4, fun k hk hT => ?_⟩
  rw [setRow_heap_other w g k C (by omega)]
  exact h5 k hk hT
theorem upto_setAt {T : Nat} {a w : World} (h : Upto T a w) {g : Nat} (hg : a.heap.size ≤ g) (o : Nat) (C : Array Value) : Upto T a (setAt w g o C) := upto_setRow h hg _
theorem tape_setRow {T : Nat} {L : List Pm.Val} {w : World} (h : TapeAt w T L) {g : Nat} (hg : T < g) (C : Array Value) : TapeAt (w.setRow g C) T L := by
  obtain ⟨h1, h2, v, h3, h4, h5⟩ := h
  refine ⟨by rw [sr_size]; exact h1, by rw [sr_frozen' _ _ _ _ (by show T ≠ g; omega)]; exact h2, v, by rw [sr_cell' _ _ _ _ (by show T ≠ g; omega)]; exact h3, h4.same (by rw [sr_size]; exact Nat.le_refl _) fun b hb _ => setRow_heap_other _ _ _ _ (by have := h5 b hb; omega), h5⟩
/-- What a call leaves that turns the tape. -/
theorem alikeU {T : Nat} {w w1 : World} (h : Upto T w w1) : (∀ g t n, g < w.heap.size → g ≠ T → isRow w1 g t n = isRow w g t n) ∧ (∀ g, g < w.heap.size → g ≠ T → rowOf w1 g = rowOf w g) ∧ (∀ g o n, g < w.heap.size → g ≠ T → isRange w1 ⟨g, o, none⟩ n = isRange w ⟨g, o, none⟩ n) ∧ (∀ g o n, g < w.heap.size → g ≠ T → rangeOf w1 ⟨g, o, none⟩ n = rangeOf w ⟨g, o, none⟩ n) ∧
    (∀ g o n, g < w.heap.size → g ≠ T → fitsAt w1 g o n = fitsAt w g o n) ∧ (∀ g o, g < w.heap.size → g ≠ T → w1.cell? ⟨g, o, none⟩ = w.cell? ⟨g, o, none⟩) ∧ (∀ g o, g < w.heap.size → g ≠ T → w1.frozen? ⟨g, o, none⟩ = w.frozen? ⟨g, o, none⟩) ∧ (∀ g, g < w.heap.size → g ≠ T → isCells w1 g = isCells w g) ∧ w.heap.size ≤ w1.heap.size ∧ ∀ g, g < w.heap.size → g < w1.heap.size := by
  refine ⟨fun g t n hg hT => ?_, fun g hg hT => ?_, fun g o n hg hT => ?_, fun g o n hg hT => ?_, fun g o n hg hT => ?_, fun g o hg hT => ?_, fun g o hg hT => ?_, fun g hg hT => ?_, h.size, fun g hg => Nat.lt_of_lt_of_le hg h.size⟩
  · unfold isRow; rw [h.block g hg hT]
  · unfold rowOf; rw [h.block g hg hT]
  · exact (range_same (h.block g hg hT)).1
  · exact (range_same (h.block g hg hT)).2
  · unfold fitsAt; rw [h.block g hg hT]
  · exact World.cell?_of_block (h.block g hg hT)
  · unfold World.frozen?; rw [h.block g hg hT]
  · unfold isCells; rw [h.block g hg hT]
theorem alkU {T : Nat} {w w1 : World} {p : Prop} (h : Upto T w w1) (s : w.heap.size ≤ w1.heap.size → p := by first | (intro hx; simp at hx; exact hx) | exact fun hx => hx) : (∀ g t n, g < w.heap.size → g ≠ T → isRow w1 g t n = isRow w g t n) ∧ (∀ g, g < w.heap.size → g ≠ T → rowOf w1 g = rowOf w g) ∧ (∀ g o n, g < w.heap.size → g ≠ T → isRange w1 ⟨g, o, none⟩ n = isRange w ⟨g, o, none⟩ n) ∧ (∀ g o n, g < w.heap.size → g ≠ T → rangeOf w1 ⟨g, o, none⟩ n = rangeOf w ⟨g, o, none⟩ n) ∧ (∀ g o n, g < w.heap.size → g ≠ T → fitsAt w1 g o n = fitsAt w g o n) ∧ (∀ g o, g < w.heap.size → g ≠ T → w1.cell? ⟨g, o, none⟩ = w.cell? ⟨g, o, none⟩) ∧ (∀ g o, g < w.heap.size → g ≠ T → w1.frozen? ⟨g, o, none⟩ = w.frozen? ⟨g, o, none⟩) ∧ (∀ g, g < w.heap.size → g ≠ T → isCells w1 g = isCells w g) ∧ p ∧ (∀ g, g < w.heap.size → g < w1.heap.size) ∧ ∀ g, g < w.heap.size → g ≤ w1.heap.size := by
  obtain ⟨x1, x2, x3, x4, x5, x6, x7, x8, x9, x10⟩ := alikeU h
  exact ⟨x1, x2, x3, x4, x5, x6, x7, x8, s x9, x10, fun g h => Nat.le_of_lt (x10 g h)⟩
theorem f103_0 (x0 x1 x2 x3 x4 x5 x6 x7 x8 x9 x10 x11 x12 : Value) (w : World) : (Instr.field 103 (.agg #[x0, x1, x2, x3, x4, x5, x6, x7, x8, x9, x10, x11, x12]) 0).run Tryz.prog w = .ok (x0) w := by kernel_rfl
theorem f103_1 (x0 x1 x2 x3 x4 x5 x6 x7 x8 x9 x10 x11 x12 : Value) (w : World) : (Instr.field 103 (.agg #[x0, x1, x2, x3, x4, x5, x6, x7, x8, x9, x10, x11, x12]) 1).run Tryz.prog w = .ok (.agg #[x1, x2, x3, x4, x5, x6, x7, x8, x9, x10]) w := by kernel_rfl
theorem f103_2 (x0 x1 x2 x3 x4 x5 x6 x7 x8 x9 x10 x11 x12 : Value) (w : World) : (Instr.field 103 (.agg #[x0, x1, x2, x3, x4, x5, x6, x7, x8, x9, x10, x11, x12]) 2).run Tryz.prog w = .ok (x11) w := by kernel_rfl
theorem f57_2 (x0 x1 x2 : Value) (w : World) : (Instr.field 57 (.agg #[x0, x1, x2]) 2).run Tryz.prog w = .ok (x2) w := by kernel_rfl
theorem f64_0 (x0 x1 x2 x3 x4 x5 x6 x7 : Value) (w : World) : (Instr.field 64 (.agg #[x0, x1, x2, x3, x4, x5, x6, x7]) 0).run Tryz.prog w = .ok (x0) w := by kernel_rfl
theorem f103_num (n : Int) (w : World) : (Instr.field 103 (.agg (valC (.num n))) 0).run Tryz.prog w = .ok (.int .i64 n) w := f103_0 _ _ _ _ _ _ _ _ _ _ _ _ _ _
theorem f103_nowho (c : Nat) (w : World) : (Instr.field 103 (.agg (valC (.who c))) 0).run Tryz.prog w = .ok (.int .i64 0) w := f103_0 _ _ _ _ _ _ _ _ _ _ _ _ _ _
theorem f103_who (c : Nat) (w : World) : (Instr.field 103 (.agg (valC (.who c))) 1).run Tryz.prog w = .ok (.agg (peerC c)) w := f103_1 _ _ _ _ _ _ _ _ _ _ _ _ _ _
theorem f103_bans (v : Pm.Val) (w : World) : (Instr.field 103 (.agg (valC v)) 2).run Tryz.prog w = .ok (.slice none 0 0) w := by cases v <;> exact f103_2 _ _ _ _ _ _ _ _ _ _ _ _ _ _
attribute [local go_sem] f103_num f103_nowho f103_who f103_bans
theorem t_lock (T : Nat) (L : List Pm.Val) (k : Nat) (w : World) (h : TapeAt w T L) : Calls Tryz.prog 425 #[.pointer (some ⟨T, 0, none⟩), .int .i64 k, .bool false] w (Asked T L (.lock k) (fun v => .tuple #[]) w) := by
  obtain ⟨HT, hlt, hn0, hn1, hn2⟩ := packMeth1
  clear h
  cases L with
  | nil =>
    go_enter Tryz.func425, Tryz.ntmps425
    go_wp2_with (go_at_call 430; refine (ask_law T [] (.lock k) _ (HT.out.below (bk6))).mono ?_; rintro e w1 ⟨hu, rfl⟩)
    exact ⟨rfl, (Upto.of_below (bk6)).trans hu, rfl⟩
  | cons x r =>
    go_enter Tryz.func425, Tryz.ntmps425
    go_wp2_with (go_at_call 430; refine (ask_law T (x :: r) (.lock k) _ (HT.out.below (bk6))).mono ?_; rintro e w1 ⟨hu, rfl, hA⟩; obtain ⟨x1, x2, x3, x4, x5, x6, x7, x8, x9, x10⟩ := alikeU hu)
    exact tailMeth2
theorem t_load_inn (T : Nat) (L : List Pm.Val)  (w : World) (h : TapeAt w T L) : Calls Tryz.prog 424 #[.pointer (some ⟨T, 0, none⟩), .agg #[.int .i64 1, .int .i64 0, .int .i64 0], .bool false] w (Asked T L (.inn) (fun v => .agg (valC v)) w) := by
  obtain ⟨HT, hlt, hn0, hn1, hn2⟩ := packMeth1
  clear h
  cases L with
  | nil =>
    go_enter Tryz.func424, Tryz.ntmps424
    go_wp2_with (go_at_call 430; refine (ask_law T [] (.inn) _ (HT.out.below (bk6))).mono ?_; rintro e w1 ⟨hu, rfl⟩)
    exact ⟨rfl, (Upto.of_below (bk6)).trans hu, rfl⟩
  | cons x r =>
    go_enter Tryz.func424, Tryz.ntmps424
    go_wp2_with (go_at_call 430; refine (ask_law T (x :: r) (.inn) _ (HT.out.below (bk6))).mono ?_; rintro e w1 ⟨hu, rfl, hA⟩; obtain ⟨x1, x2, x3, x4, x5, x6, x7, x8, x9, x10⟩ := alikeU hu)
    exact tailMeth1
theorem t_load_bans (T : Nat) (L : List Pm.Val)  (w : World) (h : TapeAt w T L) : Calls Tryz.prog 424 #[.pointer (some ⟨T, 0, none⟩), .agg #[.int .i64 3, .int .i64 0, .int .i64 0], .bool false] w (Asked T L (.bans) (fun v => .agg (valC v)) w) := by
  obtain ⟨HT, hlt, hn0, hn1, hn2⟩ := packMeth1
  clear h
  cases L with
  | nil =>
    go_enter Tryz.func424, Tryz.ntmps424
    go_wp2_with (go_at_call 430; refine (ask_law T [] (.bans) _ (HT.out.below (bk6))).mono ?_; rintro e w1 ⟨hu, rfl⟩)
    exact ⟨rfl, (Upto.of_below (bk6)).trans hu, rfl⟩
  | cons x r =>
    go_enter Tryz.func424, Tryz.ntmps424
    go_wp2_with (go_at_call 430; refine (ask_law T (x :: r) (.bans) _ (HT.out.below (bk6))).mono ?_; rintro e w1 ⟨hu, rfl, hA⟩; obtain ⟨x1, x2, x3, x4, x5, x6, x7, x8, x9, x10⟩ := alikeU hu)
    exact tailMeth1
theorem t_load_size (T : Nat) (L : List Pm.Val) (p : Nat) (w : World) (h : TapeAt w T L) : Calls Tryz.prog 424 #[.pointer (some ⟨T, 0, none⟩), .agg #[.int .i64 5, .int .i64 p, .int .i64 0], .bool false] w (Asked T L (.size p) (fun v => .agg (valC v)) w) := by
  obtain ⟨HT, hlt, hn0, hn1, hn2⟩ := packMeth1
  clear h
  cases L with
  | nil =>
    go_enter Tryz.func424, Tryz.ntmps424
    go_wp2_with (go_at_call 430; refine (ask_law T [] (.size p) _ (HT.out.below (bk6))).mono ?_; rintro e w1 ⟨hu, rfl⟩)
    exact ⟨rfl, (Upto.of_below (bk6)).trans hu, rfl⟩
  | cons x r =>
    go_enter Tryz.func424, Tryz.ntmps424
    go_wp2_with (go_at_call 430; refine (ask_law T (x :: r) (.size p) _ (HT.out.below (bk6))).mono ?_; rintro e w1 ⟨hu, rfl, hA⟩; obtain ⟨x1, x2, x3, x4, x5, x6, x7, x8, x9, x10⟩ := alikeU hu)
    exact tailMeth1
theorem t_load_slot (T : Nat) (L : List Pm.Val) (p i : Nat) (w : World) (h : TapeAt w T L) : Calls Tryz.prog 424 #[.pointer (some ⟨T, 0, none⟩), .agg #[.int .i64 6, .int .i64 p, .int .i64 i], .bool false] w (Asked T L (.slot p i) (fun v => .agg (valC v)) w) := by
  obtain ⟨HT, hlt, hn0, hn1, hn2⟩ := packMeth1
  clear h
  cases L with
  | nil =>
    go_enter Tryz.func424, Tryz.ntmps424
    go_wp2_with (go_at_call 430; refine (ask_law T [] (.slot p i) _ (HT.out.below (bk6))).mono ?_; rintro e w1 ⟨hu, rfl⟩)
    exact ⟨rfl, (Upto.of_below (bk6)).trans hu, rfl⟩
  | cons x r =>
    go_enter Tryz.func424, Tryz.ntmps424
    go_wp2_with (go_at_call 430; refine (ask_law T (x :: r) (.slot p i) _ (HT.out.below (bk6))).mono ?_; rintro e w1 ⟨hu, rfl, hA⟩; obtain ⟨x1, x2, x3, x4, x5, x6, x7, x8, x9, x10⟩ := alikeU hu)
    exact tailMeth1
theorem t_free (T : Nat) (L : List Pm.Val) (k : Nat) (m : Bool) (w : World) (h : TapeAt w T L) : Calls Tryz.prog 423 #[.pointer (some ⟨T, 0, none⟩), .int .i64 k, .bool m] w (Asked T L (.free k m) (fun v => .tuple #[]) w) := by
  obtain ⟨HT, hlt, hn0, hn1, hn2⟩ := packMeth1
  clear h
  cases L with
  | nil =>
    go_enter Tryz.func423, Tryz.ntmps423
    go_wp2_with (go_at_call 430; refine (ask_law T [] (.free k m) _ (HT.out.below (bk6))).mono ?_; rintro e w1 ⟨hu, rfl⟩)
    exact ⟨rfl, (Upto.of_below (bk6)).trans hu, rfl⟩
  | cons x r =>
    go_enter Tryz.func423, Tryz.ntmps423
    go_wp2_with (go_at_call 430; refine (ask_law T (x :: r) (.free k m) _ (HT.out.below (bk6))).mono ?_; rintro e w1 ⟨hu, rfl, hA⟩; obtain ⟨x1, x2, x3, x4, x5, x6, x7, x8, x9, x10⟩ := alikeU hu)
    exact tailMeth2
theorem t_share (T : Nat) (L : List Pm.Val)  (w : World) (h : TapeAt w T L) : Calls Tryz.prog 427 #[.pointer (some ⟨T, 0, none⟩), .int .i64 0, .bool false] w (Asked T L (.share) (fun v => .tuple #[]) w) := by
  obtain ⟨HT, hlt, hn0, hn1, hn2⟩ := packMeth1
  clear h
  cases L with
  | nil =>
    go_enter Tryz.func427, Tryz.ntmps427
    go_wp2_with (go_at_call 430; refine (ask_law T [] (.share) _ (HT.out.below (bk6))).mono ?_; rintro e w1 ⟨hu, rfl⟩)
    exact ⟨rfl, (Upto.of_below (bk6)).trans hu, rfl⟩
  | cons x r =>
    go_enter Tryz.func427, Tryz.ntmps427
    go_wp2_with (go_at_call 430; refine (ask_law T (x :: r) (.share) _ (HT.out.below (bk6))).mono ?_; rintro e w1 ⟨hu, rfl, hA⟩; obtain ⟨x1, x2, x3, x4, x5, x6, x7, x8, x9, x10⟩ := alikeU hu)
    exact tailMeth2
theorem t_drop (T : Nat) (L : List Pm.Val)  (w : World) (h : TapeAt w T L) : Calls Tryz.prog 422 #[.pointer (some ⟨T, 0, none⟩), .int .i64 0, .bool false] w (Asked T L (.drop) (fun v => .tuple #[]) w) := by
  obtain ⟨HT, hlt, hn0, hn1, hn2⟩ := packMeth1
  clear h
  cases L with
  | nil =>
    go_enter Tryz.func422, Tryz.ntmps422
    go_wp2_with (go_at_call 430; refine (ask_law T [] (.drop) _ (HT.out.below (bk6))).mono ?_; rintro e w1 ⟨hu, rfl⟩)
    exact ⟨rfl, (Upto.of_below (bk6)).trans hu, rfl⟩
  | cons x r =>
    go_enter Tryz.func422, Tryz.ntmps422
    go_wp2_with (go_at_call 430; refine (ask_law T (x :: r) (.drop) _ (HT.out.below (bk6))).mono ?_; rintro e w1 ⟨hu, rfl, hA⟩; obtain ⟨x1, x2, x3, x4, x5, x6, x7, x8, x9, x10⟩ := alikeU hu)
    exact tailMeth2
theorem t_wsize (T : Nat) (L : List Pm.Val) (p n : Nat) (w : World) (h : TapeAt w T L) : Calls Tryz.prog 428 #[.pointer (some ⟨T, 0, none⟩), .agg #[.int .i64 5, .int .i64 p, .int .i64 0], .agg (#[.int .i64 n, .bool false, .int .u64 0, .int .u64 0, .int .i64 0, .bool false, .int .i64 0, .int .i64 0, .int .i64 0, .int .i64 0, .int .i64 0, .slice none 0 0, .slice none 0 0]), .bool false] w (Asked T L (.wsize p n) (fun v => .tuple #[]) w) := by
  obtain ⟨HT, hlt, hn0, hn1, hn2⟩ := packMeth1
  clear h
  cases L with
  | nil =>
    go_enter Tryz.func428, Tryz.ntmps428
    go_wp2_with (go_at_call 430; refine (ask_law T [] (.wsize p n) _ (HT.out.below (bk6))).mono ?_; rintro e w1 ⟨hu, rfl⟩)
    exact ⟨rfl, (Upto.of_below (bk6)).trans hu, rfl⟩
  | cons x r =>
    go_enter Tryz.func428, Tryz.ntmps428
    go_wp2_with (go_at_call 430; refine (ask_law T (x :: r) (.wsize p n) _ (HT.out.below (bk6))).mono ?_; rintro e w1 ⟨hu, rfl, hA⟩; obtain ⟨x1, x2, x3, x4, x5, x6, x7, x8, x9, x10⟩ := alikeU hu)
    exact tailMeth2
theorem t_wslot (T : Nat) (L : List Pm.Val) (p i c : Nat) (w : World) (h : TapeAt w T L) : Calls Tryz.prog 428 #[.pointer (some ⟨T, 0, none⟩), .agg #[.int .i64 6, .int .i64 p, .int .i64 i], .agg (#[.int .i64 0, .bool false, .int .u64 0, .int .u64 (loOf c), .int .i64 80, .bool true, .int .i64 (Pm.tOf c), .int .i64 0, .int .i64 (Pm.tOf c), .int .i64 0, .int .i64 0, .slice none 0 0, .slice none 0 0]), .bool false] w (Asked T L (.wslot p i c) (fun v => .tuple #[]) w) := by
  obtain ⟨HT, hlt, hn0, hn1, hn2⟩ := packMeth1
  clear h
  cases L with
  | nil =>
    go_enter Tryz.func428, Tryz.ntmps428
    go_wp2_with (go_at_call 430; refine (ask_law T [] (.wslot p i c) _ (HT.out.below (bk6))).mono ?_; rintro e w1 ⟨hu, rfl⟩)
    exact ⟨rfl, (Upto.of_below (bk6)).trans hu, rfl⟩
  | cons x r =>
    go_enter Tryz.func428, Tryz.ntmps428
    go_wp2_with (go_at_call 430; refine (ask_law T (x :: r) (.wslot p i c) _ (HT.out.below (bk6))).mono ?_; rintro e w1 ⟨hu, rfl, hA⟩; obtain ⟨x1, x2, x3, x4, x5, x6, x7, x8, x9, x10⟩ := alikeU hu)
    exact tailMeth2
theorem t_swap (T : Nat) (L : List Pm.Val) (n : Int) (w : World) (h : TapeAt w T L) : Calls Tryz.prog 429 #[.pointer (some ⟨T, 0, none⟩), .agg #[.int .i64 1, .int .i64 0, .int .i64 0], .int .i64 n, .int .i64 (n + 1), .bool true] w (Asked T L (.swap n) (fun v => .bool (isOne v)) w) := by
  obtain ⟨HT, hlt, hn0, hn1, hn2⟩ := packMeth1
  clear h
  cases L with
  | nil =>
    go_enter Tryz.func429, Tryz.ntmps429
    go_wp2_with (go_at_call 430; refine (ask_law T [] (.swap n) _ (HT.out.below (bk6))).mono ?_; rintro e w1 ⟨hu, rfl⟩)
    exact ⟨rfl, (Upto.of_below (bk6)).trans hu, rfl⟩
  | cons x r => cases x with
  | num y =>
    go_enter Tryz.func429, Tryz.ntmps429
    go_wp2_with (go_at_call 430; refine (ask_law T (.num y :: r) (.swap n) _ (HT.out.below (bk6))).mono ?_; rintro e w1 ⟨hu, rfl, hA⟩; obtain ⟨x1, x2, x3, x4, x5, x6, x7, x8, x9, x10⟩ := alikeU hu)
    go_ret; exact ⟨(Upto.of_below (bk6)).trans hu, rfl, hA⟩
  | who y =>
    go_enter Tryz.func429, Tryz.ntmps429
    go_wp2_with (go_at_call 430; refine (ask_law T (.who y :: r) (.swap n) _ (HT.out.below (bk6))).mono ?_; rintro e w1 ⟨hu, rfl, hA⟩; obtain ⟨x1, x2, x3, x4, x5, x6, x7, x8, x9, x10⟩ := alikeU hu)
    go_ret; exact ⟨(Upto.of_below (bk6)).trans hu, rfl, hA⟩
end
section
open Go.RowKit
attribute [local go_sem]  lt_up isRng_new rngOf_new isRange_past rangeOf_past isRange_drew rangeOf_drew fits_new fits_past fits_drew setAt_new setAt_past setAt_drew putAt_whole putAt_lit extract_whole extract_lit one_int one_bool one_slice one_ptr ones_lit onesL_nil onesL_cons isRow_new rowOf_new isRow_past rowOf_past isRow_drew rowOf_drew lt2 lt3 lt4 List.take_succ_cons List.take_zero List.drop_succ_cons List.drop_zero List.cons_append List.nil_append List.length_cons List.length_nil List.size_toArray
theorem s_read (a : Addr) (w : World) : (callFunc 393 #[.pointer (some a)]).run Tryz.prog w = .ok (.value (.tuple #[])) w := run_call_marked Tryz.func393 (by kernel_rfl) (by kernel_rfl) (by kernel_rfl) .read (by kernel_rfl) a w
theorem s_relm (a : Addr) (w : World) : (callFunc 394 #[.pointer (some a)]).run Tryz.prog w = .ok (.value (.tuple #[])) w := run_call_marked Tryz.func394 (by kernel_rfl) (by kernel_rfl) (by kernel_rfl) .releaseMerge (by kernel_rfl) a w
theorem s_dis (w : World) : (callFunc 395 #[]).run Tryz.prog w = .ok (.value (.tuple #[])) w := run_call_mark0 Tryz.func395 (by kernel_rfl) (by kernel_rfl) (by kernel_rfl) .disable (by kernel_rfl) w
theorem s_en (w : World) : (callFunc 398 #[]).run Tryz.prog w = .ok (.value (.tuple #[])) w := run_call_mark0 Tryz.func398 (by kernel_rfl) (by kernel_rfl) (by kernel_rfl) .enable (by kernel_rfl) w
theorem s_acq (a : Addr) (w : World) : (callFunc 405 #[.pointer (some a)]).run Tryz.prog w = .ok (.value (.tuple #[])) w := run_call_marked Tryz.func405 (by kernel_rfl) (by kernel_rfl) (by kernel_rfl) .acquire (by kernel_rfl) a w
theorem cell_other {w : World} {b o p : Nat} {v x : Value} (h : w.cell? ⟨b, p, none⟩ = some x) (hn : p ≠ o) : (w.setCell ⟨b, o, none⟩ v).cell? ⟨b, p, none⟩ = some x := (World.cell?_setCell_other _ ⟨b, o, none⟩ ⟨b, p, none⟩ _ (by first | (simp; done) | simpa using hn)).trans h
theorem rlock_law (b o : Nat) (x0 x2 x3 : Value) (w : World) (c0 : w.cell? ⟨b, o, none⟩ = some x0) (c2 : w.cell? ⟨b, o + 2, none⟩ = some x2) (c3 : w.cell? ⟨b, o + 3, none⟩ = some x3) (hc : w.cell? ⟨b, o + 4, none⟩ = some (.int .i32 0)) (hz : w.frozen? ⟨b, o + 4, none⟩ = false) :
    Calls Tryz.prog 391 #[.pointer (some ⟨b, o, none⟩)] w fun e w' => e = .returned (.tuple #[]) ∧ w' = w.setCell ⟨b, o + 4, none⟩ (.int .i32 1) := by
  have h1 := s_read
  have h2 := s_dis
  have h3 := s_en
  have h4 := s_acq
  have v0 := run_convert_to_unsafe (P := Tryz.prog) (src := 462) (dst := 461) Tryz.underlying462 Tryz.underlying461 (by kernel_rfl) c0
  have hadd := run_call_add (P := Tryz.prog) Tryz.func409 (by kernel_rfl) (by kernel_rfl) (by kernel_rfl) .i32 (by kernel_rfl) (y := 1) (s := 1) hc hz (by simp [go_sem]; rfl)
  have c2' := cell_other (o := o + 4) (v := .int .i32 1) c2 (by omega)
  have v2 := run_convert_to_unsafe (P := Tryz.prog) (src := 463) (dst := 461) Tryz.underlying463 Tryz.underlying461 (by kernel_rfl) c2'
  have c3' := cell_other (o := o + 4) (v := .int .i32 1) c3 (by omega)
  have v3 := run_convert_to_unsafe (P := Tryz.prog) (src := 463) (dst := 461) Tryz.underlying463 Tryz.underlying461 (by kernel_rfl) c3'
  go_enter Tryz.func391, Tryz.ntmps391
  go_wp2
  go_end0
  exact ⟨rfl, rfl⟩
theorem runlock_law (b o : Nat) (x0 x2 x3 : Value) (w : World) (c0 : w.cell? ⟨b, o, none⟩ = some x0) (c2 : w.cell? ⟨b, o + 2, none⟩ = some x2) (c3 : w.cell? ⟨b, o + 3, none⟩ = some x3) (hc : w.cell? ⟨b, o + 4, none⟩ = some (.int .i32 1)) (hz : w.frozen? ⟨b, o + 4, none⟩ = false) :
    Calls Tryz.prog 384 #[.pointer (some ⟨b, o, none⟩)] w fun e w' => e = .returned (.tuple #[]) ∧ w' = w.setCell ⟨b, o + 4, none⟩ (.int .i32 0) := by
  have h1 := s_read
  have h2 := s_dis
  have h3 := s_en
  have h4 := s_relm
  have v0 := run_convert_to_unsafe (P := Tryz.prog) (src := 462) (dst := 461) Tryz.underlying462 Tryz.underlying461 (by kernel_rfl) c0
  have v3 := run_convert_to_unsafe (P := Tryz.prog) (src := 463) (dst := 461) Tryz.underlying463 Tryz.underlying461 (by kernel_rfl) c3
  have v2 := run_convert_to_unsafe (P := Tryz.prog) (src := 463) (dst := 461) Tryz.underlying463 Tryz.underlying461 (by kernel_rfl) c2
  have hadd := run_call_add (P := Tryz.prog) Tryz.func409 (by kernel_rfl) (by kernel_rfl) (by kernel_rfl) .i32 (by kernel_rfl) (y := -1) (s := 0) hc hz (by simp [go_sem]; rfl)
  go_enter Tryz.func384, Tryz.ntmps384
  go_wp2
  go_end0
  exact ⟨rfl, rfl⟩
theorem lock2_law (b o : Nat) (w : World) (hc : w.cell? ⟨b, o, none⟩ = some (.int .i32 0)) (hz : w.frozen? ⟨b, o, none⟩ = false) :
    Calls Tryz.prog 390 #[.pointer (some ⟨b, o, none⟩)] w fun e w' => e = .returned (.tuple #[]) ∧ w' = w.setCell ⟨b, o, none⟩ (.int .i32 1) := by
  have h2 := s_dis
  have h3 := s_en
  have h4 := s_acq
  have hcas := run_call_cas_hit (P := Tryz.prog) Tryz.func411 (by kernel_rfl) (by kernel_rfl) (by kernel_rfl) .i32 (by kernel_rfl) (y := 1) hc hz
  have hc' := World.cell?_setCell_same w ⟨b, o, none⟩ (.int .i32 1) hc
  have v0 := run_convert_to_unsafe (P := Tryz.prog) (src := 473) (dst := 461) Tryz.underlying473 Tryz.underlying461 (by kernel_rfl) hc'
  go_enter Tryz.func390, Tryz.ntmps390
  go_wp2
  first | go_end0 | refine bodyPost_ret (results_none rfl _ _ _) rfl ?_
  go_wp2
  first | go_end0 | refine bodyPost_ret (results_none rfl _ _ _) rfl ?_
  exact ⟨rfl, rfl⟩
theorem unlock2_law (b o : Nat) (w : World) (hc : w.cell? ⟨b, o, none⟩ = some (.int .i32 1)) (hz : w.frozen? ⟨b, o, none⟩ = false) :
    Calls Tryz.prog 386 #[.pointer (some ⟨b, o, none⟩)] w fun e w' => e = .returned (.tuple #[]) ∧ w' = w.setCell ⟨b, o, none⟩ (.int .i32 0) := by
  have h2 := s_dis
  have h3 := s_en
  have h4 := s_relm
  have v0 := run_convert_to_unsafe (P := Tryz.prog) (src := 473) (dst := 461) Tryz.underlying473 Tryz.underlying461 (by kernel_rfl) hc
  have hadd := run_call_add (P := Tryz.prog) Tryz.func409 (by kernel_rfl) (by kernel_rfl) (by kernel_rfl) .i32 (by kernel_rfl) (y := -1) (s := 0) hc hz (by simp [go_sem]; rfl)
  go_enter Tryz.func386, Tryz.ntmps386
  go_wp2
  first | go_end0 | refine bodyPost_ret (results_none rfl _ _ _) rfl ?_
  go_wp2
  first | go_end0 | refine bodyPost_ret (results_none rfl _ _ _) rfl ?_
  exact ⟨rfl, rfl⟩
theorem i64_store (b o : Nat) (x : Value) (y : Int) (w : World) (hc : w.cell? ⟨b, o, none⟩ = some x) (hz : w.frozen? ⟨b, o, none⟩ = false) :
    Calls Tryz.prog 36 #[.pointer (some ⟨b, o, none⟩), .int .i64 y] w fun e w' => e = .returned (.tuple #[]) ∧ w' = w.setCell ⟨b, o, none⟩ (.int .i64 y) := by
  have hst := run_call_store (P := Tryz.prog) Tryz.func64 (by kernel_rfl) (by kernel_rfl) (by kernel_rfl) (by kernel_rfl) (k := .i64) (y := y) hc hz
  go_enter Tryz.func36, Tryz.ntmps36
  go_wp2
  go_end0
  exact ⟨rfl, rfl⟩
theorem i64_load (b o : Nat) (x : Int) (w : World) (hc : w.cell? ⟨b, o, none⟩ = some (.int .i64 x)) :
    Calls Tryz.prog 388 #[.pointer (some ⟨b, o, none⟩)] w fun e w' => e = .returned (.int .i64 x) ∧ w = w' := by
  have hst := run_call_load (P := Tryz.prog) Tryz.func403 (by kernel_rfl) (by kernel_rfl) (by kernel_rfl) .i64 (by kernel_rfl) hc
  go_enter Tryz.func388, Tryz.ntmps388
  go_wp2
  go_ret
  exact ⟨rfl, rfl⟩
theorem i64_cas (b o : Nat) (x y : Int) (w : World) (hc : w.cell? ⟨b, o, none⟩ = some (.int .i64 x)) (hz : w.frozen? ⟨b, o, none⟩ = false) :
    Calls Tryz.prog 392 #[.pointer (some ⟨b, o, none⟩), .int .i64 x, .int .i64 y] w fun e w' => e = .returned (.bool true) ∧ w' = w.setCell ⟨b, o, none⟩ (.int .i64 y) := by
  have hst := run_call_cas_hit (P := Tryz.prog) Tryz.func408 (by kernel_rfl) (by kernel_rfl) (by kernel_rfl) .i64 (by kernel_rfl) (y := y) hc hz
  go_enter Tryz.func392, Tryz.ntmps392
  go_wp2
  go_ret
  exact ⟨rfl, rfl⟩
end
section
open Go.RowKit
section
variable {P : Program} {Q : Exit → Act → World → Prop} {C : World → Prop} {l : List Oper} {L : Array Bool} {f : Nat} {a : Act} {w : World}
theorem op_of_list {ops : Array Oper} {K : Act → World → Prop} {o : Oper} {i : Nat} (hi : ops[i]? = some o) (h : wpList P ops (chainQ C K Q) [o] a w) : wpOp P ops Q i (fun a' w' => C w' ∧ K a' w') a w := by
  unfold wpList at h
  unfold wpOp
  simp only [hi]
  split
  · rename_i hw
    simp only [hw, if_true] at h
    rcases h with h | ⟨h1, h2⟩
    · exact .inl (wp_exits (fun c a w h => h) (fun h => h) h)
    · exact .inr ⟨h1, h2⟩
  · rename_i hw
    simp only [hw] at h
    exact h
theorem tree_end (hr : (Region.ready .any l.toArray L).isEmpty = true) (h : Q .normal a w) : wpAnyC P .any l.toArray C Q 0 L a w := ⟨by simpa using hr, h⟩
theorem nth_of {i : Nat} (h : (l[i]?).isSome = true) : ∃ o, l[i]? = some o ∧ nthL l i = [o] := by
  obtain ⟨o, ho⟩ := Option.isSome_iff_exists.1 h
  exact ⟨o, ho, nth_some ho⟩
theorem tree_one (i : Nat) (hr : (Region.ready .any l.toArray L == [i]) = true) (hi : (l[i]?).isSome = true) (h : wpList P l.toArray (chainQ C (wpAnyC P .any l.toArray C Q f (L.setIfInBounds i true)) Q) (nthL l i) a w) : wpAnyC P .any l.toArray C Q (f + 1) L a w := by
  rw [beq_iff_eq] at hr
  obtain ⟨o, ho, e⟩ := nth_of hi
  rw [e] at h
  refine ⟨fun h0 => (by rw [h0] at hr; cases hr), fun j hj => ?_⟩
  rw [hr] at hj
  simp only [List.mem_singleton] at hj
  subst hj
  exact op_of_list (by simpa using ho) h
theorem tree_two (i k : Nat) (hr : (Region.ready .any l.toArray L == [i, k]) = true) (hi : (l[i]?).isSome = true) (hk : (l[k]?).isSome = true) (h : wpList P l.toArray (chainQ C (wpAnyC P .any l.toArray C Q f (L.setIfInBounds i true)) Q) (nthL l i) a w)
    (h' : wpList P l.toArray (chainQ C (wpAnyC P .any l.toArray C Q f (L.setIfInBounds k true)) Q) (nthL l k) a w) : wpAnyC P .any l.toArray C Q (f + 1) L a w := by
  rw [beq_iff_eq] at hr
  obtain ⟨o, ho, e⟩ := nth_of hi
  obtain ⟨o', ho', e'⟩ := nth_of hk
  rw [e] at h
  rw [e'] at h'
  refine ⟨fun h0 => (by rw [h0] at hr; cases hr), fun j hj => ?_⟩
  rw [hr] at hj
  simp only [List.mem_cons, List.not_mem_nil, or_false] at hj
  rcases hj with rfl | rfl
  · exact op_of_list (by simpa using ho) h
  · exact op_of_list (by simpa using ho') h'
theorem tree_three (i k j : Nat) (hr : (Region.ready .any l.toArray L == [i, k, j]) = true) (hi : (l[i]?).isSome = true) (hk : (l[k]?).isSome = true) (hj : (l[j]?).isSome = true) (h : wpList P l.toArray (chainQ C (wpAnyC P .any l.toArray C Q f (L.setIfInBounds i true)) Q) (nthL l i) a w)
    (h' : wpList P l.toArray (chainQ C (wpAnyC P .any l.toArray C Q f (L.setIfInBounds k true)) Q) (nthL l k) a w)
    (h'' : wpList P l.toArray (chainQ C (wpAnyC P .any l.toArray C Q f (L.setIfInBounds j true)) Q) (nthL l j) a w) : wpAnyC P .any l.toArray C Q (f + 1) L a w := by
  rw [beq_iff_eq] at hr
  obtain ⟨o, ho, e⟩ := nth_of hi
  obtain ⟨o', ho', e'⟩ := nth_of hk
  obtain ⟨o'', ho'', e''⟩ := nth_of hj
  rw [e] at h
  rw [e'] at h'
  rw [e''] at h''
  refine ⟨fun h0 => (by rw [h0] at hr; cases hr), fun m hm => ?_⟩
  rw [hr] at hm
  simp only [List.mem_cons, List.not_mem_nil, or_false] at hm
  rcases hm with rfl | rfl | rfl
  · exact op_of_list (by simpa using ho) h
  · exact op_of_list (by simpa using ho') h'
  · exact op_of_list (by simpa using ho'') h''
/-- Reads that are ready may come first, at any place. -/
theorem tree_reads (fs : List Nat) (f : Nat) {m : Nat} (he : fs.length + f = m) (hB : (Region.noSelect l.toArray && firstB l.toArray fs L) = true) (hQ : ∀ c (a : Act) d v w, Q (.panic c) (a.put d v) w → Q (.panic c) a w) (hC : C w)
    (h : wpReads P C (fun a' => wpAnyC P .any l.toArray C Q f (setAll L fs) a' w) (pickL l fs) a) : wpAnyC P .any l.toArray C Q m L a w := by
  subst he
  simp only [Bool.and_eq_true] at hB
  exact reads_any hB.1 hQ w hC _ f fs L a hB.2 (fun a h => h) h
/-- THE LAW. -/
theorem region_tree {id : Nat} (C : World → Prop) (fs : List Nat) (n : Nat) (hm : P.follows .mixedOrders = true) (hB : (Region.noSelect l.toArray && firstB l.toArray fs (Array.replicate l.length false) && decide (fs.length + n = l.length)) = true) (hQ : ∀ c (a : Act) d v w, Q (.panic c) (a.put d v) w → Q (.panic c) a w) (hC : C w.drew)
    (h : wpReads P C (fun a' => wpAnyC P .any l.toArray C Q n (setAll (Array.replicate l.length false) fs) a' w.drew) (pickL l fs) a) : (Code.region id l.toArray true).wp P Q a w := by
  simp only [Bool.and_eq_true, decide_eq_true_eq] at hB
  obtain ⟨⟨hs, hf⟩, hlen⟩ := hB
  refine wp_region_any hm (any_of_C (C := C) _ _ _ _ ?_)
  have key := reads_any (P := P) (Q := Q) (l := l) hs hQ w.drew hC _ n fs (Array.replicate l.length false) a hf (fun a h => h) h
  rw [hlen] at key
  simpa using key
end
end
end Go.Proofs.YtnncjbkepakgpaaGreat
