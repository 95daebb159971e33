/-
  MEMORY: A LOCK; A PART; A SLOT.
  OPERATIONS THAT MAY BE.
  A ROW THAT WAS LAID ANEW IS READ.
-/
import Derived.Test.YtnncjbkepakgpaaGreatA07
import Derived.Test.YtnncjbkepakgpaaGreatA10
import Derived.Test.YtnncjbkepakgpaaGreatA09
namespace Go.Proofs.YtnncjbkepakgpaaGreat
set_option linter.unusedVariables false
set_option linter.unusedSimpArgs false
set_option maxRecDepth 100000
set_option maxHeartbeats 4000000
section
open Go.RowKit
attribute [local go_sem ↓] exec_load_47 exec_store_47 exec_load_186 exec_store_186 exec_load_129 exec_store_129 exec_load_75 exec_store_75
attribute [local go_sem] run_load47r run_store47i run_load186r run_store186i run_load129r run_store129i run_load75r run_store75i lt_up isRng_new rngOf_new isRange_past rangeOf_past isRange_drew rangeOf_drew fits_new fits_past fits_drew setAt_new setAt_past setAt_drew putAt_whole putAt_lit extract_whole extract_lit one_int one_bool one_slice one_ptr ones_lit onesL_nil onesL_cons isRow_new rowOf_new isRow_past rowOf_past isRow_drew rowOf_drew lt2 lt3 lt4 List.take_succ_cons List.take_zero List.drop_succ_cons List.drop_zero List.cons_append List.nil_append List.length_cons List.length_nil List.size_toArray setRow_new setRow_past own_cell own_frozen own_set own_isRange own_rangeOf own_fits setAt_row sr_sr sr_size sr_row sr_row' sr_isRow sr_isRow' sr_fits' sr_cell' sr_frozen' sr_isRange' sr_rangeOf' sr_isCells isCells_new isCells_past isCells_drew valC_size valC_ones opC_size opC_ones replyC_size
theorem packMem11 {p : Prop} (h : PQ p := by
  have gn : ¬ (g = w.heap.size) := by omega
  have ng : ¬ (w.heap.size = g) := by omega
  have n5 : w.heap.size + 1 + 1 ≠ g := by omega
  have p0 : isRow w2 w.heap.size 47 6 = true := by go_simp
  have p1 := isCells_row p0
  have p2 : isRow w2 (w.heap.size + 1 + 1) 47 6 = true := by go_simp
  have p3 : rowOf w2 (w.heap.size + 1 + 1) = #[.int .i64 0, .int .i64 0, .slice none 0 0, .slice none 0 0, .slice none 0 0, .slice none 0 0] := by go_simp
  have s2 : w.heap.size + 1 + 1 < w2.heap.size := by omega
  exact pq (And.intro gn (And.intro ng (And.intro n5 (And.intro p0 (And.intro p1 (And.intro p2 (And.intro p3 s2)))))))) : p := h
theorem packMem12 {p : Prop} (h : PQ p := by
  have n2 : ¬ ((CL.length : Int) ≤ (k : Int)) := by omega
  have n3 : (k : Int) < (CL.length : Int) := by omega
  have n4 : 0 ≤ (k : Int) := by omega
  exact pq (And.intro n2 (And.intro n3 n4))) : p := h
theorem upto_own {T : Nat} {a w : World} (h : Upto T a w) (C : Array Value) : Upto T a (w.setRow T C) := ⟨h.os, h.tape, h.output, by rw [sr_size]; exact h.size, fun k hk hT => by rw [setRow_heap_other w T k C hT]; exact h.block k hk hT⟩
theorem sl_at {W : World} {v : Value} {n : Nat} {L : List (Array Value)} (h : Sl W v n L) {k : Nat} {D : Array Value} (hk : L[k]? = some D) : ∃ g o cap, v = .slice (some ⟨g, o, none⟩) L.length cap ∧ g < W.heap.size ∧ isRange W ⟨g, o + k * n, none⟩ n = true ∧ rangeOf W ⟨g, o + k * n, none⟩ n = D ∧ ones D = true ∧ D.size = n := by
  obtain ⟨a, cap, rfl, h1, h2, h3⟩ := h
  have hkl := (List.getElem?_eq_some_iff.1 hk).1
  rcases h3 with ⟨_, h3⟩ | ⟨g, o, rfl, hg, h3⟩
  · subst h3; simp at hkl
  · exact ⟨g, o, cap, rfl, hg, (h3 k D hk).is, (h3 k D hk).of, (h3 k D hk).one, (h3 k D hk).size⟩
/-- mem.lock. -/
theorem lock_law (inn : Int) (aS : Option Addr) (nS cS k : Nat) (vL : Value) (CL : List (Array Value)) (D : Array Value) (hk : CL[k]? = some D) (w : World) (h : Sl w vL 2 CL) :
    Calls Tryz.prog 83 #[.agg (#[.int .i64 inn, .int .i64 0, .slice none 0 0, .slice none 0 0, .slice aS nS cS, vL]), .int .i64 k] w fun e w' => e = .returned (.agg D) ∧ Below w.heap.size w w' := by
  obtain ⟨g, o, cL, rfl, hg, e1, e2, e3, e4⟩ := sl_at h hk
  have hkl := (List.getElem?_eq_some_iff.1 hk).1
  have n1 : ¬ ((k : Int) < 0) := by omega
  obtain ⟨n2, n3, n4⟩ := packMem12
  have g1 : g < w.heap.size + 1 := by omega
  have g2 : g < w.heap.size + 1 + 1 := by omega
  clear h hk
  go_enter Tryz.func83, Tryz.ntmps83
  go_wp2
  refine bodyPost_ret (v := .agg D) (res_row (t := 186) Tryz.results83 _ _ _ rfl ?_ ?_ info186 agg186) rfl ?_
  · go_simp
  · go_simp
  exact ⟨rfl, bk5⟩
/-- mem.slot, of a slot that is there. -/
theorem slot_some (n k : Nat) (vs : Value) (CL : List (Array Value)) (D : Array Value) (hk : CL[k]? = some D) (w : World) (h : Sl w vs 10 CL) :
    Calls Tryz.prog 132 #[.agg (#[.int .i64 n, vs]), .int .i64 k] w fun e w' => e = .returned (.agg D) ∧ Below w.heap.size w w' := by
  obtain ⟨g, o, cL, rfl, hg, e1, e2, e3, e4⟩ := sl_at h hk
  have hkl := (List.getElem?_eq_some_iff.1 hk).1
  obtain ⟨n2, n3, n4⟩ := packMem12
  have g1 : g < w.heap.size + 1 := by omega
  have g2 : g < w.heap.size + 1 + 1 := by omega
  clear h hk
  go_enter Tryz.func132, Tryz.ntmps132
  go_wp2
  refine bodyPost_ret (v := .agg D) (res_row (t := 75) Tryz.results132 _ _ _ rfl ?_ ?_ info75 agg75) rfl ?_
  · go_simp
  · go_simp
  exact ⟨rfl, bk5⟩
/-- mem.slot, of a slot that is not there. -/
theorem slot_none (n k : Nat) (a : Option Addr) (m c : Nat) (hk : m ≤ k) (w : World) :
    Calls Tryz.prog 132 #[.agg (#[.int .i64 n, .slice a m c]), .int .i64 k] w fun e w' => e = .returned (.agg (#[.bool false, .int .u64 0, .int .u64 0, .int .i64 0, .bool false, .int .i64 0, .int .i64 0, .int .i64 0, .int .i64 0, .int .i64 0])) ∧ Below w.heap.size w w' := by
  have n2 : ((m : Int) ≤ (k : Int)) := by omega
  go_enter Tryz.func132, Tryz.ntmps132
  go_wp2
  refine bodyPost_ret (v := .agg (#[.bool false, .int .u64 0, .int .u64 0, .int .i64 0, .bool false, .int .i64 0, .int .i64 0, .int .i64 0, .int .i64 0, .int .i64 0])) (res_row (t := 75) Tryz.results132 _ _ _ rfl ?_ ?_ info75 agg75) rfl ?_
  · go_simp
  · go_simp
  exact ⟨rfl, bk5⟩
/-- mem.locked. -/
theorem locked_law (inn : Int) (aS : Option Addr) (nS cS k : Nat) (vL : Value) (CL : List (Array Value)) (E : Array Value) (hE : E.size = 2) (hE1 : ones E = true) (hk : k < CL.length) (hl : CL.length ≤ 1000) (w : World) (h : Sl w vL 2 CL) :
    Calls Tryz.prog 84 #[.agg (#[.int .i64 inn, .int .i64 0, .slice none 0 0, .slice none 0 0, .slice aS nS cS, vL]), .int .i64 k, .agg E] w fun e w' => ∃ v', e = .returned (.agg (#[.int .i64 inn, .int .i64 0, .slice none 0 0, .slice none 0 0, .slice aS nS cS, v'])) ∧ Sl w' v' 2 (CL.set k E) ∧ (∀ q, v'.ownBlock = some q → w.heap.size ≤ q) ∧ Below w.heap.size w w' := by
  have H := Lib.hid h
  have HC := Lib.hid (fun (W : World) (b : Below w.heap.size w W) => clone128 vL CL W (H.out.below b) (by omega))
  obtain ⟨aL, cL, rfl, -⟩ := h
  have n1 : ¬ ((k : Int) < 0) := by omega
  obtain ⟨n2, n3, n4⟩ := packMem12
  go_enter Tryz.func84, Tryz.ntmps84
  go_wp2_with fail
  refine (HC.out _ (bk0)).mono ?_
  rintro e w2 ⟨v2, rfl, ho, hb⟩
  have hk2 := Keep.mk hb
  have HO2 := Lib.hid ho
  obtain ⟨g, cap, rfl, hc1, hc2, hgB, hg2, hfit, -⟩ := ho.setEl hk hE hE1
  have xxc := alk hk2.out; (try have zzc := zs w.heap.size w2.heap.size)
  clear hb ho
  simp at hgB
  obtain ⟨gn, ng, n5, p0, p1, p2, p3, s2⟩ := packMem11
  have HO3 := HO2.out.upto (upto_own (Upto.refl w.heap.size w2) (#[.int .i64 inn, .int .i64 0, .slice none 0 0, .slice none 0 0, .slice aS nS cS, .slice (some ⟨g, 0, none⟩) CL.length cap])) (by simp; omega)
  obtain ⟨g', cap', e', -, -, -, -, -, hO4⟩ := HO3.setEl hk hE hE1
  simp only [Value.slice.injEq, Option.some.injEq, Addr.mk.injEq, true_and, and_true] at e'
  obtain ⟨rfl, rfl⟩ := e'
  have hS4 := hO4.sl
  rw [setAt, sr_row' _ _ _ _ gn] at hS4
  have hS4h := Lib.hid hS4
  have q1 : isCells ((w2.setRow w.heap.size (#[.int .i64 inn, .int .i64 0, .slice none 0 0, .slice none 0 0, .slice aS nS cS, .slice (some ⟨g, 0, none⟩) CL.length cap])).setRow g (putAt (rowOf w2 g) (k * 2) E)) w.heap.size = true := by rw [sr_isCells, sr_isCells]; exact p1
  have q0 : isRow ((w2.setRow w.heap.size (#[.int .i64 inn, .int .i64 0, .slice none 0 0, .slice none 0 0, .slice aS nS cS, .slice (some ⟨g, 0, none⟩) CL.length cap])).setRow g (putAt (rowOf w2 g) (k * 2) E)) w.heap.size 47 6 = true := by rw [sr_isRow' _ _ _ _ _ _ ng]; exact sr_isRow _ p0 rfl
  have q2 : rowOf ((w2.setRow w.heap.size (#[.int .i64 inn, .int .i64 0, .slice none 0 0, .slice none 0 0, .slice aS nS cS, .slice (some ⟨g, 0, none⟩) CL.length cap])).setRow g (putAt (rowOf w2 g) (k * 2) E)) w.heap.size = #[.int .i64 inn, .int .i64 0, .slice none 0 0, .slice none 0 0, .slice aS nS cS, .slice (some ⟨g, 0, none⟩) CL.length cap] := by rw [sr_row' _ _ _ _ ng]; exact sr_row _ p1
  have q3 : isRow ((w2.setRow w.heap.size (#[.int .i64 inn, .int .i64 0, .slice none 0 0, .slice none 0 0, .slice aS nS cS, .slice (some ⟨g, 0, none⟩) CL.length cap])).setRow g (putAt (rowOf w2 g) (k * 2) E)) (w.heap.size + 1 + 1) 47 6 = true := by rw [sr_isRow' _ _ _ _ _ _ n5, sr_isRow' _ _ _ _ _ _ (by omega)]; exact p2
  have q4 := isCells_row q3
  have q5 : rowOf ((w2.setRow w.heap.size (#[.int .i64 inn, .int .i64 0, .slice none 0 0, .slice none 0 0, .slice aS nS cS, .slice (some ⟨g, 0, none⟩) CL.length cap])).setRow g (putAt (rowOf w2 g) (k * 2) E)) (w.heap.size + 1 + 1) = #[.int .i64 0, .int .i64 0, .slice none 0 0, .slice none 0 0, .slice none 0 0, .slice none 0 0] := by rw [sr_row' _ _ _ _ n5, sr_row' _ _ _ _ (by omega)]; exact p3
  have q6 : w.heap.size + 1 + 1 < ((w2.setRow w.heap.size (#[.int .i64 inn, .int .i64 0, .slice none 0 0, .slice none 0 0, .slice aS nS cS, .slice (some ⟨g, 0, none⟩) CL.length cap])).setRow g (putAt (rowOf w2 g) (k * 2) E)).heap.size := by rw [sr_size, sr_size]; exact s2
  have q7 : Below w.heap.size w ((w2.setRow w.heap.size (#[.int .i64 inn, .int .i64 0, .slice none 0 0, .slice none 0 0, .slice aS nS cS, .slice (some ⟨g, 0, none⟩) CL.length cap])).setRow g (putAt (rowOf w2 g) (k * 2) E)) := below_setRow (below_setRow (bk0) (Nat.le_refl _) _) (by omega) _
  clear hS4 hO4 HO3
  have q8 : isRange ((w2.setRow w.heap.size (#[.int .i64 inn, .int .i64 0, .slice none 0 0, .slice none 0 0, .slice aS nS cS, .slice (some ⟨g, 0, none⟩) CL.length cap])).setRow g (putAt (rowOf w2 g) (k * 2) E)) ⟨w.heap.size, 0, none⟩ 6 = true := own_isRange q1 (by rw [q2]; simp)
  have q9 : rangeOf ((w2.setRow w.heap.size (#[.int .i64 inn, .int .i64 0, .slice none 0 0, .slice none 0 0, .slice aS nS cS, .slice (some ⟨g, 0, none⟩) CL.length cap])).setRow g (putAt (rowOf w2 g) (k * 2) E)) ⟨w.heap.size, 0, none⟩ 6 = #[.int .i64 inn, .int .i64 0, .slice none 0 0, .slice none 0 0, .slice aS nS cS, .slice (some ⟨g, 0, none⟩) CL.length cap] := by rw [own_rangeOf q1 (by rw [q2]; simp), q2]; simp
  have q10 : fitsAt ((w2.setRow w.heap.size (#[.int .i64 inn, .int .i64 0, .slice none 0 0, .slice none 0 0, .slice aS nS cS, .slice (some ⟨g, 0, none⟩) CL.length cap])).setRow g (putAt (rowOf w2 g) (k * 2) E)) (w.heap.size + 1 + 1) 0 6 = true := fits_row q3 (by omega)
  go_wp2
  refine bodyPost_ret (v := .agg #[.int .i64 inn, .int .i64 0, .slice none 0 0, .slice none 0 0, .slice aS nS cS, .slice (some ⟨g, 0, none⟩) CL.length cap]) (res_row (t := 47) Tryz.results84 _ _ _ rfl ?_ ?_ info47 agg47) rfl ?_
  · go_simp
  · go_simp
  exact ⟨_, rfl, hS4h.out.upto (upto_own (Upto.refl (w.heap.size + 1 + 1) _) _) (by simp [Value.ownBlock]; omega), (fun q hq => by simp [Value.ownBlock] at hq; omega), below_setRow q7 (by omega) _⟩
/-- mem.part. -/
theorem part_law (inn : Int) (aS : Option Addr) (nS cS k : Nat) (vL : Value) (CL : List (Array Value)) (E : Array Value) (hE : E.size = 2) (hE1 : ones E = true) (hk : k < CL.length) (hl : CL.length ≤ 1000) (w : World) (h : Sl w vL 2 CL) :
    Calls Tryz.prog 133 #[.agg (#[.int .i64 inn, .int .i64 0, .slice none 0 0, .slice none 0 0, vL, .slice aS nS cS]), .int .i64 k, .agg E] w fun e w' => ∃ v', e = .returned (.agg (#[.int .i64 inn, .int .i64 0, .slice none 0 0, .slice none 0 0, v', .slice aS nS cS])) ∧ Sl w' v' 2 (CL.set k E) ∧ (∀ q, v'.ownBlock = some q → w.heap.size ≤ q) ∧ Below w.heap.size w w' := by
  have H := Lib.hid h
  have HC := Lib.hid (fun (W : World) (b : Below w.heap.size w W) => clone185 vL CL W (H.out.below b) (by omega))
  obtain ⟨aL, cL, rfl, -⟩ := h
  have n1 : ¬ ((k : Int) < 0) := by omega
  obtain ⟨n2, n3, n4⟩ := packMem12
  go_enter Tryz.func133, Tryz.ntmps133
  go_wp2_with fail
  refine (HC.out _ (bk0)).mono ?_
  rintro e w2 ⟨v2, rfl, ho, hb⟩
  have hk2 := Keep.mk hb
  have HO2 := Lib.hid ho
  obtain ⟨g, cap, rfl, hc1, hc2, hgB, hg2, hfit, -⟩ := ho.setEl hk hE hE1
  have xxc := alk hk2.out; (try have zzc := zs w.heap.size w2.heap.size)
  clear hb ho
  simp at hgB
  obtain ⟨gn, ng, n5, p0, p1, p2, p3, s2⟩ := packMem11
  have HO3 := HO2.out.upto (upto_own (Upto.refl w.heap.size w2) (#[.int .i64 inn, .int .i64 0, .slice none 0 0, .slice none 0 0, .slice (some ⟨g, 0, none⟩) CL.length cap, .slice aS nS cS])) (by simp; omega)
  obtain ⟨g', cap', e', -, -, -, -, -, hO4⟩ := HO3.setEl hk hE hE1
  simp only [Value.slice.injEq, Option.some.injEq, Addr.mk.injEq, true_and, and_true] at e'
  obtain ⟨rfl, rfl⟩ := e'
  have hS4 := hO4.sl
  rw [setAt, sr_row' _ _ _ _ gn] at hS4
  have hS4h := Lib.hid hS4
  have q1 : isCells ((w2.setRow w.heap.size (#[.int .i64 inn, .int .i64 0, .slice none 0 0, .slice none 0 0, .slice (some ⟨g, 0, none⟩) CL.length cap, .slice aS nS cS])).setRow g (putAt (rowOf w2 g) (k * 2) E)) w.heap.size = true := by rw [sr_isCells, sr_isCells]; exact p1
  have q0 : isRow ((w2.setRow w.heap.size (#[.int .i64 inn, .int .i64 0, .slice none 0 0, .slice none 0 0, .slice (some ⟨g, 0, none⟩) CL.length cap, .slice aS nS cS])).setRow g (putAt (rowOf w2 g) (k * 2) E)) w.heap.size 47 6 = true := by rw [sr_isRow' _ _ _ _ _ _ ng]; exact sr_isRow _ p0 rfl
  have q2 : rowOf ((w2.setRow w.heap.size (#[.int .i64 inn, .int .i64 0, .slice none 0 0, .slice none 0 0, .slice (some ⟨g, 0, none⟩) CL.length cap, .slice aS nS cS])).setRow g (putAt (rowOf w2 g) (k * 2) E)) w.heap.size = #[.int .i64 inn, .int .i64 0, .slice none 0 0, .slice none 0 0, .slice (some ⟨g, 0, none⟩) CL.length cap, .slice aS nS cS] := by rw [sr_row' _ _ _ _ ng]; exact sr_row _ p1
  have q3 : isRow ((w2.setRow w.heap.size (#[.int .i64 inn, .int .i64 0, .slice none 0 0, .slice none 0 0, .slice (some ⟨g, 0, none⟩) CL.length cap, .slice aS nS cS])).setRow g (putAt (rowOf w2 g) (k * 2) E)) (w.heap.size + 1 + 1) 47 6 = true := by rw [sr_isRow' _ _ _ _ _ _ n5, sr_isRow' _ _ _ _ _ _ (by omega)]; exact p2
  have q4 := isCells_row q3
  have q5 : rowOf ((w2.setRow w.heap.size (#[.int .i64 inn, .int .i64 0, .slice none 0 0, .slice none 0 0, .slice (some ⟨g, 0, none⟩) CL.length cap, .slice aS nS cS])).setRow g (putAt (rowOf w2 g) (k * 2) E)) (w.heap.size + 1 + 1) = #[.int .i64 0, .int .i64 0, .slice none 0 0, .slice none 0 0, .slice none 0 0, .slice none 0 0] := by rw [sr_row' _ _ _ _ n5, sr_row' _ _ _ _ (by omega)]; exact p3
  have q6 : w.heap.size + 1 + 1 < ((w2.setRow w.heap.size (#[.int .i64 inn, .int .i64 0, .slice none 0 0, .slice none 0 0, .slice (some ⟨g, 0, none⟩) CL.length cap, .slice aS nS cS])).setRow g (putAt (rowOf w2 g) (k * 2) E)).heap.size := by rw [sr_size, sr_size]; exact s2
  have q7 : Below w.heap.size w ((w2.setRow w.heap.size (#[.int .i64 inn, .int .i64 0, .slice none 0 0, .slice none 0 0, .slice (some ⟨g, 0, none⟩) CL.length cap, .slice aS nS cS])).setRow g (putAt (rowOf w2 g) (k * 2) E)) := below_setRow (below_setRow (bk0) (Nat.le_refl _) _) (by omega) _
  clear hS4 hO4 HO3
  have q8 : isRange ((w2.setRow w.heap.size (#[.int .i64 inn, .int .i64 0, .slice none 0 0, .slice none 0 0, .slice (some ⟨g, 0, none⟩) CL.length cap, .slice aS nS cS])).setRow g (putAt (rowOf w2 g) (k * 2) E)) ⟨w.heap.size, 0, none⟩ 6 = true := own_isRange q1 (by rw [q2]; simp)
  have q9 : rangeOf ((w2.setRow w.heap.size (#[.int .i64 inn, .int .i64 0, .slice none 0 0, .slice none 0 0, .slice (some ⟨g, 0, none⟩) CL.length cap, .slice aS nS cS])).setRow g (putAt (rowOf w2 g) (k * 2) E)) ⟨w.heap.size, 0, none⟩ 6 = #[.int .i64 inn, .int .i64 0, .slice none 0 0, .slice none 0 0, .slice (some ⟨g, 0, none⟩) CL.length cap, .slice aS nS cS] := by rw [own_rangeOf q1 (by rw [q2]; simp), q2]; simp
  have q10 : fitsAt ((w2.setRow w.heap.size (#[.int .i64 inn, .int .i64 0, .slice none 0 0, .slice none 0 0, .slice (some ⟨g, 0, none⟩) CL.length cap, .slice aS nS cS])).setRow g (putAt (rowOf w2 g) (k * 2) E)) (w.heap.size + 1 + 1) 0 6 = true := fits_row q3 (by omega)
  go_wp2
  refine bodyPost_ret (v := .agg #[.int .i64 inn, .int .i64 0, .slice none 0 0, .slice none 0 0, .slice (some ⟨g, 0, none⟩) CL.length cap, .slice aS nS cS]) (res_row (t := 47) Tryz.results133 _ _ _ rfl ?_ ?_ info47 agg47) rfl ?_
  · go_simp
  · go_simp
  exact ⟨_, rfl, hS4h.out.upto (upto_own (Upto.refl (w.heap.size + 1 + 1) _) _) (by simp [Value.ownBlock]; omega), (fun q hq => by simp [Value.ownBlock] at hq; omega), below_setRow q7 (by omega) _⟩
end
section
open Go.RowKit
attribute [local go_sem ↓] exec_load_101 exec_store_101 exec_load_105 exec_store_105
attribute [local go_sem] run_load101r run_store101i run_load105r run_store105i lt_up isRng_new rngOf_new isRange_past rangeOf_past isRange_drew rangeOf_drew fits_new fits_past fits_drew setAt_new setAt_past setAt_drew putAt_whole putAt_lit extract_whole extract_lit one_int one_bool one_slice one_ptr ones_lit onesL_nil onesL_cons isRow_new rowOf_new isRow_past rowOf_past isRow_drew rowOf_drew lt2 lt3 lt4 List.take_succ_cons List.take_zero List.drop_succ_cons List.drop_zero List.cons_append List.nil_append List.length_cons List.length_nil List.size_toArray setRow_new setRow_past own_cell own_frozen own_set own_isRange own_rangeOf own_fits setAt_row sr_sr sr_size sr_row sr_row' sr_isRow sr_isRow' sr_fits' sr_cell' sr_frozen' sr_isRange' sr_rangeOf' sr_isCells isCells_new isCells_past isCells_drew valC_size valC_ones opC_size opC_ones replyC_size
theorem packOpRight1 {p : Prop} (h : PQ p := by
  have s1 : ¬ ((S : Int) < 1) := by omega
  have s8 : ¬ (8 < (S : Int)) := by omega
  have sw : IntKind.i64.wrap ((S : Int) + 1) = (S : Int) + 1 := by rw [IntKind.wrap_i64]; omega
  exact pq (And.intro s1 (And.intro s8 sw))) : p := h
theorem tailOpRight1 {p : Prop} (h : p := by
  obtain ⟨s1, s8, sw⟩ := packOpRight1
  unfold opC
  go_enter Tryz.func127, Tryz.ntmps127
  go_wp2
  go_ret
  exact ⟨rfl, bk0⟩) : p := h
theorem tailOpRight2 {p : Prop} (h : p := by
  obtain ⟨s1, s8, sw⟩ := packOpRight1
  unfold opC
  go_enter Tryz.func127, Tryz.ntmps127
  go_wp2_with (go_at_call 180; refine (may_size p 0 S h0 h1 hp _).mono ?_; rintro e w1 ⟨rfl, hb⟩; have hk1 := Keep.mk hb; have xx := alk hk1.out; (try have zz := zs w.heap.size w1.heap.size); clear hb)
  go_ret
  exact ⟨rfl, bk0⟩) : p := h
theorem tailOpRight3 {p : Prop} (h : p := by
  obtain ⟨s1, s8, sw⟩ := packOpRight1
  unfold opC
  go_enter Tryz.func127, Tryz.ntmps127
  go_wp2_with (go_at_call 180; refine (may_slot p i S h0 h1 hp _).mono ?_; rintro e w1 ⟨rfl, hb⟩; have hk1 := Keep.mk hb; have xx := alk hk1.out; (try have zz := zs w.heap.size w1.heap.size); clear hb)
  go_ret
  exact ⟨rfl, bk0⟩) : p := h
theorem tailOpRight4 {p : Prop} (h : p := by
  obtain ⟨s1, s8, sw⟩ := packOpRight1
  have k0 : 0 ≤ (k : Int) := by omega
  have kS : (k : Int) ≤ (S : Int) + 1 := by omega
  unfold opC
  go_enter Tryz.func127, Tryz.ntmps127
  go_wp2
  go_ret
  exact ⟨rfl, bk0⟩) : p := h
theorem tailOpRight5 {p : Prop} (h : p := by
  have s1 : (1 : Int) ≤ (S : Int) := by omega
  have s8 : (S : Int) ≤ 8 := by omega
  have s2 : ¬ ((S : Int) < 1) := by omega
  have p0 : 0 ≤ (p : Int) := by omega
  have i0 : 0 ≤ (i : Int) := by omega
  have pS : (p : Int) < (S : Int) := by omega
  go_enter Tryz.func180, Tryz.ntmps180
  go_wp2
  go_ret
  exact ⟨rfl, bk5⟩) : p := h
theorem tailOpRight6 {p : Prop} (h : p := by
  have s1 : (1 : Int) ≤ (S : Int) := by omega
  have s8 : (S : Int) ≤ 8 := by omega
  have s2 : ¬ ((S : Int) < 1) := by omega
  have p0 : 0 ≤ (p : Int) := by omega
  have i0 : 0 ≤ (i : Int) := by omega
  go_enter Tryz.func180, Tryz.ntmps180
  go_wp2
  go_ret
  exact ⟨rfl, bk5⟩) : p := h
theorem may_bans (p i S : Nat) (h0 : 1 ≤ S) (h1 : S ≤ 8) (w : World) : Calls Tryz.prog 180 #[.agg (#[.int .i64 3, .int .i64 0, .int .i64 0]), .int .i64 S] w fun e w' => e = .returned (.bool true) ∧ Below w.heap.size w w' := by
  exact tailOpRight6
theorem may_inn (p i S : Nat) (h0 : 1 ≤ S) (h1 : S ≤ 8) (w : World) : Calls Tryz.prog 180 #[.agg (#[.int .i64 1, .int .i64 0, .int .i64 0]), .int .i64 S] w fun e w' => e = .returned (.bool true) ∧ Below w.heap.size w w' := by
  exact tailOpRight6
theorem may_size (p i S : Nat) (h0 : 1 ≤ S) (h1 : S ≤ 8) (hp : p < S) (w : World) : Calls Tryz.prog 180 #[.agg (#[.int .i64 5, .int .i64 p, .int .i64 0]), .int .i64 S] w fun e w' => e = .returned (.bool true) ∧ Below w.heap.size w w' := by
  exact tailOpRight5
theorem may_slot (p i S : Nat) (h0 : 1 ≤ S) (h1 : S ≤ 8) (hp : p < S) (w : World) : Calls Tryz.prog 180 #[.agg (#[.int .i64 6, .int .i64 p, .int .i64 i]), .int .i64 S] w fun e w' => e = .returned (.bool true) ∧ Below w.heap.size w w' := by
  exact tailOpRight5
def opFit (S : Nat) : Pm.Op → Prop
  | .lock k => k ≤ S + 1
  | .free k _ => k ≤ S + 1
  | .size p => p < S
  | .slot p _ => p < S
  | .wslot p _ _ => p < S
  | .wsize p _ => p < S
  | _ => True
theorem right_lock (k : Nat) (S : Nat) (h0 : 1 ≤ S) (h1 : S ≤ 8) (hk : k ≤ S + 1) (w : World) : Calls Tryz.prog 127 #[.agg (opC (.lock k)), .int .i64 S] w fun e w' => e = .returned (.bool true) ∧ Below w.heap.size w w' := by
  exact tailOpRight4
theorem right_share  (S : Nat) (h0 : 1 ≤ S) (h1 : S ≤ 8) (w : World) : Calls Tryz.prog 127 #[.agg (opC (.share)), .int .i64 S] w fun e w' => e = .returned (.bool true) ∧ Below w.heap.size w w' := by
  exact tailOpRight1
theorem right_free (k : Nat) (m : Bool) (S : Nat) (h0 : 1 ≤ S) (h1 : S ≤ 8) (hk : k ≤ S + 1) (w : World) : Calls Tryz.prog 127 #[.agg (opC (.free k m)), .int .i64 S] w fun e w' => e = .returned (.bool true) ∧ Below w.heap.size w w' := by
  exact tailOpRight4
theorem right_drop  (S : Nat) (h0 : 1 ≤ S) (h1 : S ≤ 8) (w : World) : Calls Tryz.prog 127 #[.agg (opC (.drop)), .int .i64 S] w fun e w' => e = .returned (.bool true) ∧ Below w.heap.size w w' := by
  exact tailOpRight1
theorem right_bans  (S : Nat) (h0 : 1 ≤ S) (h1 : S ≤ 8) (w : World) : Calls Tryz.prog 127 #[.agg (opC (.bans)), .int .i64 S] w fun e w' => e = .returned (.bool true) ∧ Below w.heap.size w w' := by
  obtain ⟨s1, s8, sw⟩ := packOpRight1
  unfold opC
  go_enter Tryz.func127, Tryz.ntmps127
  go_wp2_with (go_at_call 180; refine (may_bans 0 0 S h0 h1 _).mono ?_; rintro e w1 ⟨rfl, hb⟩; have hk1 := Keep.mk hb; have xx := alk hk1.out; (try have zz := zs w.heap.size w1.heap.size); clear hb)
  go_ret
  exact ⟨rfl, bk0⟩
theorem right_inn  (S : Nat) (h0 : 1 ≤ S) (h1 : S ≤ 8) (w : World) : Calls Tryz.prog 127 #[.agg (opC (.inn)), .int .i64 S] w fun e w' => e = .returned (.bool true) ∧ Below w.heap.size w w' := by
  obtain ⟨s1, s8, sw⟩ := packOpRight1
  unfold opC
  go_enter Tryz.func127, Tryz.ntmps127
  go_wp2_with (go_at_call 180; refine (may_inn 0 0 S h0 h1 _).mono ?_; rintro e w1 ⟨rfl, hb⟩; have hk1 := Keep.mk hb; have xx := alk hk1.out; (try have zz := zs w.heap.size w1.heap.size); clear hb)
  go_ret
  exact ⟨rfl, bk0⟩
theorem right_size (p : Nat) (S : Nat) (h0 : 1 ≤ S) (h1 : S ≤ 8) (hp : p < S) (w : World) : Calls Tryz.prog 127 #[.agg (opC (.size p)), .int .i64 S] w fun e w' => e = .returned (.bool true) ∧ Below w.heap.size w w' := by
  exact tailOpRight2
theorem right_slot (p i : Nat) (S : Nat) (h0 : 1 ≤ S) (h1 : S ≤ 8) (hp : p < S) (w : World) : Calls Tryz.prog 127 #[.agg (opC (.slot p i)), .int .i64 S] w fun e w' => e = .returned (.bool true) ∧ Below w.heap.size w w' := by
  exact tailOpRight3
theorem right_wslot (p i c : Nat) (S : Nat) (h0 : 1 ≤ S) (h1 : S ≤ 8) (hp : p < S) (w : World) : Calls Tryz.prog 127 #[.agg (opC (.wslot p i c)), .int .i64 S] w fun e w' => e = .returned (.bool true) ∧ Below w.heap.size w w' := by
  exact tailOpRight3
theorem right_wsize (p n : Nat) (S : Nat) (h0 : 1 ≤ S) (h1 : S ≤ 8) (hp : p < S) (w : World) : Calls Tryz.prog 127 #[.agg (opC (.wsize p n)), .int .i64 S] w fun e w' => e = .returned (.bool true) ∧ Below w.heap.size w w' := by
  exact tailOpRight2
theorem right_swap (n : Int) (S : Nat) (h0 : 1 ≤ S) (h1 : S ≤ 8) (w : World) : Calls Tryz.prog 127 #[.agg (opC (.swap n)), .int .i64 S] w fun e w' => e = .returned (.bool true) ∧ Below w.heap.size w w' := by
  exact tailOpRight1
/-- op.Right. -/
theorem right_law (o : Pm.Op) (S : Nat) (h0 : 1 ≤ S) (h1 : S ≤ 8) (hf : opFit S o) (w : World) : Calls Tryz.prog 127 #[.agg (opC o), .int .i64 S] w fun e w' => e = .returned (.bool true) ∧ Below w.heap.size w w' := by
  cases o with
  | lock k => exact right_lock k S h0 h1 hf w
  | share => exact right_share  S h0 h1 w
  | free k m => exact right_free k m S h0 h1 hf w
  | drop => exact right_drop  S h0 h1 w
  | bans => exact right_bans  S h0 h1 w
  | inn => exact right_inn  S h0 h1 w
  | size p => exact right_size p S h0 h1 hf w
  | slot p i => exact right_slot p i S h0 h1 hf w
  | wslot p i c => exact right_wslot p i c S h0 h1 hf w
  | wsize p n => exact right_wsize p n S h0 h1 hf w
  | swap n => exact right_swap n S h0 h1 w
end
section
open Go.RowKit
theorem srs_isRange {W : World} {g o n : Nat} {C : Array Value} (h : isCells W g = true) (hn : o + n ≤ C.size) : isRange (W.setRow g C) ⟨g, o, none⟩ n = true := own_isRange (by rw [sr_isCells]; exact h) (by rw [sr_row _ h]; exact hn)
theorem srs_rangeOf {W : World} {g o n : Nat} {C : Array Value} (h : isCells W g = true) (hn : o + n ≤ C.size) : rangeOf (W.setRow g C) ⟨g, o, none⟩ n = C.extract o (o + n) := by
  rw [own_rangeOf (by rw [sr_isCells]; exact h) (by rw [sr_row _ h]; exact hn), sr_row _ h]
theorem srs_fits {W : World} {g o n : Nat} {C : Array Value} (h : isCells W g = true) (hn : o + n ≤ C.size) : fitsAt (W.setRow g C) g o n = true := own_fits (by rw [sr_isCells]; exact h) (by rw [sr_row _ h]; exact hn)
theorem srs_cell {W : World} {g i : Nat} {C : Array Value} (h : isCells W g = true) : (W.setRow g C).cell? ⟨g, i, none⟩ = C[i]? := by
  rw [own_cell _ (by rw [sr_isCells]; exact h), sr_row _ h]
theorem srs_frozen {W : World} {g i : Nat} {C : Array Value} (h : isCells W g = true) : (W.setRow g C).frozen? ⟨g, i, none⟩ = false := own_frozen _ (by rw [sr_isCells]; exact h)
end
end Go.Proofs.YtnncjbkepakgpaaGreat
