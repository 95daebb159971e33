/-
  THE WORLD OF SOME CALLS.
-/
import Derived.Test.YtnncjbkepakgpaaGreatA07
import Derived.Test.YtnncjbkepakgpaaGreatA37
import Derived.Test.YtnncjbkepakgpaaGreatA10
namespace Go.Proofs.YtnncjbkepakgpaaGreat
set_option linter.unusedVariables false
set_option linter.unusedSimpArgs false
set_option maxRecDepth 100000
set_option maxHeartbeats 1500000
open Go.RowKit
attribute [local go_sem ↓] exec_load_29 exec_store_29 exec_load_51 exec_store_51 exec_load_62 exec_store_62
attribute [local go_sem] run_load29r run_store29i run_load51r run_store51i run_load62r run_store62i lt_up isRng_new rngOf_new isRange_past rangeOf_past isRange_drew rangeOf_drew fits_new fits_past fits_drew setAt_new setAt_past setAt_drew putAt_whole putAt_lit extract_whole extract_lit one_int one_bool one_slice one_ptr ones_lit onesL_nil onesL_cons isRow_new rowOf_new isRow_past rowOf_past isRow_drew rowOf_drew lt2 lt3 lt4 List.take_succ_cons List.take_zero List.drop_succ_cons List.drop_zero List.cons_append List.nil_append List.length_cons List.length_nil List.size_toArray setRow_new setRow_past own_cell own_frozen own_set own_isRange own_rangeOf own_fits setAt_row sr_sr sr_size sr_row sr_row' sr_isRow sr_isRow' sr_fits' sr_cell' sr_frozen' sr_isRange' sr_rangeOf' sr_isCells isCells_new isCells_past isCells_drew valC_size valC_ones opC_size opC_ones replyC_size srs_isRange srs_rangeOf srs_fits srs_cell srs_frozen
attribute [local go_sem ↓] exec_load_57 exec_store_57
attribute [local go_sem] run_load57r run_store57i
theorem packNewW1 {p : Prop} (h : PQ p := by
  have xb := alike (hk2.out)
  have bRb0 : isRow w2 ((w.heap.size)) 29 16 = true := (xb.1 _ _ _ bLa0).trans bRa0
  have bVb0 : rowOf w2 ((w.heap.size)) = #[.int .i64 most, .int .i64 4, .int .i64 S, .int .i64 64, .int .i64 64, .int .u64 1, .int .i64 1, .int .i64 1, .int .i64 1, .int .i64 64, .int .i64 100, .int .i64 100, .int .i64 1000, .int .i64 2, .int .i64 64, .int .i64 4] := (xb.2.1 _ bLa0).trans bVa0
  have bCb0 := isCells_row bRb0
  have bLb0 : (w.heap.size) < (w2).heap.size := Nat.lt_of_lt_of_le bLa0 hk2.out.size
  have bRb1 : isRow w2 ((w.heap.size + 1)) 57 3 = true := (xb.1 _ _ _ bLa1).trans bRa1
  have bVb1 : rowOf w2 ((w.heap.size + 1)) = #[.slice none 0 0, .slice none 0 0, .slice none 0 0] := (xb.2.1 _ bLa1).trans bVa1
  have bCb1 := isCells_row bRb1
  have bLb1 : (w.heap.size + 1) < (w2).heap.size := Nat.lt_of_lt_of_le bLa1 hk2.out.size
  have bRb2 : isRow w2 ((w.heap.size + 1 + 1)) 51 24 = true := (xb.1 _ _ _ bLa2).trans bRa2
  have bVb2 : rowOf w2 ((w.heap.size + 1 + 1)) = #[.int .i64 0, .int .i64 0, .int .i64 0, .int .i64 0, .int .i64 0, .int .u64 0, .int .i64 0, .int .i64 0, .int .i64 0, .int .i64 0, .int .i64 0, .int .i64 0, .int .i64 0, .int .i64 0, .int .i64 0, .int .i64 0, .int .i64 0, .int .i64 0, .slice none 0 0, .slice none 0 0, .slice none 0 0, .slice none 0 0, .slice none 0 0, .slice none 0 0] := (xb.2.1 _ bLa2).trans bVa2
  have bCb2 := isCells_row bRb2
  have bLb2 : (w.heap.size + 1 + 1) < (w2).heap.size := Nat.lt_of_lt_of_le bLa2 hk2.out.size
  have hsz : w1.heap.size ≤ w2.heap.size := hk2.out.size
  exact pq (And.intro xb (And.intro bRb0 (And.intro bVb0 (And.intro bCb0 (And.intro bLb0 (And.intro bRb1 (And.intro bVb1 (And.intro bCb1 (And.intro bLb1 (And.intro bRb2 (And.intro bVb2 (And.intro bCb2 (And.intro bLb2 hsz)))))))))))))) : p := h
theorem drew_sizeV (w : World) : w.drew.heap.size = w.heap.size := id rfl
attribute [local go_sem high] drew_sizeV
attribute [local simp high] drew_sizeV
def NewEnd (most S : Nat) (ls : List (List Nat)) (w : World) (e : Ending) (w' : World) : Prop := ∃ X, e = .returned (.tuple #[.agg X, .int .i64 0]) ∧ WldIn (fun g => w.heap.size ≤ g) most S w' X (Pm.zero ⟨most, S, prt S⟩ ls) 0 ∧ Below w.heap.size w w'
def zTask (l : List Nat) : Pm.Task := ⟨l, 0, [], []⟩
theorem zTask_def : True := trivial
/-- A task that did nothing yet: its calls lie in a row of their own. -/
def ZT (W : World) (B : Nat) (C : Array Value) (l : List Nat) : Prop := ∃ vc, C = #[vc, .int .i64 0, .slice none 0 0, .slice none 0 0, .bool false] ∧ Own W B 41 12 vc (l.map callC)
theorem ZT.task {W : World} {B : Nat} {C : Array Value} {l : List Nat} (h : ZT W B C l) : TaskAt W C (zTask l) := by
  obtain ⟨vc, rfl, h⟩ := h
  exact ⟨vc, _, _, rfl, h.sl, Sl.nil _ _, Sl.nil _ _⟩
theorem ZT.reach {W : World} {B : Nat} {C : Array Value} {l : List Nat} (h : ZT W B C l) {q : Nat} (hq : Reach C q) : B ≤ q := by
  obtain ⟨vc, rfl, h⟩ := h
  obtain ⟨v, hv, hq⟩ := hq
  simp only [List.mem_cons, List.not_mem_nil, or_false] at hv
  rcases hv with rfl | rfl | rfl | rfl | rfl
  · exact (h.base hq).1
  all_goals cases hq
theorem ZT.below {W W' : World} {B : Nat} {C : Array Value} {l : List Nat} (h : ZT W B C l) (k : Below W.heap.size W W') : ZT W' B C l := by
  obtain ⟨vc, h0, h⟩ := h
  exact ⟨vc, h0, h.below k⟩
theorem ZT.upto {W W' : World} {B T : Nat} {C : Array Value} {l : List Nat} (h : ZT W B C l) (k : Upto T W W') (hT : T < B) : ZT W' B C l := by
  obtain ⟨vc, h0, h⟩ := h
  exact ⟨vc, h0, h.upto k hT⟩
theorem ZT.beside {W W' : World} {B B' : Nat} {C : Array Value} {l : List Nat} {v : Value} {L : List (Array Value)} (h : ZT W B C l) (h' : Own W B' 62 5 v L) (hw : ∀ q, q < W.heap.size → v.ownBlock ≠ some q → W'.heap[q]? = W.heap[q]?) : ZT W' B C l := by
  obtain ⟨vc, h0, h⟩ := h
  exact ⟨vc, h0, h.beside h' (by decide) hw⟩
/-- k tasks are laid. -/
def Laid (ls : List (List Nat)) (B k : Nat) (W : World) (a : Option Addr) (c : Nat) (CT : List (Array Value)) : Prop := CT.length = k ∧ Own W B 62 5 (.slice a k c) CT ∧ ∀ (i : Nat) (C : Array Value) (l : List Nat), CT[i]? = some C → ls[i]? = some l → ZT W B C l
theorem calls_at {W : World} {a : Option Addr} {n c : Nat} {CC : List (Array Value)} {ls : List (List Nat)} (h : Sl W (.slice a n c) 1 CC) (he : Els CallsAt W CC ls) {k : Nat} (hk : k < ls.length) : ∃ g o v, a = some ⟨g, o, none⟩ ∧ g < W.heap.size ∧ W.cell? ⟨g, o + k, none⟩ = some v ∧ Sl W v 12 (ls[k].map callC) := by
  obtain ⟨C, hC, v, rfl, hv⟩ := he.at (List.getElem?_eq_getElem hk)
  obtain ⟨a', cap, e, h1, h2, h3⟩ := h
  simp only [Value.slice.injEq] at e
  obtain ⟨rfl, -, -⟩ := e
  rcases h3 with ⟨_, h3⟩ | ⟨g, o, rfl, hg, h3⟩
  · subst h3; simp at hC
  · have hc := (h3 k _ hC).cell (k := 0) (v := v) (by simp)
    exact ⟨g, o, v, rfl, hg, by simpa using hc, hv⟩
theorem laid_next {ls : List (List Nat)} {B k : Nat} {W : World} {CT : List (Array Value)} {a : Option Addr} {c : Nat} {C : Array Value} (hk : k < ls.length) (hl : CT.length = k) (hO : Own W B 62 5 (.slice a (k + 1) c) (CT ++ [C])) (hZ : ∀ (i : Nat) (C : Array Value) (l : List Nat), CT[i]? = some C → ls[i]? = some l → ZT W B C l) (hC : ZT W B C ls[k]) : Laid ls B (k + 1) W a c (CT ++ [C]) := by
  refine ⟨by simp [hl], hO, fun i D l hD hl' => ?_⟩
  rw [List.getElem?_append] at hD
  split at hD
  · exact hZ i D l hD hl'
  · rename_i h
    obtain rfl : i = k := by
      have := (List.getElem?_eq_some_iff.1 hD).1
      simp at this; omega
    rw [hl, Nat.sub_self] at hD
    simp only [List.getElem?_cons_zero, Option.some.injEq] at hD
    rw [List.getElem?_eq_getElem hk] at hl'
    cases hl'; subst hD
    exact hC
theorem laid_upto {ls : List (List Nat)} {B k T : Nat} {W W' : World} {CT : List (Array Value)} {a : Option Addr} {c : Nat} (h : Laid ls B k W a c CT) (u : Upto T W W') (hT : T < B) : Laid ls B k W' a c CT := by
  obtain ⟨h1, h2, h3⟩ := h
  exact ⟨h1, h2.upto u hT, fun i C l hC hl => (h3 i C l hC hl).upto u hT⟩
theorem laid_end {ls : List (List Nat)} {B : Nat} {W : World} {CT : List (Array Value)} {a : Option Addr} {c : Nat} (h : Laid ls B ls.length W a c CT) : Els TaskAt W CT (ls.map zTask) ∧ ∀ C ∈ CT, ∀ q, Reach C q → B ≤ q := by
  obtain ⟨h1, h2, h3⟩ := h
  have key : ∀ (i : Nat) (C : Array Value), CT[i]? = some C → ∃ l, ls[i]? = some l ∧ ZT W B C l := fun i C hC => by
    have hi := (List.getElem?_eq_some_iff.1 hC).1
    have hi' : i < ls.length := by omega
    exact ⟨_, List.getElem?_eq_getElem hi', h3 i C _ hC (List.getElem?_eq_getElem hi')⟩
  refine ⟨⟨by simp [h1], fun i C x hC hx => ?_⟩, fun C hC q hq => ?_⟩
  · obtain ⟨l, hl, hz⟩ := key i C hC
    rw [List.getElem?_map, hl] at hx
    cases hx
    exact hz.task
  · obtain ⟨i, hi⟩ := List.mem_iff_getElem?.1 hC
    obtain ⟨l, hl, hz⟩ := key i C hi
    exact hz.reach hq
theorem new_close {most S : Nat} {ls : List (List Nat)} {B B0 : Nat} {W : World} {CT : List (Array Value)} {aS aL a : Option Addr} {cS cL c : Nat} (hB : B0 ≤ B) (h : Laid ls B ls.length W a c CT) (hS : Sl W (.slice aS S cS) 2 (List.replicate S #[.int .i64 0, .slice none 0 0])) (hL : Sl W (.slice aL (S + 2) cL) 2 (List.replicate (S + 2) #[.int .i64 0, .slice none 0 0])) (fS : ∀ q, (Value.slice aS S cS).ownBlock = some q → B0 ≤ q) (fL : ∀ q, (Value.slice aL (S + 2) cL).ownBlock = some q → B0 ≤ q) :
    WldIn (fun g => B0 ≤ g) most S W (#[.int .i64 most, .int .i64 4, .int .i64 S, .int .i64 64, .int .i64 64, .int .u64 1, .int .i64 1, .int .i64 1, .int .i64 1, .int .i64 64, .int .i64 100, .int .i64 100, .int .i64 1000, .int .i64 2, .int .i64 64, .int .i64 4, .int .i64 0, .int .i64 0, .slice none 0 0, .slice none 0 0, .slice aS S cS, .slice aL (S + 2) cL, .slice a ls.length c, .slice none 0 0]) (Pm.zero ⟨most, S, prt S⟩ ls) 0 := by
  obtain ⟨e1, e2⟩ := laid_end h
  refine ⟨aS, aL, a, none, S, cS, S + 2, cL, ls.length, c, 0, 0, CT, [], rfl, mem_zero S ⟨most, S, prt S⟩ rfl ls hS hL fS fL, h.2.1.sl, e1, Sl.nil _ _, Nat.le_refl _, fun q hq => Nat.le_trans hB (h.2.1.base hq).1, fun C hC q hq => Nat.le_trans hB (e2 C hC q hq), fun q hq => by simp [Value.ownBlock] at hq⟩
/-- world.New. -/
theorem world_new (most S : Nat) (hm : most ≤ 65535) (h0 : 1 ≤ S) (h1 : S ≤ 8) (ls : List (List Nat)) (hl : ls.length ≤ 8) (hc : ∀ l ∈ ls, l.length ≤ 64) (CC : List (Array Value)) (v : Value) (w : World) (h : Sl w v 1 CC) (he : Els CallsAt w CC ls) :
    Calls Tryz.prog 8 #[.agg (#[.int .i64 most, .int .i64 4, .int .i64 S, .int .i64 64, .int .i64 64, .int .u64 1, .int .i64 1, .int .i64 1, .int .i64 1, .int .i64 64, .int .i64 100, .int .i64 100, .int .i64 1000, .int .i64 2, .int .i64 64, .int .i64 4]), .agg (#[.slice none 0 0, .slice none 0 0, .slice none 0 0]), v] w (NewEnd most S ls w) := by
  have hcc := he.1
  have HE := Lib.hid he
  obtain ⟨ac, cc, rfl, -⟩ := id h
  rw [hcc] at h ⊢
  have HS0 := Lib.hid h
  have HM := Lib.hid (model_right most S hm h0 h1)
  have HC := Lib.hid hc
  have l8 : ¬ ((ls.length : Int) > 8) := by omega
  have l8' : ¬ ((8 : Int) < (ls.length : Int)) := by omega
  clear h he hc hcc
  go_enter Tryz.func8, Tryz.ntmps8
  go_wp2_with fail
  have bw : Below w.heap.size w (((w.alloc (.cells (#[.int .i64 most, .int .i64 4, .int .i64 S, .int .i64 64, .int .i64 64, .int .u64 1, .int .i64 1, .int .i64 1, .int .i64 1, .int .i64 64, .int .i64 100, .int .i64 100, .int .i64 1000, .int .i64 2, .int .i64 64, .int .i64 4]) 29)).alloc (.cells (#[.slice none 0 0, .slice none 0 0, .slice none 0 0]) 57)).alloc (.cells (#[.int .i64 0, .int .i64 0, .int .i64 0, .int .i64 0, .int .i64 0, .int .u64 0, .int .i64 0, .int .i64 0, .int .i64 0, .int .i64 0, .int .i64 0, .int .i64 0, .int .i64 0, .int .i64 0, .int .i64 0, .int .i64 0, .int .i64 0, .int .i64 0, .slice none 0 0, .slice none 0 0, .slice none 0 0, .slice none 0 0, .slice none 0 0, .slice none 0 0]) 51)) := bk5
  have bRg0 : isRow (((w.alloc (.cells (#[.int .i64 most, .int .i64 4, .int .i64 S, .int .i64 64, .int .i64 64, .int .u64 1, .int .i64 1, .int .i64 1, .int .i64 1, .int .i64 64, .int .i64 100, .int .i64 100, .int .i64 1000, .int .i64 2, .int .i64 64, .int .i64 4]) 29)).alloc (.cells (#[.slice none 0 0, .slice none 0 0, .slice none 0 0]) 57)).alloc (.cells (#[.int .i64 0, .int .i64 0, .int .i64 0, .int .i64 0, .int .i64 0, .int .u64 0, .int .i64 0, .int .i64 0, .int .i64 0, .int .i64 0, .int .i64 0, .int .i64 0, .int .i64 0, .int .i64 0, .int .i64 0, .int .i64 0, .int .i64 0, .int .i64 0, .slice none 0 0, .slice none 0 0, .slice none 0 0, .slice none 0 0, .slice none 0 0, .slice none 0 0]) 51)) ((w.heap.size)) 29 16 = true := by go_simp
  have bVg0 : rowOf (((w.alloc (.cells (#[.int .i64 most, .int .i64 4, .int .i64 S, .int .i64 64, .int .i64 64, .int .u64 1, .int .i64 1, .int .i64 1, .int .i64 1, .int .i64 64, .int .i64 100, .int .i64 100, .int .i64 1000, .int .i64 2, .int .i64 64, .int .i64 4]) 29)).alloc (.cells (#[.slice none 0 0, .slice none 0 0, .slice none 0 0]) 57)).alloc (.cells (#[.int .i64 0, .int .i64 0, .int .i64 0, .int .i64 0, .int .i64 0, .int .u64 0, .int .i64 0, .int .i64 0, .int .i64 0, .int .i64 0, .int .i64 0, .int .i64 0, .int .i64 0, .int .i64 0, .int .i64 0, .int .i64 0, .int .i64 0, .int .i64 0, .slice none 0 0, .slice none 0 0, .slice none 0 0, .slice none 0 0, .slice none 0 0, .slice none 0 0]) 51)) ((w.heap.size)) = #[.int .i64 most, .int .i64 4, .int .i64 S, .int .i64 64, .int .i64 64, .int .u64 1, .int .i64 1, .int .i64 1, .int .i64 1, .int .i64 64, .int .i64 100, .int .i64 100, .int .i64 1000, .int .i64 2, .int .i64 64, .int .i64 4] := by go_simp
  have bCg0 := isCells_row bRg0
  have bLg0 : (w.heap.size) < ((((w.alloc (.cells (#[.int .i64 most, .int .i64 4, .int .i64 S, .int .i64 64, .int .i64 64, .int .u64 1, .int .i64 1, .int .i64 1, .int .i64 1, .int .i64 64, .int .i64 100, .int .i64 100, .int .i64 1000, .int .i64 2, .int .i64 64, .int .i64 4]) 29)).alloc (.cells (#[.slice none 0 0, .slice none 0 0, .slice none 0 0]) 57)).alloc (.cells (#[.int .i64 0, .int .i64 0, .int .i64 0, .int .i64 0, .int .i64 0, .int .u64 0, .int .i64 0, .int .i64 0, .int .i64 0, .int .i64 0, .int .i64 0, .int .i64 0, .int .i64 0, .int .i64 0, .int .i64 0, .int .i64 0, .int .i64 0, .int .i64 0, .slice none 0 0, .slice none 0 0, .slice none 0 0, .slice none 0 0, .slice none 0 0, .slice none 0 0]) 51))).heap.size := bk1
  have bRg1 : isRow (((w.alloc (.cells (#[.int .i64 most, .int .i64 4, .int .i64 S, .int .i64 64, .int .i64 64, .int .u64 1, .int .i64 1, .int .i64 1, .int .i64 1, .int .i64 64, .int .i64 100, .int .i64 100, .int .i64 1000, .int .i64 2, .int .i64 64, .int .i64 4]) 29)).alloc (.cells (#[.slice none 0 0, .slice none 0 0, .slice none 0 0]) 57)).alloc (.cells (#[.int .i64 0, .int .i64 0, .int .i64 0, .int .i64 0, .int .i64 0, .int .u64 0, .int .i64 0, .int .i64 0, .int .i64 0, .int .i64 0, .int .i64 0, .int .i64 0, .int .i64 0, .int .i64 0, .int .i64 0, .int .i64 0, .int .i64 0, .int .i64 0, .slice none 0 0, .slice none 0 0, .slice none 0 0, .slice none 0 0, .slice none 0 0, .slice none 0 0]) 51)) ((w.heap.size + 1)) 57 3 = true := by go_simp
  have bVg1 : rowOf (((w.alloc (.cells (#[.int .i64 most, .int .i64 4, .int .i64 S, .int .i64 64, .int .i64 64, .int .u64 1, .int .i64 1, .int .i64 1, .int .i64 1, .int .i64 64, .int .i64 100, .int .i64 100, .int .i64 1000, .int .i64 2, .int .i64 64, .int .i64 4]) 29)).alloc (.cells (#[.slice none 0 0, .slice none 0 0, .slice none 0 0]) 57)).alloc (.cells (#[.int .i64 0, .int .i64 0, .int .i64 0, .int .i64 0, .int .i64 0, .int .u64 0, .int .i64 0, .int .i64 0, .int .i64 0, .int .i64 0, .int .i64 0, .int .i64 0, .int .i64 0, .int .i64 0, .int .i64 0, .int .i64 0, .int .i64 0, .int .i64 0, .slice none 0 0, .slice none 0 0, .slice none 0 0, .slice none 0 0, .slice none 0 0, .slice none 0 0]) 51)) ((w.heap.size + 1)) = #[.slice none 0 0, .slice none 0 0, .slice none 0 0] := by go_simp
  have bCg1 := isCells_row bRg1
  have bLg1 : (w.heap.size + 1) < ((((w.alloc (.cells (#[.int .i64 most, .int .i64 4, .int .i64 S, .int .i64 64, .int .i64 64, .int .u64 1, .int .i64 1, .int .i64 1, .int .i64 1, .int .i64 64, .int .i64 100, .int .i64 100, .int .i64 1000, .int .i64 2, .int .i64 64, .int .i64 4]) 29)).alloc (.cells (#[.slice none 0 0, .slice none 0 0, .slice none 0 0]) 57)).alloc (.cells (#[.int .i64 0, .int .i64 0, .int .i64 0, .int .i64 0, .int .i64 0, .int .u64 0, .int .i64 0, .int .i64 0, .int .i64 0, .int .i64 0, .int .i64 0, .int .i64 0, .int .i64 0, .int .i64 0, .int .i64 0, .int .i64 0, .int .i64 0, .int .i64 0, .slice none 0 0, .slice none 0 0, .slice none 0 0, .slice none 0 0, .slice none 0 0, .slice none 0 0]) 51))).heap.size := bk1
  have bRg2 : isRow (((w.alloc (.cells (#[.int .i64 most, .int .i64 4, .int .i64 S, .int .i64 64, .int .i64 64, .int .u64 1, .int .i64 1, .int .i64 1, .int .i64 1, .int .i64 64, .int .i64 100, .int .i64 100, .int .i64 1000, .int .i64 2, .int .i64 64, .int .i64 4]) 29)).alloc (.cells (#[.slice none 0 0, .slice none 0 0, .slice none 0 0]) 57)).alloc (.cells (#[.int .i64 0, .int .i64 0, .int .i64 0, .int .i64 0, .int .i64 0, .int .u64 0, .int .i64 0, .int .i64 0, .int .i64 0, .int .i64 0, .int .i64 0, .int .i64 0, .int .i64 0, .int .i64 0, .int .i64 0, .int .i64 0, .int .i64 0, .int .i64 0, .slice none 0 0, .slice none 0 0, .slice none 0 0, .slice none 0 0, .slice none 0 0, .slice none 0 0]) 51)) ((w.heap.size + 1 + 1)) 51 24 = true := by go_simp
  have bVg2 : rowOf (((w.alloc (.cells (#[.int .i64 most, .int .i64 4, .int .i64 S, .int .i64 64, .int .i64 64, .int .u64 1, .int .i64 1, .int .i64 1, .int .i64 1, .int .i64 64, .int .i64 100, .int .i64 100, .int .i64 1000, .int .i64 2, .int .i64 64, .int .i64 4]) 29)).alloc (.cells (#[.slice none 0 0, .slice none 0 0, .slice none 0 0]) 57)).alloc (.cells (#[.int .i64 0, .int .i64 0, .int .i64 0, .int .i64 0, .int .i64 0, .int .u64 0, .int .i64 0, .int .i64 0, .int .i64 0, .int .i64 0, .int .i64 0, .int .i64 0, .int .i64 0, .int .i64 0, .int .i64 0, .int .i64 0, .int .i64 0, .int .i64 0, .slice none 0 0, .slice none 0 0, .slice none 0 0, .slice none 0 0, .slice none 0 0, .slice none 0 0]) 51)) ((w.heap.size + 1 + 1)) = #[.int .i64 0, .int .i64 0, .int .i64 0, .int .i64 0, .int .i64 0, .int .u64 0, .int .i64 0, .int .i64 0, .int .i64 0, .int .i64 0, .int .i64 0, .int .i64 0, .int .i64 0, .int .i64 0, .int .i64 0, .int .i64 0, .int .i64 0, .int .i64 0, .slice none 0 0, .slice none 0 0, .slice none 0 0, .slice none 0 0, .slice none 0 0, .slice none 0 0] := by go_simp
  have bCg2 := isCells_row bRg2
  have bLg2 : (w.heap.size + 1 + 1) < ((((w.alloc (.cells (#[.int .i64 most, .int .i64 4, .int .i64 S, .int .i64 64, .int .i64 64, .int .u64 1, .int .i64 1, .int .i64 1, .int .i64 1, .int .i64 64, .int .i64 100, .int .i64 100, .int .i64 1000, .int .i64 2, .int .i64 64, .int .i64 4]) 29)).alloc (.cells (#[.slice none 0 0, .slice none 0 0, .slice none 0 0]) 57)).alloc (.cells (#[.int .i64 0, .int .i64 0, .int .i64 0, .int .i64 0, .int .i64 0, .int .u64 0, .int .i64 0, .int .i64 0, .int .i64 0, .int .i64 0, .int .i64 0, .int .i64 0, .int .i64 0, .int .i64 0, .int .i64 0, .int .i64 0, .int .i64 0, .int .i64 0, .slice none 0 0, .slice none 0 0, .slice none 0 0, .slice none 0 0, .slice none 0 0, .slice none 0 0]) 51))).heap.size := bk1
  refine (HM.out _).mono ?_
  rintro e w1 ⟨rfl, hb⟩
  have bw1 : Below w.heap.size w w1 := bw.trans (hb.mono (by simp; omega))
  have xa := alike hb
  have bRa0 : isRow w1 ((w.heap.size)) 29 16 = true := (xa.1 _ _ _ bLg0).trans bRg0
  have bVa0 : rowOf w1 ((w.heap.size)) = #[.int .i64 most, .int .i64 4, .int .i64 S, .int .i64 64, .int .i64 64, .int .u64 1, .int .i64 1, .int .i64 1, .int .i64 1, .int .i64 64, .int .i64 100, .int .i64 100, .int .i64 1000, .int .i64 2, .int .i64 64, .int .i64 4] := (xa.2.1 _ bLg0).trans bVg0
  have bCa0 := isCells_row bRa0
  have bLa0 : (w.heap.size) < (w1).heap.size := Nat.lt_of_lt_of_le bLg0 hb.size
  have bRa1 : isRow w1 ((w.heap.size + 1)) 57 3 = true := (xa.1 _ _ _ bLg1).trans bRg1
  have bVa1 : rowOf w1 ((w.heap.size + 1)) = #[.slice none 0 0, .slice none 0 0, .slice none 0 0] := (xa.2.1 _ bLg1).trans bVg1
  have bCa1 := isCells_row bRa1
  have bLa1 : (w.heap.size + 1) < (w1).heap.size := Nat.lt_of_lt_of_le bLg1 hb.size
  have bRa2 : isRow w1 ((w.heap.size + 1 + 1)) 51 24 = true := (xa.1 _ _ _ bLg2).trans bRg2
  have bVa2 : rowOf w1 ((w.heap.size + 1 + 1)) = #[.int .i64 0, .int .i64 0, .int .i64 0, .int .i64 0, .int .i64 0, .int .u64 0, .int .i64 0, .int .i64 0, .int .i64 0, .int .i64 0, .int .i64 0, .int .i64 0, .int .i64 0, .int .i64 0, .int .i64 0, .int .i64 0, .int .i64 0, .int .i64 0, .slice none 0 0, .slice none 0 0, .slice none 0 0, .slice none 0 0, .slice none 0 0, .slice none 0 0] := (xa.2.1 _ bLg2).trans bVg2
  have bCa2 := isCells_row bRa2
  have bLa2 : (w.heap.size + 1 + 1) < (w1).heap.size := Nat.lt_of_lt_of_le bLg2 hb.size
  clear xa hb bw HM bRg0 bVg0 bCg0 bLg0 bRg1 bVg1 bCg1 bLg1 bRg2 bVg2 bCg2 bLg2
  go_wp2_with fail
  refine region_treeZ 6 (by kernel_rfl) (Keep w1) [0, 1, 2] 4 (by kernel_rfl) (by kernel_rfl) (fun _ _ d _ _ h => by cases d <;> exact h) ⟨(Below.refl _ _).drew⟩ ?_
  simp only [PL]
  apply reads_op
  · exact bk8
  try simp only [PT]
  apply reads_op
  · exact bk8
  try simp only [PT]
  apply reads_op
  · exact bk8
  try simp only [PT]
  refine reads_nil ?_
  refine treeZ_two 3 5 (by kernel_rfl) (by kernel_rfl) (by kernel_rfl) ?q3 ?q5
  case' q3 =>
    simp only [nthL]
    go_wp2_with fail
    refine (mem_new most S h0 h1 _).mono ?_
    rintro e w2 ⟨vS, vL, rfl, hS, hL, fS, fL, hb⟩
    obtain ⟨aS, cS, eS, -⟩ := id hS
    obtain ⟨aL, cL, eL, -⟩ := id hL
    simp only [List.length_replicate] at eS eL
    subst eS eL
    have hk2 := Keep.mk (show Below w1.heap.size w1 w2 from ((Below.refl w1.heap.size w1).drew).trans hb)
    have hfS := Lib.hid (show ∀ q, (Value.slice aS S cS).ownBlock = some q → w1.heap.size ≤ q from fS)
    have hfL := Lib.hid (show ∀ q, (Value.slice aL (S + 2) cL).ownBlock = some q → w1.heap.size ≤ q from fL)
    have HS := Lib.hid hS
    have HL := Lib.hid hL
    clear fS fL hS hL hb
    obtain ⟨xb, bRb0, bVb0, bCb0, bLb0, bRb1, bVb1, bCb1, bLb1, bRb2, bVb2, bCb2, bLb2, hsz⟩ := packNewW1
    clear xb
    go_wp2
    refine chain_on ⟨bk4⟩ ?_
    refine treeZ_reads (by kernel_rfl) [4] 2 rfl (by kernel_rfl) (fun _ _ d _ _ h => by cases d <;> exact h) ⟨bk4⟩ ?_
    simp only [PL]
    apply reads_op
    · exact bk8
    try simp only [PT]
    refine reads_nil ?_
    refine treeZ_one 5 (by kernel_rfl) (by kernel_rfl) ?_
    simp only [nthL]
    go_wp2_with fail
    refine chain_on ⟨bk4⟩ ?_
    refine treeZ_last 6 rfl (by kernel_rfl) (by kernel_rfl) ?_
    simp only [nthL]
    go_wp2_with fail
    refine chain_on trivial ?_
    refine treeZ_end (by kernel_rfl) ?_
    have hB2 : Below w1.heap.size w1 (w2.alloc (.cells (#[.int .i64 most, .int .i64 4, .int .i64 S, .int .i64 64, .int .i64 64, .int .u64 1, .int .i64 1, .int .i64 1, .int .i64 1, .int .i64 64, .int .i64 100, .int .i64 100, .int .i64 1000, .int .i64 2, .int .i64 64, .int .i64 4, .int .i64 0, .int .i64 0, .slice none 0 0, .slice none 0 0, .slice aS S cS, .slice aL (S + 2) cL, .slice none 0 0, .slice none 0 0]) 51)) := hk2.out.alloc hsz _
    have xd := alike hB2
    have bRc0 : isRow (w2.alloc (.cells (#[.int .i64 most, .int .i64 4, .int .i64 S, .int .i64 64, .int .i64 64, .int .u64 1, .int .i64 1, .int .i64 1, .int .i64 1, .int .i64 64, .int .i64 100, .int .i64 100, .int .i64 1000, .int .i64 2, .int .i64 64, .int .i64 4, .int .i64 0, .int .i64 0, .slice none 0 0, .slice none 0 0, .slice aS S cS, .slice aL (S + 2) cL, .slice none 0 0, .slice none 0 0]) 51)) ((w.heap.size)) 29 16 = true := (xd.1 _ _ _ bLa0).trans bRa0
    have bVc0 : rowOf (w2.alloc (.cells (#[.int .i64 most, .int .i64 4, .int .i64 S, .int .i64 64, .int .i64 64, .int .u64 1, .int .i64 1, .int .i64 1, .int .i64 1, .int .i64 64, .int .i64 100, .int .i64 100, .int .i64 1000, .int .i64 2, .int .i64 64, .int .i64 4, .int .i64 0, .int .i64 0, .slice none 0 0, .slice none 0 0, .slice aS S cS, .slice aL (S + 2) cL, .slice none 0 0, .slice none 0 0]) 51)) ((w.heap.size)) = #[.int .i64 most, .int .i64 4, .int .i64 S, .int .i64 64, .int .i64 64, .int .u64 1, .int .i64 1, .int .i64 1, .int .i64 1, .int .i64 64, .int .i64 100, .int .i64 100, .int .i64 1000, .int .i64 2, .int .i64 64, .int .i64 4] := (xd.2.1 _ bLa0).trans bVa0
    have bCc0 := isCells_row bRc0
    have bLc0 : (w.heap.size) < ((w2.alloc (.cells (#[.int .i64 most, .int .i64 4, .int .i64 S, .int .i64 64, .int .i64 64, .int .u64 1, .int .i64 1, .int .i64 1, .int .i64 1, .int .i64 64, .int .i64 100, .int .i64 100, .int .i64 1000, .int .i64 2, .int .i64 64, .int .i64 4, .int .i64 0, .int .i64 0, .slice none 0 0, .slice none 0 0, .slice aS S cS, .slice aL (S + 2) cL, .slice none 0 0, .slice none 0 0]) 51))).heap.size := Nat.lt_of_lt_of_le bLa0 hB2.size
    have bRc1 : isRow (w2.alloc (.cells (#[.int .i64 most, .int .i64 4, .int .i64 S, .int .i64 64, .int .i64 64, .int .u64 1, .int .i64 1, .int .i64 1, .int .i64 1, .int .i64 64, .int .i64 100, .int .i64 100, .int .i64 1000, .int .i64 2, .int .i64 64, .int .i64 4, .int .i64 0, .int .i64 0, .slice none 0 0, .slice none 0 0, .slice aS S cS, .slice aL (S + 2) cL, .slice none 0 0, .slice none 0 0]) 51)) ((w.heap.size + 1)) 57 3 = true := (xd.1 _ _ _ bLa1).trans bRa1
    have bVc1 : rowOf (w2.alloc (.cells (#[.int .i64 most, .int .i64 4, .int .i64 S, .int .i64 64, .int .i64 64, .int .u64 1, .int .i64 1, .int .i64 1, .int .i64 1, .int .i64 64, .int .i64 100, .int .i64 100, .int .i64 1000, .int .i64 2, .int .i64 64, .int .i64 4, .int .i64 0, .int .i64 0, .slice none 0 0, .slice none 0 0, .slice aS S cS, .slice aL (S + 2) cL, .slice none 0 0, .slice none 0 0]) 51)) ((w.heap.size + 1)) = #[.slice none 0 0, .slice none 0 0, .slice none 0 0] := (xd.2.1 _ bLa1).trans bVa1
    have bCc1 := isCells_row bRc1
    have bLc1 : (w.heap.size + 1) < ((w2.alloc (.cells (#[.int .i64 most, .int .i64 4, .int .i64 S, .int .i64 64, .int .i64 64, .int .u64 1, .int .i64 1, .int .i64 1, .int .i64 1, .int .i64 64, .int .i64 100, .int .i64 100, .int .i64 1000, .int .i64 2, .int .i64 64, .int .i64 4, .int .i64 0, .int .i64 0, .slice none 0 0, .slice none 0 0, .slice aS S cS, .slice aL (S + 2) cL, .slice none 0 0, .slice none 0 0]) 51))).heap.size := Nat.lt_of_lt_of_le bLa1 hB2.size
    have bRc2 : isRow (w2.alloc (.cells (#[.int .i64 most, .int .i64 4, .int .i64 S, .int .i64 64, .int .i64 64, .int .u64 1, .int .i64 1, .int .i64 1, .int .i64 1, .int .i64 64, .int .i64 100, .int .i64 100, .int .i64 1000, .int .i64 2, .int .i64 64, .int .i64 4, .int .i64 0, .int .i64 0, .slice none 0 0, .slice none 0 0, .slice aS S cS, .slice aL (S + 2) cL, .slice none 0 0, .slice none 0 0]) 51)) ((w.heap.size + 1 + 1)) 51 24 = true := (xd.1 _ _ _ bLa2).trans bRa2
    have bVc2 : rowOf (w2.alloc (.cells (#[.int .i64 most, .int .i64 4, .int .i64 S, .int .i64 64, .int .i64 64, .int .u64 1, .int .i64 1, .int .i64 1, .int .i64 1, .int .i64 64, .int .i64 100, .int .i64 100, .int .i64 1000, .int .i64 2, .int .i64 64, .int .i64 4, .int .i64 0, .int .i64 0, .slice none 0 0, .slice none 0 0, .slice aS S cS, .slice aL (S + 2) cL, .slice none 0 0, .slice none 0 0]) 51)) ((w.heap.size + 1 + 1)) = #[.int .i64 0, .int .i64 0, .int .i64 0, .int .i64 0, .int .i64 0, .int .u64 0, .int .i64 0, .int .i64 0, .int .i64 0, .int .i64 0, .int .i64 0, .int .i64 0, .int .i64 0, .int .i64 0, .int .i64 0, .int .i64 0, .int .i64 0, .int .i64 0, .slice none 0 0, .slice none 0 0, .slice none 0 0, .slice none 0 0, .slice none 0 0, .slice none 0 0] := (xd.2.1 _ bLa2).trans bVa2
    have bCc2 := isCells_row bRc2
    have bLc2 : (w.heap.size + 1 + 1) < ((w2.alloc (.cells (#[.int .i64 most, .int .i64 4, .int .i64 S, .int .i64 64, .int .i64 64, .int .u64 1, .int .i64 1, .int .i64 1, .int .i64 1, .int .i64 64, .int .i64 100, .int .i64 100, .int .i64 1000, .int .i64 2, .int .i64 64, .int .i64 4, .int .i64 0, .int .i64 0, .slice none 0 0, .slice none 0 0, .slice aS S cS, .slice aL (S + 2) cL, .slice none 0 0, .slice none 0 0]) 51))).heap.size := Nat.lt_of_lt_of_le bLa2 hB2.size
    clear xd
    have bRc8 : isRow (w2.alloc (.cells (#[.int .i64 most, .int .i64 4, .int .i64 S, .int .i64 64, .int .i64 64, .int .u64 1, .int .i64 1, .int .i64 1, .int .i64 1, .int .i64 64, .int .i64 100, .int .i64 100, .int .i64 1000, .int .i64 2, .int .i64 64, .int .i64 4, .int .i64 0, .int .i64 0, .slice none 0 0, .slice none 0 0, .slice aS S cS, .slice aL (S + 2) cL, .slice none 0 0, .slice none 0 0]) 51)) (w2.heap.size) 51 24 = true := by go_simp
    have bVc8 : rowOf (w2.alloc (.cells (#[.int .i64 most, .int .i64 4, .int .i64 S, .int .i64 64, .int .i64 64, .int .u64 1, .int .i64 1, .int .i64 1, .int .i64 1, .int .i64 64, .int .i64 100, .int .i64 100, .int .i64 1000, .int .i64 2, .int .i64 64, .int .i64 4, .int .i64 0, .int .i64 0, .slice none 0 0, .slice none 0 0, .slice aS S cS, .slice aL (S + 2) cL, .slice none 0 0, .slice none 0 0]) 51)) (w2.heap.size) = #[.int .i64 most, .int .i64 4, .int .i64 S, .int .i64 64, .int .i64 64, .int .u64 1, .int .i64 1, .int .i64 1, .int .i64 1, .int .i64 64, .int .i64 100, .int .i64 100, .int .i64 1000, .int .i64 2, .int .i64 64, .int .i64 4, .int .i64 0, .int .i64 0, .slice none 0 0, .slice none 0 0, .slice aS S cS, .slice aL (S + 2) cL, .slice none 0 0, .slice none 0 0] := by go_simp
    have bCc8 := isCells_row bRc8
    have bLc8 : w2.heap.size < ((w2.alloc (.cells (#[.int .i64 most, .int .i64 4, .int .i64 S, .int .i64 64, .int .i64 64, .int .u64 1, .int .i64 1, .int .i64 1, .int .i64 1, .int .i64 64, .int .i64 100, .int .i64 100, .int .i64 1000, .int .i64 2, .int .i64 64, .int .i64 4, .int .i64 0, .int .i64 0, .slice none 0 0, .slice none 0 0, .slice aS S cS, .slice aL (S + 2) cL, .slice none 0 0, .slice none 0 0]) 51))).heap.size := bk1
    have HS8 := Lib.hid (HS.out.below ((Below.refl w2.heap.size w2).alloc (Nat.le_refl _) (.cells (#[.int .i64 most, .int .i64 4, .int .i64 S, .int .i64 64, .int .i64 64, .int .u64 1, .int .i64 1, .int .i64 1, .int .i64 1, .int .i64 64, .int .i64 100, .int .i64 100, .int .i64 1000, .int .i64 2, .int .i64 64, .int .i64 4, .int .i64 0, .int .i64 0, .slice none 0 0, .slice none 0 0, .slice aS S cS, .slice aL (S + 2) cL, .slice none 0 0, .slice none 0 0]) 51)))
    have HL8 := Lib.hid (HL.out.below ((Below.refl w2.heap.size w2).alloc (Nat.le_refl _) (.cells (#[.int .i64 most, .int .i64 4, .int .i64 S, .int .i64 64, .int .i64 64, .int .u64 1, .int .i64 1, .int .i64 1, .int .i64 1, .int .i64 64, .int .i64 100, .int .i64 100, .int .i64 1000, .int .i64 2, .int .i64 64, .int .i64 4, .int .i64 0, .int .i64 0, .slice none 0 0, .slice none 0 0, .slice aS S cS, .slice aL (S + 2) cL, .slice none 0 0, .slice none 0 0]) 51)))
    have hfS8 := Lib.hid (show ∀ q, (Value.slice aS S cS).ownBlock = some q → w1.heap.size ≤ q ∧ q ≠ w2.heap.size from fun q hq => ⟨hfS.out q hq, by have := HS.out.lt hq; omega⟩)
    have hfL8 := Lib.hid (show ∀ q, (Value.slice aL (S + 2) cL).ownBlock = some q → w1.heap.size ≤ q ∧ q ≠ w2.heap.size from fun q hq => ⟨hfL.out q hq, by have := HL.out.lt hq; omega⟩)
    have bw8 : Below w.heap.size w (w2.alloc (.cells (#[.int .i64 most, .int .i64 4, .int .i64 S, .int .i64 64, .int .i64 64, .int .u64 1, .int .i64 1, .int .i64 1, .int .i64 1, .int .i64 64, .int .i64 100, .int .i64 100, .int .i64 1000, .int .i64 2, .int .i64 64, .int .i64 4, .int .i64 0, .int .i64 0, .slice none 0 0, .slice none 0 0, .slice aS S cS, .slice aL (S + 2) cL, .slice none 0 0, .slice none 0 0]) 51)) := bw1.trans (hB2.mono bw1.size)
    have hr8 : (w.heap.size + 1 + 1) < w2.heap.size := by omega
    go_wp2_with fail
    clear hk2 hsz HS HL hfS hfL hB2
    generalize (w2.alloc (.cells (#[.int .i64 most, .int .i64 4, .int .i64 S, .int .i64 64, .int .i64 64, .int .u64 1, .int .i64 1, .int .i64 1, .int .i64 1, .int .i64 64, .int .i64 100, .int .i64 100, .int .i64 1000, .int .i64 2, .int .i64 64, .int .i64 4, .int .i64 0, .int .i64 0, .slice none 0 0, .slice none 0 0, .slice aS S cS, .slice aL (S + 2) cL, .slice none 0 0, .slice none 0 0]) 51)) = W8 at *
    generalize w2.heap.size = r8 at *
  case' q5 =>
    simp only [nthL]
    go_wp2_with fail
    refine chain_on ⟨bk4⟩ ?_
    refine treeZ_one 3 (by kernel_rfl) (by kernel_rfl) ?_
    simp only [nthL]
    go_wp2_with fail
    refine (mem_new most S h0 h1 _).mono ?_
    rintro e w2 ⟨vS, vL, rfl, hS, hL, fS, fL, hb⟩
    obtain ⟨aS, cS, eS, -⟩ := id hS
    obtain ⟨aL, cL, eL, -⟩ := id hL
    simp only [List.length_replicate] at eS eL
    subst eS eL
    have hk2 := Keep.mk (show Below w1.heap.size w1 w2 from ((Below.refl w1.heap.size w1).drew.alloc (by rw [drew_sizeV]; exact Nat.le_refl _) _).trans (hb.mono (by simp only [drew_sizeV, World.size_alloc]; exact Nat.le_succ _)))
    have hfS := Lib.hid (show ∀ q, (Value.slice aS S cS).ownBlock = some q → w1.heap.size + 1 ≤ q from fun q hq => by have := fS q hq; simp only [drew_sizeV, World.size_alloc] at this; exact this)
    have hfL := Lib.hid (show ∀ q, (Value.slice aL (S + 2) cL).ownBlock = some q → w1.heap.size + 1 ≤ q from fun q hq => by have := fL q hq; simp only [drew_sizeV, World.size_alloc] at this; exact this)
    have s8 : isRow w2 w1.heap.size 51 24 = true := ((alike hb).1 _ _ _ (by simp only [drew_sizeV, World.size_alloc]; exact Nat.lt_succ_self _)).trans (by go_simp)
    have s8v : rowOf w2 w1.heap.size = #[.int .i64 0, .int .i64 0, .int .i64 0, .int .i64 0, .int .i64 0, .int .u64 0, .int .i64 0, .int .i64 0, .int .i64 0, .int .i64 0, .int .i64 0, .int .i64 0, .int .i64 0, .int .i64 0, .int .i64 0, .int .i64 0, .int .i64 0, .int .i64 0, .slice none 0 0, .slice none 0 0, .slice none 0 0, .slice none 0 0, .slice none 0 0, .slice none 0 0] := ((alike hb).2.1 _ (by simp only [drew_sizeV, World.size_alloc]; exact Nat.lt_succ_self _)).trans (by go_simp)
    have s8c := isCells_row s8
    have s8l := row_lt s8
    have HS := Lib.hid hS
    have HL := Lib.hid hL
    clear fS fL hS hL hb
    obtain ⟨xb, bRb0, bVb0, bCb0, bLb0, bRb1, bVb1, bCb1, bLb1, bRb2, bVb2, bCb2, bLb2, hsz⟩ := packNewW1
    clear xb
    go_wp2
    refine chain_on ⟨bk4⟩ ?_
    refine treeZ_reads (by kernel_rfl) [4] 1 rfl (by kernel_rfl) (fun _ _ d _ _ h => by cases d <;> exact h) ⟨bk4⟩ ?_
    simp only [PL]
    apply reads_op
    · exact bk8
    try simp only [PT]
    refine reads_nil ?_
    refine treeZ_last 6 rfl (by kernel_rfl) (by kernel_rfl) ?_
    simp only [nthL]
    go_wp2_with fail
    refine chain_on trivial ?_
    refine treeZ_end (by kernel_rfl) ?_
    have hB2 : Below w1.heap.size w1 (w2.setRow w1.heap.size (#[.int .i64 most, .int .i64 4, .int .i64 S, .int .i64 64, .int .i64 64, .int .u64 1, .int .i64 1, .int .i64 1, .int .i64 1, .int .i64 64, .int .i64 100, .int .i64 100, .int .i64 1000, .int .i64 2, .int .i64 64, .int .i64 4, .int .i64 0, .int .i64 0, .slice none 0 0, .slice none 0 0, .slice aS S cS, .slice aL (S + 2) cL, .slice none 0 0, .slice none 0 0])) := below_setRow hk2.out (Nat.le_refl _) _
    have xd := alike hB2
    have bRc0 : isRow (w2.setRow w1.heap.size (#[.int .i64 most, .int .i64 4, .int .i64 S, .int .i64 64, .int .i64 64, .int .u64 1, .int .i64 1, .int .i64 1, .int .i64 1, .int .i64 64, .int .i64 100, .int .i64 100, .int .i64 1000, .int .i64 2, .int .i64 64, .int .i64 4, .int .i64 0, .int .i64 0, .slice none 0 0, .slice none 0 0, .slice aS S cS, .slice aL (S + 2) cL, .slice none 0 0, .slice none 0 0])) ((w.heap.size)) 29 16 = true := (xd.1 _ _ _ bLa0).trans bRa0
    have bVc0 : rowOf (w2.setRow w1.heap.size (#[.int .i64 most, .int .i64 4, .int .i64 S, .int .i64 64, .int .i64 64, .int .u64 1, .int .i64 1, .int .i64 1, .int .i64 1, .int .i64 64, .int .i64 100, .int .i64 100, .int .i64 1000, .int .i64 2, .int .i64 64, .int .i64 4, .int .i64 0, .int .i64 0, .slice none 0 0, .slice none 0 0, .slice aS S cS, .slice aL (S + 2) cL, .slice none 0 0, .slice none 0 0])) ((w.heap.size)) = #[.int .i64 most, .int .i64 4, .int .i64 S, .int .i64 64, .int .i64 64, .int .u64 1, .int .i64 1, .int .i64 1, .int .i64 1, .int .i64 64, .int .i64 100, .int .i64 100, .int .i64 1000, .int .i64 2, .int .i64 64, .int .i64 4] := (xd.2.1 _ bLa0).trans bVa0
    have bCc0 := isCells_row bRc0
    have bLc0 : (w.heap.size) < ((w2.setRow w1.heap.size (#[.int .i64 most, .int .i64 4, .int .i64 S, .int .i64 64, .int .i64 64, .int .u64 1, .int .i64 1, .int .i64 1, .int .i64 1, .int .i64 64, .int .i64 100, .int .i64 100, .int .i64 1000, .int .i64 2, .int .i64 64, .int .i64 4, .int .i64 0, .int .i64 0, .slice none 0 0, .slice none 0 0, .slice aS S cS, .slice aL (S + 2) cL, .slice none 0 0, .slice none 0 0]))).heap.size := Nat.lt_of_lt_of_le bLa0 hB2.size
    have bRc1 : isRow (w2.setRow w1.heap.size (#[.int .i64 most, .int .i64 4, .int .i64 S, .int .i64 64, .int .i64 64, .int .u64 1, .int .i64 1, .int .i64 1, .int .i64 1, .int .i64 64, .int .i64 100, .int .i64 100, .int .i64 1000, .int .i64 2, .int .i64 64, .int .i64 4, .int .i64 0, .int .i64 0, .slice none 0 0, .slice none 0 0, .slice aS S cS, .slice aL (S + 2) cL, .slice none 0 0, .slice none 0 0])) ((w.heap.size + 1)) 57 3 = true := (xd.1 _ _ _ bLa1).trans bRa1
    have bVc1 : rowOf (w2.setRow w1.heap.size (#[.int .i64 most, .int .i64 4, .int .i64 S, .int .i64 64, .int .i64 64, .int .u64 1, .int .i64 1, .int .i64 1, .int .i64 1, .int .i64 64, .int .i64 100, .int .i64 100, .int .i64 1000, .int .i64 2, .int .i64 64, .int .i64 4, .int .i64 0, .int .i64 0, .slice none 0 0, .slice none 0 0, .slice aS S cS, .slice aL (S + 2) cL, .slice none 0 0, .slice none 0 0])) ((w.heap.size + 1)) = #[.slice none 0 0, .slice none 0 0, .slice none 0 0] := (xd.2.1 _ bLa1).trans bVa1
    have bCc1 := isCells_row bRc1
    have bLc1 : (w.heap.size + 1) < ((w2.setRow w1.heap.size (#[.int .i64 most, .int .i64 4, .int .i64 S, .int .i64 64, .int .i64 64, .int .u64 1, .int .i64 1, .int .i64 1, .int .i64 1, .int .i64 64, .int .i64 100, .int .i64 100, .int .i64 1000, .int .i64 2, .int .i64 64, .int .i64 4, .int .i64 0, .int .i64 0, .slice none 0 0, .slice none 0 0, .slice aS S cS, .slice aL (S + 2) cL, .slice none 0 0, .slice none 0 0]))).heap.size := Nat.lt_of_lt_of_le bLa1 hB2.size
    have bRc2 : isRow (w2.setRow w1.heap.size (#[.int .i64 most, .int .i64 4, .int .i64 S, .int .i64 64, .int .i64 64, .int .u64 1, .int .i64 1, .int .i64 1, .int .i64 1, .int .i64 64, .int .i64 100, .int .i64 100, .int .i64 1000, .int .i64 2, .int .i64 64, .int .i64 4, .int .i64 0, .int .i64 0, .slice none 0 0, .slice none 0 0, .slice aS S cS, .slice aL (S + 2) cL, .slice none 0 0, .slice none 0 0])) ((w.heap.size + 1 + 1)) 51 24 = true := (xd.1 _ _ _ bLa2).trans bRa2
    have bVc2 : rowOf (w2.setRow w1.heap.size (#[.int .i64 most, .int .i64 4, .int .i64 S, .int .i64 64, .int .i64 64, .int .u64 1, .int .i64 1, .int .i64 1, .int .i64 1, .int .i64 64, .int .i64 100, .int .i64 100, .int .i64 1000, .int .i64 2, .int .i64 64, .int .i64 4, .int .i64 0, .int .i64 0, .slice none 0 0, .slice none 0 0, .slice aS S cS, .slice aL (S + 2) cL, .slice none 0 0, .slice none 0 0])) ((w.heap.size + 1 + 1)) = #[.int .i64 0, .int .i64 0, .int .i64 0, .int .i64 0, .int .i64 0, .int .u64 0, .int .i64 0, .int .i64 0, .int .i64 0, .int .i64 0, .int .i64 0, .int .i64 0, .int .i64 0, .int .i64 0, .int .i64 0, .int .i64 0, .int .i64 0, .int .i64 0, .slice none 0 0, .slice none 0 0, .slice none 0 0, .slice none 0 0, .slice none 0 0, .slice none 0 0] := (xd.2.1 _ bLa2).trans bVa2
    have bCc2 := isCells_row bRc2
    have bLc2 : (w.heap.size + 1 + 1) < ((w2.setRow w1.heap.size (#[.int .i64 most, .int .i64 4, .int .i64 S, .int .i64 64, .int .i64 64, .int .u64 1, .int .i64 1, .int .i64 1, .int .i64 1, .int .i64 64, .int .i64 100, .int .i64 100, .int .i64 1000, .int .i64 2, .int .i64 64, .int .i64 4, .int .i64 0, .int .i64 0, .slice none 0 0, .slice none 0 0, .slice aS S cS, .slice aL (S + 2) cL, .slice none 0 0, .slice none 0 0]))).heap.size := Nat.lt_of_lt_of_le bLa2 hB2.size
    clear xd
    have bRc8 : isRow (w2.setRow w1.heap.size (#[.int .i64 most, .int .i64 4, .int .i64 S, .int .i64 64, .int .i64 64, .int .u64 1, .int .i64 1, .int .i64 1, .int .i64 1, .int .i64 64, .int .i64 100, .int .i64 100, .int .i64 1000, .int .i64 2, .int .i64 64, .int .i64 4, .int .i64 0, .int .i64 0, .slice none 0 0, .slice none 0 0, .slice aS S cS, .slice aL (S + 2) cL, .slice none 0 0, .slice none 0 0])) (w1.heap.size) 51 24 = true := sr_isRow _ s8 rfl
    have bVc8 : rowOf (w2.setRow w1.heap.size (#[.int .i64 most, .int .i64 4, .int .i64 S, .int .i64 64, .int .i64 64, .int .u64 1, .int .i64 1, .int .i64 1, .int .i64 1, .int .i64 64, .int .i64 100, .int .i64 100, .int .i64 1000, .int .i64 2, .int .i64 64, .int .i64 4, .int .i64 0, .int .i64 0, .slice none 0 0, .slice none 0 0, .slice aS S cS, .slice aL (S + 2) cL, .slice none 0 0, .slice none 0 0])) (w1.heap.size) = #[.int .i64 most, .int .i64 4, .int .i64 S, .int .i64 64, .int .i64 64, .int .u64 1, .int .i64 1, .int .i64 1, .int .i64 1, .int .i64 64, .int .i64 100, .int .i64 100, .int .i64 1000, .int .i64 2, .int .i64 64, .int .i64 4, .int .i64 0, .int .i64 0, .slice none 0 0, .slice none 0 0, .slice aS S cS, .slice aL (S + 2) cL, .slice none 0 0, .slice none 0 0] := sr_row _ s8c
    have bCc8 := isCells_row bRc8
    have bLc8 : w1.heap.size < (w2.setRow w1.heap.size (#[.int .i64 most, .int .i64 4, .int .i64 S, .int .i64 64, .int .i64 64, .int .u64 1, .int .i64 1, .int .i64 1, .int .i64 1, .int .i64 64, .int .i64 100, .int .i64 100, .int .i64 1000, .int .i64 2, .int .i64 64, .int .i64 4, .int .i64 0, .int .i64 0, .slice none 0 0, .slice none 0 0, .slice aS S cS, .slice aL (S + 2) cL, .slice none 0 0, .slice none 0 0])).heap.size := row_lt bRc8
    have HS8 := Lib.hid (HS.out.upto (upto_own (Upto.refl w1.heap.size w2) (#[.int .i64 most, .int .i64 4, .int .i64 S, .int .i64 64, .int .i64 64, .int .u64 1, .int .i64 1, .int .i64 1, .int .i64 1, .int .i64 64, .int .i64 100, .int .i64 100, .int .i64 1000, .int .i64 2, .int .i64 64, .int .i64 4, .int .i64 0, .int .i64 0, .slice none 0 0, .slice none 0 0, .slice aS S cS, .slice aL (S + 2) cL, .slice none 0 0, .slice none 0 0])) (fun e => by have := hfS.out _ e; omega))
    have HL8 := Lib.hid (HL.out.upto (upto_own (Upto.refl w1.heap.size w2) (#[.int .i64 most, .int .i64 4, .int .i64 S, .int .i64 64, .int .i64 64, .int .u64 1, .int .i64 1, .int .i64 1, .int .i64 1, .int .i64 64, .int .i64 100, .int .i64 100, .int .i64 1000, .int .i64 2, .int .i64 64, .int .i64 4, .int .i64 0, .int .i64 0, .slice none 0 0, .slice none 0 0, .slice aS S cS, .slice aL (S + 2) cL, .slice none 0 0, .slice none 0 0])) (fun e => by have := hfL.out _ e; omega))
    have hfS8 := Lib.hid (show ∀ q, (Value.slice aS S cS).ownBlock = some q → w1.heap.size ≤ q ∧ q ≠ w1.heap.size from fun q hq => by have := hfS.out q hq; omega)
    have hfL8 := Lib.hid (show ∀ q, (Value.slice aL (S + 2) cL).ownBlock = some q → w1.heap.size ≤ q ∧ q ≠ w1.heap.size from fun q hq => by have := hfL.out q hq; omega)
    have bw8 : Below w.heap.size w (w2.setRow w1.heap.size (#[.int .i64 most, .int .i64 4, .int .i64 S, .int .i64 64, .int .i64 64, .int .u64 1, .int .i64 1, .int .i64 1, .int .i64 1, .int .i64 64, .int .i64 100, .int .i64 100, .int .i64 1000, .int .i64 2, .int .i64 64, .int .i64 4, .int .i64 0, .int .i64 0, .slice none 0 0, .slice none 0 0, .slice aS S cS, .slice aL (S + 2) cL, .slice none 0 0, .slice none 0 0])) := bw1.trans (hB2.mono bw1.size)
    have hr8 : (w.heap.size + 1 + 1) < w1.heap.size := by omega
    go_wp2_with fail
    clear hk2 hsz HS HL hfS hfL hB2 s8 s8v s8c s8l
    generalize (w2.setRow w1.heap.size (#[.int .i64 most, .int .i64 4, .int .i64 S, .int .i64 64, .int .i64 64, .int .u64 1, .int .i64 1, .int .i64 1, .int .i64 1, .int .i64 64, .int .i64 100, .int .i64 100, .int .i64 1000, .int .i64 2, .int .i64 64, .int .i64 4, .int .i64 0, .int .i64 0, .slice none 0 0, .slice none 0 0, .slice aS S cS, .slice aL (S + 2) cL, .slice none 0 0, .slice none 0 0])) = W8 at *
    (try simp only [drew_sizeV])
    generalize w1.heap.size = r8 at *
  all_goals
    go_wp2
    go_loopg [27] ls.length (fun g s27 wr => ∃ k : Nat, s27 = .int .i64 k ∧ k + g = ls.length ∧ ∃ a c CT, isRow wr r8 51 24 = true ∧ rowOf wr r8 = #[.int .i64 most, .int .i64 4, .int .i64 S, .int .i64 64, .int .i64 64, .int .u64 1, .int .i64 1, .int .i64 1, .int .i64 1, .int .i64 64, .int .i64 100, .int .i64 100, .int .i64 1000, .int .i64 2, .int .i64 64, .int .i64 4, .int .i64 0, .int .i64 0, .slice none 0 0, .slice none 0 0, .slice aS S cS, .slice aL (S + 2) cL, .slice a k c, .slice none 0 0] ∧ Hid (Laid ls W8.heap.size k wr a c CT) ∧ Upto r8 W8 wr)
    case atStart => exact ⟨0, rfl, by omega, none, 0, [], bRc8, bVc8, Lib.hid ⟨rfl, Own.nil _ _ _ _, by simp⟩, Upto.refl _ _⟩
    case round =>
      obtain ⟨k, rfl, hg, a, c, CT, bRr, bVr, HLd, HU⟩ := hrel
      have bCr := isCells_row bRr
      have bLr := row_lt bRr
      have hws := HU.size
      have hrl8 : r8 < W8.heap.size := bLc8
      have bwr : Below w.heap.size w wr := bw8.trans (HU.below (by omega) bw8.size)
      cases gk with
      | zero =>
        have hk : ¬ ((k : Int) < (ls.length : Int)) := by omega
        obtain rfl : k = ls.length := by omega
        have hS9 := HS8.out.upto HU (fun e => (hfS8.out _ e).2 rfl)
        have hL9 := HL8.out.upto HU (fun e => (hfL8.out _ e).2 rfl)
        have bR2 : isRow wr (w.heap.size + 1 + 1) 51 24 = true := ((alikeU HU).1 _ _ _ bLc2 (by omega)).trans bRc2
        have bV2 : rowOf wr (w.heap.size + 1 + 1) = #[.int .i64 0, .int .i64 0, .int .i64 0, .int .i64 0, .int .i64 0, .int .u64 0, .int .i64 0, .int .i64 0, .int .i64 0, .int .i64 0, .int .i64 0, .int .i64 0, .int .i64 0, .int .i64 0, .int .i64 0, .int .i64 0, .int .i64 0, .int .i64 0, .slice none 0 0, .slice none 0 0, .slice none 0 0, .slice none 0 0, .slice none 0 0, .slice none 0 0] := ((alikeU HU).2.1 _ bLc2 (by omega)).trans bVc2
        have bC2 := isCells_row bR2
        have bL2 := row_lt bR2
        have hn2 : ¬ ((w.heap.size + 1 + 1) = r8) := by omega
        have hn3 : ¬ (r8 = (w.heap.size + 1 + 1)) := by omega
        have HE9 := Lib.hid (show WldIn (fun g => w.heap.size ≤ g) most S (wr.setRow (w.heap.size + 1 + 1) (#[.int .i64 most, .int .i64 4, .int .i64 S, .int .i64 64, .int .i64 64, .int .u64 1, .int .i64 1, .int .i64 1, .int .i64 1, .int .i64 64, .int .i64 100, .int .i64 100, .int .i64 1000, .int .i64 2, .int .i64 64, .int .i64 4, .int .i64 0, .int .i64 0, .slice none 0 0, .slice none 0 0, .slice aS S cS, .slice aL (S + 2) cL, .slice a ls.length c, .slice none 0 0])) (#[.int .i64 most, .int .i64 4, .int .i64 S, .int .i64 64, .int .i64 64, .int .u64 1, .int .i64 1, .int .i64 1, .int .i64 1, .int .i64 64, .int .i64 100, .int .i64 100, .int .i64 1000, .int .i64 2, .int .i64 64, .int .i64 4, .int .i64 0, .int .i64 0, .slice none 0 0, .slice none 0 0, .slice aS S cS, .slice aL (S + 2) cL, .slice a ls.length c, .slice none 0 0]) (Pm.zero ⟨most, S, prt S⟩ ls) 0 from new_close (B := W8.heap.size) (by have := bw8.size; omega) (laid_upto HLd.out (upto_own (Upto.refl (w.heap.size + 1 + 1) wr) _) (by omega)) (hS9.upto (upto_own (Upto.refl (w.heap.size + 1 + 1) wr) _) (fun e => by have := (hfS8.out _ e).1; omega)) (hL9.upto (upto_own (Upto.refl (w.heap.size + 1 + 1) wr) _) (fun e => by have := (hfL8.out _ e).1; omega)) (fun q hq => by have := (hfS8.out q hq).1; omega) (fun q hq => by have := (hfL8.out q hq).1; omega))
        clear hS9 hL9
        go_wp2
        refine bodyPost_ret (v := .tuple #[.agg (#[.int .i64 most, .int .i64 4, .int .i64 S, .int .i64 64, .int .i64 64, .int .u64 1, .int .i64 1, .int .i64 1, .int .i64 1, .int .i64 64, .int .i64 100, .int .i64 100, .int .i64 1000, .int .i64 2, .int .i64 64, .int .i64 4, .int .i64 0, .int .i64 0, .slice none 0 0, .slice none 0 0, .slice aS S cS, .slice aL (S + 2) cL, .slice a ls.length c, .slice none 0 0]), .int .i64 0]) (res_row2 (t := 51) Tryz.results8 _ _ _ rfl ?_ ?_ info51 agg51) rfl ?_
        · go_simp
        · go_simp
        exact ⟨_, rfl, HE9.out, below_setRow bwr (by omega) _⟩
      | succ m =>
        have hk : (k : Int) < (ls.length : Int) := by omega
        have hk' : k < ls.length := by omega
        have hk0 : ¬ ((k : Int) < 0) := by omega
        have hk1 : 0 ≤ (k : Int) := by omega
        obtain ⟨hCT, hO, hZ⟩ := HLd.out
        have HCT := Lib.hid hCT
        have HO := Lib.hid hO
        have HZ := Lib.hid hZ
        clear hCT hO hZ
        obtain ⟨gc, oc, vk, rfl, hgc, hcell, hvk'⟩ := calls_at HS0.out HE.out hk'
        have hcr : wr.cell? ⟨gc, oc + k, none⟩ = some vk := by rw [bwr.cell (p := ⟨gc, oc + k, none⟩) hgc]; exact hcell
        have hvr := hvk'.below bwr
        obtain ⟨av, cv, evk, -⟩ := id hvr
        simp only [List.length_map] at evk
        subst evk
        have hvk := Lib.hid hvr
        have hlk := HC.out ls[k] (List.getElem_mem hk')
        have hl6 : ¬ ((ls[k].length : Int) > 64) := by omega
        have hl7 : ¬ ((64 : Int) < (ls[k].length : Int)) := by omega
        clear hcell hvk' hvr
        have hgc8 : gc < W8.heap.size := by have := bw8.size; omega
        go_wp2_with fail
        refine region_treeZ 7 (by kernel_rfl) (Below W8.heap.size wr) [0, 1, 2] 5 (by kernel_rfl) (by kernel_rfl) (fun _ _ d _ _ h => by cases d <;> exact h) (Below.refl _ _).drew ?_
        simp only [PL]
        apply reads_op
        · exact bk18
        try simp only [PT]
        apply reads_op
        · exact bk18
        try simp only [PT]
        apply reads_op
        · exact bk18
        try simp only [PT]
        refine reads_nil ?_
        refine treeZ_one 3 (by kernel_rfl) (by kernel_rfl) ?_
        simp only [nthL]
        go_wp2_with fail
        refine (task_new ls[k] (by omega) _ wr.drew (sl_drew hvk.out)).mono ?_
        rintro e w5 ⟨vc, rfl, hCo, hb⟩
        have hk5 := Keep.mk (show Below wr.heap.size wr w5 from ((Below.refl wr.heap.size wr).drew).trans hb)
        obtain ⟨avc, cvc, evc, -⟩ := id hCo.sl
        simp only [List.length_map] at evc
        subst evc
        have hs5 : wr.heap.size ≤ w5.heap.size := hk5.out.size
        have HCo := Lib.hid (show Own w5 W8.heap.size 41 12 (.slice avc ls[k].length cvc) (ls[k].map callC) from hCo.weaken (by simp only [drew_sizeV]; exact hws))
        clear hCo hb
        go_wp2
        refine chain_on (bk56) ?_
        refine treeZ_one 4 (by kernel_rfl) (by kernel_rfl) ?_
        simp only [nthL]
        go_wp2_with fail
        refine chain_on (bk56) ?_
        refine treeZ_one 5 (by kernel_rfl) (by kernel_rfl) ?_
        simp only [nthL]
        have HOa := Lib.hid (HO.out.below (hk5.out.alloc hs5 (.cells (#[.slice avc ls[k].length cvc, .int .i64 0, .slice none 0 0, .slice none 0 0, .bool false]) 62)))
        refine app62o rfl (.tmp 36) (.tmp 39) rfl _ _ CT [#[.slice avc ls[k].length cvc, .int .i64 0, .slice none 0 0, .slice none 0 0, .bool false]] rfl HOa.out _ _ _ rfl (sl_one w5 (#[.slice avc ls[k].length cvc, .int .i64 0, .slice none 0 0, .slice none 0 0, .bool false]) 62 5 _ rfl rfl rfl) (by have := HCT.out; simp; omega) (by rw [World.size_alloc]; omega) ?_
        intro v7 w7 hown hbel hsame hsz7
        obtain ⟨a3, c3, ev, -⟩ := hown.sl
        simp only [List.length_append, List.length_singleton, List.length_cons, List.length_nil, HCT.out, Nat.zero_add] at ev
        subst ev
        have b57 : Below W8.heap.size wr w7 := ((hk5.out.mono hws).alloc (by omega) _).trans hbel
        have hU7 : Upto r8 W8 w7 := upto_since HU b57 (Nat.le_refl _)
        have HL7 := Lib.hid (show Laid ls W8.heap.size (k + 1) w7 a3 c3 (CT ++ [#[.slice avc ls[k].length cvc, .int .i64 0, .slice none 0 0, .slice none 0 0, .bool false]]) from laid_next (by omega) HCT.out hown (fun i D l hD hl => ((HZ.out i D l hD hl).below (hk5.out.alloc hs5 _)).beside HOa.out hsame) ⟨_, rfl, (HCo.out.below ((Below.refl _ _).alloc (Nat.le_refl _) _)).beside HOa.out (by decide) hsame⟩)
        have bR7 : isRow w7 r8 51 24 = true := ((alike b57).1 _ _ _ hrl8).trans bRr
        have bV7 : rowOf w7 r8 = #[.int .i64 most, .int .i64 4, .int .i64 S, .int .i64 64, .int .i64 64, .int .u64 1, .int .i64 1, .int .i64 1, .int .i64 1, .int .i64 64, .int .i64 100, .int .i64 100, .int .i64 1000, .int .i64 2, .int .i64 64, .int .i64 4, .int .i64 0, .int .i64 0, .slice none 0 0, .slice none 0 0, .slice aS S cS, .slice aL (S + 2) cL, .slice a k c, .slice none 0 0] := ((alike b57).2.1 _ hrl8).trans bVr
        have bC7 := isCells_row bR7
        have hs7 : wr.heap.size ≤ w7.heap.size := b57.size
        clear hown hbel hsame HOa
        go_wp2
        refine chain_on (bk56) ?_
        refine treeZ_reads (by kernel_rfl) [6] 1 rfl (by kernel_rfl) (fun _ _ d _ _ h => by cases d <;> exact h) (bk56) ?_
        simp only [PL]
        apply reads_op
        · exact bk18
        try simp only [PT]
        refine reads_nil ?_
        refine treeZ_last 7 rfl (by kernel_rfl) (by kernel_rfl) ?_
        simp only [nthL]
        go_wp2_with fail
        refine chain_on trivial ?_
        refine treeZ_end (by kernel_rfl) ?_
        go_wp2_with fail
        go_roundg m
        case measure => omega
        case rel => exact ⟨k + 1, by simp, by omega, a3, c3, CT ++ [#[.slice avc ls[k].length cvc, .int .i64 0, .slice none 0 0, .slice none 0 0, .bool false]], sr_isRow _ bR7 rfl, sr_row _ bC7, Lib.hid (laid_upto HL7.out (upto_own (Upto.refl r8 w7) _) hrl8), upto_own hU7 _⟩
end Go.Proofs.YtnncjbkepakgpaaGreat
