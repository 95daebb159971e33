/-
  THOSE THAT ARE PICKED, THOSE THAT ARE DROPPED.
  THOSE THAT ARE DROPPED.
-/
import Derived.Test.YtnncjbkepakgpaaGreatA07
import Derived.Test.YtnncjbkepakgpaaGreatA20
namespace Go.Proofs.YtnncjbkepakgpaaGreat
set_option linter.unusedVariables false
set_option linter.unusedSimpArgs false
set_option maxRecDepth 100000
set_option maxHeartbeats 4000000
section
open Go.RowKit
attribute [local go_sem ↓] exec_load_75 exec_store_75
attribute [local go_sem] run_load75r run_store75i lt_up isRng_new rngOf_new isRange_past rangeOf_past isRange_drew rangeOf_drew fits_new fits_past fits_drew setAt_new setAt_past setAt_drew putAt_whole putAt_lit extract_whole extract_lit one_int one_bool one_slice one_ptr ones_lit onesL_nil onesL_cons isRow_new rowOf_new isRow_past rowOf_past isRow_drew rowOf_drew lt2 lt3 lt4 List.take_succ_cons List.take_zero List.drop_succ_cons List.drop_zero List.cons_append List.nil_append List.length_cons List.length_nil List.size_toArray setRow_new setRow_past own_cell own_frozen own_set own_isRange own_rangeOf own_fits setAt_row sr_sr sr_size sr_row sr_row' sr_isRow sr_isRow' sr_fits' sr_cell' sr_frozen' sr_isRange' sr_rangeOf' sr_isCells isCells_new isCells_past isCells_drew valC_size valC_ones opC_size opC_ones replyC_size
theorem grown_below {w w' : World} (h : w.grownBy w' none) : Below w.heap.size w w' := (Below.refl w.heap.size w).grown h (Nat.le_refl _) (fun q hq => by cases hq)
theorem int_at {W : World} {a : Option Addr} {cap : Nat} {A : List Nat} (h : Sl W (.slice a (A.map intC).length cap) 1 (A.map intC)) {k : Nat} (hk : k < A.length) : ∃ g o, a = some ⟨g, o, none⟩ ∧ g < W.heap.size ∧ W.cell? ⟨g, o + k, none⟩ = some (.int .i64 (A[k] : Nat)) := by
  obtain ⟨a', c', e, h1, h2, h3⟩ := h
  simp only [Value.slice.injEq] at e
  obtain ⟨rfl, _, rfl⟩ := e
  rcases h3 with ⟨_, h3⟩ | ⟨g, o, rfl, hg, h3⟩
  · simp at h3; subst h3; simp at hk
  · refine ⟨g, o, rfl, hg, ?_⟩
    have := (h3 k (intC A[k]) (by simp [hk])).cell (k := 0) (v := .int .i64 (A[k] : Nat)) rfl
    simpa using this
/-- Those at these places. -/
def pickP (P A : List Nat) : List Nat := A.map fun a => P.getD a 0
/-- shield.pick. -/
theorem pick_law (P A : List Nat) (v u : Value) (w : World) (hs : Sl w v 10 (P.map peerC)) (hu : Sl w u 1 (A.map intC)) (hA : ∀ a ∈ A, a < P.length) (hl : A.length ≤ 1000) :
    Calls Tryz.prog 322 #[v, u] w fun e w' => ∃ v', e = .returned v' ∧ Own w' w.heap.size 75 10 v' ((pickP P A).map peerC) ∧ Below w.heap.size w w' := by
  obtain ⟨a, cap, rfl, q1, q2, q3⟩ := hs
  obtain ⟨b, cap2, rfl, p1, p2, p3⟩ := hu
  have HU : Hid (Sl w (.slice b (A.map intC).length cap2) 1 (A.map intC)) := Lib.hid ⟨b, cap2, rfl, p1, p2, p3⟩
  rw [List.length_map] at q1 p1 ⊢
  rw [List.length_map]
  obtain ⟨i0, hi, hz0, hz1, hz2⟩ := info_parts einfo75
  obtain ⟨wm, hrun, r1, r2⟩ := run_make_own (P := Tryz.prog) w w.heap.size 55 75 i0 _ 10 Tryz.underlying55 hi hz0 hz1 .i64 .i64 A.length (by rw [hz2]; omega) (by unfold maxLen; omega) (Nat.le_refl _)
  have hbm := grown_below r2
  have hO0 : Own wm w.heap.size 75 10 (.slice (some ⟨w.heap.size, 0, none⟩) 0 A.length) [] := ⟨by simpa [flat] using r1, by simp⟩
  have HO0 := Lib.hid hO0
  have HM := Lib.hid hbm
  have hn0 : 0 ≤ (A.length : Int) := by omega
  clear r1 r2 hbm hO0 p3
  go_enter Tryz.func322, Tryz.ntmps322
  go_wp2
  clear hrun
  go_loopg [5, 13] A.length (fun g s5 s13 wr => ∃ k : Nat, s13 = .int .i64 (k : Int) ∧ k + g = A.length ∧ Keep w wr ∧ Hid (Own wr w.heap.size 75 10 s5 ((pickP P (A.take k)).map peerC)))
  case atStart => exact ⟨0, rfl, by omega, ⟨HM.out⟩, HO0⟩
  case round =>
    obtain ⟨k, rfl, hg, hK, HO⟩ := hrel
    have HG := Lib.hid hg
    have hws := hK.out.size
    by_cases hk : k < A.length
    · obtain ⟨gb, ob, rfl, hgb, hcb⟩ := int_at HU.out hk
      have hak : A[k] < P.length := hA _ (List.getElem_mem hk)
      have hcb' : wr.cell? ⟨gb, ob + k, none⟩ = some (.int .i64 (A[k] : Nat)) := by rw [hK.out.cell (p := ⟨gb, ob + k, none⟩) hgb]; exact hcb
      rcases q3 with ⟨_, q3⟩ | ⟨g, o, rfl, hg', q3⟩
      · simp at q3; subst q3; simp at hak
      have hE := (q3 A[k] (peerC P[A[k]]) (by simp [hak])).block (hK.out.block g hg')
      have e1 := hE.is
      have e2 := hE.of
      have hgr := hE.lt
      have hkz : (k : Int) < (A.length : Int) := by omega
      have n1 : 0 ≤ (k : Int) := by omega
      have haz : ((A[k] : Nat) : Int) < (P.length : Int) := by omega
      have n2 : 0 ≤ ((A[k] : Nat) : Int) := by omega
      have hpk : pickP P (A.take (k + 1)) = pickP P (A.take k) ++ [P[A[k]]] := by
        unfold pickP
        rw [List.take_succ_eq_append_getElem hk, List.map_append]
        congr 1
        simp [hak]
      have hpl : (pickP P (A.take k)).length ≤ 1000 := by simp [pickP]; omega
      unfold peerC at e2
      clear q3 hg
      generalize P[A[k]] = x at *
      generalize A[k] = ak at *
      go_wp2_with (at_builtin; refine app75 rfl (.tmp 17) (.tmp 22) rfl w.heap.size _ ((pickP P (A.take k)).map peerC) [peerC x] rfl (HO.out.below (bk5)) _ _ _ rfl (sl_one _ (peerC x) 75 10 _ (by simp) rfl rfl) (by simp only [List.length_map, List.length_singleton]; omega) (by have := hK.out.size; simp <;> omega) ?_; intro v' w3 hown hbel hnil)
      go_roundg (A.length - (k + 1))
      case measure => have := HG.out; omega
      case rel => exact ⟨k + 1, by simp, by have := HG.out; omega, ⟨bk0⟩, Lib.hid (by rw [hpk]; simpa using hown)⟩
    · obtain rfl : k = A.length := by omega
      have hkz : ¬ ((A.length : Int) < (A.length : Int)) := by omega
      go_wp2
      refine bodyPost_ret (results_tmp rfl _ _ _) rfl ?_
      exact ⟨_, rfl, by have := HO.out; rwa [List.take_length] at this, hK.out⟩
/-- A row of one's own. -/
structure RowAt (W : World) (g : Nat) (L : List Value) : Prop where
  own : isCells W g = true
  row : rowOf W g = L.toArray
theorem RowAt.cell {W : World} {g : Nat} {L : List Value} (h : RowAt W g L) {i : Nat} {v : Value} (hi : L[i]? = some v) : W.cell? ⟨g, i, none⟩ = some v := by
  rw [own_cell _ h.own, h.row]; simpa using hi
theorem RowAt.frozen {W : World} {g : Nat} {L : List Value} (h : RowAt W g L) (i : Nat) : W.frozen? ⟨g, i, none⟩ = false := own_frozen _ h.own
theorem RowAt.keep {W W' : World} {g : Nat} {L : List Value} (h : RowAt W g L) (hg : g < W.heap.size) (k : Below W.heap.size W W') : RowAt W' g L :=
  ⟨by rw [(alike k).2.2.2.2.2.2.2.1 g hg]; exact h.own, by rw [(alike k).2.1 g hg]; exact h.row⟩
theorem RowAt.below {B : Nat} {W W' : World} {g : Nat} {L : List Value} (h : RowAt W g L) (hg : g < B) (k : Below B W W') : RowAt W' g L :=
  ⟨by rw [(alike k).2.2.2.2.2.2.2.1 g hg]; exact h.own, by rw [(alike k).2.1 g hg]; exact h.row⟩
theorem RowAt.set {W : World} {g : Nat} {L : List Value} (h : RowAt W g L) (i : Nat) (v : Value) : RowAt (W.setCell ⟨g, i, none⟩ v) g (L.set i v) := by
  rw [own_set _ _ h.own]
  refine ⟨by rw [sr_isCells]; exact h.own, ?_⟩
  rw [sr_row _ h.own, h.row]
  simp only [List.setIfInBounds_toArray]
theorem RowAt.made (w : World) (v : Value) (n : Nat) (e : TypeId) : RowAt (w.alloc (.cells (madeCells #[v] n) e)) w.heap.size (List.replicate n v) := by
  refine ⟨isCells_new w _ e _ rfl, ?_⟩
  rw [rowOf_new w _ e _ rfl]
  apply Array.ext
  · simp [madeCells]
  · intro i h1 h2
    simp [madeCells, Nat.mod_one]
theorem row_sl {W : World} {g n cap : Nat} {A : List Nat} (h : RowAt W g (A.map intV)) (hn : n = A.length) (hg : g < W.heap.size) (h1 : n ≤ cap) (h2 : cap ≤ maxLen) : Sl W (.slice (some ⟨g, 0, none⟩) n cap) 1 (A.map intC) := by
  subst hn
  have := ints_sl (W := W) (g := g) (m := A.length) (cap := cap) (D := A) (R := []) ⟨h.own, by rw [h.row]; simp⟩ (by omega) hg h1 h2
  rwa [List.take_length] at this
/-- Those whose places are not gone. -/
def keepL : List Nat → List Nat → Nat → List Nat
  | [], _, _ => []
  | a :: A, G, k => if k ∈ G then keepL A G (k + 1) else a :: keepL A G (k + 1)
theorem keep_mem : ∀ (A G : List Nat) (k : Nat), ∀ x ∈ keepL A G k, x ∈ A
  | [], _, _, x, h => by simp [keepL] at h
  | a :: A, G, k, x, h => by
    unfold keepL at h
    split at h
    · exact List.mem_cons_of_mem _ (keep_mem A G (k + 1) x h)
    · rcases List.mem_cons.1 h with rfl | h
      · simp
      · exact List.mem_cons_of_mem _ (keep_mem A G (k + 1) x h)
theorem keep_none : ∀ (A G : List Nat) (k : Nat), (∀ j, j < A.length → k + j ∈ G) → keepL A G k = []
  | [], _, _, _ => rfl
  | a :: A, G, k, h => by
    unfold keepL
    rw [if_pos (by simpa using h 0 (by simp))]
    exact keep_none A G (k + 1) fun j hj => by have := h (j + 1) (by simpa using hj); rwa [show k + 1 + j = k + (j + 1) by omega]
theorem keep_len : ∀ (A G : List Nat) (k : Nat), (keepL A G k).length ≤ A.length
  | [], _, _ => by simp [keepL]
  | a :: A, G, k => by
    unfold keepL
    have := keep_len A G (k + 1)
    split <;> simp <;> omega
theorem keep_snoc : ∀ (A G : List Nat) (k a : Nat), keepL (A ++ [a]) G k = keepL A G k ++ if k + A.length ∈ G then [] else [a]
  | [], G, k, a => by simp [keepL]
  | b :: A, G, k, a => by
    simp only [List.cons_append, keepL, keep_snoc A G (k + 1) a, List.length_cons, show k + 1 + A.length = k + (A.length + 1) by omega]
    split <;> simp
theorem info4b : (Tryz.prog.info? 4).map (fun i => (i.zero, i.size, i.bytes)) = some (some (.bool false), 1, 1) := by kernel_rfl
theorem info3b : (Tryz.prog.info? 3).map (fun i => (i.zero, i.size, i.bytes)) = some (some (.int .i64 0), 1, 8) := by kernel_rfl
def boolsV (n : Nat) (S : List Nat) : List Value := (List.range n).map fun j => .bool (decide (j ∈ S))
theorem bools_set {n : Nat} {S : List Nat} {k : Nat} (hk : k < n) : (boolsV n S).set k (.bool true) = boolsV n (S ++ [k]) := by
  unfold boolsV
  apply List.ext_getElem?
  intro j
  rw [List.getElem?_set]
  by_cases e : k = j
  · subst e; simp [hk]
  · rw [if_neg e]
    by_cases hj : j < n
    · simp [hj, Ne.symm e]
    · simp [hj]
end
section
open Go.RowKit
attribute [local go_sem ↓] exec_load_75 exec_store_75
attribute [local go_sem] run_load75r run_store75i lt_up isRng_new rngOf_new isRange_past rangeOf_past isRange_drew rangeOf_drew fits_new fits_past fits_drew setAt_new setAt_past setAt_drew putAt_whole putAt_lit extract_whole extract_lit one_int one_bool one_slice one_ptr ones_lit onesL_nil onesL_cons isRow_new rowOf_new isRow_past rowOf_past isRow_drew rowOf_drew lt2 lt3 lt4 List.take_succ_cons List.take_zero List.drop_succ_cons List.drop_zero List.cons_append List.nil_append List.length_cons List.length_nil List.size_toArray sr_size sr_row sr_row' sr_isRow sr_isRow' sr_fits' sr_cell' sr_frozen' sr_isRange' sr_rangeOf' sr_isCells isCells_new isCells_past isCells_drew valC_size valC_ones opC_size opC_ones replyC_size
/-- append to a slice of the call's own numbers: what else lay in memory lies as it was. -/
theorem app3o {ops : Array Oper} {rest : List Oper} {o : Oper} {a : Act} {w : World} {Q : Exit → Act → World → Prop} (hgd : o.guard = none) (s x : Operand)
    (ho : o.op = .call { callee := .builtin .append, args := #[s, x], argTypes := #[23, 23] }) (B : Nat) (v : Value) (L M : List (Array Value)) (hs : a.eval s = v) (hown : Own w B 3 1 v L)
    (ad : Addr) (m k : Nat) (hx : a.eval x = .slice (some ad) m k) (hM : Sl w (.slice (some ad) m k) 1 M) (hlen : L.length + M.length ≤ 200000) (hbase : B ≤ w.heap.size)
    (h : ∀ v' w', Own w' B 3 1 v' (L ++ M) → Below B w w' → (∀ q, q < w.heap.size → v.ownBlock ≠ some q → w'.heap[q]? = w.heap[q]?) → wpList Tryz.prog ops Q rest (a.put o.dst v') w') : wpList Tryz.prog ops Q (o :: rest) a w := by
  obtain ⟨i0, hi, hz0, hz1, hz2⟩ := info_parts einfo3
  obtain ⟨h1, h2, h3⟩ := hM.flat (by decide)
  have hm : m = M.length := bk48
  subst hm
  refine wpList_append_own (P := Tryz.prog) _ hgd s x 23 ho B 3 i0 (.int .i64 0) 1 8 Tryz.underlying23 hi hz0 hz1 hz2 rfl (by decide) v L.length (flat L) hs hown.1 ad M.length k (flat M) hx h1 h2 h3 (by unfold maxLen; omega) (by omega) hbase fun v' w' k1 k2 k3 => h v' w' ⟨?_, ?_⟩ ?_ (fun q hq hne => k2.block q hq (fun e => hne e.symm))
  · rw [flat_append, List.length_append]; exact k1
  · intro C hC
    rcases List.mem_append.1 hC with hC | hC
    · exact hown.2 C hC
    · exact ⟨hM.sizes C hC, hM.ones C hC⟩
  · exact (Below.refl B w).grown k2 hbase fun q hq => (hown.base hq).1
/-- A row of elements of type t. -/
def RowT (W : World) (g : Nat) (t : TypeId) (L : List Value) : Prop := W.heap[g]? = some (.cells L.toArray t (0, 0))
theorem RowT.at' {W : World} {g : Nat} {t : TypeId} {L : List Value} (h : RowT W g t L) : RowAt W g L := by
  unfold RowT at h
  exact ⟨by unfold isCells; rw [h]; rfl, by unfold rowOf; rw [h]⟩
theorem RowT.lt {W : World} {g : Nat} {t : TypeId} {L : List Value} (h : RowT W g t L) : g < W.heap.size := (Array.getElem?_eq_some_iff.1 h).1
theorem RowT.set {W : World} {g : Nat} {t : TypeId} {L : List Value} (h : RowT W g t L) (i : Nat) (v : Value) : RowT (W.setCell ⟨g, i, none⟩ v) g t (L.set i v) := by
  unfold RowT at *
  unfold World.setCell
  simp only [Array.getElem?_modify, if_true, h]
  simp
theorem RowT.made (w : World) (v : Value) (n : Nat) (e : TypeId) : RowT (w.alloc (.cells (madeCells #[v] n) e)) w.heap.size e (List.replicate n v) := by
  unfold RowT
  rw [(MapKept.heap_alloc w _).1]
  have : madeCells #[v] n = (List.replicate n v).toArray := by
    apply Array.ext
    · simp [madeCells]
    · intro i h1 h2
      simp [madeCells, Nat.mod_one]
  rw [this]
theorem Own.notRow {W : World} {B : Nat} {e : TypeId} {n : Nat} {v : Value} {L : List (Array Value)} (h : Own W B e n v L) {g : Nat} {t : TypeId} {R : List Value} (hr : RowT W g t R) (ht : e ≠ t) : v.ownBlock ≠ some g := by
  intro hv
  obtain ⟨⟨h1, h2⟩, h3⟩ := h
  rcases h2 with ⟨rfl, _⟩ | ⟨q, cap, cur, rfl, h4, h5, h6⟩
  · simp [Value.ownBlock] at hv
  · simp only [Value.ownBlock, Option.some.injEq] at hv
    subst hv
    unfold RowT at hr
    rw [hr] at h5
    simp only [Option.some.injEq, Obj.cells.injEq] at h5
    exact ht h5.2.1.symm
/-- shield.drop. -/
theorem drop_law (A G : List Nat) (u g : Value) (w : World) (hu : Sl w u 1 (A.map intC)) (hg : Sl w g 1 (G.map intC)) (hG : ∀ a ∈ G, a < A.length) (hl : A.length ≤ 1000) (hl2 : G.length ≤ 1000) :
    Calls Tryz.prog 320 #[u, g] w fun e w' => ∃ v', e = .returned v' ∧ Own w' w.heap.size 3 1 v' ((keepL A G 0).map intC) ∧ Below w.heap.size w w' := by
  obtain ⟨a, cap, rfl, q1, q2, q3⟩ := hu
  obtain ⟨b, cap2, rfl, p1, p2, p3⟩ := hg
  have HA : Hid (Sl w (.slice a (A.map intC).length cap) 1 (A.map intC)) := Lib.hid ⟨a, cap, rfl, q1, q2, q3⟩
  have HG0 : Hid (Sl w (.slice b (G.map intC).length cap2) 1 (G.map intC)) := Lib.hid ⟨b, cap2, rfl, p1, p2, p3⟩
  rw [List.length_map] at q1 p1 ⊢
  rw [List.length_map]
  obtain ⟨i0, hi, hz0, hz1, hz2⟩ := info_parts einfo3
  obtain ⟨wm, hrun, r1, r2⟩ := run_make_own (P := Tryz.prog) w w.heap.size 23 3 i0 _ 1 Tryz.underlying23 hi hz0 hz1 .i64 .i64 A.length (by rw [hz2]; omega) (by unfold maxLen; omega) (Nat.le_refl _)
  have hbm := grown_below r2
  have HO0 : Hid (Own wm w.heap.size 3 1 (.slice (some ⟨w.heap.size, 0, none⟩) 0 A.length) []) := Lib.hid ⟨by simpa [flat] using r1, by simp⟩
  have hmk := run_make_row' (P := Tryz.prog) 415 4 (.bool false) 1 Tryz.underlying415 info4b rfl .i64 .i64 A.length (by omega) (by omega) wm
  have hof := Lib.hid (RowT.made wm (.bool false) A.length 4)
  have hre : List.replicate A.length (Value.bool false) = boolsV A.length [] := by
    unfold boolsV; apply List.ext_getElem?; intro j; simp only [List.getElem?_replicate, List.getElem?_map]; by_cases hj : j < A.length <;> simp [hj]
  rw [hre] at hof
  have HM := Lib.hid (hbm.trans ((Below.refl w.heap.size wm).alloc hbm.size (.cells (madeCells #[.bool false] A.length) 4)))
  have HO1 := Lib.hid (HO0.out.below ((Below.refl _ _).alloc (Nat.le_refl _) (.cells (madeCells #[.bool false] A.length) 4)))
  have hn0 : 0 ≤ (A.length : Int) := by omega
  have hwm := hbm.size
  have hsz : (wm.alloc (.cells (madeCells #[.bool false] A.length) 4)).heap.size = wm.heap.size + 1 := by simp
  have hlt0 : w.heap.size < wm.heap.size := (HO0.out.base rfl).2
  clear r1 r2 hbm q3 p3 HO0 hre
  go_enter Tryz.func320, Tryz.ntmps320
  go_wp2
  clear hmk hrun
  generalize hW1 : wm.alloc (.cells (madeCells #[.bool false] A.length) 4) = W1 at *
  clear hW1
  go_loopg [19] G.length (fun gk s19 wr => ∃ k : Nat, s19 = .int .i64 (k : Int) ∧ k + gk = G.length ∧ Hid (Upto wm.heap.size W1 wr ∧ RowT wr wm.heap.size 4 (boolsV A.length (G.take k))))
  case atStart => exact ⟨0, rfl, by omega, Lib.hid ⟨Upto.refl _ _, hof.out⟩⟩
  case round =>
    obtain ⟨k, rfl, hg, HH⟩ := hrel
    have HG := Lib.hid hg
    obtain ⟨hU, hR⟩ := HH.out
    have hws := hU.size
    by_cases hk : k < G.length
    · obtain ⟨gb, ob, rfl, hgb, hcb⟩ := int_at HG0.out hk
      have hgk : G[k] < A.length := hG _ (List.getElem_mem hk)
      have hcb' : wr.cell? ⟨gb, ob + k, none⟩ = some (.int .i64 (G[k] : Nat)) := by rw [hU.cell (p := ⟨gb, ob + k, none⟩) (by show gb < _; omega) (by show gb ≠ _; omega), HM.out.cell (p := ⟨gb, ob + k, none⟩) hgb]; exact hcb
      have hkz : (k : Int) < (G.length : Int) := by omega
      have n1 : 0 ≤ (k : Int) := by omega
      have haz : ((G[k] : Nat) : Int) < (A.length : Int) := by omega
      have n2 : 0 ≤ ((G[k] : Nat) : Int) := by omega
      have hcell := hR.at'.cell (i := G[k]) (v := .bool (decide (G[k] ∈ G.take k))) (by unfold boolsV; simp [hgk])
      have hfr := hR.at'.frozen G[k]
      have hst : RowT (wr.setCell ⟨wm.heap.size, G[k], none⟩ (.bool true)) wm.heap.size 4 (boolsV A.length (G.take (k + 1))) := by
        rw [List.take_succ_eq_append_getElem hk, ← bools_set hgk]
        exact hR.set G[k] (.bool true)
      have HST := Lib.hid (show Upto wm.heap.size W1 (wr.setCell ⟨wm.heap.size, G[k], none⟩ (.bool true)) ∧ _ from ⟨hU.set _ _, hst⟩)
      clear hst hg hU hR
      generalize G[k] = ak at *
      go_wp2
      go_roundg (G.length - (k + 1))
      case measure => have := HG.out; omega
      case rel => exact ⟨k + 1, by simp, by have := HG.out; omega, HST⟩
    · obtain rfl : k = G.length := by omega
      rw [List.take_length] at hR
      have hkz : ¬ ((G.length : Int) < (G.length : Int)) := by omega
      have HUr := Lib.hid hU
      have HRr := Lib.hid hR
      have HBr := Lib.hid (HM.out.trans (hU.below hwm (by omega)))
      have HOr : Hid (Own wr w.heap.size 3 1 (.slice (some ⟨w.heap.size, 0, none⟩) 0 A.length) []) := Lib.hid (HO1.out.same fun q hq hq2 => hU.block q hq2 (fun e => by simp only [Value.ownBlock, Option.some.injEq] at hq; omega))
      clear hU hR hg
      go_wp2
      go_loopg [5, 29] A.length (fun gk s5 s29 wx => ∃ k : Nat, s29 = .int .i64 (k : Int) ∧ k + gk = A.length ∧ Hid (Below w.heap.size w wx ∧ RowT wx wm.heap.size 4 (boolsV A.length G) ∧ Own wx w.heap.size 3 1 s5 ((keepL (A.take k) G 0).map intC)))
      case atStart => exact ⟨0, rfl, by omega, Lib.hid ⟨HBr.out, HRr.out, HOr.out⟩⟩
      case round =>
        obtain ⟨k, rfl, hg, HH⟩ := hrel
        have HG := Lib.hid hg
        obtain ⟨hB, hR, hO⟩ := HH.out
        have hws := hB.size
        have hlt := hR.lt
        by_cases hk : k < A.length
        · obtain ⟨ga, oa, rfl, hga, hca⟩ := int_at HA.out hk
          have hca' : wr.cell? ⟨ga, oa + k, none⟩ = some (.int .i64 (A[k] : Nat)) := by rw [hB.cell (p := ⟨ga, oa + k, none⟩) hga]; exact hca
          have hkz : (k : Int) < (A.length : Int) := by omega
          have n1 : 0 ≤ (k : Int) := by omega
          have hcell := hR.at'.cell (i := k) (v := .bool (decide (k ∈ G))) (by unfold boolsV; simp [hk])
          have HB := Lib.hid hB
          have HR := Lib.hid hR
          have HO := Lib.hid hO
          have hsn := keep_snoc (A.take k) G 0 A[k]
          rw [List.length_take, Nat.min_eq_left (Nat.le_of_lt hk), Nat.zero_add, ← List.take_succ_eq_append_getElem hk] at hsn
          have hkl := keep_len (A.take k) G 0
          rw [List.length_take, Nat.min_eq_left (Nat.le_of_lt hk)] at hkl
          clear hB hR hO hg
          by_cases hin : k ∈ G
          · rw [if_pos hin, List.append_nil] at hsn
            go_wp2
            go_roundg (A.length - (k + 1))
            case measure => have := HG.out; omega
            case rel => exact ⟨k + 1, by simp, by have := HG.out; omega, Lib.hid ⟨HB.out, HR.out, by rw [hsn]; exact HO.out⟩⟩
          · rw [if_neg hin] at hsn
            generalize A[k] = ak at *
            have hwx : Hid (Own (wr.alloc (.cells (intC ak) 3)) w.heap.size 3 1 u5 ((keepL (A.take k) G 0).map intC)) := Lib.hid (HO.out.below ((Below.refl _ _).alloc (Nat.le_refl _) _))
            go_wp2_with (at_builtin; refine app3o rfl (.tmp 39) (.tmp 41) rfl w.heap.size _ ((keepL (A.take k) G 0).map intC) [intC ak] rfl hwx.out _ _ _ rfl (sl_one _ (intC ak) 3 1 _ rfl rfl rfl) (by simp only [List.length_map, List.length_singleton]; omega) (by simp <;> omega) ?_; intro v' w3 hown hbel hfar)
            go_roundg (A.length - (k + 1))
            case measure => have := HG.out; omega
            case rel =>
              have hra : RowT (wr.alloc (.cells (intC ak) 3)) wm.heap.size 4 (boolsV A.length G) := (Below.heap_alloc wr _ _ hlt).trans HR.out
              exact ⟨k + 1, by simp, by have := HG.out; omega, Lib.hid ⟨(HB.out.alloc hws _).trans hbel, (hfar _ (by simp; omega) (hwx.out.notRow hra (by decide))).trans hra, by rw [hsn]; simpa using hown⟩⟩
        · obtain rfl : k = A.length := by omega
          have hkz : ¬ ((A.length : Int) < (A.length : Int)) := by omega
          rw [List.take_length] at hO
          go_wp2
          refine bodyPost_ret (results_tmp rfl _ _ _) rfl ?_
          exact ⟨_, rfl, hO, hB⟩
end
end Go.Proofs.YtnncjbkepakgpaaGreat
