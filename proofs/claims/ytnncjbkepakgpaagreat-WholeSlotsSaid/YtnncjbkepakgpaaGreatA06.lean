/-
  COPIES OF SLICES.
  STRUCTS INSIDE STRUCTS: loaded and stored whole, at a place of a block.
-/
import Derived.Test.YtnncjbkepakgpaaGreatA05
import Derived.Lib.SliceRun
import Derived.WalkSmall
namespace Go.Proofs.YtnncjbkepakgpaaGreat
set_option linter.unusedVariables false
set_option linter.unusedSimpArgs false
set_option maxRecDepth 100000
set_option maxHeartbeats 2000000
section
open Go.RowKit
theorem einfo41 : (Tryz.prog.info? 41).map (fun i => (i.zero, i.size, i.bytes)) = some (some (.agg #[.int .i64 0, .bool false, .int .u64 0, .int .u64 0, .int .i64 0, .bool false, .int .u64 0, .int .u64 0, .int .i64 0, .int .i64 0, .int .i64 0, .bool false]), 12, 96) := by kernel_rfl
theorem einfo75 : (Tryz.prog.info? 75).map (fun i => (i.zero, i.size, i.bytes)) = some (some (.agg #[.bool false, .int .u64 0, .int .u64 0, .int .i64 0, .bool false, .int .i64 0, .int .i64 0, .int .i64 0, .int .i64 0, .int .i64 0]), 10, 80) := by kernel_rfl
theorem einfo103 : (Tryz.prog.info? 103).map (fun i => (i.zero, i.size, i.bytes)) = some (some (.agg #[.int .i64 0, .bool false, .int .u64 0, .int .u64 0, .int .i64 0, .bool false, .int .i64 0, .int .i64 0, .int .i64 0, .int .i64 0, .int .i64 0, .slice none 0 0, .slice none 0 0]), 13, 136) := by kernel_rfl
theorem einfo64 : (Tryz.prog.info? 64).map (fun i => (i.zero, i.size, i.bytes)) = some (some (.agg #[.int .i64 0, .bool false, .int .u64 0, .int .u64 0, .int .i64 0, .int .i64 0, .int .i64 0, .slice none 0 0]), 8, 80) := by kernel_rfl
theorem einfo62 : (Tryz.prog.info? 62).map (fun i => (i.zero, i.size, i.bytes)) = some (some (.agg #[.slice none 0 0, .int .i64 0, .slice none 0 0, .slice none 0 0, .bool false]), 5, 88) := by kernel_rfl
theorem einfo186 : (Tryz.prog.info? 186).map (fun i => (i.zero, i.size, i.bytes)) = some (some (.agg #[.int .i64 0, .slice none 0 0]), 2, 32) := by kernel_rfl
theorem einfo129 : (Tryz.prog.info? 129).map (fun i => (i.zero, i.size, i.bytes)) = some (some (.agg #[.int .i64 0, .slice none 0 0]), 2, 32) := by kernel_rfl
theorem einfo3 : (Tryz.prog.info? 3).map (fun i => (i.zero, i.size, i.bytes)) = some (some (.int .i64 0), 1, 8) := by kernel_rfl
theorem einfo107 : (Tryz.prog.info? 107).map (fun i => (i.zero, i.size, i.bytes)) = some (some (.agg #[.int .i64 0, .int .i64 0, .int .i64 0, .int .i64 0, .int .i64 0, .int .i64 0, .int .i64 0, .int .i64 0, .int .i64 0, .int .i64 0, .bool false, .int .u64 0, .int .u64 0, .int .i64 0, .bool false, .int .i64 0, .int .i64 0, .int .i64 0, .int .i64 0, .int .i64 0, .slice none 0 0, .slice none 0 0, .bool false, .int .i64 0, .bool false, .int .u64 0, .int .u64 0, .int .i64 0, .bool false, .int .i64 0, .int .i64 0, .int .i64 0, .int .i64 0, .int .i64 0, .slice none 0 0, .slice none 0 0, .bool false]), 37, 360) := by kernel_rfl
/-- append to a slice of the call's own, elements of type 41. -/
theorem app41 {ops : Array Oper} {rest : List Oper} {o : Oper} {a : Act} {w : World} {Q : Exit → Act → World → Prop} (hgd : o.guard = none) (s x : Operand)
    (ho : o.op = .call { callee := .builtin .append, args := #[s, x], argTypes := #[32, 32] }) (B : Nat) (v : Value) (L M : List (Array Value)) (hs : a.eval s = v) (hown : Own w B 41 12 v L)
    (ad : Addr) (m k : Nat) (hx : a.eval x = .slice (some ad) m k) (hM : Sl w (.slice (some ad) m k) 12 M) (hlen : L.length + M.length ≤ 200000) (hbase : B ≤ w.heap.size)
    (h : ∀ v' w', Own w' B 41 12 v' (L ++ M) → Below B w w' → (v' = .slice none 0 0 ↔ v = .slice none 0 0 ∧ M = []) → wpList Tryz.prog ops Q rest (a.put o.dst v') w') : wpList Tryz.prog ops Q (o :: rest) a w := by
  obtain ⟨i0, hi, hz0, hz1, hz2⟩ := info_parts einfo41
  exact app_own hgd s x 32 ho B 41 i0 (.agg #[.int .i64 0, .bool false, .int .u64 0, .int .u64 0, .int .i64 0, .bool false, .int .u64 0, .int .u64 0, .int .i64 0, .int .i64 0, .int .i64 0, .bool false]) 12 96 Tryz.underlying32 hi hz0 hz1 hz2 rfl (by decide) v L M hs hown ad m k hx hM (by omega) (by omega) hbase h
/-- append to a slice of the call's own, elements of type 75. -/
theorem app75 {ops : Array Oper} {rest : List Oper} {o : Oper} {a : Act} {w : World} {Q : Exit → Act → World → Prop} (hgd : o.guard = none) (s x : Operand)
    (ho : o.op = .call { callee := .builtin .append, args := #[s, x], argTypes := #[55, 55] }) (B : Nat) (v : Value) (L M : List (Array Value)) (hs : a.eval s = v) (hown : Own w B 75 10 v L)
    (ad : Addr) (m k : Nat) (hx : a.eval x = .slice (some ad) m k) (hM : Sl w (.slice (some ad) m k) 10 M) (hlen : L.length + M.length ≤ 200000) (hbase : B ≤ w.heap.size)
    (h : ∀ v' w', Own w' B 75 10 v' (L ++ M) → Below B w w' → (v' = .slice none 0 0 ↔ v = .slice none 0 0 ∧ M = []) → wpList Tryz.prog ops Q rest (a.put o.dst v') w') : wpList Tryz.prog ops Q (o :: rest) a w := by
  obtain ⟨i0, hi, hz0, hz1, hz2⟩ := info_parts einfo75
  exact app_own hgd s x 55 ho B 75 i0 (.agg #[.bool false, .int .u64 0, .int .u64 0, .int .i64 0, .bool false, .int .i64 0, .int .i64 0, .int .i64 0, .int .i64 0, .int .i64 0]) 10 80 Tryz.underlying55 hi hz0 hz1 hz2 rfl (by decide) v L M hs hown ad m k hx hM (by omega) (by omega) hbase h
/-- append to a slice of the call's own, elements of type 103. -/
theorem app103 {ops : Array Oper} {rest : List Oper} {o : Oper} {a : Act} {w : World} {Q : Exit → Act → World → Prop} (hgd : o.guard = none) (s x : Operand)
    (ho : o.op = .call { callee := .builtin .append, args := #[s, x], argTypes := #[59, 59] }) (B : Nat) (v : Value) (L M : List (Array Value)) (hs : a.eval s = v) (hown : Own w B 103 13 v L)
    (ad : Addr) (m k : Nat) (hx : a.eval x = .slice (some ad) m k) (hM : Sl w (.slice (some ad) m k) 13 M) (hlen : L.length + M.length ≤ 200000) (hbase : B ≤ w.heap.size)
    (h : ∀ v' w', Own w' B 103 13 v' (L ++ M) → Below B w w' → (v' = .slice none 0 0 ↔ v = .slice none 0 0 ∧ M = []) → wpList Tryz.prog ops Q rest (a.put o.dst v') w') : wpList Tryz.prog ops Q (o :: rest) a w := by
  obtain ⟨i0, hi, hz0, hz1, hz2⟩ := info_parts einfo103
  exact app_own hgd s x 59 ho B 103 i0 (.agg #[.int .i64 0, .bool false, .int .u64 0, .int .u64 0, .int .i64 0, .bool false, .int .i64 0, .int .i64 0, .int .i64 0, .int .i64 0, .int .i64 0, .slice none 0 0, .slice none 0 0]) 13 136 Tryz.underlying59 hi hz0 hz1 hz2 rfl (by decide) v L M hs hown ad m k hx hM (by omega) (by omega) hbase h
/-- append to a slice of the call's own, elements of type 64. -/
theorem app64 {ops : Array Oper} {rest : List Oper} {o : Oper} {a : Act} {w : World} {Q : Exit → Act → World → Prop} (hgd : o.guard = none) (s x : Operand)
    (ho : o.op = .call { callee := .builtin .append, args := #[s, x], argTypes := #[60, 60] }) (B : Nat) (v : Value) (L M : List (Array Value)) (hs : a.eval s = v) (hown : Own w B 64 8 v L)
    (ad : Addr) (m k : Nat) (hx : a.eval x = .slice (some ad) m k) (hM : Sl w (.slice (some ad) m k) 8 M) (hlen : L.length + M.length ≤ 200000) (hbase : B ≤ w.heap.size)
    (h : ∀ v' w', Own w' B 64 8 v' (L ++ M) → Below B w w' → (v' = .slice none 0 0 ↔ v = .slice none 0 0 ∧ M = []) → wpList Tryz.prog ops Q rest (a.put o.dst v') w') : wpList Tryz.prog ops Q (o :: rest) a w := by
  obtain ⟨i0, hi, hz0, hz1, hz2⟩ := info_parts einfo64
  exact app_own hgd s x 60 ho B 64 i0 (.agg #[.int .i64 0, .bool false, .int .u64 0, .int .u64 0, .int .i64 0, .int .i64 0, .int .i64 0, .slice none 0 0]) 8 80 Tryz.underlying60 hi hz0 hz1 hz2 rfl (by decide) v L M hs hown ad m k hx hM (by omega) (by omega) hbase h
/-- append to a slice of the call's own, elements of type 62. -/
theorem app62 {ops : Array Oper} {rest : List Oper} {o : Oper} {a : Act} {w : World} {Q : Exit → Act → World → Prop} (hgd : o.guard = none) (s x : Operand)
    (ho : o.op = .call { callee := .builtin .append, args := #[s, x], argTypes := #[48, 48] }) (B : Nat) (v : Value) (L M : List (Array Value)) (hs : a.eval s = v) (hown : Own w B 62 5 v L)
    (ad : Addr) (m k : Nat) (hx : a.eval x = .slice (some ad) m k) (hM : Sl w (.slice (some ad) m k) 5 M) (hlen : L.length + M.length ≤ 200000) (hbase : B ≤ w.heap.size)
    (h : ∀ v' w', Own w' B 62 5 v' (L ++ M) → Below B w w' → (v' = .slice none 0 0 ↔ v = .slice none 0 0 ∧ M = []) → wpList Tryz.prog ops Q rest (a.put o.dst v') w') : wpList Tryz.prog ops Q (o :: rest) a w := by
  obtain ⟨i0, hi, hz0, hz1, hz2⟩ := info_parts einfo62
  exact app_own hgd s x 48 ho B 62 i0 (.agg #[.slice none 0 0, .int .i64 0, .slice none 0 0, .slice none 0 0, .bool false]) 5 88 Tryz.underlying48 hi hz0 hz1 hz2 rfl (by decide) v L M hs hown ad m k hx hM (by omega) (by omega) hbase h
/-- append to a slice of the call's own, elements of type 186. -/
theorem app186 {ops : Array Oper} {rest : List Oper} {o : Oper} {a : Act} {w : World} {Q : Exit → Act → World → Prop} (hgd : o.guard = none) (s x : Operand)
    (ho : o.op = .call { callee := .builtin .append, args := #[s, x], argTypes := #[45, 45] }) (B : Nat) (v : Value) (L M : List (Array Value)) (hs : a.eval s = v) (hown : Own w B 186 2 v L)
    (ad : Addr) (m k : Nat) (hx : a.eval x = .slice (some ad) m k) (hM : Sl w (.slice (some ad) m k) 2 M) (hlen : L.length + M.length ≤ 200000) (hbase : B ≤ w.heap.size)
    (h : ∀ v' w', Own w' B 186 2 v' (L ++ M) → Below B w w' → (v' = .slice none 0 0 ↔ v = .slice none 0 0 ∧ M = []) → wpList Tryz.prog ops Q rest (a.put o.dst v') w') : wpList Tryz.prog ops Q (o :: rest) a w := by
  obtain ⟨i0, hi, hz0, hz1, hz2⟩ := info_parts einfo186
  exact app_own hgd s x 45 ho B 186 i0 (.agg #[.int .i64 0, .slice none 0 0]) 2 32 Tryz.underlying45 hi hz0 hz1 hz2 rfl (by decide) v L M hs hown ad m k hx hM (by omega) (by omega) hbase h
/-- append to a slice of the call's own, elements of type 129. -/
theorem app129 {ops : Array Oper} {rest : List Oper} {o : Oper} {a : Act} {w : World} {Q : Exit → Act → World → Prop} (hgd : o.guard = none) (s x : Operand)
    (ho : o.op = .call { callee := .builtin .append, args := #[s, x], argTypes := #[44, 44] }) (B : Nat) (v : Value) (L M : List (Array Value)) (hs : a.eval s = v) (hown : Own w B 129 2 v L)
    (ad : Addr) (m k : Nat) (hx : a.eval x = .slice (some ad) m k) (hM : Sl w (.slice (some ad) m k) 2 M) (hlen : L.length + M.length ≤ 200000) (hbase : B ≤ w.heap.size)
    (h : ∀ v' w', Own w' B 129 2 v' (L ++ M) → Below B w w' → (v' = .slice none 0 0 ↔ v = .slice none 0 0 ∧ M = []) → wpList Tryz.prog ops Q rest (a.put o.dst v') w') : wpList Tryz.prog ops Q (o :: rest) a w := by
  obtain ⟨i0, hi, hz0, hz1, hz2⟩ := info_parts einfo129
  exact app_own hgd s x 44 ho B 129 i0 (.agg #[.int .i64 0, .slice none 0 0]) 2 32 Tryz.underlying44 hi hz0 hz1 hz2 rfl (by decide) v L M hs hown ad m k hx hM (by omega) (by omega) hbase h
/-- append to a slice of the call's own, elements of type 3. -/
theorem app3 {ops : Array Oper} {rest : List Oper} {o : Oper} {a : Act} {w : World} {Q : Exit → Act → World → Prop} (hgd : o.guard = none) (s x : Operand)
    (ho : o.op = .call { callee := .builtin .append, args := #[s, x], argTypes := #[23, 23] }) (B : Nat) (v : Value) (L M : List (Array Value)) (hs : a.eval s = v) (hown : Own w B 3 1 v L)
    (ad : Addr) (m k : Nat) (hx : a.eval x = .slice (some ad) m k) (hM : Sl w (.slice (some ad) m k) 1 M) (hlen : L.length + M.length ≤ 200000) (hbase : B ≤ w.heap.size)
    (h : ∀ v' w', Own w' B 3 1 v' (L ++ M) → Below B w w' → (v' = .slice none 0 0 ↔ v = .slice none 0 0 ∧ M = []) → wpList Tryz.prog ops Q rest (a.put o.dst v') w') : wpList Tryz.prog ops Q (o :: rest) a w := by
  obtain ⟨i0, hi, hz0, hz1, hz2⟩ := info_parts einfo3
  exact app_own hgd s x 23 ho B 3 i0 (.int .i64 0) 1 8 Tryz.underlying23 hi hz0 hz1 hz2 rfl (by decide) v L M hs hown ad m k hx hM (by omega) (by omega) hbase h
/-- append to a slice of the call's own, elements of type 107. -/
theorem app107 {ops : Array Oper} {rest : List Oper} {o : Oper} {a : Act} {w : World} {Q : Exit → Act → World → Prop} (hgd : o.guard = none) (s x : Operand)
    (ho : o.op = .call { callee := .builtin .append, args := #[s, x], argTypes := #[49, 49] }) (B : Nat) (v : Value) (L M : List (Array Value)) (hs : a.eval s = v) (hown : Own w B 107 37 v L)
    (ad : Addr) (m k : Nat) (hx : a.eval x = .slice (some ad) m k) (hM : Sl w (.slice (some ad) m k) 37 M) (hlen : L.length + M.length ≤ 200000) (hbase : B ≤ w.heap.size)
    (h : ∀ v' w', Own w' B 107 37 v' (L ++ M) → Below B w w' → (v' = .slice none 0 0 ↔ v = .slice none 0 0 ∧ M = []) → wpList Tryz.prog ops Q rest (a.put o.dst v') w') : wpList Tryz.prog ops Q (o :: rest) a w := by
  obtain ⟨i0, hi, hz0, hz1, hz2⟩ := info_parts einfo107
  exact app_own hgd s x 49 ho B 107 i0 (.agg #[.int .i64 0, .int .i64 0, .int .i64 0, .int .i64 0, .int .i64 0, .int .i64 0, .int .i64 0, .int .i64 0, .int .i64 0, .int .i64 0, .bool false, .int .u64 0, .int .u64 0, .int .i64 0, .bool false, .int .i64 0, .int .i64 0, .int .i64 0, .int .i64 0, .int .i64 0, .slice none 0 0, .slice none 0 0, .bool false, .int .i64 0, .bool false, .int .u64 0, .int .u64 0, .int .i64 0, .bool false, .int .i64 0, .int .i64 0, .int .i64 0, .int .i64 0, .int .i64 0, .slice none 0 0, .slice none 0 0, .bool false]) 37 360 Tryz.underlying49 hi hz0 hz1 hz2 rfl (by decide) v L M hs hown ad m k hx hM (by omega) (by omega) hbase h
theorem own_made0 (w : World) (B : Nat) (e : TypeId) (n : Nat) (g : Nat) (hg : g = w.heap.size) (hB : B ≤ w.heap.size) : Own (w.alloc (.cells #[] e)) B e n (.slice (some ⟨g, 0, none⟩) 0 0) [] := by
  subst hg
  refine ⟨⟨by simp [flat], .inr ⟨w.heap.size, 0, #[], rfl, hB, (MapKept.heap_alloc w _).1, Nat.le_refl _, Nat.zero_le _, by simp, by simp [flat]⟩⟩, by simp⟩
/-- A copy (function 50, elements of type 41). -/
theorem clone50 (v : Value) (L : List (Array Value)) (w : World) (h : Sl w v 12 L) (hl : L.length ≤ 100000) : Calls Tryz.prog 50 #[v] w fun e w' => ∃ v', e = .returned v' ∧ Own w' w.heap.size 41 12 v' L ∧ Below w.heap.size w w' := by
  have qT : ∀ (w : World) (a : Option Addr) (n c n' c' : Nat), (binOp .eql 32 (.slice a n c) (.slice none n' c')).run Tryz.prog w = .ok (.bool a.isNone) w := fun w a n c n' c' => Lib.run_eql_slice_nil (P := Tryz.prog) w 32 41 a n c n' c' Tryz.underlying32
  have hb0 := (Below.refl w.heap.size w).alloc (Nat.le_refl _) (.cells #[] 41)
  have hd := Lib.hid (h.below hb0)
  have ho := Lib.hid (own_made0 w w.heap.size 41 12 _ rfl (Nat.le_refl _))
  have hz : Own w w.heap.size 41 12 (.slice none 0 0) [] := Own.nil _ _ _ _
  obtain ⟨a, cap, rfl, h1, h2, h3⟩ := h
  rcases h3 with ⟨rfl, rfl⟩ | ⟨g, o, rfl, hg, h4⟩
  · go_enter Tryz.func50, Tryz.ntmps50
    go_wp2
    go_ret
    exact ⟨_, rfl, hz, Below.refl _ _⟩
  · have HB := Lib.hid hb0
    clear h4 hz hb0
    go_enter Tryz.func50, Tryz.ntmps50
    go_wp2_with (first
      | (at_builtin; refine app41 rfl (.tmp 5) (.tmp 6) rfl w.heap.size _ [] L rfl ho.out _ _ _ rfl hd.out (by simp; omega) (by simp) ?_; intro v' w1 hown hbel hnil))
    go_ret
    exact ⟨_, rfl, by simpa using hown, HB.out.trans hbel⟩
/-- A copy (function 54, elements of type 62). -/
theorem clone54 (v : Value) (L : List (Array Value)) (w : World) (h : Sl w v 5 L) (hl : L.length ≤ 100000) : Calls Tryz.prog 54 #[v] w fun e w' => ∃ v', e = .returned v' ∧ Own w' w.heap.size 62 5 v' L ∧ Below w.heap.size w w' := by
  have qT : ∀ (w : World) (a : Option Addr) (n c n' c' : Nat), (binOp .eql 48 (.slice a n c) (.slice none n' c')).run Tryz.prog w = .ok (.bool a.isNone) w := fun w a n c n' c' => Lib.run_eql_slice_nil (P := Tryz.prog) w 48 62 a n c n' c' Tryz.underlying48
  have hb0 := (Below.refl w.heap.size w).alloc (Nat.le_refl _) (.cells #[] 62)
  have hd := Lib.hid (h.below hb0)
  have ho := Lib.hid (own_made0 w w.heap.size 62 5 _ rfl (Nat.le_refl _))
  have hz : Own w w.heap.size 62 5 (.slice none 0 0) [] := Own.nil _ _ _ _
  obtain ⟨a, cap, rfl, h1, h2, h3⟩ := h
  rcases h3 with ⟨rfl, rfl⟩ | ⟨g, o, rfl, hg, h4⟩
  · go_enter Tryz.func54, Tryz.ntmps54
    go_wp2
    go_ret
    exact ⟨_, rfl, hz, Below.refl _ _⟩
  · have HB := Lib.hid hb0
    clear h4 hz hb0
    go_enter Tryz.func54, Tryz.ntmps54
    go_wp2_with (first
      | (at_builtin; refine app62 rfl (.tmp 5) (.tmp 6) rfl w.heap.size _ [] L rfl ho.out _ _ _ rfl hd.out (by simp; omega) (by simp) ?_; intro v' w1 hown hbel hnil))
    go_ret
    exact ⟨_, rfl, by simpa using hown, HB.out.trans hbel⟩
/-- A copy (function 55, elements of type 107). -/
theorem clone55 (v : Value) (L : List (Array Value)) (w : World) (h : Sl w v 37 L) (hl : L.length ≤ 100000) : Calls Tryz.prog 55 #[v] w fun e w' => ∃ v', e = .returned v' ∧ Own w' w.heap.size 107 37 v' L ∧ Below w.heap.size w w' := by
  have qT : ∀ (w : World) (a : Option Addr) (n c n' c' : Nat), (binOp .eql 49 (.slice a n c) (.slice none n' c')).run Tryz.prog w = .ok (.bool a.isNone) w := fun w a n c n' c' => Lib.run_eql_slice_nil (P := Tryz.prog) w 49 107 a n c n' c' Tryz.underlying49
  have hb0 := (Below.refl w.heap.size w).alloc (Nat.le_refl _) (.cells #[] 107)
  have hd := Lib.hid (h.below hb0)
  have ho := Lib.hid (own_made0 w w.heap.size 107 37 _ rfl (Nat.le_refl _))
  have hz : Own w w.heap.size 107 37 (.slice none 0 0) [] := Own.nil _ _ _ _
  obtain ⟨a, cap, rfl, h1, h2, h3⟩ := h
  rcases h3 with ⟨rfl, rfl⟩ | ⟨g, o, rfl, hg, h4⟩
  · go_enter Tryz.func55, Tryz.ntmps55
    go_wp2
    go_ret
    exact ⟨_, rfl, hz, Below.refl _ _⟩
  · have HB := Lib.hid hb0
    clear h4 hz hb0
    go_enter Tryz.func55, Tryz.ntmps55
    go_wp2_with (first
      | (at_builtin; refine app107 rfl (.tmp 5) (.tmp 6) rfl w.heap.size _ [] L rfl ho.out _ _ _ rfl hd.out (by simp; omega) (by simp) ?_; intro v' w1 hown hbel hnil))
    go_ret
    exact ⟨_, rfl, by simpa using hown, HB.out.trans hbel⟩
/-- A copy (function 87, elements of type 3). -/
theorem clone87 (v : Value) (L : List (Array Value)) (w : World) (h : Sl w v 1 L) (hl : L.length ≤ 100000) : Calls Tryz.prog 87 #[v] w fun e w' => ∃ v', e = .returned v' ∧ Own w' w.heap.size 3 1 v' L ∧ Below w.heap.size w w' := by
  have qT : ∀ (w : World) (a : Option Addr) (n c n' c' : Nat), (binOp .eql 23 (.slice a n c) (.slice none n' c')).run Tryz.prog w = .ok (.bool a.isNone) w := fun w a n c n' c' => Lib.run_eql_slice_nil (P := Tryz.prog) w 23 3 a n c n' c' Tryz.underlying23
  have hb0 := (Below.refl w.heap.size w).alloc (Nat.le_refl _) (.cells #[] 3)
  have hd := Lib.hid (h.below hb0)
  have ho := Lib.hid (own_made0 w w.heap.size 3 1 _ rfl (Nat.le_refl _))
  have hz : Own w w.heap.size 3 1 (.slice none 0 0) [] := Own.nil _ _ _ _
  obtain ⟨a, cap, rfl, h1, h2, h3⟩ := h
  rcases h3 with ⟨rfl, rfl⟩ | ⟨g, o, rfl, hg, h4⟩
  · go_enter Tryz.func87, Tryz.ntmps87
    go_wp2
    go_ret
    exact ⟨_, rfl, hz, Below.refl _ _⟩
  · have HB := Lib.hid hb0
    clear h4 hz hb0
    go_enter Tryz.func87, Tryz.ntmps87
    go_wp2_with (first
      | (at_builtin; refine app3 rfl (.tmp 5) (.tmp 6) rfl w.heap.size _ [] L rfl ho.out _ _ _ rfl hd.out (by simp; omega) (by simp) ?_; intro v' w1 hown hbel hnil))
    go_ret
    exact ⟨_, rfl, by simpa using hown, HB.out.trans hbel⟩
/-- A copy (function 92, elements of type 103). -/
theorem clone92 (v : Value) (L : List (Array Value)) (w : World) (h : Sl w v 13 L) (hl : L.length ≤ 100000) : Calls Tryz.prog 92 #[v] w fun e w' => ∃ v', e = .returned v' ∧ Own w' w.heap.size 103 13 v' L ∧ Below w.heap.size w w' := by
  have qT : ∀ (w : World) (a : Option Addr) (n c n' c' : Nat), (binOp .eql 59 (.slice a n c) (.slice none n' c')).run Tryz.prog w = .ok (.bool a.isNone) w := fun w a n c n' c' => Lib.run_eql_slice_nil (P := Tryz.prog) w 59 103 a n c n' c' Tryz.underlying59
  have hb0 := (Below.refl w.heap.size w).alloc (Nat.le_refl _) (.cells #[] 103)
  have hd := Lib.hid (h.below hb0)
  have ho := Lib.hid (own_made0 w w.heap.size 103 13 _ rfl (Nat.le_refl _))
  have hz : Own w w.heap.size 103 13 (.slice none 0 0) [] := Own.nil _ _ _ _
  obtain ⟨a, cap, rfl, h1, h2, h3⟩ := h
  rcases h3 with ⟨rfl, rfl⟩ | ⟨g, o, rfl, hg, h4⟩
  · go_enter Tryz.func92, Tryz.ntmps92
    go_wp2
    go_ret
    exact ⟨_, rfl, hz, Below.refl _ _⟩
  · have HB := Lib.hid hb0
    clear h4 hz hb0
    go_enter Tryz.func92, Tryz.ntmps92
    go_wp2_with (first
      | (at_builtin; refine app103 rfl (.tmp 5) (.tmp 6) rfl w.heap.size _ [] L rfl ho.out _ _ _ rfl hd.out (by simp; omega) (by simp) ?_; intro v' w1 hown hbel hnil))
    go_ret
    exact ⟨_, rfl, by simpa using hown, HB.out.trans hbel⟩
/-- A copy (function 94, elements of type 64). -/
theorem clone94 (v : Value) (L : List (Array Value)) (w : World) (h : Sl w v 8 L) (hl : L.length ≤ 100000) : Calls Tryz.prog 94 #[v] w fun e w' => ∃ v', e = .returned v' ∧ Own w' w.heap.size 64 8 v' L ∧ Below w.heap.size w w' := by
  have qT : ∀ (w : World) (a : Option Addr) (n c n' c' : Nat), (binOp .eql 60 (.slice a n c) (.slice none n' c')).run Tryz.prog w = .ok (.bool a.isNone) w := fun w a n c n' c' => Lib.run_eql_slice_nil (P := Tryz.prog) w 60 64 a n c n' c' Tryz.underlying60
  have hb0 := (Below.refl w.heap.size w).alloc (Nat.le_refl _) (.cells #[] 64)
  have hd := Lib.hid (h.below hb0)
  have ho := Lib.hid (own_made0 w w.heap.size 64 8 _ rfl (Nat.le_refl _))
  have hz : Own w w.heap.size 64 8 (.slice none 0 0) [] := Own.nil _ _ _ _
  obtain ⟨a, cap, rfl, h1, h2, h3⟩ := h
  rcases h3 with ⟨rfl, rfl⟩ | ⟨g, o, rfl, hg, h4⟩
  · go_enter Tryz.func94, Tryz.ntmps94
    go_wp2
    go_ret
    exact ⟨_, rfl, hz, Below.refl _ _⟩
  · have HB := Lib.hid hb0
    clear h4 hz hb0
    go_enter Tryz.func94, Tryz.ntmps94
    go_wp2_with (first
      | (at_builtin; refine app64 rfl (.tmp 5) (.tmp 6) rfl w.heap.size _ [] L rfl ho.out _ _ _ rfl hd.out (by simp; omega) (by simp) ?_; intro v' w1 hown hbel hnil))
    go_ret
    exact ⟨_, rfl, by simpa using hown, HB.out.trans hbel⟩
/-- A copy (function 113, elements of type 75). -/
theorem clone113 (v : Value) (L : List (Array Value)) (w : World) (h : Sl w v 10 L) (hl : L.length ≤ 100000) : Calls Tryz.prog 113 #[v] w fun e w' => ∃ v', e = .returned v' ∧ Own w' w.heap.size 75 10 v' L ∧ Below w.heap.size w w' := by
  have qT : ∀ (w : World) (a : Option Addr) (n c n' c' : Nat), (binOp .eql 55 (.slice a n c) (.slice none n' c')).run Tryz.prog w = .ok (.bool a.isNone) w := fun w a n c n' c' => Lib.run_eql_slice_nil (P := Tryz.prog) w 55 75 a n c n' c' Tryz.underlying55
  have hb0 := (Below.refl w.heap.size w).alloc (Nat.le_refl _) (.cells #[] 75)
  have hd := Lib.hid (h.below hb0)
  have ho := Lib.hid (own_made0 w w.heap.size 75 10 _ rfl (Nat.le_refl _))
  have hz : Own w w.heap.size 75 10 (.slice none 0 0) [] := Own.nil _ _ _ _
  obtain ⟨a, cap, rfl, h1, h2, h3⟩ := h
  rcases h3 with ⟨rfl, rfl⟩ | ⟨g, o, rfl, hg, h4⟩
  · go_enter Tryz.func113, Tryz.ntmps113
    go_wp2
    go_ret
    exact ⟨_, rfl, hz, Below.refl _ _⟩
  · have HB := Lib.hid hb0
    clear h4 hz hb0
    go_enter Tryz.func113, Tryz.ntmps113
    go_wp2_with (first
      | (at_builtin; refine app75 rfl (.tmp 5) (.tmp 6) rfl w.heap.size _ [] L rfl ho.out _ _ _ rfl hd.out (by simp; omega) (by simp) ?_; intro v' w1 hown hbel hnil))
    go_ret
    exact ⟨_, rfl, by simpa using hown, HB.out.trans hbel⟩
/-- A copy (function 128, elements of type 186). -/
theorem clone128 (v : Value) (L : List (Array Value)) (w : World) (h : Sl w v 2 L) (hl : L.length ≤ 100000) : Calls Tryz.prog 128 #[v] w fun e w' => ∃ v', e = .returned v' ∧ Own w' w.heap.size 186 2 v' L ∧ Below w.heap.size w w' := by
  have qT : ∀ (w : World) (a : Option Addr) (n c n' c' : Nat), (binOp .eql 45 (.slice a n c) (.slice none n' c')).run Tryz.prog w = .ok (.bool a.isNone) w := fun w a n c n' c' => Lib.run_eql_slice_nil (P := Tryz.prog) w 45 186 a n c n' c' Tryz.underlying45
  have hb0 := (Below.refl w.heap.size w).alloc (Nat.le_refl _) (.cells #[] 186)
  have hd := Lib.hid (h.below hb0)
  have ho := Lib.hid (own_made0 w w.heap.size 186 2 _ rfl (Nat.le_refl _))
  have hz : Own w w.heap.size 186 2 (.slice none 0 0) [] := Own.nil _ _ _ _
  obtain ⟨a, cap, rfl, h1, h2, h3⟩ := h
  rcases h3 with ⟨rfl, rfl⟩ | ⟨g, o, rfl, hg, h4⟩
  · go_enter Tryz.func128, Tryz.ntmps128
    go_wp2
    go_ret
    exact ⟨_, rfl, hz, Below.refl _ _⟩
  · have HB := Lib.hid hb0
    clear h4 hz hb0
    go_enter Tryz.func128, Tryz.ntmps128
    go_wp2_with (first
      | (at_builtin; refine app186 rfl (.tmp 5) (.tmp 6) rfl w.heap.size _ [] L rfl ho.out _ _ _ rfl hd.out (by simp; omega) (by simp) ?_; intro v' w1 hown hbel hnil))
    go_ret
    exact ⟨_, rfl, by simpa using hown, HB.out.trans hbel⟩
/-- A copy (function 185, elements of type 129). -/
theorem clone185 (v : Value) (L : List (Array Value)) (w : World) (h : Sl w v 2 L) (hl : L.length ≤ 100000) : Calls Tryz.prog 185 #[v] w fun e w' => ∃ v', e = .returned v' ∧ Own w' w.heap.size 129 2 v' L ∧ Below w.heap.size w w' := by
  have qT : ∀ (w : World) (a : Option Addr) (n c n' c' : Nat), (binOp .eql 44 (.slice a n c) (.slice none n' c')).run Tryz.prog w = .ok (.bool a.isNone) w := fun w a n c n' c' => Lib.run_eql_slice_nil (P := Tryz.prog) w 44 129 a n c n' c' Tryz.underlying44
  have hb0 := (Below.refl w.heap.size w).alloc (Nat.le_refl _) (.cells #[] 129)
  have hd := Lib.hid (h.below hb0)
  have ho := Lib.hid (own_made0 w w.heap.size 129 2 _ rfl (Nat.le_refl _))
  have hz : Own w w.heap.size 129 2 (.slice none 0 0) [] := Own.nil _ _ _ _
  obtain ⟨a, cap, rfl, h1, h2, h3⟩ := h
  rcases h3 with ⟨rfl, rfl⟩ | ⟨g, o, rfl, hg, h4⟩
  · go_enter Tryz.func185, Tryz.ntmps185
    go_wp2
    go_ret
    exact ⟨_, rfl, hz, Below.refl _ _⟩
  · have HB := Lib.hid hb0
    clear h4 hz hb0
    go_enter Tryz.func185, Tryz.ntmps185
    go_wp2_with (first
      | (at_builtin; refine app129 rfl (.tmp 5) (.tmp 6) rfl w.heap.size _ [] L rfl ho.out _ _ _ rfl hd.out (by simp; omega) (by simp) ?_; intro v' w1 hown hbel hnil))
    go_ret
    exact ⟨_, rfl, by simpa using hown, HB.out.trans hbel⟩
end
section
open Go.RowKit
theorem lt2 (n : Nat) : n < n + 1 + 1 := by omega
theorem lt3 (n : Nat) : n < n + 1 + 1 + 1 := by omega
theorem lt4 (n : Nat) : n < n + 1 + 1 + 1 + 1 := by omega
/-- R with C laid from place o on. -/
def putAt (R : Array Value) (o : Nat) (C : Array Value) : Array Value := (R.toList.take o ++ C.toList ++ R.toList.drop (o + C.size)).toArray
def fitsAt (W : World) (g o n : Nat) : Bool := match W.heap[g]? with
  | some (.cells cs _ fr) => decide (fr = (0, 0)) && decide (o + n ≤ cs.size)
  | _ => false
def setAt (W : World) (g o : Nat) (C : Array Value) : World := W.setRow g (putAt (rowOf W g) o C)
theorem fits_heap {W : World} {g o n : Nat} (h : fitsAt W g o n = true) : ∃ t, W.heap[g]? = some (.cells (rowOf W g) t (0, 0)) ∧ o + n ≤ (rowOf W g).size := by
  unfold fitsAt at h
  unfold rowOf
  split at h
  · rename_i cs u fr e
    simp only [Bool.and_eq_true, decide_eq_true_eq] at h
    obtain ⟨rfl, h2⟩ := h
    rw [e]
    exact ⟨u, rfl, h2⟩
  · cases h
theorem fits_new (w : World) (C : Array Value) (t : TypeId) (g o n : Nat) (hg : g = w.heap.size) (hn : o + n ≤ C.size) : fitsAt (w.alloc (.cells C t)) g o n = true := by
  subst hg
  unfold fitsAt
  rw [(MapKept.heap_alloc w _).1]
  simp [hn]
theorem fits_past (w : World) (ob : Obj) (g o n : Nat) (hg : g < w.heap.size) : fitsAt (w.alloc ob) g o n = fitsAt w g o n := by
  unfold fitsAt; rw [Below.heap_alloc w ob g hg]
theorem fits_drew (w : World) (g o n : Nat) : fitsAt w.drew g o n = fitsAt w g o n := rfl
theorem fits_row {W : World} {g n o m : Nat} {t : TypeId} (h : isRow W g t n = true) (hm : o + m ≤ n) : fitsAt W g o m = true := by
  obtain ⟨h1, h2⟩ := row_heap h
  unfold fitsAt
  rw [h1]; simp [h2, hm]
theorem putAt_size {R C : Array Value} {o : Nat} (h : o + C.size ≤ R.size) : (putAt R o C).size = R.size := by
  simp [putAt]; omega
theorem putAt_whole {R C : Array Value} (h : R.size = C.size) : putAt R 0 C = C := by
  unfold putAt
  rw [List.take_zero, List.drop_eq_nil_of_le (by simp [h])]
  simp
theorem putAt_lit (R C : List Value) (o : Nat) : putAt R.toArray o C.toArray = (R.take o ++ C ++ R.drop (o + C.length)).toArray := by simp [putAt]
theorem setAt_new (w : World) (D C : Array Value) (t : TypeId) (g o : Nat) (hg : g = w.heap.size) : setAt (w.alloc (.cells D t)) g o C = w.alloc (.cells (putAt D o C) t) := by
  unfold setAt
  rw [rowOf_new w D t g hg, setRow_new w D _ t g hg]
theorem setAt_past (w : World) (ob : Obj) (g o : Nat) (C : Array Value) (hg : g < w.heap.size) : setAt (w.alloc ob) g o C = (setAt w g o C).alloc ob := by
  unfold setAt
  rw [rowOf_past w ob g hg, setRow_past w ob g _ hg]
theorem setAt_drew (w : World) (g o : Nat) (C : Array Value) : setAt w.drew g o C = (setAt w g o C).drew := rfl
theorem setAt_size (w : World) (g o : Nat) (C : Array Value) : (setAt w g o C).heap.size = w.heap.size := by simp [setAt, World.setRow]
theorem below_setAt {B : Nat} {a w : World} (h : Below B a w) {g : Nat} (hg : B ≤ g) (o : Nat) (C : Array Value) : Below B a (setAt w g o C) := below_setRow h hg _
theorem rng_new (w : World) (C : Array Value) (t : TypeId) (g o n : Nat) (hg : g = w.heap.size) (hn : o + n ≤ C.size) : isRange (w.alloc (.cells C t)) ⟨g, o, none⟩ n = true ∧ rangeOf (w.alloc (.cells C t)) ⟨g, o, none⟩ n = C.extract o (o + n) := by
  subst hg
  have h := range_of (W := w.alloc (.cells C t)) (p := ⟨w.heap.size, o, none⟩) (cs := (C.extract o (o + n)).toList) (n := n) (by simp; omega) (fun k v hk => by
    rw [addr_add, World.cell?_alloc_new]
    simp only [Array.toList_extract, List.extract_eq_take_drop] at hk
    have h1 := (List.getElem?_eq_some_iff.1 hk).1
    simp only [List.length_take, List.length_drop, Array.length_toList] at h1
    rw [List.getElem?_take_of_lt (by omega), List.getElem?_drop] at hk
    simpa using hk)
  rw [Array.toArray_toList] at h
  exact h
theorem isRng_new (w : World) (C : Array Value) (t : TypeId) (g o n : Nat) (hg : g = w.heap.size) (hn : o + n ≤ C.size) : isRange (w.alloc (.cells C t)) ⟨g, o, none⟩ n = true := (rng_new w C t g o n hg hn).1
theorem rngOf_new (w : World) (C : Array Value) (t : TypeId) (g o n : Nat) (hg : g = w.heap.size) (hn : o + n ≤ C.size) : rangeOf (w.alloc (.cells C t)) ⟨g, o, none⟩ n = C.extract o (o + n) := (rng_new w C t g o n hg hn).2
theorem extract_whole {C : Array Value} {n : Nat} (h : C.size = n) : C.extract 0 n = C := by subst h; simp
theorem extract_lit (l : List Value) (i j : Nat) : l.toArray.extract i j = ((l.drop i).take (j - i)).toArray := by simp [List.extract_eq_take_drop]
theorem run_store_at (T : TypeId) (n : Nat) (hi : (Tryz.prog.info? T).map (·.size) = some n) {W : World} {g o : Nat} {C : Array Value} (h : fitsAt W g o n = true) (hn : C.size = n) (h1 : ones C = true) :
    (storeVar T ⟨g, o, none⟩ (.agg C)).run Tryz.prog W = .ok () (setAt W g o C) := by
  obtain ⟨t, h2, h3⟩ := fits_heap h
  have h4 := run_storeCells_at (P := Tryz.prog) g o t C.toList 0 _ W h2 (by simpa [hn] using h3) (fun v hv => (Array.all_eq_true_iff_forall_mem.1 (ones_all h1)) v (by simpa using hv))
  cases hq : Tryz.prog.info? T with
  | none => rw [hq] at hi; cases hi
  | some i =>
    have hs : C.size = i.size := by rw [hq] at hi; rw [hn]; simpa using hi.symm
    simp only [Nat.add_zero, Array.length_toList] at h4
    simp [storeVar, sizeOf, typeInfo, hq, Value.cells, hs, h4, setAt, putAt]
theorem run_store29i {W : World} {g o : Nat} {C : Array Value} (h : fitsAt W g o 16 = true) (hn : C.size = 16) (h1 : ones C = true) : (store29 (.pointer (some ⟨g, o, none⟩)) (.agg C)).run Tryz.prog W = .ok .skip (setAt W g o C) := by
  simp only [store29, Instr.storeAt, Instr.sureAddr, Sem.run_bind, Sem.run_pure, Result.andThen_ok, run_store_at 29 16 info29 h hn h1]
theorem run_store41i {W : World} {g o : Nat} {C : Array Value} (h : fitsAt W g o 12 = true) (hn : C.size = 12) (h1 : ones C = true) : (store41 (.pointer (some ⟨g, o, none⟩)) (.agg C)).run Tryz.prog W = .ok .skip (setAt W g o C) := by
  simp only [store41, Instr.storeAt, Instr.sureAddr, Sem.run_bind, Sem.run_pure, Result.andThen_ok, run_store_at 41 12 info41 h hn h1]
theorem run_store64i {W : World} {g o : Nat} {C : Array Value} (h : fitsAt W g o 8 = true) (hn : C.size = 8) (h1 : ones C = true) : (store64 (.pointer (some ⟨g, o, none⟩)) (.agg C)).run Tryz.prog W = .ok .skip (setAt W g o C) := by
  simp only [store64, Instr.storeAt, Instr.sureAddr, Sem.run_bind, Sem.run_pure, Result.andThen_ok, run_store_at 64 8 info64 h hn h1]
theorem run_store75i {W : World} {g o : Nat} {C : Array Value} (h : fitsAt W g o 10 = true) (hn : C.size = 10) (h1 : ones C = true) : (store75 (.pointer (some ⟨g, o, none⟩)) (.agg C)).run Tryz.prog W = .ok .skip (setAt W g o C) := by
  simp only [store75, Instr.storeAt, Instr.sureAddr, Sem.run_bind, Sem.run_pure, Result.andThen_ok, run_store_at 75 10 info75 h hn h1]
theorem run_store103i {W : World} {g o : Nat} {C : Array Value} (h : fitsAt W g o 13 = true) (hn : C.size = 13) (h1 : ones C = true) : (store103 (.pointer (some ⟨g, o, none⟩)) (.agg C)).run Tryz.prog W = .ok .skip (setAt W g o C) := by
  simp only [store103, Instr.storeAt, Instr.sureAddr, Sem.run_bind, Sem.run_pure, Result.andThen_ok, run_store_at 103 13 info103 h hn h1]
theorem run_store105i {W : World} {g o : Nat} {C : Array Value} (h : fitsAt W g o 21 = true) (hn : C.size = 21) (h1 : ones C = true) : (store105 (.pointer (some ⟨g, o, none⟩)) (.agg C)).run Tryz.prog W = .ok .skip (setAt W g o C) := by
  simp only [store105, Instr.storeAt, Instr.sureAddr, Sem.run_bind, Sem.run_pure, Result.andThen_ok, run_store_at 105 21 info105 h hn h1]
theorem run_store107i {W : World} {g o : Nat} {C : Array Value} (h : fitsAt W g o 37 = true) (hn : C.size = 37) (h1 : ones C = true) : (store107 (.pointer (some ⟨g, o, none⟩)) (.agg C)).run Tryz.prog W = .ok .skip (setAt W g o C) := by
  simp only [store107, Instr.storeAt, Instr.sureAddr, Sem.run_bind, Sem.run_pure, Result.andThen_ok, run_store_at 107 37 info107 h hn h1]
theorem run_store198i {W : World} {g o : Nat} {C : Array Value} (h : fitsAt W g o 31 = true) (hn : C.size = 31) (h1 : ones C = true) : (store198 (.pointer (some ⟨g, o, none⟩)) (.agg C)).run Tryz.prog W = .ok .skip (setAt W g o C) := by
  simp only [store198, Instr.storeAt, Instr.sureAddr, Sem.run_bind, Sem.run_pure, Result.andThen_ok, run_store_at 198 31 info198 h hn h1]
theorem run_store203i {W : World} {g o : Nat} {C : Array Value} (h : fitsAt W g o 28 = true) (hn : C.size = 28) (h1 : ones C = true) : (store203 (.pointer (some ⟨g, o, none⟩)) (.agg C)).run Tryz.prog W = .ok .skip (setAt W g o C) := by
  simp only [store203, Instr.storeAt, Instr.sureAddr, Sem.run_bind, Sem.run_pure, Result.andThen_ok, run_store_at 203 28 info203 h hn h1]
theorem run_store62i {W : World} {g o : Nat} {C : Array Value} (h : fitsAt W g o 5 = true) (hn : C.size = 5) (h1 : ones C = true) : (store62 (.pointer (some ⟨g, o, none⟩)) (.agg C)).run Tryz.prog W = .ok .skip (setAt W g o C) := by
  simp only [store62, Instr.storeAt, Instr.sureAddr, Sem.run_bind, Sem.run_pure, Result.andThen_ok, run_store_at 62 5 info62 h hn h1]
theorem run_store101i {W : World} {g o : Nat} {C : Array Value} (h : fitsAt W g o 3 = true) (hn : C.size = 3) (h1 : ones C = true) : (store101 (.pointer (some ⟨g, o, none⟩)) (.agg C)).run Tryz.prog W = .ok .skip (setAt W g o C) := by
  simp only [store101, Instr.storeAt, Instr.sureAddr, Sem.run_bind, Sem.run_pure, Result.andThen_ok, run_store_at 101 3 info101 h hn h1]
theorem run_store36i {W : World} {g o : Nat} {C : Array Value} (h : fitsAt W g o 4 = true) (hn : C.size = 4) (h1 : ones C = true) : (store36 (.pointer (some ⟨g, o, none⟩)) (.agg C)).run Tryz.prog W = .ok .skip (setAt W g o C) := by
  simp only [store36, Instr.storeAt, Instr.sureAddr, Sem.run_bind, Sem.run_pure, Result.andThen_ok, run_store_at 36 4 info36 h hn h1]
theorem run_store51i {W : World} {g o : Nat} {C : Array Value} (h : fitsAt W g o 24 = true) (hn : C.size = 24) (h1 : ones C = true) : (store51 (.pointer (some ⟨g, o, none⟩)) (.agg C)).run Tryz.prog W = .ok .skip (setAt W g o C) := by
  simp only [store51, Instr.storeAt, Instr.sureAddr, Sem.run_bind, Sem.run_pure, Result.andThen_ok, run_store_at 51 24 info51 h hn h1]
theorem run_store47i {W : World} {g o : Nat} {C : Array Value} (h : fitsAt W g o 6 = true) (hn : C.size = 6) (h1 : ones C = true) : (store47 (.pointer (some ⟨g, o, none⟩)) (.agg C)).run Tryz.prog W = .ok .skip (setAt W g o C) := by
  simp only [store47, Instr.storeAt, Instr.sureAddr, Sem.run_bind, Sem.run_pure, Result.andThen_ok, run_store_at 47 6 info47 h hn h1]
theorem run_store279i {W : World} {g o : Nat} {C : Array Value} (h : fitsAt W g o 21 = true) (hn : C.size = 21) (h1 : ones C = true) : (store279 (.pointer (some ⟨g, o, none⟩)) (.agg C)).run Tryz.prog W = .ok .skip (setAt W g o C) := by
  simp only [store279, Instr.storeAt, Instr.sureAddr, Sem.run_bind, Sem.run_pure, Result.andThen_ok, run_store_at 279 21 info279 h hn h1]
theorem run_store129i {W : World} {g o : Nat} {C : Array Value} (h : fitsAt W g o 2 = true) (hn : C.size = 2) (h1 : ones C = true) : (store129 (.pointer (some ⟨g, o, none⟩)) (.agg C)).run Tryz.prog W = .ok .skip (setAt W g o C) := by
  simp only [store129, Instr.storeAt, Instr.sureAddr, Sem.run_bind, Sem.run_pure, Result.andThen_ok, run_store_at 129 2 info129 h hn h1]
theorem run_store186i {W : World} {g o : Nat} {C : Array Value} (h : fitsAt W g o 2 = true) (hn : C.size = 2) (h1 : ones C = true) : (store186 (.pointer (some ⟨g, o, none⟩)) (.agg C)).run Tryz.prog W = .ok .skip (setAt W g o C) := by
  simp only [store186, Instr.storeAt, Instr.sureAddr, Sem.run_bind, Sem.run_pure, Result.andThen_ok, run_store_at 186 2 info186 h hn h1]
theorem run_store143i {W : World} {g o : Nat} {C : Array Value} (h : fitsAt W g o 5 = true) (hn : C.size = 5) (h1 : ones C = true) : (store143 (.pointer (some ⟨g, o, none⟩)) (.agg C)).run Tryz.prog W = .ok .skip (setAt W g o C) := by
  simp only [store143, Instr.storeAt, Instr.sureAddr, Sem.run_bind, Sem.run_pure, Result.andThen_ok, run_store_at 143 5 info143 h hn h1]
end
end Go.Proofs.YtnncjbkepakgpaaGreat
