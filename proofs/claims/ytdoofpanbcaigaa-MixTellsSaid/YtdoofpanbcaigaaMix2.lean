/-
  THE WALK of "doorman/doormanlaw10.MixOnes", and what slices of numbers of 64 bits hold.
-/
import Derived.Test.YtdoofpanbcaigaaMix
import Derived.Test.YtdoofpanbcaigaaHalf
import Derived.Laws.AppendOwn
import Derived.OwnWalk
namespace Go.Proofs.Ytdoofpanbcaigaa
open Go.RowKit Plain

/-- A list of numbers, as cells. -/
def cellsU (L : List (BitVec 64)) : List Value := L.map fun x => .int .u64 (toI x)

theorem ownsRow_lt {w : World} {B g n cap e size : Nat} {xs : List Value} {v : Value} (h : w.ownsRow B e size v n xs) (hv : v = .slice (some ⟨g, 0, none⟩) n cap) : g < w.heap.size := by
  rcases h.2 with ⟨h1, _⟩ | ⟨g', c', cur, h1, _, h3, _⟩
  · rw [h1] at hv; cases hv
  · rw [h1] at hv
    injection hv with hv
    injection hv with hv
    injection hv with hv
    subst hv
    rcases Nat.lt_or_ge g' w.heap.size with h' | h'
    · exact h'
    · rw [Array.getElem?_eq_none h'] at h3; cases h3
theorem ownsRow_below {w w' : World} {B n e size : Nat} {xs : List Value} {v : Value} (h : w.ownsRow B e size v n xs) (hb : Below w.heap.size w w') : w'.ownsRow B e size v n xs := by
  refine ⟨h.1, ?_⟩
  rcases h.2 with h1 | ⟨g, cap, cur, h1, h2, h3, h4⟩
  · exact Or.inl h1
  · exact Or.inr ⟨g, cap, cur, h1, h2, by rw [hb.block g (ownsRow_lt h h1)]; exact h3, h4⟩

/-- mix.Of, of a row that the call made itself. -/
theorem of_own (K : BitVec 64) (L : List (BitVec 64)) (B : Nat) (v : Value) (n : Nat) (w : World) (hn : n = L.length) (hm : L.length ≤ 1000) (h : w.ownsRow B 33 1 v n (cellsU L)) :
    Calls Try.prog 37 #[.int .u64 (toI K), v] w fun e w' => e = .returned (.int .u64 (toI (ofB K L))) ∧ w = w' := by
  subst hn
  rcases h.2 with ⟨rfl, h0⟩ | ⟨g, cap, cur, rfl, _, h3, _, _, _, h5⟩
  · have : L = [] := List.eq_nil_of_length_eq_zero h0
    subst this
    exact of_nil K w
  · refine of_some K L g 0 cap w (by unfold maxLen; omega) (fun k hk => ?_)
    simp only [World.cell?, h3]
    have e : (cur.toList.take (L.length * 1))[k]? = (cellsU L)[k]? := by rw [h5]
    rw [List.getElem?_take_of_lt (by omega)] at e
    simp only [cellsU, List.getElem?_map, List.getElem?_eq_getElem hk, Option.map_some] at e
    simpa using e

theorem info33 : (Try.prog.info? 33).map (fun i => (i.zero, i.size, i.bytes)) = some (some (.int .u64 0), 1, 8) := by kernel_rfl

theorem cellsU_one : ∀ {L : List (BitVec 64)}, ∀ u ∈ cellsU L, u.oneCell' = true := by
  intro L u hu
  simp only [cellsU, List.mem_map] at hu
  obtain ⟨x, _, rfl⟩ := hu
  rfl
theorem cells_at {w : World} {o : Obj} {b off : Nat} {L : List (BitVec 64)} (hc : ∀ k (h : k < L.length), w.cell? ⟨b, off + k, none⟩ = some (.int .u64 (toI L[k]))) :
    ∀ j u, (cellsU L)[j]? = some u → (w.alloc o).cell? ⟨b, off + j, none⟩ = some u := by
  intro j u hu
  have hj : j < L.length := by
    have := (List.getElem?_eq_some_iff.1 hu).1
    simpa [cellsU] using this
  simp only [cellsU, List.getElem?_map, List.getElem?_eq_getElem hj, Option.map_some, Option.some.injEq] at hu
  subst hu
  have hcell := hc j hj
  rw [World.cell?_alloc_old]
  · exact hcell
  · intro e
    have e' : b = w.heap.size := e
    subst e'
    simp [World.cell?] at hcell

theorem cell_lt {w : World} {b o : Nat} {v : Value} (h : w.cell? ⟨b, o, none⟩ = some v) : b < w.heap.size := by
  rcases Nat.lt_or_ge b w.heap.size with h' | h'
  · exact h'
  · simp [World.cell?, Array.getElem?_eq_none h'] at h
theorem cells_later {w w' : World} {b off : Nat} {L : List (BitVec 64)} (hc : ∀ k (h : k < L.length), w.cell? ⟨b, off + k, none⟩ = some (.int .u64 (toI L[k]))) (hb : Below w.heap.size w w') :
    ∀ k (h : k < L.length), w'.cell? ⟨b, off + k, none⟩ = some (.int .u64 (toI L[k])) :=
  fun k h => (hb.cell (p := ⟨b, off + k, none⟩) (cell_lt (hc k h))).trans (hc k h)
theorem one_at (w : World) (v : Value) : ∀ (j : Nat) (u : Value), [v][j]? = some u → (w.alloc (.cells #[v] 33)).cell? ((⟨w.heap.size, 0, none⟩ : Addr).add j) = some u := by
  intro j u hu
  match j, hu with
  | 0, hu => simp at hu; subst hu; simp [Addr.add]
theorem one_oneCell (x : Int) : ∀ u ∈ [Value.int .u64 x], u.oneCell' = true := by
  intro u hu; simp at hu; subst hu; rfl
theorem own_block_ge {w : World} {B n e size : Nat} {xs : List Value} {v : Value} (h : w.ownsRow B e size v n xs) : ∀ k, v.ownBlock = some k → B ≤ k := by
  intro k hk
  rcases h.2 with ⟨rfl, _⟩ | ⟨g, cap, cur, rfl, h2, _⟩
  · cases hk
  · simp [Value.ownBlock] at hk; omega
theorem cellsU_snoc (L : List (BitVec 64)) (x : BitVec 64) : cellsU L ++ [Value.int .u64 (toI x)] = cellsU (L ++ [x]) := by simp [cellsU]
theorem len_snoc (L : List (BitVec 64)) (x : BitVec 64) : L.length + 1 = (L ++ [x]).length := by simp
theorem le_snoc {L : List (BitVec 64)} (h : L.length ≤ 100) (x : BitVec 64) : (L ++ [x]).length ≤ 1000 := by simp; omega
theorem add_is (b off j : Nat) : (⟨b, off, none⟩ : Addr).add j = ⟨b, off + j, none⟩ := by unfold Addr.add; split <;> simp_all
theorem of_lit7 (L : List (BitVec 64)) (B : Nat) (v : Value) (n : Nat) (w : World) (hn : n = L.length) (hm : L.length ≤ 1000) (h : w.ownsRow B 33 1 v n (cellsU L)) :
    Calls Try.prog 37 #[.int .u64 7, v] w fun e w' => e = .returned (.int .u64 (toI (ofB 7#64 L))) ∧ w = w' := by
  have := of_own 7#64 L B v n w hn hm h
  rwa [show toI 7#64 = 7 from by decide] at this

/-- An empty slice literal owns its (empty) block. -/
theorem own_empty (w : World) (B : Nat) (hB : B ≤ w.heap.size) : (w.alloc (.cells #[] 33)).ownsRow B 33 1 (.slice (some ⟨w.heap.size, 0, none⟩) 0 0) 0 [] :=
  ⟨rfl, Or.inr ⟨w.heap.size, 0, #[], rfl, hB, (MapKept.heap_alloc w _).1, Nat.le_refl _, Nat.zero_le _, rfl, rfl⟩⟩

set_option maxHeartbeats 1000000 in
/-- doormanlaw10.MixOnes, at a slice that lies somewhere. -/
theorem mixOnes_some (A B : BitVec 64) (L : List (BitVec 64)) (x : Addr) (cap : Nat) (w : World) (hm : L.length ≤ 100) (hc : ∀ W : World, Below w.heap.size w W → ∀ j u, (cellsU L)[j]? = some u → W.cell? (x.add j) = some u) :
    Calls Try.prog 8 #[.int .u64 (toI A), .int .u64 (toI B), .slice (some x) L.length cap] w fun e w' => e = .returned (.bool true) ∧ Below w.heap.size w w' := by
  have HC := Lib.hid hc
  clear hc
  have hn : ¬ (100 : Int) < (L.length : Int) := by omega
  obtain ⟨i0, hi, hz0, hz1, hz2⟩ := info_parts info33
  go_enter Try.func8, Try.ntmps8
  go_wp2_with (at_builtin; refine wpList_append_own _ rfl (.tmp 13) (.tmp 14) 34 rfl w.heap.size 33 i0 (.int .u64 0) 1 8 Try.underlying34 hi hz0 hz1 hz2 rfl (by decide) _ 0 [] rfl (own_empty w _ (Nat.le_refl _)) x L.length cap (cellsU L) rfl ?l1 ?n1 ?u1 ?m1 ?b1 ?s1 ?_)
  case l1 => simp [cellsU]
  case n1 => exact HC.out _ ((Below.refl _ _).alloc (Nat.le_refl _) _)
  case u1 => exact cellsU_one
  case m1 => unfold maxLen; omega
  case b1 => omega
  intro v1 w1 hown1 hg1 _
  have hb1 : Below w.heap.size w w1 := ((Below.refl _ _).alloc (Nat.le_refl _) _).grown hg1 (by simp) (by simp [Value.ownBlock])
  go_wp2_with (at_builtin; refine wpList_append_own _ rfl (.tmp 15) (.tmp 17) 34 rfl w.heap.size 33 i0 (.int .u64 0) 1 8 Try.underlying34 hi hz0 hz1 hz2 rfl (by decide) _ _ _ rfl (hown1.alloc _) ⟨w1.heap.size, 0, none⟩ 1 1 [.int .u64 (toI A)] rfl ?l2 ?n2 ?u2 ?m2 ?b2 ?s2 ?_)
  case l2 => rfl
  case n2 => exact one_at w1 _
  case u2 => exact one_oneCell _
  case m2 => unfold maxLen; omega
  case b2 => omega
  case s2 => have := hb1.size; simp; omega
  intro v2 w2 hown2 hg2 _
  have hb2 : Below w.heap.size w w2 := (hb1.alloc hb1.size _).grown hg2 (by have := hb1.size; simp; omega) (own_block_ge hown1)
  clear hg1 hg2 hown1
  go_wp2_with (at_builtin; refine wpList_append_own _ rfl (.tmp 19) (.tmp 20) 34 rfl w2.heap.size 33 i0 (.int .u64 0) 1 8 Try.underlying34 hi hz0 hz1 hz2 rfl (by decide) _ 0 [] rfl (own_empty w2 _ (Nat.le_refl _)) x L.length cap (cellsU L) rfl ?l3 ?n3 ?u3 ?m3 ?b3 ?s3 ?_)
  case l3 => simp [cellsU]
  case n3 => exact HC.out _ (hb2.alloc hb2.size _)
  case u3 => exact cellsU_one
  case m3 => unfold maxLen; omega
  case b3 => omega
  case s3 => simp
  intro v3 w3 hown3 hg3 _
  have hb3 : Below w2.heap.size w2 w3 := ((Below.refl _ _).alloc (Nat.le_refl _) _).grown hg3 (by simp) (by simp [Value.ownBlock])
  go_wp2_with (at_builtin; refine wpList_append_own _ rfl (.tmp 21) (.tmp 23) 34 rfl w2.heap.size 33 i0 (.int .u64 0) 1 8 Try.underlying34 hi hz0 hz1 hz2 rfl (by decide) _ _ _ rfl (hown3.alloc _) ⟨w3.heap.size, 0, none⟩ 1 1 [.int .u64 (toI B)] rfl ?l4 ?n4 ?u4 ?m4 ?b4 ?s4 ?_)
  case l4 => rfl
  case n4 => exact one_at w3 _
  case u4 => exact one_oneCell _
  case m4 => unfold maxLen; omega
  case b4 => omega
  case s4 => have := hb3.size; simp; omega
  intro v4 w4 hown4 hg4 _
  have hb4 : Below w2.heap.size w2 w4 := (hb3.alloc hb3.size _).grown hg4 (by have := hb3.size; simp; omega) (own_block_ge hown3)
  have hx := ownsRow_below hown2 hb4
  rw [cellsU_snoc] at hx hown4
  have HX := Lib.hid hx; have HY := Lib.hid hown4
  have hB : Below w.heap.size w w4 := hb2.trans (hb4.mono hb2.size)
  clear hg3 hg4 hown3 hb1 hb3 hx hown4 hown2 hb2 hb4 hi hz0 hz1 hz2
  by_cases hAB : A = B
  · subst hAB
    go_wp2_with (first | (go_at_call 36; refine (one_any _ _).mono ?_; rintro e w' ⟨rfl, rfl⟩) | fail)
    refine (of_lit7 (L ++ [A]) _ _ _ _ (len_snoc L A) (le_snoc hm A) HX.out).mono ?_; rintro e w' ⟨rfl, rfl⟩
    go_wp2_with fail
    refine (of_lit7 (L ++ [A]) _ _ _ _ (len_snoc L A) (le_snoc hm A) HY.out).mono ?_; rintro e w' ⟨rfl, rfl⟩
    go_wp2_with fail
    refine (awake10_any _).mono ?_; rintro e w' ⟨rfl, rfl⟩
    go_wp2
    go_ret
    exact ⟨rfl, hB⟩
  · have e1 : (toI A == toI B) = false := by simpa [toI_iff] using hAB
    have e2 : (toI (oneB A) == toI (oneB B)) = false := by simpa [toI_iff, oneB_iff] using hAB
    have e3 : (toI (ofB 7#64 (L ++ [A])) == toI (ofB 7#64 (L ++ [B]))) = false := by simpa [toI_iff, ofB_last] using hAB
    go_wp2_with (first | (go_at_call 36; refine (one_any _ _).mono ?_; rintro e w' ⟨rfl, rfl⟩) | fail)
    refine (of_lit7 (L ++ [A]) _ _ _ _ (len_snoc L A) (le_snoc hm A) HX.out).mono ?_; rintro e w' ⟨rfl, rfl⟩
    go_wp2_with fail
    refine (of_lit7 (L ++ [B]) _ _ _ _ (len_snoc L B) (le_snoc hm B) HY.out).mono ?_; rintro e w' ⟨rfl, rfl⟩
    go_wp2_with fail
    refine (awake10_any _).mono ?_; rintro e w' ⟨rfl, rfl⟩
    go_wp2
    go_ret
    exact ⟨rfl, hB⟩

set_option maxHeartbeats 1000000 in
/-- doormanlaw10.MixOnes, at no slice. -/
theorem mixOnes_none (A B : BitVec 64) (w : World) :
    Calls Try.prog 8 #[.int .u64 (toI A), .int .u64 (toI B), .slice none 0 0] w fun e w' => e = .returned (.bool true) ∧ Below w.heap.size w w' := by
  obtain ⟨i0, hi, hz0, hz1, hz2⟩ := info_parts info33
  go_enter Try.func8, Try.ntmps8
  go_wp2_with (first
    | (at_builtin; refine wpList_append_own_none rfl (.tmp 13) (.tmp 14) 34 rfl w.heap.size 33 i0 1 Try.underlying34 hi _ 0 [] rfl (own_empty w _ (Nat.le_refl _)) rfl ?_)
    | (at_builtin; refine wpList_append_own _ rfl (.tmp 15) (.tmp 17) 34 rfl w.heap.size 33 i0 (.int .u64 0) 1 8 Try.underlying34 hi hz0 hz1 hz2 rfl (by decide) _ 0 [] rfl ((own_empty w _ (Nat.le_refl _)).alloc _) ⟨w.heap.size + 1, 0, none⟩ 1 1 [.int .u64 (toI A)] rfl ?l2 ?n2 ?u2 ?m2 ?b2 ?s2 ?_))
  case l2 => rfl
  case n2 => simpa using one_at (w.alloc (.cells #[] 33)) (.int .u64 (toI A))
  case u2 => exact one_oneCell _
  case m2 => unfold maxLen; omega
  case b2 => omega
  case s2 => simp; omega
  intro v2 w2 hown2 hg2 _
  have hb2 : Below w.heap.size w w2 := (((Below.refl _ _).alloc (Nat.le_refl _) _).alloc (by simp) _).grown hg2 (by simp; omega) (by simp [Value.ownBlock])
  clear hg2
  go_wp2_with (first
    | (at_builtin; refine wpList_append_own_none rfl (.tmp 19) (.tmp 20) 34 rfl w2.heap.size 33 i0 1 Try.underlying34 hi _ 0 [] rfl (own_empty w2 _ (Nat.le_refl _)) rfl ?_)
    | (at_builtin; refine wpList_append_own _ rfl (.tmp 21) (.tmp 23) 34 rfl w2.heap.size 33 i0 (.int .u64 0) 1 8 Try.underlying34 hi hz0 hz1 hz2 rfl (by decide) _ 0 [] rfl ((own_empty w2 _ (Nat.le_refl _)).alloc _) ⟨w2.heap.size + 1, 0, none⟩ 1 1 [.int .u64 (toI B)] rfl ?l4 ?n4 ?u4 ?m4 ?b4 ?s4 ?_))
  case l4 => rfl
  case n4 => simpa using one_at (w2.alloc (.cells #[] 33)) (.int .u64 (toI B))
  case u4 => exact one_oneCell _
  case m4 => unfold maxLen; omega
  case b4 => omega
  case s4 => simp; omega
  intro v4 w4 hown4 hg4 _
  have hb4 : Below w2.heap.size w2 w4 := (((Below.refl _ _).alloc (Nat.le_refl _) _).alloc (by simp) _).grown hg4 (by simp; omega) (by simp [Value.ownBlock])
  have hx := ownsRow_below hown2 hb4
  have hx : w4.ownsRow w.heap.size 33 1 v2 1 (cellsU [A]) := hx
  have hown4 : w4.ownsRow w2.heap.size 33 1 v4 1 (cellsU [B]) := hown4
  have HX := Lib.hid hx; have HY := Lib.hid hown4
  have hB : Below w.heap.size w w4 := hb2.trans (hb4.mono hb2.size)
  clear hg4 hx hown4 hown2 hb2 hb4 hi hz0 hz1 hz2
  by_cases hAB : A = B
  · subst hAB
    go_wp2_with (first | (go_at_call 36; refine (one_any _ _).mono ?_; rintro e w' ⟨rfl, rfl⟩) | fail)
    refine (of_lit7 [A] _ _ _ _ rfl (by simp) HX.out).mono ?_; rintro e w' ⟨rfl, rfl⟩
    go_wp2_with fail
    refine (of_lit7 [A] _ _ _ _ rfl (by simp) HY.out).mono ?_; rintro e w' ⟨rfl, rfl⟩
    go_wp2_with fail
    refine (awake10_any _).mono ?_; rintro e w' ⟨rfl, rfl⟩
    go_wp2
    go_ret
    exact ⟨rfl, hB⟩
  · have e1 : (toI A == toI B) = false := by simpa [toI_iff] using hAB
    have e2 : (toI (oneB A) == toI (oneB B)) = false := by simpa [toI_iff, oneB_iff] using hAB
    have e3 : (toI (ofB 7#64 [A]) == toI (ofB 7#64 [B])) = false := by rw [beq_eq_false_iff_ne, Ne, toI_iff]; exact fun h => hAB ((ofB_last (l := []) A B).1 h)
    go_wp2_with (first | (go_at_call 36; refine (one_any _ _).mono ?_; rintro e w' ⟨rfl, rfl⟩) | fail)
    refine (of_lit7 [A] _ _ _ _ rfl (by simp) HX.out).mono ?_; rintro e w' ⟨rfl, rfl⟩
    go_wp2_with fail
    refine (of_lit7 [B] _ _ _ _ rfl (by simp) HY.out).mono ?_; rintro e w' ⟨rfl, rfl⟩
    go_wp2_with fail
    refine (awake10_any _).mono ?_; rintro e w' ⟨rfl, rfl⟩
    go_wp2
    go_ret
    exact ⟨rfl, hB⟩

set_option maxHeartbeats 400000 in
/-- doormanlaw10.MixOnes, at a long slice. -/
theorem mixOnes_long (A B : Int) (a : Option Addr) (n cap : Nat) (w : World) (hn : 100 < n) :
    Calls Try.prog 8 #[.int .u64 A, .int .u64 B, .slice a n cap] w fun e w' => e = .returned (.bool true) ∧ Below w.heap.size w w' := by
  have hl : (100 : Int) < (n : Int) := by omega
  go_enter Try.func8, Try.ntmps8
  go_wp2_with (go_at_call 35; refine (awake10_any _).mono ?_; rintro e w' ⟨rfl, rfl⟩)
  go_ret
  exact ⟨rfl, Below.refl _ _⟩

/-- A slice of integers that came in. -/
def IsRow (k : IntKind) (w : World) (a : Option Addr) (len cap : Nat) (zs : List Int) : Prop :=
  (a = none ∧ len = 0 ∧ cap = 0 ∧ zs = []) ∨
  ∃ x, a = some x ∧ len ≤ cap ∧ cap ≤ maxLen ∧ zs.length = cap ∧ (∀ i, i < zs.length → w.cell? (x.add i) = some (.int k (zs.getD i 0))) ∧ ∀ n ∈ zs, (Lit.int k n).wf = true

/-- .. read as a list of numbers of 64 bits. -/
theorem row_toI {w : World} {a : Option Addr} {n cap : Nat} {zs : List Int} (h : IsRow .u64 w a n cap zs) :
    (a = none ∧ n = 0 ∧ cap = 0) ∨ ∃ (x : Addr) (L : List (BitVec 64)), a = some x ∧ L.length = n ∧ n ≤ maxLen ∧ ∀ k (hk : k < L.length), w.cell? (x.add k) = some (.int .u64 (toI L[k])) := by
  rcases h with ⟨rfl, rfl, rfl, _⟩ | ⟨x, rfl, hl, hm, hz, hcell, hwz⟩
  · exact Or.inl ⟨rfl, rfl, rfl⟩
  · refine Or.inr ⟨x, (zs.take n).map (BitVec.ofInt 64), rfl, by simp; omega, by omega, fun k hk => ?_⟩
    have hk' : k < zs.length := by simp at hk; omega
    rw [hcell k hk']
    have hw := hwz zs[k] (List.getElem_mem hk')
    obtain ⟨X, hX⟩ := u64_toI hw
    simp only [List.getElem_map, List.getElem_take, List.getD_eq_getElem?_getD, List.getElem?_eq_getElem hk', Option.getD_some]
    rw [toI_ofInt (by rw [hX]; exact toI_lo X) (by rw [hX]; exact toI_hi X)]
theorem row_block {w : World} {x : Addr} {L : List (BitVec 64)} (hc : ∀ k (hk : k < L.length), w.cell? (x.add k) = some (.int .u64 (toI L[k]))) (h : 0 < L.length) : ∃ b off, x = ⟨b, off, none⟩ := by
  obtain ⟨b, off, spot⟩ := x
  have := hc 0 h
  have hspot : spot = none := by simpa [Addr.add] using World.cell?_spot this
  exact ⟨b, off, by rw [hspot]⟩
theorem row_later {w : World} {x : Addr} {L : List (BitVec 64)} (hc : ∀ k (hk : k < L.length), w.cell? (x.add k) = some (.int .u64 (toI L[k]))) :
    ∀ W : World, Below w.heap.size w W → ∀ j u, (cellsU L)[j]? = some u → W.cell? (x.add j) = some u := by
  intro W hb j u hu
  have hj : j < L.length := by
    have := (List.getElem?_eq_some_iff.1 hu).1
    simpa [cellsU] using this
  obtain ⟨b, off, rfl⟩ := row_block hc (by omega)
  have := hc j hj
  rw [add_is] at this ⊢
  rw [hb.cell (p := ⟨b, off + j, none⟩) (cell_lt this), this]
  simp only [cellsU, List.getElem?_map, List.getElem?_eq_getElem hj, Option.map_some, Option.some.injEq] at hu
  rw [hu]

theorem mixOnes_int (a b : Int) (s : Option Addr) (n cap : Nat) (zs : List Int) (ha : (Lit.int .u64 a).wf = true) (hb : (Lit.int .u64 b).wf = true) (w : World) (h : IsRow .u64 w s n cap zs) :
    Calls Try.prog 8 #[.int .u64 a, .int .u64 b, .slice s n cap] w fun e w' => e = .returned (.bool true) ∧ Below w.heap.size w w' := by
  by_cases hn : 100 < n
  · exact mixOnes_long a b s n cap w hn
  · obtain ⟨A, rfl⟩ := u64_toI ha
    obtain ⟨B, rfl⟩ := u64_toI hb
    rcases row_toI h with ⟨rfl, rfl, rfl⟩ | ⟨x, L, rfl, rfl, _, hc⟩
    · exact mixOnes_none A B w
    · exact mixOnes_some A B L x cap w (by omega) (row_later hc)
end Go.Proofs.Ytdoofpanbcaigaa
