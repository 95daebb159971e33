/-
  TAPE: ALL LOCKS.
  THE QUICK WAY IN.
  ALL ARE FULL, STILL.
-/
import Derived.Test.YtnncjbkepakgpaaGreatA07
import Derived.Test.YtnncjbkepakgpaaGreatA18
import Derived.Test.YtnncjbkepakgpaaGreatA09
import Derived.Test.YtnncjbkepakgpaaGreatA19
import Derived.Test.YtnncjbkepakgpaaGreatA22
import Derived.Test.YtnncjbkepakgpaaGreatA14
namespace Go.Proofs.YtnncjbkepakgpaaGreat
set_option linter.unusedVariables false
set_option linter.unusedSimpArgs false
set_option maxRecDepth 100000
set_option maxHeartbeats 20000000
section
open Go.RowKit
attribute [local go_sem ↓] exec_load_101 exec_store_101 exec_load_103 exec_store_103
attribute [local go_sem] run_load101r run_store101i run_load103r run_store103i lt_up isRng_new rngOf_new isRange_past rangeOf_past isRange_drew rangeOf_drew fits_new fits_past fits_drew setAt_new setAt_past setAt_drew putAt_whole putAt_lit extract_whole extract_lit one_int one_bool one_slice one_ptr ones_lit onesL_nil onesL_cons isRow_new rowOf_new isRow_past rowOf_past isRow_drew rowOf_drew lt2 lt3 lt4 List.take_succ_cons List.take_zero List.drop_succ_cons List.drop_zero List.cons_append List.nil_append List.length_cons List.length_nil List.size_toArray setRow_new setRow_past own_cell own_frozen own_set own_isRange own_rangeOf own_fits setAt_row sr_sr sr_size sr_row sr_row' sr_isRow sr_isRow' sr_fits' sr_cell' sr_frozen' sr_isRange' sr_rangeOf' sr_isCells isCells_new isCells_past isCells_drew valC_size valC_ones opC_size opC_ones replyC_size meth_Lock ahead_Lock meth_Share ahead_Share meth_Free ahead_Free meth_Drop ahead_Drop meth_Load ahead_Load meth_Store ahead_Store meth_Swap ahead_Swap
theorem lockFrom_nil (m j : Nat) : Pm.lockFrom (m + 1) j [] = .pause (.lock (2 + j)) := rfl
theorem lockFrom_cons (m j : Nat) (v : Pm.Val) (r : List Pm.Val) : Pm.lockFrom (m + 1) j (v :: r) = Pm.lockFrom m (j + 1) r := rfl
theorem freeTo_nil (S i : Nat) : Pm.freeTo S (i + 1) [] = .pause (.free (2 + i) (i + 1 == S)) := rfl
theorem freeTo_cons (S i : Nat) (v : Pm.Val) (r : List Pm.Val) : Pm.freeTo S (i + 1) (v :: r) = Pm.freeTo S i r := rfl
/-- tape.LockAll. -/
theorem lockAll_law (T : Nat) (L : List Pm.Val) (S : Nat) (h0 : 1 ≤ S) (h1 : S ≤ 8) (w : World) (h : TapeAt w T L) :
    Calls Tryz.prog 147 #[.iface 280 (.pointer (some ⟨T, 0, none⟩)), .int .i64 S] w (Tells T (Pm.lockFrom S 0) (fun _ v _ => v = .tuple #[]) L w) := by
  have HT := Lib.hid h
  have hlt := h.lt
  clear h
  go_enter Tryz.func147, Tryz.ntmps147
  go_wp2_with (go_at_call 200; refine (count_any S (by omega) (by omega) _).mono ?_; rintro e w1 ⟨rfl, rfl⟩)
  go_loopg [7] S (fun g s7 wr => ∃ (j : Nat) (r : List Pm.Val), s7 = .int .i64 j ∧ j + g = S ∧ Pm.lockFrom g j r = Pm.lockFrom S 0 L ∧ Hid (TapeAt wr T r ∧ Upto T w wr))
  case atStart => exact ⟨0, L, rfl, by omega, rfl, Lib.hid ⟨HT.out, Upto.refl _ _⟩⟩
  case round =>
    obtain ⟨j, r, rfl, hg, he, HH⟩ := hrel
    obtain ⟨hA, hU⟩ := HH.out
    have HA := Lib.hid hA
    have HU := Lib.hid hU
    clear hA hU
    cases gk with
    | zero =>
      have hj : ¬ ((j : Int) < (S : Int)) := by omega
      go_wp2
      exact bodyPost_end (results_none rfl _ _ _) rfl (tells_done (he ▸ (show Pm.lockFrom 0 j r = Pm.Res.done () r from rfl)) _ rfl rfl HA.out HU.out)
    | succ m =>
      have hj : (j : Int) < (S : Int) := by omega
      have hw : IntKind.i64.wrap (2 + (j : Int)) = ((2 + j : Nat) : Int) := by rw [IntKind.wrap_i64]; omega
      cases r with
      | nil =>
        go_wp2_with (go_at_call 425; refine (t_lock T [] (2 + j) _ HA.out).mono ?_; rintro e w1 ⟨hu, rfl⟩)
        exact ⟨rfl, tells_pause (he ▸ lockFrom_nil m j) rfl (HU.out.trans hu)⟩
      | cons v r' =>
        go_wp2_with (go_at_call 425; refine (t_lock T (v :: r') (2 + j) _ HA.out).mono ?_; rintro e w1 ⟨hu, rfl, hA1⟩)
        go_roundg m
        case measure => omega
        case rel => exact ⟨j + 1, r', by go_num, by omega, (lockFrom_cons m j v r').symm.trans he, Lib.hid ⟨hA1, HU.out.trans hu⟩⟩
/-- tape.FreeAll, marked. -/
theorem freeAll_law (T : Nat) (L : List Pm.Val) (S : Nat) (h0 : 1 ≤ S) (h1 : S ≤ 8) (w : World) (h : TapeAt w T L) :
    Calls Tryz.prog 149 #[.iface 280 (.pointer (some ⟨T, 0, none⟩)), .int .i64 S, .bool true] w (Tells T (Pm.freeTo S S) (fun _ v _ => v = .tuple #[]) L w) := by
  have HT := Lib.hid h
  have hlt := h.lt
  clear h
  have hw0 : IntKind.i64.wrap ((S : Int) - 1) = (S : Int) - 1 := by rw [IntKind.wrap_i64]; omega
  go_enter Tryz.func149, Tryz.ntmps149
  go_wp2_with (go_at_call 200; refine (count_any S (by omega) (by omega) _).mono ?_; rintro e w1 ⟨rfl, rfl⟩)
  go_loopg [6] S (fun g s6 wr => ∃ (r : List Pm.Val), s6 = .int .i64 ((g : Int) - 1) ∧ g ≤ S ∧ Pm.freeTo S g r = Pm.freeTo S S L ∧ Hid (TapeAt wr T r ∧ Upto T w wr))
  case atStart => exact ⟨L, by go_num, Nat.le_refl _, rfl, Lib.hid ⟨HT.out, Upto.refl _ _⟩⟩
  case round =>
    obtain ⟨r, rfl, hg, he, HH⟩ := hrel
    obtain ⟨hA, hU⟩ := HH.out
    have HA := Lib.hid hA
    have HU := Lib.hid hU
    clear hA hU
    cases gk with
    | zero =>
      go_wp2
      exact bodyPost_end (results_none rfl _ _ _) rfl (tells_done (he ▸ (show Pm.freeTo S 0 r = Pm.Res.done () r from rfl)) _ rfl rfl HA.out HU.out)
    | succ m =>
      have e1 : ((m + 1 : Nat) : Int) - 1 = (m : Int) := by omega
      rw [e1]
      have hj : ((m : Int) ≥ 0) := by omega
      have hw : IntKind.i64.wrap (2 + (m : Int)) = ((2 + m : Nat) : Int) := by rw [IntKind.wrap_i64]; omega
      have hw2 : IntKind.i64.wrap ((m : Int) - 1) = (m : Int) - 1 := by rw [IntKind.wrap_i64]; omega
      have hb : ((m : Int) == (S : Int) - 1) = (m + 1 == S) := by
        by_cases e : m + 1 = S
        · have e2 : (m : Int) = (S : Int) - 1 := by omega
          rw [beq_iff_eq.2 e2, beq_iff_eq.2 e]
        · have e2 : ¬ (m : Int) = (S : Int) - 1 := by omega
          rw [beq_eq_false_iff_ne.2 e2, beq_eq_false_iff_ne.2 e]
      cases r with
      | nil =>
          go_upto_region 3 with (fail)
          refine region_keep [] [0, 1, 2, 3, 4, 5, 6, 7, 8, 9, 10, 11, 12, 13] [14] (by kernel_rfl) (by kernel_rfl) (fun _ _ d _ _ h => by cases d <;> exact h) ?_
          simp only [PL]
          refine first_nil ?_
          repeat (first
            | go_big_quiet_skip
            | (go_big_quiet_want
               apply class_op
               · intro W hS
                 have xx := alk hS.out; (try have zz := zs w.heap.size W.heap.size)
                 go_simp
                 try first
                   | with_reducible rfl
                   | (go_at_call 200; refine (count_any S (by omega) (by omega) _).mono ?_; rintro e w' ⟨rfl, rfl⟩; exact ⟨rfl, hS⟩)
               go_big_quiet_on
               try simp only [PT]))
          refine wpQuiet_nil ?_
          intro w1 hS1
          have xxa := alk hS1.out; (try have zza := zs w.heap.size w1.heap.size)
          go_wp2_with (go_at_call 423; refine (t_free T [] (2 + m) _ _ (HA.out.below hS1.out)).mono ?_; rintro e w2 ⟨hu, rfl⟩)
          exact ⟨rfl, tells_pause (he ▸ freeTo_nil S m) rfl (HU.out.trans ((Upto.of_below hS1.out).trans hu))⟩
      | cons v r' =>
          go_upto_region 3 with (fail)
          refine region_keep [] [0, 1, 2, 3, 4, 5, 6, 7, 8, 9, 10, 11, 12, 13] [14] (by kernel_rfl) (by kernel_rfl) (fun _ _ d _ _ h => by cases d <;> exact h) ?_
          simp only [PL]
          refine first_nil ?_
          repeat (first
            | go_big_quiet_skip
            | (go_big_quiet_want
               apply class_op
               · intro W hS
                 have xx := alk hS.out; (try have zz := zs w.heap.size W.heap.size)
                 go_simp
                 try first
                   | with_reducible rfl
                   | (go_at_call 200; refine (count_any S (by omega) (by omega) _).mono ?_; rintro e w' ⟨rfl, rfl⟩; exact ⟨rfl, hS⟩)
               go_big_quiet_on
               try simp only [PT]))
          refine wpQuiet_nil ?_
          intro w1 hS1
          have xxa := alk hS1.out; (try have zza := zs w.heap.size w1.heap.size)
          go_wp2_with (go_at_call 423; refine (t_free T (v :: r') (2 + m) _ _ (HA.out.below hS1.out)).mono ?_; rintro e w2 ⟨hu, rfl, hA1⟩)
          go_roundg m
          case measure => omega
          case rel => exact ⟨r', by go_num, by omega, (freeTo_cons S m v r').symm.trans he, Lib.hid ⟨hA1, HU.out.trans ((Upto.of_below hS1.out).trans hu)⟩⟩
end
section
open Go.RowKit
attribute [local go_sem ↓] exec_load_64 exec_store_64 exec_load_203 exec_store_203 exec_load_36 exec_store_36 exec_load_29 exec_store_29 exec_load_41 exec_store_41
attribute [local go_sem] run_load64r run_store64i run_load203r run_store203i run_load36r run_store36i run_load29r run_store29i run_load41r run_store41i lt_up isRng_new rngOf_new isRange_past rangeOf_past isRange_drew rangeOf_drew fits_new fits_past fits_drew setAt_new setAt_past setAt_drew putAt_whole putAt_lit extract_whole extract_lit one_int one_bool one_slice one_ptr ones_lit onesL_nil onesL_cons isRow_new rowOf_new isRow_past rowOf_past isRow_drew rowOf_drew lt2 lt3 lt4 List.take_succ_cons List.take_zero List.drop_succ_cons List.drop_zero List.cons_append List.nil_append List.length_cons List.length_nil List.size_toArray setRow_new setRow_past own_cell own_frozen own_set own_isRange own_rangeOf own_fits setAt_row sr_sr sr_size sr_row sr_row' sr_isRow sr_isRow' sr_fits' sr_cell' sr_frozen' sr_isRange' sr_rangeOf' sr_isCells isCells_new isCells_past isCells_drew valC_size valC_ones opC_size opC_ones replyC_size meth_Lock ahead_Lock meth_Share ahead_Share meth_Free ahead_Free meth_Drop ahead_Drop meth_Load ahead_Load meth_Store ahead_Store meth_Swap ahead_Swap
theorem tailQuick1 {p : Prop} (h : p := by
  have HAF := Lib.hid hA
  clear hu hA
  obtain ⟨b1, b2, b3, b4, b5, b6, b7⟩ := hbx _ UF.out
  go_wp2
  exact bodyPost_ret (v := .tuple #[.agg _, _]) (res_row2 (t := 64) Tryz.results141 _ _ _ rfl (sr_isRow _ b3 rfl) (sr_row _ b6) info64 agg64) rfl (tells_done (show Pm.bnd (Pm.read n) (Pm.quickK n c most) L1 = _ by rw [hq3]; rfl) _ rfl rfl (tape_setRow HAF.out (by omega) _) (upto_setRow (hU0.trans UF.out) (by omega) _))) : p := h
def NN (L : List Pm.Val) : Prop := ∀ n : Int, .num n ∈ L → 0 ≤ n
theorem NN.tail {v : Pm.Val} {L : List Pm.Val} (h : NN (v :: L)) : NN L := fun n hn => h n (by simp [hn])
theorem nn_readFrom (p : Nat) : ∀ (m : Nat) (acc : List Nat) (r : List Pm.Val) (l : List Nat) (r' : List Pm.Val), NN r → Pm.readFrom p m acc r = .done l r' → NN r'
  | 0, acc, r, l, r', h, e => by rw [readFrom_done] at e; cases e; exact h
  | m + 1, acc, [], l, r', h, e => by rw [readFrom_nil] at e; cases e
  | m + 1, acc, .num n :: r, l, r', h, e => by rw [readFrom_num] at e; cases e
  | m + 1, acc, .who c :: r, l, r', h, e => by rw [readFrom_who] at e; exact nn_readFrom p m _ r l r' h.tail e
theorem nn_read {p : Nat} {r : List Pm.Val} {l : List Nat} {r' : List Pm.Val} (h : NN r) (e : Pm.read p r = .done l r') : NN r' := by
  cases r with
  | nil => rw [read_nil] at e; cases e
  | cons v r =>
    cases v with
    | who c => cases e
    | num n =>
      by_cases hn : 0 ≤ n ∧ n ≤ 19
      · rw [read_num p hn.1 hn.2] at e
        exact nn_readFrom p _ _ r l r' h.tail e
      · rw [read_bad p hn] at e; cases e
theorem clear_has {me : Nat} {l : List Nat} (h : Pm.has me l = false) : Pm.Clear me l := fun x hx e => by
  unfold Pm.has at h
  rw [List.any_eq_false] at h
  exact h x hx (by simpa using e)
theorem wr2_nil (p n c : Nat) : wr2 p n c [] = .pause (.wslot p n c) := rfl
theorem wr2_one (p n c : Nat) (x : Pm.Val) : wr2 p n c [x] = .pause (.wsize p (n + 1)) := rfl
theorem wr2_two (p n c : Nat) (x y : Pm.Val) (r : List Pm.Val) : wr2 p n c (x :: y :: r) = .done () r := rfl
theorem takeK_eq (n me : Nat) (l : List Nat) : Pm.takeK n me l true = Pm.bnd (wr2 n l.length me) fun _ => Pm.bnd (Pm.ask (.free (2 + n) false)) fun _ => Pm.ret true := by
  unfold Pm.takeK wr2
  simp only [Pm.bnd_assoc, Pm.bnd_ret]
/-- door.quick. -/
theorem quick_law (T most S c : Nat) (L : List Pm.Val) (hS0 : 1 ≤ S) (hS1 : S ≤ 8) (hmost : most ≤ 1000) (hnb : Pm.quick (prt S c) c most L ≠ .bad) (w : World) (h : TapeAt w T L) (hnn : NN L) :
    Calls Tryz.prog 141 #[.agg (doorC most S c), .iface 280 (.pointer (some ⟨T, 0, none⟩))] w (Tells T (Pm.quick (prt S c) c most) (fun b v _ => v = .tuple #[.agg zeroReply, .bool b]) L w) := by
  have ed : doorC most S c = #[.int .i64 most, .int .i64 4, .int .i64 S, .int .i64 64, .int .i64 64, .int .u64 1, .int .i64 1, .int .i64 1, .int .i64 1, .int .i64 64, .int .i64 100, .int .i64 100, .int .i64 1000, .int .i64 2, .int .i64 64, .int .i64 4, .int .i64 1, .bool false, .int .u64 0, .int .u64 (loOf c), .int .i64 80, .bool false, .int .u64 0, .int .u64 0, .int .i64 0, .int .i64 (Pm.tOf c), .int .i64 0, .bool false] := rfl
  have HT := Lib.hid h
  have hlt := h.lt
  have hpl := prt_lt S c hS0 hS1
  have hpa := Lib.hid (part_any most S c hS0 hS1)
  have hwa := Lib.hid (with_any most S c)
  rw [Pm.quick_eq] at hnb ⊢
  rw [ed] at hpa hwa ⊢
  have hbx : ∀ W, Upto T w W → w.heap.size + 1 < W.heap.size → W.heap[w.heap.size]? = some (.cells #[.int .i64 most, .int .i64 4, .int .i64 S, .int .i64 64, .int .i64 64, .int .u64 1, .int .i64 1, .int .i64 1, .int .i64 1, .int .i64 64, .int .i64 100, .int .i64 100, .int .i64 1000, .int .i64 2, .int .i64 64, .int .i64 4, .int .i64 1, .bool false, .int .u64 0, .int .u64 (loOf c), .int .i64 80, .bool false, .int .u64 0, .int .u64 0, .int .i64 0, .int .i64 (Pm.tOf c), .int .i64 0, .bool false] 203 (0, 0)) → True := fun _ _ _ _ => trivial
  clear h hbx
  generalize hn : prt S c = n at *
  have hwr : IntKind.i64.wrap (2 + (n : Int)) = ((2 + n : Nat) : Int) := by rw [IntKind.wrap_i64]; omega
  have hn0 : ¬ (w.heap.size = T) := by omega
  have hn1 : ¬ (w.heap.size + 1 = T) := by omega
  have hbx : ∀ W, Upto T ((w.alloc (.cells #[.int .i64 most, .int .i64 4, .int .i64 S, .int .i64 64, .int .i64 64, .int .u64 1, .int .i64 1, .int .i64 1, .int .i64 1, .int .i64 64, .int .i64 100, .int .i64 100, .int .i64 1000, .int .i64 2, .int .i64 64, .int .i64 4, .int .i64 1, .bool false, .int .u64 0, .int .u64 (loOf c), .int .i64 80, .bool false, .int .u64 0, .int .u64 0, .int .i64 0, .int .i64 (Pm.tOf c), .int .i64 0, .bool false] 203)).alloc (.cells #[.int .i64 0, .bool false, .int .u64 0, .int .u64 0, .int .i64 0, .int .i64 0, .int .i64 0, .slice none 0 0] 64)) W → isRow W w.heap.size 203 28 = true ∧ rowOf W w.heap.size = #[.int .i64 most, .int .i64 4, .int .i64 S, .int .i64 64, .int .i64 64, .int .u64 1, .int .i64 1, .int .i64 1, .int .i64 1, .int .i64 64, .int .i64 100, .int .i64 100, .int .i64 1000, .int .i64 2, .int .i64 64, .int .i64 4, .int .i64 1, .bool false, .int .u64 0, .int .u64 (loOf c), .int .i64 80, .bool false, .int .u64 0, .int .u64 0, .int .i64 0, .int .i64 (Pm.tOf c), .int .i64 0, .bool false] ∧ isRow W (w.heap.size + 1) 64 8 = true ∧ rowOf W (w.heap.size + 1) = #[.int .i64 0, .bool false, .int .u64 0, .int .u64 0, .int .i64 0, .int .i64 0, .int .i64 0, .slice none 0 0] ∧ isCells W w.heap.size = true ∧ isCells W (w.heap.size + 1) = true ∧ w.heap.size + 1 < W.heap.size := fun W hW => by
    obtain ⟨x1, x2, x3, x4, x5, x6, x7, x8, x9, x10⟩ := alikeU hW
    have s0 : w.heap.size < ((w.alloc (.cells #[.int .i64 most, .int .i64 4, .int .i64 S, .int .i64 64, .int .i64 64, .int .u64 1, .int .i64 1, .int .i64 1, .int .i64 1, .int .i64 64, .int .i64 100, .int .i64 100, .int .i64 1000, .int .i64 2, .int .i64 64, .int .i64 4, .int .i64 1, .bool false, .int .u64 0, .int .u64 (loOf c), .int .i64 80, .bool false, .int .u64 0, .int .u64 0, .int .i64 0, .int .i64 (Pm.tOf c), .int .i64 0, .bool false] 203)).alloc (.cells #[.int .i64 0, .bool false, .int .u64 0, .int .u64 0, .int .i64 0, .int .i64 0, .int .i64 0, .slice none 0 0] 64)).heap.size := by simp; omega
    have s1 : w.heap.size + 1 < ((w.alloc (.cells #[.int .i64 most, .int .i64 4, .int .i64 S, .int .i64 64, .int .i64 64, .int .u64 1, .int .i64 1, .int .i64 1, .int .i64 1, .int .i64 64, .int .i64 100, .int .i64 100, .int .i64 1000, .int .i64 2, .int .i64 64, .int .i64 4, .int .i64 1, .bool false, .int .u64 0, .int .u64 (loOf c), .int .i64 80, .bool false, .int .u64 0, .int .u64 0, .int .i64 0, .int .i64 (Pm.tOf c), .int .i64 0, .bool false] 203)).alloc (.cells #[.int .i64 0, .bool false, .int .u64 0, .int .u64 0, .int .i64 0, .int .i64 0, .int .i64 0, .slice none 0 0] 64)).heap.size := by simp
    refine ⟨by rw [x1 _ _ _ s0 hn0]; simp [go_sem], by rw [x2 _ s0 hn0]; simp [go_sem], by rw [x1 _ _ _ s1 hn1]; simp [go_sem], by rw [x2 _ s1 hn1]; simp [go_sem], by rw [x8 _ s0 hn0]; simp [go_sem], by rw [x8 _ s1 hn1]; simp [go_sem], x10 _ s1⟩
  have hU0 : Upto T w ((w.alloc (.cells #[.int .i64 most, .int .i64 4, .int .i64 S, .int .i64 64, .int .i64 64, .int .u64 1, .int .i64 1, .int .i64 1, .int .i64 1, .int .i64 64, .int .i64 100, .int .i64 100, .int .i64 1000, .int .i64 2, .int .i64 64, .int .i64 4, .int .i64 1, .bool false, .int .u64 0, .int .u64 (loOf c), .int .i64 80, .bool false, .int .u64 0, .int .u64 0, .int .i64 0, .int .i64 (Pm.tOf c), .int .i64 0, .bool false] 203)).alloc (.cells #[.int .i64 0, .bool false, .int .u64 0, .int .u64 0, .int .i64 0, .int .i64 0, .int .i64 0, .slice none 0 0] 64)) := Upto.of_below (bk5)
  generalize hW0 : (w.alloc (.cells #[.int .i64 most, .int .i64 4, .int .i64 S, .int .i64 64, .int .i64 64, .int .u64 1, .int .i64 1, .int .i64 1, .int .i64 1, .int .i64 64, .int .i64 100, .int .i64 100, .int .i64 1000, .int .i64 2, .int .i64 64, .int .i64 4, .int .i64 1, .bool false, .int .u64 0, .int .u64 (loOf c), .int .i64 80, .bool false, .int .u64 0, .int .u64 0, .int .i64 0, .int .i64 (Pm.tOf c), .int .i64 0, .bool false] 203)).alloc (.cells #[.int .i64 0, .bool false, .int .u64 0, .int .u64 0, .int .i64 0, .int .i64 0, .int .i64 0, .slice none 0 0] 64) = W0 at hbx hU0
  have HT0 : Hid (TapeAt W0 T L) := Lib.hid (bk65)
  clear HT
  go_enter Tryz.func141, Tryz.ntmps141
  obtain ⟨b1, b2, b3, b4, b5, b6, b7⟩ := hbx _ (Upto.refl _ _)
  go_wp2_with (go_at_call 190; refine (hpa.out _).mono ?_; rintro e w1 ⟨rfl, hb⟩; have HB1 := Lib.hid hb; have U1 := Lib.hid (Upto.of_below (T := T) hb); clear hb; obtain ⟨b1, b2, b3, b4, b5, b6, b7⟩ := hbx _ U1.out)
  have HT1 := Lib.hid (HT0.out.below HB1.out)
  cases L with
  | nil =>
    refine (t_lock T [] (2 + n) _ HT1.out).mono ?_
    rintro e w2 ⟨hu, rfl⟩
    exact ⟨rfl, tells_pause rfl rfl (hU0.trans (U1.out.trans hu))⟩
  | cons x L1 =>
    refine (t_lock T (x :: L1) (2 + n) _ HT1.out).mono ?_
    rintro e w2 ⟨hu, rfl, hA⟩
    have U2 := Lib.hid (U1.out.trans hu)
    have HA2 := Lib.hid hA
    have hnb1 : Pm.bnd (Pm.read n) (Pm.quickK n c most) L1 ≠ .bad := hnb
    have hlt2 := hA.lt
    have hlt2b : T < w2.heap.size := hA.lt
    clear hnb hu hA
    obtain ⟨b1, b2, b3, b4, b5, b6, b7⟩ := hbx _ U2.out
    go_wp2_with fail
    have hnr : Pm.read n L1 ≠ .bad := fun e => hnb1 (by unfold Pm.bnd; rw [e])
    refine (read_law T n L1 hnr _ HA2.out).mono ?_
    intro e w3 ht
    unfold Tells at ht
    cases hr : Pm.read n L1 with
    | bad => exact absurd hr hnr
    | pause o =>
      rw [hr] at ht
      obtain ⟨rfl, hu⟩ := ht
      exact ⟨rfl, tells_pause (show Pm.bnd (Pm.read n) (Pm.quickK n c most) L1 = _ by unfold Pm.bnd; rw [hr]) rfl (hU0.trans (U2.out.trans hu))⟩
    | done l L2 =>
      rw [hr] at ht
      obtain ⟨v, rfl, ⟨hO, hl19⟩, hA, hu⟩ := ht
      have U3 := Lib.hid (U2.out.trans hu)
      have HA3 := Lib.hid hA
      have HO3 := Lib.hid hO
      have HN2 := nn_read hnn.tail hr
      have hq1 : Pm.bnd (Pm.read n) (Pm.quickK n c most) L1 = Pm.quickK n c most l L2 := by unfold Pm.bnd; rw [hr]
      rw [hq1] at hnb1
      cases hh : Pm.has c l with
      | true => exact absurd (show Pm.quickK n c most l L2 = .bad by unfold Pm.quickK; rw [hh]; rfl) hnb1
      | false =>
        have hq2 : Pm.quickK n c most l L2 = Pm.bnd (Pm.reserve most) (Pm.takeK n c l) L2 := by unfold Pm.quickK; rw [hh]; rfl
        rw [hq2] at hnb1
        have HC := clear_has hh
        obtain ⟨b1, b2, b3, b4, b5, b6, b7⟩ := hbx _ U3.out
        clear hu hA hO
        go_wp2_with (go_at_call 192; refine (find_no l c _ HC _ HO3.out.sl (by omega)).mono ?_; rintro e w4 ⟨rfl, hb⟩; have HB4 := Lib.hid hb; have U4 := Lib.hid (U3.out.trans (Upto.of_below (T := T) hb)); clear hb; obtain ⟨b1, b2, b3, b4, b5, b6, b7⟩ := hbx _ U4.out)
        have HA4 := Lib.hid (HA3.out.below HB4.out)
        have HO4 := Lib.hid (HO3.out.below HB4.out)
        have hnr2 : Pm.reserve most L2 ≠ .bad := fun e => hnb1 (by unfold Pm.bnd; rw [e])
        refine (reserve_law T L2 most hnr2 _ HA4.out HN2 hmost).mono ?_
        intro e w5 ht
        unfold Tells at ht
        cases hr2 : Pm.reserve most L2 with
        | bad => exact absurd hr2 hnr2
        | pause o =>
          rw [hr2] at ht
          obtain ⟨rfl, hu⟩ := ht
          exact ⟨rfl, tells_pause (show Pm.bnd (Pm.read n) (Pm.quickK n c most) L1 = _ by rw [hq1, hq2]; unfold Pm.bnd; rw [hr2]) rfl (hU0.trans (U4.out.trans hu))⟩
        | done ok L3 =>
          rw [hr2] at ht
          obtain ⟨vb, rfl, rfl, hA, hu⟩ := ht
          have U5 := Lib.hid (U4.out.trans hu)
          have HA5 := Lib.hid hA
          have HO5 := Lib.hid (HO4.out.upto hu hlt2b)
          have hq3 : Pm.bnd (Pm.read n) (Pm.quickK n c most) L1 = Pm.takeK n c l ok L3 := by rw [hq1, hq2]; unfold Pm.bnd; rw [hr2]
          clear hu hA hq1 hq2 hr hr2
          obtain ⟨b1, b2, b3, b4, b5, b6, b7⟩ := hbx _ U5.out
          cases ok with
          | false =>
            go_wp2_with fail
            cases L3 with
            | nil =>
              refine (t_free T [] (2 + n) false _ HA5.out).mono ?_
              rintro e wf ⟨hu, rfl⟩
              exact ⟨rfl, tells_pause (show Pm.bnd (Pm.read n) (Pm.quickK n c most) L1 = _ by rw [hq3]; rfl) rfl (hU0.trans (U5.out.trans hu))⟩
            | cons y Lf =>
              refine (t_free T (y :: Lf) (2 + n) false _ HA5.out).mono ?_
              rintro e wf ⟨hu, rfl, hA⟩
              have UF := Lib.hid (U5.out.trans hu)
              exact tailQuick1
          | true =>
            have hlt5 : T < w5.heap.size := HA5.out.lt
            go_wp2_with (go_at_call 195; refine (hwa.out l _ _ HO5.out.sl (by omega)).mono ?_; rintro e w6 ⟨v6, rfl, ho, hb⟩; have HB6 := Lib.hid hb; have HO6 := Lib.hid ho; have U6 := Lib.hid (U5.out.trans (Upto.of_below (T := T) hb)); clear hb ho; obtain ⟨b1, b2, b3, b4, b5, b6, b7⟩ := hbx _ U6.out)
            refine (write_law T n c l L3 v v6 _ (HA5.out.below HB6.out) (HO5.out.sl.below HB6.out) HO6.out.sl (fun e => by have := (HO6.out.base e).1; omega) (by omega)).mono ?_
            intro e w7 ht
            unfold Tells at ht
            rw [takeK_eq] at hq3
            cases L3 with
            | nil =>
              rw [wr2_nil] at ht
              obtain ⟨rfl, hu⟩ := ht
              exact ⟨rfl, tells_pause (show Pm.bnd (Pm.read n) (Pm.quickK n c most) L1 = _ by rw [hq3]; rfl) rfl (hU0.trans (U6.out.trans hu))⟩
            | cons y1 L4 =>
              cases L4 with
              | nil =>
                rw [wr2_one] at ht
                obtain ⟨rfl, hu⟩ := ht
                exact ⟨rfl, tells_pause (show Pm.bnd (Pm.read n) (Pm.quickK n c most) L1 = _ by rw [hq3]; rfl) rfl (hU0.trans (U6.out.trans hu))⟩
              | cons y2 L5 =>
                rw [wr2_two] at ht
                obtain ⟨vw, rfl, rfl, hA, hu⟩ := ht
                have U7 := Lib.hid (U6.out.trans hu)
                have HA7 := Lib.hid hA
                clear hu hA
                obtain ⟨b1, b2, b3, b4, b5, b6, b7⟩ := hbx _ U7.out
                go_wp2_with fail
                cases L5 with
                | nil =>
                  refine (t_free T [] (2 + n) false _ HA7.out).mono ?_
                  rintro e wf ⟨hu, rfl⟩
                  exact ⟨rfl, tells_pause (show Pm.bnd (Pm.read n) (Pm.quickK n c most) L1 = _ by rw [hq3]; rfl) rfl (hU0.trans (U7.out.trans hu))⟩
                | cons y Lf =>
                  refine (t_free T (y :: Lf) (2 + n) false _ HA7.out).mono ?_
                  rintro e wf ⟨hu, rfl, hA⟩
                  have UF := Lib.hid (U7.out.trans hu)
                  exact tailQuick1
end
section
open Go.RowKit
attribute [local go_sem ↓] exec_load_64 exec_store_64 exec_load_203 exec_store_203 exec_load_36 exec_store_36 exec_load_29 exec_store_29 exec_load_41 exec_store_41
attribute [local go_sem] run_load64r run_store64i run_load203r run_store203i run_load36r run_store36i run_load29r run_store29i run_load41r run_store41i lt_up isRng_new rngOf_new isRange_past rangeOf_past isRange_drew rangeOf_drew fits_new fits_past fits_drew setAt_new setAt_past setAt_drew putAt_whole putAt_lit extract_whole extract_lit one_int one_bool one_slice one_ptr ones_lit onesL_nil onesL_cons isRow_new rowOf_new isRow_past rowOf_past isRow_drew rowOf_drew lt2 lt3 lt4 List.take_succ_cons List.take_zero List.drop_succ_cons List.drop_zero List.cons_append List.nil_append List.length_cons List.length_nil List.size_toArray setRow_new setRow_past own_cell own_frozen own_set own_isRange own_rangeOf own_fits setAt_row sr_sr sr_size sr_row sr_row' sr_isRow sr_isRow' sr_fits' sr_cell' sr_frozen' sr_isRange' sr_rangeOf' sr_isCells isCells_new isCells_past isCells_drew valC_size valC_ones opC_size opC_ones replyC_size meth_Lock ahead_Lock meth_Share ahead_Share meth_Free ahead_Free meth_Drop ahead_Drop meth_Load ahead_Load meth_Store ahead_Store meth_Swap ahead_Swap
theorem tailSqueeze1 {p : Prop} (h : p := by
  refine tree_one 13 (by kernel_rfl) (by kernel_rfl) ?_
  simp only [nthL]
  go_wp2_with fail
  refine chain_on ⟨bk4⟩ ?_
  refine tree_one 14 (by kernel_rfl) (by kernel_rfl) ?_
  simp only [nthL]
  go_wp2_with fail
  refine chain_on ⟨bk4⟩ ?_
  refine tree_end (by kernel_rfl) ?_
  have B5 : Below w3.heap.size w3 w5 := bk4
  obtain ⟨x1g, x2g, x3g, x4g, x5g, x6g, x7g, x8g, x9g, x10g, y9g⟩ := alk B5; (try have zzg := zs w.heap.size w5.heap.size)
  have q1 : isRow w5 (w.heap.size + 1) 64 8 = true := (x1g _ _ _ b5).trans b3
  have q2 : isCells w5 (w.heap.size + 1) = true := (x8g _ b5).trans c2
  have q3 : w.heap.size + 1 < w5.heap.size := Nat.lt_of_lt_of_le b5 B5.size
  go_wp2_with (go_at_call 139; refine (refused_any 5 _).mono ?_; rintro e w6 ⟨rfl, rfl⟩)
  refine bodyPost_ret (v := .tuple #[.agg #[.int .i64 5, .bool false, .int .u64 0, .int .u64 0, .int .i64 0, .int .i64 0, .int .i64 0, .slice none 0 0], .bool true]) (res_row2 (t := 64) Tryz.results196 _ _ _ rfl ?_ ?_ info64 agg64) rfl ?_
  · go_simp
  · go_simp
  refine tells_done hqH.out _ rfl rfl ?_ ?_
  · repeat' (first | exact HT3.out.below B5 | (refine tape_setRow ?_ ?_ _) | (refine tape_alloc ?_ _) | omega)
  · repeat' (first | exact hU3.out.trans (Upto.of_below B5) | (refine upto_setRow ?_ ?_ _) | (refine Upto.alloc ?_ _) | omega)) : p := h
theorem tailSqueeze2 {p : Prop} (h : p := by
  refine chain_on ⟨bk4⟩ ?_
  refine tree_reads [9, 10, 11] 2 rfl (by kernel_rfl) (fun _ _ d _ _ h => by cases d <;> exact h) ⟨bk4⟩ ?_
  simp only [PL]
  apply reads_op
  · exact bk17
  try simp only [PT]
  apply reads_op
  · exact bk17
  try simp only [PT]
  apply reads_op
  · exact bk17
  try simp only [PT]
  refine reads_nil ?_
  exact tailSqueeze1) : p := h
/-- squeeze, as the model has it. -/
def sqK (all : List (List Nat)) : Bool → Pm.Tp Unit
  | true => Pm.no
  | false => if 19 < Pm.total all then Pm.no else Pm.ret ()
def sq (most : Nat) (all : List (List Nat)) : Pm.Tp Unit := Pm.bnd (Pm.reserve most) (sqK all)
theorem tape_alloc {T : Nat} {L : List Pm.Val} {w : World} (h : TapeAt w T L) (o : Obj) : TapeAt (w.alloc o) T L := h.below ((Below.refl _ _).alloc (Nat.le_refl _) o)
theorem RowT.keepU {W W' : World} {g T : Nat} {t : TypeId} {L : List Value} (h : RowT W g t L) (k : Upto T W W') (hg : g ≠ T) : RowT W' g t L := by
  unfold RowT at *
  rw [k.block g (Array.getElem?_eq_some_iff.1 h).1 hg]; exact h
theorem Sl.keepU {W W' : World} {v : Value} {n T : Nat} {L : List (Array Value)} (h : Sl W v n L) (k : Upto T W W') (hT : v.ownBlock ≠ some T) : Sl W' v n L := h.upto k hT
/-- .. and none of the lists lies in the tape. -/
def Apart (T : Nat) (b : Nat) (vs : List Value) : Prop := b ≠ T ∧ ∀ (i : Nat) (v : Value), vs[i]? = some v → v.ownBlock ≠ some T
theorem AllAt.keepU {W W' : World} {T b : Nat} {vs : List Value} {Ls : List (List Nat)} (h : AllAt W b vs Ls) (ha : Apart T b vs) (k : Upto T W W') : AllAt W' b vs Ls :=
  ⟨h.1.keepU k ha.1, h.2.1, fun i v l h1 h2 => (h.2.2 i v l h1 h2).upto k (ha.2 i v h1)⟩
def load27 (v : Value) : Sem Next := do pure (.value (← Instr.loadAt 27 v))
theorem exec_load_27 (ρ : Operand → Value) (dst : Option Tmp) (x : Operand) (ty : TypeId) (pos : String) (after : Array Edge) (guard : Option (Nat × Bool)) :
    execOp ρ { dst, op := .load 27 x, type := ty, pos, after, guard } = load27 (ρ x) := rfl
theorem run_load27 {W : World} {g : Nat} (h : isRow W g 27 4 = true) : (load27 (.pointer (some ⟨g, 0, none⟩))).run Tryz.prog W = .ok (.value (.agg (rowOf W g))) W := by
  simp only [load27, Instr.loadAt, Instr.sureAddr, Sem.run_bind, Sem.run_pure, Result.andThen_ok, run_loadVar_row W g 27 27 _ (0, 0) _ (row_heap h).1 Tryz.underlying27 rfl (by rw [(row_heap h).2]; exact info27)]
theorem run_load27r {W : World} {p : Addr} (h : isRange W p 4 = true) : (load27 (.pointer (some p))).run Tryz.prog W = .ok (.value (.agg (rangeOf W p 4))) W := by
  simp only [load27, Instr.loadAt, Instr.sureAddr, Sem.run_bind, Sem.run_pure, Result.andThen_ok, load_range info27 Tryz.underlying27 rfl h]
def store27 (a v : Value) : Sem Next := do Instr.storeAt 27 a v; pure .skip
theorem exec_store_27 (ρ : Operand → Value) (dst : Option Tmp) (x y : Operand) (ty : TypeId) (pos : String) (after : Array Edge) (guard : Option (Nat × Bool)) :
    execOp ρ { dst, op := .store 27 x y, type := ty, pos, after, guard } = store27 (ρ x) (ρ y) := rfl
theorem run_store27 {W : World} {g : Nat} {C : Array Value} (h : isRow W g 27 4 = true) (hn : C.size = 4) (h1 : ones C = true) : (store27 (.pointer (some ⟨g, 0, none⟩)) (.agg C)).run Tryz.prog W = .ok .skip (W.setRow g C) := by
  obtain ⟨h2, h3⟩ := row_heap h
  simp only [store27, Instr.storeAt, Instr.sureAddr, Sem.run_bind, Sem.run_pure, Result.andThen_ok, run_storeVar_row W g 27 27 _ C h2 (by rw [hn]; exact info27) (by rw [h3, hn]) (ones_all h1)]
theorem run_store27i {W : World} {g o : Nat} {C : Array Value} (h : fitsAt W g o 4 = true) (hn : C.size = 4) (h1 : ones C = true) : (store27 (.pointer (some ⟨g, o, none⟩)) (.agg C)).run Tryz.prog W = .ok .skip (setAt W g o C) := by
  simp only [store27, Instr.storeAt, Instr.sureAddr, Sem.run_bind, Sem.run_pure, Result.andThen_ok, run_store_at 27 4 info27 h hn h1]
attribute [local go_sem ↓] exec_load_27 exec_store_27
attribute [local go_sem] run_load27r run_store27i
theorem drew_size (w : World) : w.drew.heap.size = w.heap.size := id rfl
attribute [local go_sem high] drew_size
attribute [local simp high] drew_size
/-- door.squeeze. -/
theorem squeeze_law (T most S c b : Nat) (L : List Pm.Val) (vs : List Value) (Ls : List (List Nat)) (hS0 : 1 ≤ S) (hS1 : S ≤ 8) (hmost : most ≤ 1000) (hLS : Ls.length = S) (hhas : Pm.has c (Ls.getD (prt S c) []) = false) (hnb : sq most Ls L ≠ .bad) (w : World) (h : TapeAt w T L) (hnn : NN L)
    (hA : AllAt w b vs Ls) (hap : Apart T b vs) (hl1000 : ∀ l ∈ Ls, l.length ≤ 1000) :
    Calls Tryz.prog 196 #[.agg (doorC most S c), .iface 280 (.pointer (some ⟨T, 0, none⟩)), .slice (some ⟨b, 0, none⟩) Ls.length Ls.length] w (Tells T (sq most Ls) (fun _ v _ => v = .tuple #[.agg (replyC false), .bool true]) L w) := by
  have ed : doorC most S c = #[.int .i64 most, .int .i64 4, .int .i64 S, .int .i64 64, .int .i64 64, .int .u64 1, .int .i64 1, .int .i64 1, .int .i64 1, .int .i64 64, .int .i64 100, .int .i64 100, .int .i64 1000, .int .i64 2, .int .i64 64, .int .i64 4, .int .i64 1, .bool false, .int .u64 0, .int .u64 (loOf c), .int .i64 80, .bool false, .int .u64 0, .int .u64 0, .int .i64 0, .int .i64 (Pm.tOf c), .int .i64 0, .bool false] := rfl
  have hbw := hA.1.lt
  have HT0 := Lib.hid (h.below (show Below w.heap.size w ((w.alloc (.cells #[.int .i64 most, .int .i64 4, .int .i64 S, .int .i64 64, .int .i64 64, .int .u64 1, .int .i64 1, .int .i64 1, .int .i64 1, .int .i64 64, .int .i64 100, .int .i64 100, .int .i64 1000, .int .i64 2, .int .i64 64, .int .i64 4, .int .i64 1, .bool false, .int .u64 0, .int .u64 (loOf c), .int .i64 80, .bool false, .int .u64 0, .int .u64 0, .int .i64 0, .int .i64 (Pm.tOf c), .int .i64 0, .bool false] 203)).alloc (.cells #[.int .i64 0, .bool false, .int .u64 0, .int .u64 0, .int .i64 0, .int .i64 0, .int .i64 0, .slice none 0 0] 64)) from (bk5)))
  have HAT0 := Lib.hid (hA.low (show Below w.heap.size w ((w.alloc (.cells #[.int .i64 most, .int .i64 4, .int .i64 S, .int .i64 64, .int .i64 64, .int .u64 1, .int .i64 1, .int .i64 1, .int .i64 1, .int .i64 64, .int .i64 100, .int .i64 100, .int .i64 1000, .int .i64 2, .int .i64 64, .int .i64 4, .int .i64 1, .bool false, .int .u64 0, .int .u64 (loOf c), .int .i64 80, .bool false, .int .u64 0, .int .u64 0, .int .i64 0, .int .i64 (Pm.tOf c), .int .i64 0, .bool false] 203)).alloc (.cells #[.int .i64 0, .bool false, .int .u64 0, .int .u64 0, .int .i64 0, .int .i64 0, .int .i64 0, .slice none 0 0] 64)) from (bk5)))
  have hlt := h.lt
  have hpl := prt_lt S c hS0 hS1
  have hpa := Lib.hid (part_any most S c hS0 hS1)
  rw [ed] at hpa ⊢
  clear h hA
  have HN := Lib.hid hnb
  have HNN := Lib.hid hnn
  clear hnb hnn
  generalize hn : prt S c = n at *
  have hnl : n < Ls.length := by omega
  have HLS := Lib.hid hLS
  have hS8 : Ls.length ≤ 8 := by omega
  clear hLS
  have hnz : (n : Int) < (Ls.length : Int) := by omega
  have n1 : 0 ≤ (n : Int) := by omega
  have hC : Pm.Clear c Ls[n] := clear_has (by rw [List.getD_eq_getElem?_getD, List.getElem?_eq_getElem hnl] at hhas; exact hhas)
  have hln := hl1000 Ls[n] (List.getElem_mem hnl)
  have hnv : n < vs.length := by rw [HAT0.out.2.1]; exact hnl
  have hv : vs[n]? = some vs[n] := List.getElem?_eq_getElem hnv
  have HL := Lib.hid hl1000
  clear hhas hl1000
  have hbT : b ≠ T := hap.1
  have HAP := Lib.hid hap
  clear hap
  go_enter Tryz.func196, Tryz.ntmps196
  go_wp2_with (go_at_call 190; refine (hpa.out _).mono ?_; rintro e w1 ⟨rfl, hb⟩; have hk1 := Keep.mk hb; obtain ⟨x1, x2, x3, x4, x5, x6, x7, x8, x9, x10, y9⟩ := alk hk1.out; (try have zz := zs w.heap.size w1.heap.size); clear hb)
  have HAT1 := Lib.hid (HAT0.out.low hk1.out)
  have HT1 := Lib.hid (HT0.out.below hk1.out)
  have hcell := HAT1.out.1.at'.cell (i := n) hv
  have HS1 := Lib.hid (HAT1.out.2.2 n _ Ls[n] hv (List.getElem?_eq_getElem hnl))
  have hbw1 : b < w1.heap.size := HAT1.out.1.lt
  generalize vs[n] = vn at *
  go_upto_region 2 with (fail)
  refine region_still (by kernel_rfl) (by kernel_rfl) ?_
  repeat (first
    | go_big_quiet_skip
    | (go_big_quiet_want
       apply class_op
       · intro W hS
         obtain ⟨x1, x2, x3, x4, x5, x6, x7, x8, x9, x10, y9⟩ := alk hS.out; (try have zz := zs w.heap.size W.heap.size)
         go_simp
         try first
           | with_reducible rfl
           | (go_at_call 192; refine (find_no Ls[n] c _ hC _ (HS1.out.below hS.out) (by omega)).mono ?_; rintro e w' ⟨rfl, hb⟩; exact ⟨rfl, below_next hS hb⟩)
       go_big_quiet_on
       try simp only [PT]))
  refine wpQuiet_nil ?_
  intro w2 hS2
  obtain ⟨x1b, x2b, x3b, x4b, x5b, x6b, x7b, x8b, x9b, x10b, y9b⟩ := alk hS2.out; (try have zzb := zs w.heap.size w2.heap.size)
  go_wp2_with fail
  have HT2 := Lib.hid (HT1.out.below hS2.out)
  have HAT2 := Lib.hid (HAT1.out.low hS2.out)
  have hU2 := Lib.hid (show Upto T w w2 from Upto.of_below (bk0))
  have hbxU : ∀ W, Upto T w2 W → isRow W w.heap.size 203 28 = true ∧ rowOf W w.heap.size = #[.int .i64 most, .int .i64 4, .int .i64 S, .int .i64 64, .int .i64 64, .int .u64 1, .int .i64 1, .int .i64 1, .int .i64 1, .int .i64 64, .int .i64 100, .int .i64 100, .int .i64 1000, .int .i64 2, .int .i64 64, .int .i64 4, .int .i64 1, .bool false, .int .u64 0, .int .u64 (loOf c), .int .i64 80, .bool false, .int .u64 0, .int .u64 0, .int .i64 0, .int .i64 (Pm.tOf c), .int .i64 0, .bool false] ∧ isRow W (w.heap.size + 1) 64 8 = true ∧ rowOf W (w.heap.size + 1) = #[.int .i64 0, .bool false, .int .u64 0, .int .u64 0, .int .i64 0, .int .i64 0, .int .i64 0, .slice none 0 0] ∧ w.heap.size + 1 < W.heap.size := fun W hW => by
    obtain ⟨p1, p2, p3, p4, p5, p6, p7, p8, p9, p10⟩ := alikeU hW
    have q0 : ¬ (w.heap.size = T) := by omega
    have q1 : ¬ (w.heap.size + 1 = T) := by omega
    refine ⟨?_, ?_, ?_, ?_, ?_⟩
    · rw [p1 _ _ _ (by omega) q0, x1b _ _ _ (by omega), x1 _ _ _ (by simp; omega)]; simp [go_sem]
    · rw [p2 _ (by omega) q0, x2b _ (by omega), x2 _ (by simp; omega)]; simp [go_sem]
    · rw [p1 _ _ _ (by omega) q1, x1b _ _ _ (by omega), x1 _ _ _ (by simp)]; simp [go_sem]
    · rw [p2 _ (by omega) q1, x2b _ (by omega), x2 _ (by simp)]; simp [go_sem]
    · exact Nat.lt_of_lt_of_le (by omega) hW.size
  have hnr : Pm.reserve most L ≠ .bad := fun e => HN.out (by unfold sq Pm.bnd; rw [e])
  refine (reserve_law T L most hnr _ HT2.out HNN.out hmost).mono ?_
  intro e w3 ht
  unfold Tells at ht
  cases hr : Pm.reserve most L with
  | bad => exact absurd hr hnr
  | pause o =>
    rw [hr] at ht
    obtain ⟨rfl, hu⟩ := ht
    exact ⟨rfl, tells_pause (show sq most Ls L = _ by unfold sq Pm.bnd; rw [hr]) rfl (hU2.out.trans hu)⟩
  | done ok L3 =>
    rw [hr] at ht
    obtain ⟨vb, rfl, rfl, hA3, hu⟩ := ht
    have hq : sq most Ls L = sqK Ls ok L3 := by unfold sq Pm.bnd; rw [hr]
    have HT3 := Lib.hid hA3
    have HAT3 := Lib.hid (HAT2.out.keepU HAP.out hu)
    have hU3 := Lib.hid (hU2.out.trans hu)
    cases ok with
    | true => exact absurd hq HN.out
    | false =>
      have hq2 : sq most Ls L = .done () L3 := by
        have hb := HN.out
        rw [hq] at hb ⊢
        unfold sqK at hb ⊢
        by_cases h19 : 19 < Pm.total Ls
        · rw [if_pos h19] at hb; exact absurd rfl hb
        · rw [if_neg h19]; rfl
      have h19 : Ls.flatten.length ≤ 19 := by
        have hb := HN.out
        rw [hq] at hb
        unfold sqK at hb
        by_cases h19 : 19 < Pm.total Ls
        · rw [if_pos h19] at hb; exact absurd rfl hb
        · unfold Pm.total at h19; rw [List.length_flatten]; omega
      have hqH := Lib.hid hq2
      clear hq hq2 hr
      obtain ⟨b1, b2, b3, b4, b5⟩ := hbxU w3 hu
      have s1 : w.heap.size < w3.heap.size := by omega
      have s2 : w.heap.size < w3.heap.size + 1 := by omega
      have s4 : w.heap.size < w3.drew.heap.size := s1
      have s5 : w.heap.size + 1 < w3.drew.heap.size := b5
      have s3 : w.heap.size + 1 < w3.heap.size + 1 := by omega
      have c1 := isCells_row b1
      have c2 := isCells_row b3
      have hbw3 : b < w3.heap.size := HAT3.out.1.lt
      have hCC := Lib.hid (fun W (k : Below w3.heap.size w3 W) => concat_law b vs Ls W (HAT3.out.low k) (by omega) (by omega))
      clear hu hA3
      (try clear x1 x2 x3 x4 x5 x6 x7 x8 x9 x10 y9); (try clear zz)
      (try clear x1b x2b x3b x4b x5b x6b x7b x8b x9b x10b y9b); (try clear zzb)
      clear hbxU hk1 hS2 hcell hbw1 hv hln hC hnz n1 ed
      generalize Ls.flatten = FL at *
      go_upto_region 7 with (fail)
      refine region_tree (Keep w3) [0, 2, 3, 4, 5, 6, 7] 8 (by kernel_rfl) (by kernel_rfl) (fun _ _ d _ _ h => by cases d <;> exact h) ⟨(Below.refl _ _).drew⟩ ?_
      simp only [PL]
      apply reads_op
      · exact bk17
      try simp only [PT]
      apply reads_op
      · exact bk17
      try simp only [PT]
      apply reads_op
      · exact bk17
      try simp only [PT]
      apply reads_op
      · exact bk17
      try simp only [PT]
      apply reads_op
      · exact bk17
      try simp only [PT]
      apply reads_op
      · exact bk17
      try simp only [PT]
      apply reads_op
      · exact bk17
      try simp only [PT]
      refine reads_nil ?_
      refine tree_two 1 12 (by kernel_rfl) (by kernel_rfl) (by kernel_rfl) ?_ ?_
      · simp only [nthL]
        go_wp2_with (go_at_call 134; refine (hCC.out _ (bk4)).mono ?_; rintro e w4 ⟨v4, rfl, ho, hb⟩; have hk4 := Keep.mk hb; have sd4 : w3.heap.size ≤ w4.heap.size := Nat.le_trans (bk11) hk4.out.size; have xxd := alk hk4.out; (try have zzd := zs w.heap.size w4.heap.size); clear hb; have HO := Lib.hid ho; clear ho)
        refine chain_on ⟨bk4⟩ ?_
        refine tree_two 8 12 (by kernel_rfl) (by kernel_rfl) (by kernel_rfl) ?_ ?_
        · simp only [nthL]
          go_wp2_with (go_at_call 250; refine (choose_law FL v4 _ (HO.out.sl.below (bk4)) h19).mono ?_; rintro e w5 ⟨rfl, hb⟩; have hk5 := Keep.mk hb; have sd5 : w3.heap.size ≤ w5.heap.size := Nat.le_trans (bk59) hk5.out.size; have xxe := alk hk5.out; (try have zze := zs w.heap.size w5.heap.size); clear hb)
          refine chain_on ⟨bk4⟩ ?_
          refine tree_reads [9, 10, 11] 3 rfl (by kernel_rfl) (fun _ _ d _ _ h => by cases d <;> exact h) ⟨bk4⟩ ?_
          simp only [PL]
          apply reads_op
          · exact bk17
          try simp only [PT]
          apply reads_op
          · exact bk17
          try simp only [PT]
          apply reads_op
          · exact bk17
          try simp only [PT]
          refine reads_nil ?_
          refine tree_one 12 (by kernel_rfl) (by kernel_rfl) ?_
          simp only [nthL]
          go_wp2_with fail
          refine chain_on ⟨bk4⟩ ?_
          exact tailSqueeze1
        · simp only [nthL]
          go_wp2_with fail
          refine chain_on ⟨bk4⟩ ?_
          refine tree_one 8 (by kernel_rfl) (by kernel_rfl) ?_
          simp only [nthL]
          go_wp2_with (go_at_call 250; refine (choose_law FL v4 _ (HO.out.sl.below (bk4)) h19).mono ?_; rintro e w5 ⟨rfl, hb⟩; have hk5 := Keep.mk hb; have sd5 : w3.heap.size ≤ w5.heap.size := Nat.le_trans (bk59) hk5.out.size; have xxe := alk hk5.out; (try have zze := zs w.heap.size w5.heap.size); clear hb)
          exact tailSqueeze2
      · simp only [nthL]
        go_wp2_with fail
        refine chain_on ⟨bk4⟩ ?_
        have sa0 : w3.heap.size < (w3.alloc (.cells #[.bool false, .int .u64 0, .int .u64 0, .int .i64 0] 36)).heap.size := by simp
        have sa : w3.heap.size < (w3.alloc (.cells #[.bool false, .int .u64 0, .int .u64 0, .int .i64 0] 36)).drew.heap.size := sa0
        refine tree_one 1 (by kernel_rfl) (by kernel_rfl) ?_
        simp only [nthL]
        go_wp2_with (go_at_call 134; refine (hCC.out _ (bk4)).mono ?_; rintro e w4 ⟨v4, rfl, ho, hb⟩; have hk4 := Keep.mk hb; have sd4 : w3.heap.size ≤ w4.heap.size := Nat.le_trans (bk11) hk4.out.size; have xxd := alk hk4.out; (try have zzd := zs w.heap.size w4.heap.size); clear hb; have HO := Lib.hid ho; clear ho; have sd4l : w3.heap.size < w4.heap.size := Nat.lt_of_lt_of_le sa hk4.out.size; have sb : w.heap.size + 1 ≠ w3.heap.size := by omega)
        refine chain_on ⟨bk4⟩ ?_
        refine tree_one 8 (by kernel_rfl) (by kernel_rfl) ?_
        simp only [nthL]
        go_wp2_with (go_at_call 250; refine (choose_law FL v4 _ (HO.out.sl.below (bk4)) h19).mono ?_; rintro e w5 ⟨rfl, hb⟩; have hk5 := Keep.mk hb; have sd5 : w3.heap.size ≤ w5.heap.size := Nat.le_trans (bk59) hk5.out.size; have xxe := alk hk5.out; (try have zze := zs w.heap.size w5.heap.size); clear hb; have sd5l : w3.heap.size < w5.heap.size := Nat.lt_of_lt_of_le sd4l hk5.out.size)
        exact tailSqueeze2
end
end Go.Proofs.YtnncjbkepakgpaaGreat
