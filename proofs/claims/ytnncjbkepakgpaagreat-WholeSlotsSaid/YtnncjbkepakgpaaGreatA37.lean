/-
  THE WORLD: WHO IS ENABLED.
  THE WORLD IN MEMORY, AND THE BLOCKS THAT IT REACHES; CALLS IN SLICES OF SLICES.
-/
import Derived.Test.YtnncjbkepakgpaaGreatA07
import Derived.Test.YtnncjbkepakgpaaGreatA36
import Derived.Test.YtnncjbkepakgpaaGreatA10
import Derived.Test.YtnncjbkepakgpaaGreatA27
namespace Go.Proofs.YtnncjbkepakgpaaGreat
set_option linter.unusedVariables false
set_option linter.unusedSimpArgs false
set_option maxRecDepth 100000
set_option maxHeartbeats 1500000
section
open Go.RowKit
attribute [local go_sem ↓] exec_load_47 exec_store_47 exec_load_62 exec_store_62 exec_load_51 exec_store_51 exec_load_105 exec_store_105 exec_load_29 exec_store_29
attribute [local go_sem] run_load47r run_store47i run_load62r run_store62i run_load51r run_store51i run_load105r run_store105i run_load29r run_store29i lt_up isRng_new rngOf_new isRange_past rangeOf_past isRange_drew rangeOf_drew fits_new fits_past fits_drew setAt_new setAt_past setAt_drew putAt_whole putAt_lit extract_whole extract_lit one_int one_bool one_slice one_ptr ones_lit onesL_nil onesL_cons isRow_new rowOf_new isRow_past rowOf_past isRow_drew rowOf_drew lt2 lt3 lt4 List.take_succ_cons List.take_zero List.drop_succ_cons List.drop_zero List.cons_append List.nil_append List.length_cons List.length_nil List.size_toArray setRow_new setRow_past own_cell own_frozen own_set own_isRange own_rangeOf own_fits setAt_row sr_sr sr_size sr_row sr_row' sr_isRow sr_isRow' sr_fits' sr_cell' sr_frozen' sr_isRange' sr_rangeOf' sr_isCells isCells_new isCells_past isCells_drew valC_size valC_ones opC_size opC_ones replyC_size srs_isRange srs_rangeOf srs_fits srs_cell srs_frozen
/-- A task is over, or left at an operation. -/
def Fine (c : Pm.Cf) (p : Pm.Wd) (t : Pm.Task) : Prop := t.nth ≤ t.calls.length ∧ NN t.got ∧ (Pm.over t = true ∨ (Pm.over t = false ∧ ∃ o, Pm.turn c t = .pause o ∧ Pm.opFits c.S p o))
def isEn (c : Pm.Cf) (p : Pm.Wd) (i : Nat) : Bool := match p.tasks[i]? with
  | some t => (Pm.next c p t).isSome
  | none => false
def enTo (c : Pm.Cf) (p : Pm.Wd) (k : Nat) : List Nat := (List.range k).filter (isEn c p)
theorem enTo_succ (c : Pm.Cf) (p : Pm.Wd) (k : Nat) : enTo c p (k + 1) = enTo c p k ++ (if isEn c p k = true then [k] else []) := by
  unfold enTo
  rw [List.range_succ, List.filter_append]
  congr 1
  by_cases h : isEn c p k = true
  · simp [h]
  · simp [h]
theorem enTo_len (c : Pm.Cf) (p : Pm.Wd) (k : Nat) : (enTo c p k).length ≤ k := by
  unfold enTo
  have := List.length_filter_le (isEn c p) (List.range k)
  simpa using this
theorem enTo_all (c : Pm.Cf) (p : Pm.Wd) : enTo c p p.tasks.length = Pm.enabled c p := rfl
/-- The world in memory; its log has n steps at most. -/
def WldAt (most S : Nat) (W : World) (X : Array Value) (p : Pm.Wd) (n : Nat) : Prop := ∃ (aS aL aT aG : Option Addr) (nS cS nL cL nT cT nG cG : Nat) (CT CG : List (Array Value)), X = #[.int .i64 most, .int .i64 4, .int .i64 S, .int .i64 64, .int .i64 64, .int .u64 1, .int .i64 1, .int .i64 1, .int .i64 1, .int .i64 64, .int .i64 100, .int .i64 100, .int .i64 1000, .int .i64 2, .int .i64 64, .int .i64 4, .int .i64 p.inn, .int .i64 0, .slice none 0 0, .slice none 0 0, .slice aS nS cS, .slice aL nL cL, .slice aT nT cT, .slice aG nG cG] ∧ MemAt W (memC p.inn (.slice aS nS cS) (.slice aL nL cL)) p ∧ Sl W (.slice aT nT cT) 5 CT ∧ Els TaskAt W CT p.tasks ∧ Sl W (.slice aG nG cG) 37 CG ∧ CG.length ≤ n
theorem WldAt.below {most S n : Nat} {W W' : World} {X : Array Value} {p : Pm.Wd} (h : WldAt most S W X p n) (k : Below W.heap.size W W') : WldAt most S W' X p n := by
  obtain ⟨aS, aL, aT, aG, nS, cS, nL, cL, nT, cT, nG, cG, CT, CG, h0, h1, h2, h3, h4, h5⟩ := h
  exact ⟨aS, aL, aT, aG, nS, cS, nL, cL, nT, cT, nG, cG, CT, CG, h0, h1.below k, h2.below k, h3.mono fun _ _ x => x.below k, h4.below k, h5⟩
theorem WldAt.size {most S n : Nat} {W : World} {X : Array Value} {p : Pm.Wd} (h : WldAt most S W X p n) : X.size = 24 := by
  obtain ⟨aS, aL, aT, aG, nS, cS, nL, cL, nT, cT, nG, cG, CT, CG, rfl, -⟩ := h; rfl
theorem WldAt.ones {most S n : Nat} {W : World} {X : Array Value} {p : Pm.Wd} (h : WldAt most S W X p n) : ones X = true := by
  obtain ⟨aS, aL, aT, aG, nS, cS, nL, cL, nT, cT, nG, cG, CT, CG, rfl, -⟩ := h; rfl
/-- world.next, of any task. -/
theorem next_any (most S who : Nat) (hS0 : 1 ≤ S) (hS1 : S ≤ 8) (hmost : most ≤ 1000) (p : Pm.Wd) (hS : p.parts.length = S) (hL : p.locks.length = S + 2) (t : Pm.Task) (ht : p.tasks[who]? = some t) (hf : Fine ⟨most, S, prt S⟩ p t) (X : Array Value) (n : Nat) (w : World) (h : WldAt most S w X p n) :
    Calls Tryz.prog 51 #[.agg X, .int .i64 who] w fun e w' => ∃ O : Array Value, O.size = 21 ∧ ones O = true ∧ e = .returned (.tuple #[.agg O, .bool (isEn ⟨most, S, prt S⟩ p who)]) ∧ Below w.heap.size w w' := by
  obtain ⟨aS, aL, aT, aG, nS, cS, nL, cL, nT, cT, nG, cG, CT, CG, rfl, h1, h2, h3, h4, h5⟩ := h
  obtain ⟨C, hC, hT⟩ := h3.at ht
  obtain ⟨f1, f2, f3⟩ := hf
  rcases f3 with f3 | ⟨f3, o, f4, f5⟩
  · refine (next_idle most S who aS aL aT aG nS cS nL cL nT cT nG cG p.inn t f1 f3 CT C hC w hT h2).mono ?_
    rintro e w' ⟨O, o1, o2, rfl, hb⟩
    have : isEn ⟨most, S, prt S⟩ p who = false := by unfold isEn; rw [ht]; simp [Pm.next, f3]
    rw [this]
    exact ⟨O, o1, o2, rfl, hb⟩
  · have hlt : t.nth < t.calls.length := by unfold Pm.over at f3; simpa using f3
    refine (next_run most S who aS aL aT aG nS cS nL cL nT cT nG cG p.inn t hS0 hS1 hmost hlt o f4 f2 p hS hL f5 CT C hC w hT h2 h1).mono ?_
    rintro e w' ⟨rfl, hb⟩
    have : isEn ⟨most, S, prt S⟩ p who = Pm.may p o := by
      unfold isEn
      rw [ht]
      simp only [Pm.next, f3, f4]
      cases Pm.may p o <;> rfl
    rw [this]
    exact ⟨opC o, opC_size o, opC_ones o, rfl, hb⟩
/-- world.Enabled. -/
theorem enabled_law (most S : Nat) (hS0 : 1 ≤ S) (hS1 : S ≤ 8) (hmost : most ≤ 1000) (p : Pm.Wd) (hS : p.parts.length = S) (hL : p.locks.length = S + 2) (hf : ∀ (i : Nat) (t : Pm.Task), p.tasks[i]? = some t → Fine ⟨most, S, prt S⟩ p t) (htl : p.tasks.length ≤ 100) (X : Array Value) (n : Nat) (w : World) (h : WldAt most S w X p n) :
    Calls Tryz.prog 22 #[.agg X] w fun e w' => ∃ v, e = .returned v ∧ Own w' w.heap.size 3 1 v ((Pm.enabled ⟨most, S, prt S⟩ p).map shC) ∧ Below w.heap.size w w' := by
  have HN := Lib.hid (fun (who : Nat) (hw : who < p.tasks.length) (W : World) (b : Below w.heap.size w W) => next_any most S who hS0 hS1 hmost p hS hL _ (List.getElem?_eq_getElem hw) (hf who _ (List.getElem?_eq_getElem hw)) X n W (h.below b))
  have hz := h.size
  have hz1 := h.ones
  have HX := h
  obtain ⟨aS, aL, aT, aG, nS, cS, nL, cL, nT, cT, nG, cG, CT, CG, rfl, -, h2, h3, -, -⟩ := HX
  have hnt : nT = p.tasks.length := by obtain ⟨_, _, e, _⟩ := h2; cases e; exact h3.1
  subst hnt
  have HEn := Lib.hid (enTo_all ⟨most, S, prt S⟩ p)
  have HLe := Lib.hid (enTo_len ⟨most, S, prt S⟩ p)
  have HSu := Lib.hid (enTo_succ ⟨most, S, prt S⟩ p)
  clear h h2 h3 hz hz1 hf
  go_enter Tryz.func22, Tryz.ntmps22
  go_wp2_with fail
  obtain ⟨WG, hWG⟩ : ∃ W, w.alloc (.cells (#[.int .i64 most, .int .i64 4, .int .i64 S, .int .i64 64, .int .i64 64, .int .u64 1, .int .i64 1, .int .i64 1, .int .i64 1, .int .i64 64, .int .i64 100, .int .i64 100, .int .i64 1000, .int .i64 2, .int .i64 64, .int .i64 4, .int .i64 p.inn, .int .i64 0, .slice none 0 0, .slice none 0 0, .slice aS nS cS, .slice aL nL cL, .slice aT p.tasks.length cT, .slice aG nG cG]) 51) = W := ⟨_, rfl⟩
  have bR : isRow WG w.heap.size 51 24 = true := by subst hWG; go_simp
  have bV : rowOf WG w.heap.size = #[.int .i64 most, .int .i64 4, .int .i64 S, .int .i64 64, .int .i64 64, .int .u64 1, .int .i64 1, .int .i64 1, .int .i64 1, .int .i64 64, .int .i64 100, .int .i64 100, .int .i64 1000, .int .i64 2, .int .i64 64, .int .i64 4, .int .i64 p.inn, .int .i64 0, .slice none 0 0, .slice none 0 0, .slice aS nS cS, .slice aL nL cL, .slice aT p.tasks.length cT, .slice aG nG cG] := by subst hWG; go_simp
  have bL : w.heap.size < WG.heap.size := by subst hWG; simp
  have bw : Below w.heap.size w WG := bk36
  generalize w.alloc (.cells (#[.int .i64 most, .int .i64 4, .int .i64 S, .int .i64 64, .int .i64 64, .int .u64 1, .int .i64 1, .int .i64 1, .int .i64 1, .int .i64 64, .int .i64 100, .int .i64 100, .int .i64 1000, .int .i64 2, .int .i64 64, .int .i64 4, .int .i64 p.inn, .int .i64 0, .slice none 0 0, .slice none 0 0, .slice aS nS cS, .slice aL nL cL, .slice aT p.tasks.length cT, .slice aG nG cG]) 51) = W0 at *
  subst hWG
  generalize hnT : p.tasks.length = T at *
  go_loopg [3, 10] T (fun g s3 s10 wr => ∃ k : Nat, s10 = .int .i64 k ∧ k + g = T ∧ Hid (Own wr W0.heap.size 3 1 s3 ((enTo ⟨most, S, prt S⟩ p k).map shC) ∧ Below W0.heap.size W0 wr))
  case atStart => exact ⟨0, rfl, by omega, Lib.hid ⟨Own.nil _ _ _ _, Below.refl _ _⟩⟩
  case round =>
    obtain ⟨k, rfl, hg, HH⟩ := hrel
    obtain ⟨hO, hB⟩ := HH.out
    have HO := Lib.hid hO
    have hk0 := Keep.mk hB
    have hws := hB.size
    cases gk with
    | zero =>
      have hk : ¬ ((k : Int) < (T : Int)) := by omega
      obtain rfl : k = T := by omega
      clear hO hB HH
      go_wp2
      refine bodyPost_ret (results_tmp rfl _ _ _) rfl ?_
      refine ⟨_, rfl, ?_, bw.trans (hk0.out.mono (by omega))⟩
      rw [← HEn.out]
      exact HO.out.weaken (by omega)
    | succ m =>
      have hk : k < T := by omega
      have hkz : (k : Int) < (T : Int) := by omega
      have HLn := Lib.hid (HLe.out k)
      have HSk := Lib.hid (HSu.out k)
      obtain ⟨x1e, x2e, x3e, x4e, x5e, x6e, x7e, x8e, x9e, x10e, y9e⟩ := alk hB; (try have zze := zs w.heap.size wr.heap.size)
      have cR : isRow wr w.heap.size 51 24 = true := (x1e _ _ _ bL).trans bR
      have cV := (x2e _ bL).trans bV
      have cC := isCells_row cR
      have cL' : w.heap.size < wr.heap.size := by omega
      clear hO hB HH
      (try clear x1e x2e x3e x4e x5e x6e x7e x8e x9e x10e y9e); (try clear zze)
      go_wp2_with fail
      refine (HN.out k (by omega) wr (bw.trans (hk0.out.mono (by omega)))).mono ?_
      rintro e w2 ⟨O, o1, o2, rfl, hb⟩
      have hk2 := Keep.mk hb
      have hs2 := hb.size
      have HO1 := HO.out.below hb
      have HO2 := Lib.hid (HO1.below ((Below.refl w2.heap.size w2).alloc (Nat.le_refl _) (.cells O 105)))
      clear hb HO1
      cases hen : isEn ⟨most, S, prt S⟩ p k with
      | false =>
        rw [hen] at HSk
        go_wp2
        go_roundg m
        case measure => omega
        case rel => exact ⟨k + 1, by simp, by omega, Lib.hid ⟨by rw [HSk.out]; simpa using HO2.out, hk0.out.trans ((hk2.out.mono hws).alloc (by omega) _)⟩⟩
      | true =>
        rw [hen] at HSk
        have HO3 := Lib.hid (HO2.out.below ((Below.refl _ _).alloc (Nat.le_refl _) (.cells #[.int .i64 (k : Int)] 3)))
        go_wp2_with (at_builtin; refine app3 rfl (.tmp 20) (.tmp 22) rfl W0.heap.size _ _ [#[.int .i64 k]] rfl HO3.out _ _ _ rfl (sl_one _ #[.int .i64 k] 3 1 _ (by simp) rfl rfl) (by have := HLn.out; simp; omega) (by simp; omega) ?_; intro v' w3 hown hbel hnil; have HWN := Lib.hid (And.intro hown hbel); clear hown hbel hnil)
        go_roundg m
        case measure => omega
        case rel => exact ⟨k + 1, by simp, by omega, Lib.hid ⟨by rw [HSk.out]; simpa [shC] using HWN.out.1, hk0.out.trans ((((hk2.out.mono hws).alloc (by omega) _).alloc (by simp; omega) _).trans (HWN.out.2))⟩⟩
end
section
open Go.RowKit
theorem MemIn.mono {R R' : Nat → Prop} {W : World} {M : Array Value} {p : Pm.Wd} (h : MemIn R W M p) (k : ∀ q, R q → R' q) : MemIn R' W M p := by
  obtain ⟨vS, vL, CS, CL, lk, h0, h1, h2, h3, h4, h5, h6, h7⟩ := h
  exact ⟨vS, vL, CS, CL, lk, h0, h1, h2, h3, h4, h5, h6, h7.mono k⟩
theorem MemIn.cut {R : Nat → Prop} {W : World} {M : Array Value} {p : Pm.Wd} (h : MemIn R W M p) : MemIn (fun g => R g ∧ g < W.heap.size) W M p := by
  obtain ⟨vS, vL, CS, CL, lk, h0, h1, h2, h3, h4, h5, h6, h7⟩ := h
  refine ⟨vS, vL, CS, CL, lk, h0, h1, h2, h3, h4, h5, h6, fun q hq => ⟨h7.s q hq, h1.lt hq⟩, fun q hq => ⟨h7.l q hq, h3.lt hq⟩, fun C hC q hq => ⟨h7.cs C hC q hq, ?_⟩, fun C hC q hq => ⟨h7.cl C hC q hq, ?_⟩⟩
  · obtain ⟨i, hi⟩ := List.mem_iff_getElem?.1 hC
    have hl : i < p.parts.length := by rw [← h2.1]; exact (List.getElem?_eq_some_iff.1 hi).1
    obtain ⟨v, rfl, hv⟩ := h2.2 i C _ hi (List.getElem?_eq_getElem hl)
    exact hv.lt (reach_two.1 hq)
  · obtain ⟨i, hi⟩ := List.mem_iff_getElem?.1 hC
    have hl : i < lk.length := by rw [← h4.1]; exact (List.getElem?_eq_some_iff.1 hi).1
    obtain ⟨v, rfl, hv⟩ := h4.2 i C _ hi (List.getElem?_eq_getElem hl)
    exact hv.lt (reach_two.1 hq)
theorem MemIn.tasks {R : Nat → Prop} {W : World} {M : Array Value} {p : Pm.Wd} (h : MemIn R W M p) (t : List Pm.Task) : MemIn R W M { p with tasks := t } := h
theorem TaskAt.upto {W W' : World} {T : Nat} {C : Array Value} {t : Pm.Task} (h : TaskAt W C t) (k : Upto T W W') (hT : ¬ Reach C T) : TaskAt W' C t := by
  obtain ⟨a, b, c, rfl, h1, h2, h3⟩ := h
  exact ⟨a, b, c, rfl, h1.upto k (fun e => hT ⟨a, by simp, e⟩), h2.upto k (fun e => hT ⟨b, by simp, e⟩), h3.upto k (fun e => hT ⟨c, by simp, e⟩)⟩
theorem TaskAt.lt {W : World} {C : Array Value} {t : Pm.Task} (h : TaskAt W C t) {q : Nat} (hq : Reach C q) : q < W.heap.size := by
  obtain ⟨a, b, c, rfl, h1, h2, h3⟩ := h
  obtain ⟨v, hv, hq⟩ := hq
  simp only [List.mem_cons, List.not_mem_nil, or_false] at hv
  rcases hv with rfl | rfl | rfl | rfl | rfl
  · exact h1.lt hq
  · cases hq
  · exact h2.lt hq
  · exact h3.lt hq
  · cases hq
theorem tasks_lt {W : World} {CT : List (Array Value)} {ts : List Pm.Task} (h : Els TaskAt W CT ts) {C : Array Value} (hC : C ∈ CT) {q : Nat} (hq : Reach C q) : q < W.heap.size := by
  obtain ⟨i, hi⟩ := List.mem_iff_getElem?.1 hC
  have hl : i < ts.length := by rw [← h.1]; exact (List.getElem?_eq_some_iff.1 hi).1
  exact (h.2 i C _ hi (List.getElem?_eq_getElem hl)).lt hq
theorem tasks_upto {W W' : World} {T : Nat} {CT : List (Array Value)} {ts : List Pm.Task} (h : Els TaskAt W CT ts) (k : Upto T W W') (hT : ∀ C ∈ CT, ¬ Reach C T) : Els TaskAt W' CT ts :=
  ⟨h.1, fun i C x hC hx => (h.2 i C x hC hx).upto k (hT C (List.mem_of_getElem? hC))⟩
/-- The world in memory; its log has n steps at most; it reaches such blocks alone. -/
def WldIn (R : Nat → Prop) (most S : Nat) (W : World) (X : Array Value) (p : Pm.Wd) (n : Nat) : Prop := ∃ (aS aL aT aG : Option Addr) (nS cS nL cL nT cT nG cG : Nat) (CT CG : List (Array Value)), X = #[.int .i64 most, .int .i64 4, .int .i64 S, .int .i64 64, .int .i64 64, .int .u64 1, .int .i64 1, .int .i64 1, .int .i64 1, .int .i64 64, .int .i64 100, .int .i64 100, .int .i64 1000, .int .i64 2, .int .i64 64, .int .i64 4, .int .i64 p.inn, .int .i64 0, .slice none 0 0, .slice none 0 0, .slice aS nS cS, .slice aL nL cL, .slice aT nT cT, .slice aG nG cG] ∧ MemIn R W (memC p.inn (.slice aS nS cS) (.slice aL nL cL)) p ∧ Sl W (.slice aT nT cT) 5 CT ∧ Els TaskAt W CT p.tasks ∧ Sl W (.slice aG nG cG) 37 CG ∧ CG.length ≤ n ∧
  (∀ q, (Value.slice aT nT cT).ownBlock = some q → R q) ∧ (∀ C ∈ CT, ∀ q, Reach C q → R q) ∧ (∀ q, (Value.slice aG nG cG).ownBlock = some q → R q)
section
variable {R R' : Nat → Prop} {most S n : Nat} {W W' : World} {X : Array Value} {p : Pm.Wd}
theorem WldIn.at (h : WldIn R most S W X p n) : WldAt most S W X p n := by
  obtain ⟨aS, aL, aT, aG, nS, cS, nL, cL, nT, cT, nG, cG, CT, CG, h0, h1, h2, h3, h4, h5, h6⟩ := h
  exact ⟨aS, aL, aT, aG, nS, cS, nL, cL, nT, cT, nG, cG, CT, CG, h0, h1.at, h2, h3, h4, h5⟩
theorem WldIn.mono (h : WldIn R most S W X p n) (k : ∀ q, R q → R' q) : WldIn R' most S W X p n := by
  obtain ⟨aS, aL, aT, aG, nS, cS, nL, cL, nT, cT, nG, cG, CT, CG, h0, h1, h2, h3, h4, h5, h6, h7, h8⟩ := h
  exact ⟨aS, aL, aT, aG, nS, cS, nL, cL, nT, cT, nG, cG, CT, CG, h0, h1.mono k, h2, h3, h4, h5, fun q hq => k q (h6 q hq), fun C hC q hq => k q (h7 C hC q hq), fun q hq => k q (h8 q hq)⟩
theorem WldIn.cut (h : WldIn R most S W X p n) : WldIn (fun g => R g ∧ g < W.heap.size) most S W X p n := by
  obtain ⟨aS, aL, aT, aG, nS, cS, nL, cL, nT, cT, nG, cG, CT, CG, h0, h1, h2, h3, h4, h5, h6, h7, h8⟩ := h
  exact ⟨aS, aL, aT, aG, nS, cS, nL, cL, nT, cT, nG, cG, CT, CG, h0, h1.cut, h2, h3, h4, h5, fun q hq => ⟨h6 q hq, h2.lt hq⟩, fun C hC q hq => ⟨h7 C hC q hq, tasks_lt h3 hC hq⟩, fun q hq => ⟨h8 q hq, h4.lt hq⟩⟩
theorem WldIn.below (h : WldIn R most S W X p n) (k : Below W.heap.size W W') : WldIn R most S W' X p n := by
  obtain ⟨aS, aL, aT, aG, nS, cS, nL, cL, nT, cT, nG, cG, CT, CG, h0, h1, h2, h3, h4, h5, h6, h7, h8⟩ := h
  exact ⟨aS, aL, aT, aG, nS, cS, nL, cL, nT, cT, nG, cG, CT, CG, h0, h1.below k, h2.below k, h3.mono fun _ _ x => x.below k, h4.below k, h5, h6, h7, h8⟩
theorem WldIn.upto {T : Nat} (h : WldIn R most S W X p n) (k : Upto T W W') (hT : ¬ R T) : WldIn R most S W' X p n := by
  obtain ⟨aS, aL, aT, aG, nS, cS, nL, cL, nT, cT, nG, cG, CT, CG, h0, h1, h2, h3, h4, h5, h6, h7, h8⟩ := h
  exact ⟨aS, aL, aT, aG, nS, cS, nL, cL, nT, cT, nG, cG, CT, CG, h0, h1.upto k hT, h2.upto k (fun e => hT (h6 _ e)), tasks_upto h3 k (fun C hC e => hT (h7 C hC _ e)), h4.upto k (fun e => hT (h8 _ e)), h5, h6, h7, h8⟩
end
/-- Calls in a slice, which lies in a cell. -/
def CallsAt (W : World) (C : Array Value) (l : List Nat) : Prop := ∃ v, C = #[v] ∧ Sl W v 12 (l.map callC)
theorem CallsAt.below {W W' : World} {C : Array Value} {l : List Nat} (h : CallsAt W C l) (k : Below W.heap.size W W') : CallsAt W' C l := by
  obtain ⟨v, h0, h1⟩ := h
  exact ⟨v, h0, h1.below k⟩
theorem mem_zero {R : Nat → Prop} {W : World} {vS vL : Value} (S : Nat) (c : Pm.Cf) (hc : c.S = S) (ls : List (List Nat)) (h1 : Sl W vS 2 (List.replicate S #[.int .i64 0, .slice none 0 0])) (h2 : Sl W vL 2 (List.replicate (S + 2) #[.int .i64 0, .slice none 0 0])) (h3 : ∀ q, vS.ownBlock = some q → R q) (h4 : ∀ q, vL.ownBlock = some q → R q) : MemIn R W (memC 0 vS vL) (Pm.zero c ls) := by
  subst hc
  have hn : ∀ C : Array Value, C = #[.int .i64 0, .slice none 0 0] → ∀ q, Reach C q → R q := fun C e q hq => by
    subst e
    have := reach_two.1 hq
    simp [Value.ownBlock] at this
  refine ⟨vS, vL, _, _, List.replicate (c.S + 2) (0, []), rfl, h1, ⟨by simp [Pm.zero], fun i C x hC hx => ?_⟩, h2, ⟨by simp, fun i C x hC hx => ?_⟩, by simp [Pm.zero], fun k x hx => ?_, h3, h4, fun C hC => hn C (List.mem_replicate.1 hC).2, fun C hC => hn C (List.mem_replicate.1 hC).2⟩
  · obtain rfl := (List.mem_replicate.1 (List.mem_of_getElem? hC)).2
    obtain rfl := (List.mem_replicate.1 (List.mem_of_getElem? hx)).2
    exact ⟨.slice none 0 0, rfl, Sl.nil _ _⟩
  · obtain rfl := (List.mem_replicate.1 (List.mem_of_getElem? hC)).2
    obtain rfl := (List.mem_replicate.1 (List.mem_of_getElem? hx)).2
    exact ⟨.slice none 0 0, rfl, Sl.nil _ _⟩
  · obtain rfl := (List.mem_replicate.1 (List.mem_of_getElem? hx)).2
    exact ⟨.nil, Nat.zero_le _, fun _ => rfl⟩
end
end Go.Proofs.YtnncjbkepakgpaaGreat
