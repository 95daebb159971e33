/-
  THE WORLD: STEPS, BY PICKS.
  CALLS ARE LAID; HOW A RUN ENDS.
-/
import Derived.Test.YtnncjbkepakgpaaGreatA07
import Derived.Test.YtnncjbkepakgpaaGreatA39
import Derived.Test.YtnncjbkepakgpaaGreatA38
import Derived.Test.YtnncjbkepakgpaaGreatA29
namespace Go.Proofs.YtnncjbkepakgpaaGreat
set_option linter.unusedVariables false
set_option linter.unusedSimpArgs false
set_option maxRecDepth 100000
set_option maxHeartbeats 1500000
section
open Go.RowKit
attribute [local go_sem ↓] exec_load_51 exec_store_51
attribute [local go_sem] run_load51r run_store51i lt_up isRng_new rngOf_new isRange_past rangeOf_past isRange_drew rangeOf_drew fits_new fits_past fits_drew setAt_new setAt_past setAt_drew putAt_whole putAt_lit extract_whole extract_lit one_int one_bool one_slice one_ptr ones_lit onesL_nil onesL_cons isRow_new rowOf_new isRow_past rowOf_past isRow_drew rowOf_drew lt2 lt3 lt4 List.take_succ_cons List.take_zero List.drop_succ_cons List.drop_zero List.cons_append List.nil_append List.length_cons List.length_nil List.size_toArray setRow_new setRow_past own_cell own_frozen own_set own_isRange own_rangeOf own_fits setAt_row sr_sr sr_size sr_row sr_row' sr_isRow sr_isRow' sr_fits' sr_cell' sr_frozen' sr_isRange' sr_rangeOf' sr_isCells isCells_new isCells_past isCells_drew valC_size valC_ones opC_size opC_ones replyC_size srs_isRange srs_rangeOf srs_fits srs_cell srs_frozen
theorem packRunW1 {p : Prop} (h : PQ p := by
  have hwho := List.getElem?_eq_some_iff.1 f1
  have hwl : who ≤ 100 := by have := hwho.1; omega
  have hcl : t.calls.length ≤ 64 := hcalls t (List.mem_of_getElem? f1)
  have HS := Lib.hid (fun (W : World) (b : Below w2.heap.size w2 W) => step_law most S who hS0 hS1 (by omega) hwl p HF.inv.np HF.inv.nl (by have := HF.few.sh; omega) (by omega) t f1 f2 o f3 f4 f5 f6 (by omega) (by omega) (by omega) f9 f10 _ X k (by omega) W (HX2.out.below b))
  exact pq (And.intro hwho (And.intro hwl (And.intro hcl HS)))) : p := h
theorem tailRunW1 {p : Prop} (h : p := by
  refine tree_one 8 (by kernel_rfl) (by kernel_rfl) ?_
  simp only [nthL]
  go_wp2_with fail
  refine (HS.out w2.drew (Below.refl w2.heap.size w2).drew).mono ?_
  rintro e w3 ⟨X3, rfl, HX3, hb⟩
  have hk3 := Keep.mk (show Below w2.heap.size w2 w3 from ((Below.refl w2.heap.size w2).drew).trans hb)
  have hX3z := HX3.at.size
  have hX3o := HX3.at.ones
  have HX3 := Lib.hid HX3
  have xc := alike (hk3.out)
  have bRc0 : isRow w3 ((w.heap.size)) 51 24 = true := (xc.1 _ _ _ bLb0).trans bRb0
  have bVc0 : rowOf w3 ((w.heap.size)) = X := (xc.2.1 _ bLb0).trans bVb0
  have bCc0 := isCells_row bRc0
  have bLc0 : (w.heap.size) < (w3).heap.size := Nat.lt_of_lt_of_le bLb0 hk3.out.size
  have bRc1 : isRow w3 ((w.heap.size + 1)) 51 24 = true := (xc.1 _ _ _ bLb1).trans bRb1
  have bVc1 : rowOf w3 ((w.heap.size + 1)) = #[.int .i64 0, .int .i64 0, .int .i64 0, .int .i64 0, .int .i64 0, .int .u64 0, .int .i64 0, .int .i64 0, .int .i64 0, .int .i64 0, .int .i64 0, .int .i64 0, .int .i64 0, .int .i64 0, .int .i64 0, .int .i64 0, .int .i64 0, .int .i64 0, .slice none 0 0, .slice none 0 0, .slice none 0 0, .slice none 0 0, .slice none 0 0, .slice none 0 0] := (xc.2.1 _ bLb1).trans bVb1
  have bCc1 := isCells_row bRc1
  have bLc1 : (w.heap.size + 1) < (w3).heap.size := Nat.lt_of_lt_of_le bLb1 hk3.out.size
  clear xc hb HS
  go_wp2
  refine chain_on (bk14) ?_
  refine tree_reads [9, 10, 11] 1 rfl (by kernel_rfl) (fun _ _ d _ _ h => by cases d <;> exact h) (bk14) ?_
  simp only [PL]
  apply reads_op
  · exact bk12
  try simp only [PT]
  apply reads_op
  · exact bk12
  try simp only [PT]
  apply reads_op
  · exact bk12
  try simp only [PT]
  refine reads_nil ?_
  refine tree_one 12 (by kernel_rfl) (by kernel_rfl) ?_
  simp only [nthL]
  go_wp2_with fail
  refine chain_on (bk14) ?_
  refine tree_end (by kernel_rfl) ?_
  go_wp2_with fail
  go_roundg m
  case measure => omega
  case rel => exact ⟨k + 1, by simp, by omega, _, z', X3, HF'.out, sr_isRow _ bRc0 hX3z, sr_row _ bCc0, (sr_isRow' w3 (w.heap.size) (w.heap.size + 1) 24 51 X3 (by omega)).trans bRc1, (sr_row' w3 (w.heap.size) (w.heap.size + 1) X3 (by omega)).trans bVc1, Lib.hid ((HX3.out.upto (upto_own (Upto.refl (w.heap.size) w3) X3) (fun e => bk57)).mono (fun q hq => bk58)), below_setRow (b2.trans (hk3.out.mono b2.size)) (Nat.le_refl _) _⟩) : p := h
theorem tailRunW2 {p : Prop} (h : p := by
  rintro e w' ⟨r, hr, rfl, rfl⟩
  obtain ⟨who, hwq⟩ : ∃ x : Nat, x = (Pm.enabled ⟨most, S, prt S⟩ p)[r] := ⟨_, rfl⟩
  have hcr : w2.cell? ⟨g2, r, none⟩ = some (.int .i64 (who : Nat)) := by rw [hwq]; exact HCell.out r hr
  have hmem : who ∈ Pm.enabled ⟨most, S, prt S⟩ p := by rw [hwq]; exact List.getElem_mem hr
  clear hwq HCell
  obtain ⟨t, o, f1, f2, f3, f4, f5, f6, f7, f8, f9, f10, f11, z', f12, f13, f14, f15⟩ := step_ready HF.inv hok hzl HF.few hmem
  obtain ⟨hwho, hwl, hcl, HS⟩ := packRunW1
  rw [← f11] at HS
  have HF' := Lib.hid (Far.mk (steps := steps) (z0 := z0) f12 f15 (by have := HF.phi; omega) (f14.trans HF.calls))
  clear f1 f2 f3 f4 f5 f6 f7 f8 f9 f10 f11 f12 f13 f14 f15 hwho hwl hcl hmem
  have hr0 : ¬ ((r : Int) < 0) := by omega
  have hr1 : (r : Int) < ((Pm.enabled ⟨most, S, prt S⟩ p).length : Int) := by omega
  have hr2 : 0 ≤ (r : Int) := by omega
  go_wp2
  refine chain_on (bk14) ?_
  refine tree_reads [6, 7] 6 rfl (by kernel_rfl) (fun _ _ d _ _ h => by cases d <;> exact h) (bk14) ?_
  simp only [PL]
  apply reads_op
  · exact bk12
  try simp only [PT]
  apply reads_op
  · exact bk12
  try simp only [PT]
  refine reads_nil ?_
  refine tree_one 0 (by kernel_rfl) (by kernel_rfl) ?_
  simp only [nthL]
  go_wp2_with fail
  refine chain_on (bk14) ?_
  exact tailRunW1) : p := h
theorem tailRunW3 {p : Prop} (h : p := by
  rintro e w' ⟨r, hr, rfl, rfl⟩
  obtain ⟨who, hwq⟩ : ∃ x : Nat, x = (Pm.enabled ⟨most, S, prt S⟩ p)[r] := ⟨_, rfl⟩
  have hcr : w2.cell? ⟨g2, r, none⟩ = some (.int .i64 (who : Nat)) := by rw [hwq]; exact HCell.out r hr
  have hmem : who ∈ Pm.enabled ⟨most, S, prt S⟩ p := by rw [hwq]; exact List.getElem_mem hr
  clear hwq HCell
  obtain ⟨t, o, f1, f2, f3, f4, f5, f6, f7, f8, f9, f10, f11, z', f12, f13, f14, f15⟩ := step_ready HF.inv hok hzl HF.few hmem
  obtain ⟨hwho, hwl, hcl, HS⟩ := packRunW1
  rw [← f11] at HS
  have HF' := Lib.hid (Far.mk (steps := steps) (z0 := z0) f12 f15 (by have := HF.phi; omega) (f14.trans HF.calls))
  clear f1 f2 f3 f4 f5 f6 f7 f8 f9 f10 f11 f12 f13 f14 f15 hwho hwl hcl hmem
  have hr0 : ¬ ((r : Int) < 0) := by omega
  have hr1 : (r : Int) < ((Pm.enabled ⟨most, S, prt S⟩ p).length : Int) := by omega
  have hr2 : 0 ≤ (r : Int) := by omega
  go_wp2
  refine chain_on (bk14) ?_
  refine tree_reads [6, 7] 5 rfl (by kernel_rfl) (fun _ _ d _ _ h => by cases d <;> exact h) (bk14) ?_
  simp only [PL]
  apply reads_op
  · exact bk12
  try simp only [PT]
  apply reads_op
  · exact bk12
  try simp only [PT]
  refine reads_nil ?_
  exact tailRunW1) : p := h
theorem drew_sizeU (w : World) : w.drew.heap.size = w.heap.size := id rfl
attribute [local go_sem high] drew_sizeU
attribute [local simp high] drew_sizeU
/-- What a step asks. -/
theorem step_ready {c : Pm.Cf} {p : Pm.Wd} {z : List Pm.Tk} (h : Pm.Inv c p z) (hc : Pm.Ok c) (hz : z.length ≤ 8) {k : Nat} (hf : Pm.Few k p) {who : Nat} (he : who ∈ Pm.enabled c p) :
    ∃ t o, p.tasks[who]? = some t ∧ t.nth < t.calls.length ∧ Pm.turn c t = .pause o ∧ NN t.got ∧ Pm.opFits c.S p o ∧ Pm.may p o = true ∧ t.got.length ≤ k ∧ t.replies.length = t.nth ∧ NN (t.got ++ [(Pm.act p who o).2]) ∧ Pm.turn c { t with got := t.got ++ [(Pm.act p who o).2] } ≠ .bad ∧ Pm.step c p who = Pm.stepWith c p who t o ∧
    ∃ z', Pm.Inv c (Pm.step c p who) z' ∧ Pm.phi c (Pm.step c p who).inn z' < Pm.phi c p.inn z ∧ z'.map (fun x => x.1.calls) = z.map (fun x => x.1.calls) ∧ Pm.Few (k + 1) (Pm.step c p who) := by
  obtain ⟨t, o, e1, e2, e3, e4, e5, e6, e7, z', e8, e9, e10⟩ := Pm.enabled_step h hc hz he
  obtain ⟨x, hx, hxl, hxm⟩ := (Pm.mem_enabled h).1 he
  have hxt := Pm.task_at h hx
  rw [e1] at hxt
  obtain rfl := Option.some.inj hxt
  obtain ⟨h1, h2, h3⟩ := h.each who x hx
  obtain ⟨h4, h5, h6⟩ := h3 hxl
  have ho : o = Pm.opOf c (Pm.me x.1) x.2 := by
    have := Pm.turn_at h4 h5
    rw [e4] at this
    cases this; rfl
  subst ho
  have g := hf.ts x.1 (List.mem_of_getElem? e1)
  exact ⟨x.1, _, e1, hxl, e4, g.2, Pm.op_fits h hc hx hxl, e5, g.1, h2, fun n hn => by
    rcases List.mem_append.1 hn with hn | hn
    · exact g.2 n hn
    · exact Pm.act_nn h _ n (List.mem_singleton.1 hn).symm, e7 _ rfl, e6, z', e8, e9, e10, hf.step h hc hz he⟩
theorem all_fine {c : Pm.Cf} {p : Pm.Wd} {z : List Pm.Tk} (h : Pm.Inv c p z) (hc : Pm.Ok c) {k : Nat} (hf : Pm.Few k p) : ∀ (i : Nat) (t : Pm.Task), p.tasks[i]? = some t → Fine c p t := by
  intro i t ht
  obtain ⟨x, hx, rfl⟩ := Pm.task_of h ht
  obtain ⟨h1, h2, h3⟩ := h.each i x hx
  refine ⟨h1, (hf.ts x.1 (List.mem_of_getElem? ht)).2, ?_⟩
  by_cases hl : Pm.live x
  · obtain ⟨h4, h5, h6⟩ := h3 hl
    exact .inr ⟨by rw [Pm.over_live]; simp [hl], _, Pm.turn_at h4 h5, Pm.op_fits h hc hx hl⟩
  · exact .inl (by rw [Pm.over_live]; simp [hl])
theorem none_on {c : Pm.Cf} {p : Pm.Wd} {z : List Pm.Tk} (h : Pm.Inv c p z) (h0 : Pm.phi c p.inn z = 0) : Pm.enabled c p = [] := by
  rw [List.eq_nil_iff_forall_not_mem]
  intro who he
  obtain ⟨x, hx, hl, _⟩ := (Pm.mem_enabled h).1 he
  exact Pm.phi_zero h0 hx hl
/-- How far a run is: k steps were done. -/
structure Far (most S steps : Nat) (z0 : List Pm.Tk) (p : Pm.Wd) (z : List Pm.Tk) (k : Nat) : Prop where
  inv : Pm.Inv ⟨most, S, prt S⟩ p z
  few : Pm.Few k p
  phi : Pm.phi ⟨most, S, prt S⟩ p.inn z + k ≤ steps
  calls : z.map (fun x => x.1.calls) = z0.map (fun x => x.1.calls)
theorem pick_at {W : World} {v : Value} {L : List Int} (h : Sl W v 1 (L.map fun x => #[.int .i64 x])) {k : Nat} (hk : k < L.length) : ∃ g o cap, v = .slice (some ⟨g, o, none⟩) L.length cap ∧ g < W.heap.size ∧ W.cell? ⟨g, o + k, none⟩ = some (.int .i64 L[k]) := by
  obtain ⟨a, cap, rfl, h1, h2, h3⟩ := h
  rcases h3 with ⟨_, h3⟩ | ⟨g, o, rfl, hg, h3⟩
  · simp at h3; subst h3; simp at hk
  · have := h3 k #[.int .i64 L[k]] (by simp [hk])
    have hc := this.cell (k := 0) (v := .int .i64 L[k]) (by simp)
    refine ⟨g, o, cap, by simp, hg, by simpa using hc⟩
/-- Picks: a slice of numbers (an empty one may point anywhere). -/
def Pk (W : World) (v : Value) (L : List Int) : Prop := (∃ a c, v = .slice a L.length c) ∧ (0 < L.length → Sl W v 1 (L.map fun x => #[.int .i64 x]))
theorem Pk.below {W W' : World} {v : Value} {L : List Int} (h : Pk W v L) (k : Below W.heap.size W W') : Pk W' v L := ⟨h.1, fun h0 => (h.2 h0).below k⟩
theorem Pk.of {W : World} {v : Value} {L : List Int} (h : Sl W v 1 (L.map fun x => #[.int .i64 x])) : Pk W v L := by
  refine ⟨?_, fun _ => h⟩
  obtain ⟨a, c, rfl, -⟩ := h
  exact ⟨a, c, by simp⟩
theorem on_at {W : World} {B : Nat} {v : Value} {L : List Nat} (h : Own W B 3 1 v (L.map shC)) (hL : L ≠ []) : ∃ g cap, v = .slice (some ⟨g, 0, none⟩) L.length cap ∧ g < W.heap.size ∧ B ≤ g ∧ ∀ k (hk : k < L.length), W.cell? ⟨g, k, none⟩ = some (.int .i64 (L[k] : Nat)) := by
  have hb := h
  obtain ⟨⟨h1, h2⟩, h3⟩ := h
  rcases h2 with ⟨rfl, h2⟩ | ⟨g, cap, cur, rfl, h4, h5, h6, h7, h8, h9⟩
  · have : L.map shC = [] := List.eq_nil_of_length_eq_zero h2
    simp at this; exact absurd this hL
  · have hg := (Array.getElem?_eq_some_iff.1 h5).1
    refine ⟨g, cap, by simp, hg, h4, fun k hk => ?_⟩
    have hs := hb.sl
    obtain ⟨a', cap', e, _, _, hh⟩ := hs
    simp only [Value.slice.injEq] at e
    obtain ⟨rfl, -, -⟩ := e
    rcases hh with ⟨hh, _⟩ | ⟨g', o', e2, _, hh⟩
    · cases hh
    · simp only [Option.some.injEq, Addr.mk.injEq] at e2
      obtain ⟨rfl, rfl, -⟩ := e2
      have := hh k (shC L[k]) (by simp [hk])
      have hc := this.cell (k := 0) (v := .int .i64 (L[k] : Nat)) (by simp [shC])
      simpa using hc
def RunEnd (R : Nat → Prop) (most S steps : Nat) (z0 : List Pm.Tk) (w : World) (e : Ending) (w' : World) : Prop := ∃ X p z k, e = .returned (.agg X) ∧ WldIn (fun g => R g ∨ w.heap.size ≤ g) most S w' X p k ∧ Far most S steps z0 p z k ∧ Pm.enabled ⟨most, S, prt S⟩ p = [] ∧ k ≤ steps ∧ Below w.heap.size w w'
/-- world.Run. -/
theorem run_law (most S steps : Nat) (hS0 : 1 ≤ S) (hS1 : S ≤ 8) (hmost : most ≤ 19) (hst : steps ≤ 3000) (p0 : Pm.Wd) (z0 : List Pm.Tk) (hF0 : Far most S steps z0 p0 z0 0) (hz0 : z0.length ≤ 8) (hc0 : ∀ x ∈ z0, x.1.calls.length ≤ 64) (picks : List Int) (hpk : ∀ x ∈ picks, -9223372036854775808 ≤ x ∧ x ≤ 9223372036854775807) (v : Value) (R : Nat → Prop) (X0 : Array Value) (w : World) (hv : Pk w v picks) (h : WldIn R most S w X0 p0 0) :
    Calls Tryz.prog 9 #[.agg X0, v, .int .i64 steps] w (RunEnd R most S steps z0 w) := by
  have hok : Pm.Ok ⟨most, S, prt S⟩ := ⟨hS0, hmost, fun m => prt_lt S m hS0 hS1⟩
  have HV := Lib.hid hv
  have HPK := Lib.hid hpk
  have hX0z := h.at.size
  have hX0o := h.at.ones
  have H := Lib.hid h.cut
  obtain ⟨⟨ap, cp, rfl⟩, -⟩ := id hv
  clear hv h hpk
  go_enter Tryz.func9, Tryz.ntmps9
  go_wp2
  go_loopg [7] steps (fun g s7 wr => ∃ k : Nat, s7 = .int .i64 k ∧ k + g = steps ∧ ∃ p z X, Far most S steps z0 p z k ∧ isRow wr (w.heap.size) 51 24 = true ∧ rowOf wr (w.heap.size) = X ∧ isRow wr (w.heap.size + 1) 51 24 = true ∧ rowOf wr (w.heap.size + 1) = #[.int .i64 0, .int .i64 0, .int .i64 0, .int .i64 0, .int .i64 0, .int .u64 0, .int .i64 0, .int .i64 0, .int .i64 0, .int .i64 0, .int .i64 0, .int .i64 0, .int .i64 0, .int .i64 0, .int .i64 0, .int .i64 0, .int .i64 0, .int .i64 0, .slice none 0 0, .slice none 0 0, .slice none 0 0, .slice none 0 0, .slice none 0 0, .slice none 0 0] ∧ Hid (WldIn (fun g => (R g ∧ g < w.heap.size) ∨ w.heap.size + 1 < g) most S wr X p k) ∧ Below w.heap.size w wr)
  case atStart =>
    exact ⟨0, rfl, by omega, p0, z0, X0, hF0, by go_simp, by go_simp, by go_simp, by go_simp, Lib.hid ((H.out.below ((Below.refl _ _).alloc (Nat.le_refl _) _)).below ((Below.refl _ _).alloc (Nat.le_refl _) _) |>.mono fun q hq => .inl hq), bk5⟩
  case round =>
    obtain ⟨k, rfl, hg, p, z, X, HF, bRa0, bVa0, bRa1, bVa1, HX, HB⟩ := hrel
    have bCa0 := isCells_row bRa0
    have bCa1 := isCells_row bRa1
    have bLa0 : (w.heap.size) < wr.heap.size := row_lt bRa0
    have bLa1 : (w.heap.size + 1) < wr.heap.size := row_lt bRa1
    have hXz := HX.out.at.size
    have hXo := HX.out.at.ones
    have hzl : z.length ≤ 8 := by have := congrArg List.length HF.calls; simp at this; omega
    have htl : p.tasks.length = z.length := by rw [HF.inv.ts]; simp
    have hcalls : ∀ t ∈ p.tasks, t.calls.length ≤ 64 := fun t ht => by
      rw [HF.inv.ts] at ht
      obtain ⟨x, hx, rfl⟩ := List.mem_map.1 ht
      have : x.1.calls ∈ z0.map (fun x => x.1.calls) := by rw [← HF.calls]; exact List.mem_map.2 ⟨x, hx, rfl⟩
      obtain ⟨y, hy, e⟩ := List.mem_map.1 this
      rw [← e]; exact hc0 y hy
    clear hF0 H hX0z hX0o
    cases gk with
    | zero =>
      have hk : ¬ ((k : Int) < (steps : Int)) := by omega
      have hon := none_on HF.inv (by have := HF.phi; omega)
      have hon := Lib.hid hon
      have q0 : isRow (wr.setRow (w.heap.size + 1) X) (w.heap.size + 1) 51 24 = true := sr_isRow _ bRa1 hXz
      go_wp2
      refine bodyPost_ret (v := .agg X) (res_row (t := 51) Tryz.results9 _ _ _ rfl ?_ ?_ info51 agg51) rfl ?_
      · go_simp
      · go_simp
      exact ⟨_, p, z, k, rfl, (HX.out.upto (upto_own (Upto.refl (w.heap.size + 1) wr) X) (fun e => by rcases e with ⟨_, e⟩ | e <;> omega)).mono (fun q hq => hq.imp (fun h => h.1) (fun h => by omega)), HF, hon.out, by omega, below_setRow HB (Nat.le_succ _) _⟩
    | succ m =>
      have hk : (k : Int) < (steps : Int) := by omega
      have HE := Lib.hid (fun (W : World) (b : Below wr.heap.size wr W) => enabled_law most S hS0 hS1 (by omega) p HF.inv.np HF.inv.nl (all_fine HF.inv hok HF.few) (by omega) X k W (HX.out.at.below b))
      go_wp2_with fail
      refine (HE.out wr (Below.refl _ _)).mono ?_
      rintro e w2 ⟨v2, rfl, hO, hb⟩
      have hsz2 := hb.size
      have HX2 := Lib.hid (HX.out.below hb)
      have b2 : Below w.heap.size w w2 := HB.trans (hb.mono HB.size)
      have xb := alike (hb)
      have bRb0 : isRow w2 ((w.heap.size)) 51 24 = true := (xb.1 _ _ _ bLa0).trans bRa0
      have bVb0 : rowOf w2 ((w.heap.size)) = X := (xb.2.1 _ bLa0).trans bVa0
      have bCb0 := isCells_row bRb0
      have bLb0 : (w.heap.size) < (w2).heap.size := Nat.lt_of_lt_of_le bLa0 hsz2
      have bRb1 : isRow w2 ((w.heap.size + 1)) 51 24 = true := (xb.1 _ _ _ bLa1).trans bRa1
      have bVb1 : rowOf w2 ((w.heap.size + 1)) = #[.int .i64 0, .int .i64 0, .int .i64 0, .int .i64 0, .int .i64 0, .int .u64 0, .int .i64 0, .int .i64 0, .int .i64 0, .int .i64 0, .int .i64 0, .int .i64 0, .int .i64 0, .int .i64 0, .int .i64 0, .int .i64 0, .int .i64 0, .int .i64 0, .slice none 0 0, .slice none 0 0, .slice none 0 0, .slice none 0 0, .slice none 0 0, .slice none 0 0] := (xb.2.1 _ bLa1).trans bVa1
      have bCb1 := isCells_row bRb1
      have bLb1 : (w.heap.size + 1) < (w2).heap.size := Nat.lt_of_lt_of_le bLa1 hsz2
      clear xb hb HE bRa0 bVa0 bCa0 bRa1 bVa1 bCa1 HX
      by_cases hne : Pm.enabled ⟨most, S, prt S⟩ p = []
      · have hsl := hO.sl
        obtain ⟨a2, c2, rfl, -⟩ := hsl
        have hl0 : ((Pm.enabled ⟨most, S, prt S⟩ p).map shC).length = 0 := by rw [hne]; rfl
        have hon := Lib.hid hne
        rw [hl0]
        clear hne hO hl0
        have q0 : isRow (w2.setRow (w.heap.size + 1) X) (w.heap.size + 1) 51 24 = true := sr_isRow _ bRb1 hXz
        go_wp2
        refine bodyPost_ret (v := .agg X) (res_row (t := 51) Tryz.results9 _ _ _ rfl ?_ ?_ info51 agg51) rfl ?_
        · go_simp
        · go_simp
        exact ⟨_, p, z, k, rfl, (HX2.out.upto (upto_own (Upto.refl (w.heap.size + 1) w2) X) (fun e => by rcases e with ⟨_, e⟩ | e <;> omega)).mono (fun q hq => hq.imp (fun h => h.1) (fun h => by omega)), HF, hon.out, by omega, below_setRow b2 (Nat.le_succ _) _⟩
      · obtain ⟨g2, c2, rfl, hg2, hgB, hcell⟩ := on_at hO hne
        have hlen1 : 1 ≤ (Pm.enabled ⟨most, S, prt S⟩ p).length := by
          have := List.length_pos_iff.2 hne; omega
        have hlen2 : (Pm.enabled ⟨most, S, prt S⟩ p).length ≤ 8 := by
          have := enTo_len ⟨most, S, prt S⟩ p p.tasks.length
          rw [enTo_all] at this; omega
        have hlen3 : (((Pm.enabled ⟨most, S, prt S⟩ p).length : Int) == 0) = false := by
          rw [beq_eq_false_iff_ne]; omega
        have hlen4 : ¬ (((Pm.enabled ⟨most, S, prt S⟩ p).length : Int) = 0) := by omega
        clear hO
        have HCell := Lib.hid hcell
        clear hcell
        have hne' := Lib.hid hne
        have hgN0 : ¬ (g2 = w.heap.size) := by omega
        have hgN1 : g2 ≠ w.heap.size := by omega
        clear hne
        by_cases hp : k < picks.length
        · obtain ⟨gp, op, cp', ep, hgp, hcp⟩ := pick_at (HV.out.2 (by omega)) hp
          simp only [Value.slice.injEq] at ep
          obtain ⟨rfl, -, rfl⟩ := ep
          have hcp2 : w2.cell? ⟨gp, op + k, none⟩ = some (.int .i64 picks[k]) := by rw [b2.cell (p := ⟨gp, op + k, none⟩) hgp]; exact hcp
          have hx0 := HPK.out picks[k] (List.getElem_mem hp)
          have hpi : (k : Int) < (picks.length : Int) := by omega
          have hk0 : ¬ ((k : Int) < 0) := by omega
          have hk1 : 0 ≤ (k : Int) := by omega
          generalize picks[k] = x0 at *
          clear hcp
          go_wp2
          refine region_tree (Upto (w.heap.size) w2) [1, 2, 3, 4] 9 (by kernel_rfl) (by kernel_rfl) (fun _ _ d _ _ h => by cases d <;> exact h) (Upto.refl _ _).drew ?_
          simp only [PL]
          apply reads_op
          · exact bk12
          try simp only [PT]
          apply reads_op
          · exact bk12
          try simp only [PT]
          apply reads_op
          · exact bk12
          try simp only [PT]
          apply reads_op
          · exact bk12
          try simp only [PT]
          refine reads_nil ?_
          refine tree_two 0 5 (by kernel_rfl) (by kernel_rfl) (by kernel_rfl) ?_ ?_
          · simp only [nthL]
            go_wp2_with fail
            refine chain_on (bk14) ?_
            refine tree_one 5 (by kernel_rfl) (by kernel_rfl) ?_
            simp only [nthL]
            go_wp2_with fail
            refine (around_law x0 hx0 (Pm.enabled ⟨most, S, prt S⟩ p).length hlen1 (by omega) _).mono ?_
            exact tailRunW3
          · simp only [nthL]
            go_wp2_with fail
            refine (around_law x0 hx0 (Pm.enabled ⟨most, S, prt S⟩ p).length hlen1 (by omega) _).mono ?_
            exact tailRunW2
        · have hpi : ¬ ((k : Int) < (picks.length : Int)) := by omega
          have hx0 : -9223372036854775808 ≤ (0 : Int) ∧ (0 : Int) ≤ 9223372036854775807 := by omega
          go_wp2
          refine region_tree (Upto (w.heap.size) w2) [1, 2, 3, 4] 9 (by kernel_rfl) (by kernel_rfl) (fun _ _ d _ _ h => by cases d <;> exact h) (Upto.refl _ _).drew ?_
          simp only [PL]
          apply reads_op
          · exact bk12
          try simp only [PT]
          apply reads_op
          · exact bk12
          try simp only [PT]
          apply reads_op
          · exact bk12
          try simp only [PT]
          apply reads_op
          · exact bk12
          try simp only [PT]
          refine reads_nil ?_
          refine tree_two 0 5 (by kernel_rfl) (by kernel_rfl) (by kernel_rfl) ?_ ?_
          · simp only [nthL]
            go_wp2_with fail
            refine chain_on (bk14) ?_
            refine tree_one 5 (by kernel_rfl) (by kernel_rfl) ?_
            simp only [nthL]
            go_wp2_with fail
            refine (around_law 0 hx0 (Pm.enabled ⟨most, S, prt S⟩ p).length hlen1 (by omega) _).mono ?_
            exact tailRunW3
          · simp only [nthL]
            go_wp2_with fail
            refine (around_law 0 hx0 (Pm.enabled ⟨most, S, prt S⟩ p).length hlen1 (by omega) _).mono ?_
            exact tailRunW2
end
section
open Go.RowKit
attribute [local go_sem ↓] exec_load_29 exec_store_29 exec_load_36 exec_store_36
attribute [local go_sem] run_load29r run_store29i run_load36r run_store36i lt_up isRng_new rngOf_new isRange_past rangeOf_past isRange_drew rangeOf_drew fits_new fits_past fits_drew setAt_new setAt_past setAt_drew putAt_whole putAt_lit extract_whole extract_lit one_int one_bool one_slice one_ptr ones_lit onesL_nil onesL_cons isRow_new rowOf_new isRow_past rowOf_past isRow_drew rowOf_drew lt2 lt3 lt4 List.take_succ_cons List.take_zero List.drop_succ_cons List.drop_zero List.cons_append List.nil_append List.length_cons List.length_nil List.size_toArray setRow_new setRow_past own_cell own_frozen own_set own_isRange own_rangeOf own_fits setAt_row sr_sr sr_size sr_row sr_row' sr_isRow sr_isRow' sr_fits' sr_cell' sr_frozen' sr_isRange' sr_rangeOf' sr_isCells isCells_new isCells_past isCells_drew valC_size valC_ones opC_size opC_ones replyC_size srs_isRange srs_rangeOf srs_fits srs_cell srs_frozen
theorem drew_sizeY (w : World) : w.drew.heap.size = w.heap.size := id rfl
attribute [local go_sem high] drew_sizeY
attribute [local simp high] drew_sizeY
theorem plain_law (w : World) : Calls Tryz.prog 6 #[] w fun e w' => e = .returned (.agg (#[.int .i64 8, .int .i64 4, .int .i64 4, .int .i64 64, .int .i64 64, .int .u64 1, .int .i64 1, .int .i64 1, .int .i64 1, .int .i64 1, .int .i64 100, .int .i64 100, .int .i64 1000, .int .i64 2, .int .i64 64, .int .i64 4])) ∧ Below w.heap.size w w' := by
  go_enter Tryz.func6, Tryz.ntmps6
  go_wp2
  refine bodyPost_ret (v := .agg (#[.int .i64 8, .int .i64 4, .int .i64 4, .int .i64 64, .int .i64 64, .int .u64 1, .int .i64 1, .int .i64 1, .int .i64 1, .int .i64 1, .int .i64 100, .int .i64 100, .int .i64 1000, .int .i64 2, .int .i64 64, .int .i64 4])) (res_row (t := 29) Tryz.results6 _ _ _ rfl ?_ ?_ info29 agg29) rfl ?_
  · go_simp
  · go_simp
  exact ⟨rfl, bk5⟩
theorem end_law (i : Nat) (hi : i < 16) (w : World) : Calls Tryz.prog 7 #[.int .i64 i] w fun e w' => e = .returned (.agg (#[.bool false, .int .u64 0, .int .u64 (loOf i), .int .i64 80])) ∧ Below w.heap.size w w' := by
  have h0 : 0 ≤ (i : Int) := by omega
  have h1 : (i : Int) < 16 := by omega
  have e1 : IntKind.u64.wrap (i : Int) = (i : Int) := by rw [IntKind.wrap_u64]; omega
  have e2 : IntKind.u64.wrap ((i : Int) * 65536) = (i : Int) * 65536 := by rw [IntKind.wrap_u64]; omega
  have e3 : IntKind.u64.wrap (167772161 + (i : Int) * 65536) = loOf i := by rw [IntKind.wrap_u64]; unfold loOf Pm.kOf; omega
  go_enter Tryz.func7, Tryz.ntmps7
  go_wp2
  refine bodyPost_ret (v := .agg (#[.bool false, .int .u64 0, .int .u64 (loOf i), .int .i64 80])) (res_row (t := 36) Tryz.results7 _ _ _ rfl ?_ ?_ info36 agg36) rfl ?_
  · go_simp
  · go_simp
  exact ⟨rfl, bk5⟩
theorem own_one (w : World) (B : Nat) (hB : B ≤ w.heap.size) (C : Array Value) (t : TypeId) (n : Nat) (hn : C.size = n) (h1 : ones C = true) : Own (w.alloc (.cells C t)) B t n (.slice (some ⟨w.heap.size, 0, none⟩) 1 1) [C] := by
  have hf : flat [C] = C.toList := by simp [flat]
  refine ⟨?_, fun D hD => by rw [List.mem_singleton.1 hD]; exact ⟨hn, h1⟩⟩
  rw [hf]
  exact ⟨by simp [hn], .inr ⟨w.heap.size, 1, C, by simp, hB, (MapKept.heap_alloc w _).1, by simp, by unfold maxLen; omega, by simp [hn], by rw [List.take_of_length_le (by simp [hn])]⟩⟩
theorem sl_built (w : World) (L : List Int) (m : Nat) (hm : L.length = m) (hl : m ≤ 1000) : Sl (w.alloc (.cells (L.map (Value.int .i64)).toArray 3)) (.slice (some ⟨w.heap.size, 0, none⟩) m m) 1 (L.map fun x => #[.int .i64 x]) := by
  subst hm
  refine ⟨_, L.length, by simp, by simp, by unfold maxLen; omega, .inr ⟨w.heap.size, 0, rfl, by simp, fun i C hC => ?_⟩⟩
  rw [List.getElem?_map] at hC
  obtain ⟨x, hx, rfl⟩ := Option.map_eq_some_iff.1 hC
  have hcell : (w.alloc (.cells (L.map (Value.int .i64)).toArray 3)).cell? ⟨w.heap.size, i, none⟩ = some (.int .i64 x) := by
    rw [cell_of_row _ _ _ _ 3 (0, 0) (MapKept.heap_alloc w _).1]; simp [hx]
  have hr := range_of (W := w.alloc (.cells (L.map (Value.int .i64)).toArray 3)) (p := ⟨w.heap.size, 0 + i * 1, none⟩) (cs := [.int .i64 x]) (n := 1) rfl (fun k v hv => by
    cases k with
    | zero => simp at hv; subst hv; simpa [addr_add] using hcell
    | succ k => simp at hv)
  exact ⟨by simp, hr.1, hr.2, rfl⟩
/-- Calls in a row of their own, the slice in a cell. -/
def CA (W : World) (B : Nat) (C : Array Value) (l : List Nat) : Prop := ∃ v, C = #[v] ∧ Own W B 41 12 v (l.map callC)
theorem CA.calls {W : World} {B : Nat} {C : Array Value} {l : List Nat} (h : CA W B C l) : CallsAt W C l := by
  obtain ⟨v, h0, h1⟩ := h
  exact ⟨v, h0, h1.sl⟩
theorem CA.below {W W' : World} {B : Nat} {C : Array Value} {l : List Nat} (h : CA W B C l) (k : Below W.heap.size W W') : CA W' B C l := by
  obtain ⟨v, h0, h1⟩ := h
  exact ⟨v, h0, h1.below k⟩
theorem CA.beside {W W' : World} {B B' : Nat} {C : Array Value} {l : List Nat} {v : Value} {L : List (Array Value)} (h : CA W B C l) (h' : Own W B' 32 1 v L) (hw : ∀ q, q < W.heap.size → v.ownBlock ≠ some q → W'.heap[q]? = W.heap[q]?) : CA W' B C l := by
  obtain ⟨v, h0, h⟩ := h
  exact ⟨v, h0, h.beside h' (by decide) hw⟩
theorem callC_at (i : Nat) (hi : i < 16) : callC i = #[.int .i64 1, .bool false, .int .u64 0, .int .u64 (loOf i), .int .i64 80, .bool false, .int .u64 0, .int .u64 0, .int .i64 0, .int .i64 i, .int .i64 0, .bool false] := by
  unfold callC Pm.tOf; rw [if_pos hi]
theorem callC_zero (i : Nat) (hi : i < 16) : callC (16 + i) = #[.int .i64 1, .bool false, .int .u64 0, .int .u64 (loOf i), .int .i64 80, .bool false, .int .u64 0, .int .u64 0, .int .i64 0, .int .i64 0, .int .i64 0, .bool false] := by
  have e : loOf (16 + i) = loOf i := by unfold loOf Pm.kOf; omega
  unfold callC Pm.tOf; rw [if_neg (by omega), e]; rfl
/-- What a run of a new world ends with. -/
structure Ran (most S : Nat) (ls : List (List Nat)) (W : World) (X : Array Value) : Prop where
  out : ∃ (aS aL aT aG : Option Addr) (nS cS nL cL nT cT nG cG : Nat) (CS CT : List (Array Value)) (p : Pm.Wd), X = #[.int .i64 most, .int .i64 4, .int .i64 S, .int .i64 64, .int .i64 64, .int .u64 1, .int .i64 1, .int .i64 1, .int .i64 1, .int .i64 64, .int .i64 100, .int .i64 100, .int .i64 1000, .int .i64 2, .int .i64 64, .int .i64 4, .int .i64 p.inn, .int .i64 0, .slice none 0 0, .slice none 0 0, .slice aS nS cS, .slice aL nL cL, .slice aT nT cT, .slice aG nG cG] ∧ Sl W (.slice aS nS cS) 2 CS ∧ Els ShardAt W CS p.parts ∧ Sl W (.slice aT nT cT) 5 CT ∧ Els TaskAt W CT p.tasks ∧
    p.parts.length = S ∧ p.tasks.length = ls.length ∧ (∀ (i : Nat) (t : Pm.Task), p.tasks[i]? = some t → Pm.over t = true ∧ t.nth ≤ t.calls.length ∧ t.replies.length ≤ 64) ∧ (∀ (i : Nat) (q : Nat × List Nat), p.parts[i]? = some q → q.1 = q.2.length) ∧
    p.inn = (min (ls.map List.length).sum most : Nat) ∧ (p.parts.map fun q => q.2.length).sum = min (ls.map List.length).sum most ∧ (p.tasks.map fun t => t.replies.count true).sum = min (ls.map List.length).sum most ∧ (p.tasks.map fun t => t.replies.count false).sum = (ls.map List.length).sum - min (ls.map List.length).sum most
theorem far_zero {most S steps : Nat} {ls : List (List Nat)} (hok : Pm.Ok ⟨most, S, prt S⟩) (ha : ∀ (i : Nat) (l : List Nat) (k j : Nat) (m : List Nat) (n : Nat), ls[i]? = some l → ls[j]? = some m → k < l.length → n < m.length → ¬ (i = j ∧ k = n) → Pm.kOf (l.getD k 0) ≠ Pm.kOf (m.getD n 0)) (hph : (ls.map List.length).sum * (most + Pm.full1 ⟨most, S, prt S⟩ + 5) + 16 * most ≤ steps) : Far most S steps (Pm.zeroZ ls) (Pm.zero ⟨most, S, prt S⟩ ls) (Pm.zeroZ ls) 0 :=
  ⟨Pm.zero_inv hok ls ha, Pm.Few.zero _ ls, Nat.le_trans (Pm.zero_phi ls) hph, rfl⟩
theorem ran_of {R : Nat → Prop} {most S steps k : Nat} {ls : List (List Nat)} {W : World} {X : Array Value} {p : Pm.Wd} {z : List Pm.Tk} (hok : Pm.Ok ⟨most, S, prt S⟩) (hl : ∀ l ∈ ls, l.length ≤ 64) (h : WldIn R most S W X p k) (hF : Far most S steps (Pm.zeroZ ls) p z k) (hon : Pm.enabled ⟨most, S, prt S⟩ p = []) : Ran most S ls W X := by
  obtain ⟨aS, aL, aT, aG, nS, cS, nL, cL, nT, cT, nG, cG, CT, CG, h0, ⟨vS, vL, CS, CL, lk, e0, e1, e2, -⟩, h2, h3, -⟩ := h
  unfold memC at e0
  simp only [Array.mk.injEq, List.cons.injEq, true_and, and_true] at e0
  obtain ⟨rfl, rfl⟩ := e0
  have hres := Pm.result hF.inv hok (fun i x hx => Pm.all_over hF.inv hok hon hx)
  obtain ⟨r1, r2, r3, r4, r5, r6⟩ := hres
  have hts : p.tasks.map (fun t => t.calls) = ls := by
    have e1 : p.tasks.map (fun t => t.calls) = z.map (fun x => x.1.calls) := by rw [hF.inv.ts, List.map_map]; rfl
    rw [e1, hF.calls]
    simp [Pm.zeroZ, Function.comp_def]
  have hsum : (p.tasks.map fun t => t.calls.length).sum = (ls.map List.length).sum := by
    rw [← hts, List.map_map]; rfl
  rw [hsum] at r3 r4
  refine ⟨aS, aL, aT, aG, nS, cS, nL, cL, nT, cT, nG, cG, CS, CT, p, h0, e1, e2, h2, h3, hF.inv.np, by rw [← hts]; simp, fun i t ht => ?_, fun i q hq => ?_, by rw [r2, r3], by rw [r5, r3], r3, by rw [r4, r3]⟩
  · obtain ⟨g1, g2⟩ := r1 i t ht
    have hc : t.calls ∈ ls := by rw [← hts]; exact List.mem_map.2 ⟨t, List.mem_of_getElem? ht, rfl⟩
    obtain ⟨x, hx, rfl⟩ := Pm.task_of hF.inv ht
    have := (hF.inv.each i x hx).1
    have := hl _ hc
    exact ⟨g1, by omega, by omega⟩
  · have hi := (List.getElem?_eq_some_iff.1 hq).1
    have := r6 i (by have := hF.inv.np; omega)
    have e : Pm.partOf p i = q := by unfold Pm.partOf; rw [List.getD_eq_getElem?_getD, hq]; rfl
    unfold Pm.lenOf at this
    rw [e] at this
    exact this
theorem Ran.below {most S : Nat} {ls : List (List Nat)} {W W' : World} {X : Array Value} (h : Ran most S ls W X) (k : Below W.heap.size W W') : Ran most S ls W' X := by
  obtain ⟨aS, aL, aT, aG, nS, cS, nL, cL, nT, cT, nG, cG, CS, CT, p, h0, h1, h2, h3, h4, h5⟩ := h.out
  exact ⟨aS, aL, aT, aG, nS, cS, nL, cL, nT, cT, nG, cG, CS, CT, p, h0, h1.below k, h2.mono fun _ _ x => x.below k, h3.below k, h4.mono fun _ _ x => x.below k, h5⟩
end
end Go.Proofs.YtnncjbkepakgpaaGreat
