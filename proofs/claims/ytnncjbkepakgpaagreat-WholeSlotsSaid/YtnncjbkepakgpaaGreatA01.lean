/-
  WHAT THE PROGRAM DOES, IN PLAIN LEAN: calls that accept, as functions of the values that they were told; locks, counters, parts; tasks; the world's steps.
  WHERE A CALL THAT ACCEPTS IS, IN PLAIN LEAN: its positions, what it asks there, and where it is behind the answer.
  ACCEPTS AT ONCE, IN PLAIN LEAN: what stays true, whoever steps.
-/
set_option linter.unusedVariables false
set_option linter.unusedSimpArgs false
namespace Go.Proofs.YtnncjbkepakgpaaGreat.Pm
/-- A caller's number: below 16: end number c, at tick c; from 16 on: end number c - 16, at tick 0. -/
def kOf (c : Nat) : Nat := c % 16
def tOf (c : Nat) : Nat := if c < 16 then c else 0
inductive Val | num (n : Int) | who (c : Nat)
  deriving DecidableEq
inductive Op
  | lock (k : Nat) | share | free (k : Nat) (m : Bool) | drop
  | bans | inn | size (p : Nat) | slot (p i : Nat) | wslot (p i c : Nat) | wsize (p n : Nat) | swap (n : Int)
  deriving DecidableEq
inductive Res (α : Type) | done (a : α) (r : List Val) | pause (o : Op) | bad
/-- A code, as a function of what it is told. -/
abbrev Tp (α : Type) := List Val → Res α
def ret {α : Type} (a : α) : Tp α := fun l => .done a l
def no {α : Type} : Tp α := fun _ => .bad
def ask (o : Op) : Tp Val
  | [] => .pause o
  | v :: r => .done v r
def bnd {α β : Type} (m : Tp α) (f : α → Tp β) : Tp β := fun l => match m l with
  | .done a r => f a r
  | .pause o => .pause o
  | .bad => .bad
/-- The rest of a part is read: m slots, behind those of acc. -/
def readFrom (p : Nat) : Nat → List Nat → Tp (List Nat)
  | 0, acc => ret acc
  | m + 1, acc => bnd (ask (.slot p acc.length)) fun
    | .who c => readFrom p m (acc ++ [c])
    | .num _ => no
def read (p : Nat) : Tp (List Nat) := bnd (ask (.size p)) fun
  | .num n => if 0 ≤ n ∧ n ≤ 19 then readFrom p n.toNat [] else no
  | .who _ => no
/-- A slot is taken, or none is left. -/
def reserve (most : Int) : Tp Bool
  | [] => .pause .inn
  | .who _ :: _ => .bad
  | .num n :: r => if most ≤ n then .done false r else
    match r with
    | [] => .pause (.swap n)
    | s :: r' => if s = .num 1 then .done true r' else reserve most r'
def has (me : Nat) (l : List Nat) : Bool := l.any fun c => kOf c == kOf me
def lockFrom : Nat → Nat → Tp Unit
  | 0, _ => ret ()
  | m + 1, j => bnd (ask (.lock (2 + j))) fun _ => lockFrom m (j + 1)
def freeTo (S : Nat) : Nat → Tp Unit
  | 0 => ret ()
  | i + 1 => bnd (ask (.free (2 + i) (i + 1 == S))) fun _ => freeTo S i
def readRest : Nat → Nat → List (List Nat) → Tp (List (List Nat))
  | 0, _, acc => ret acc
  | m + 1, j, acc => bnd (read j) fun l => readRest m (j + 1) (acc ++ [l])
structure Cf where
  most : Nat
  S : Nat
  prt : Nat → Nat
def quick (n me : Nat) (most : Nat) : Tp Bool :=
  bnd (ask (.lock (2 + n))) fun _ => bnd (read n) fun l =>
    if has me l then no else bnd (reserve most) fun
      | true => bnd (ask (.wslot n l.length me)) fun _ => bnd (ask (.wsize n (l.length + 1))) fun _ => bnd (ask (.free (2 + n) false)) fun _ => ret true
      | false => bnd (ask (.free (2 + n) false)) fun _ => ret false
def total (all : List (List Nat)) : Nat := (all.map List.length).sum
def slow (S n me : Nat) (most : Nat) : Tp Unit :=
  bnd (lockFrom S 0) fun _ => bnd (readRest S 0 []) fun all =>
    if has me (all.getD n []) then no else bnd (reserve most) fun
      | true => no
      | false => if 19 < total all then no else freeTo S S
/-- What is answered: let in, or full. -/
def accept (c : Cf) (me : Nat) : Tp Bool :=
  bnd (ask .share) fun _ => bnd (ask .bans) fun _ => bnd (quick (c.prt me) me c.most) fun
    | true => bnd (ask .drop) fun _ => ret true
    | false => bnd (slow c.S (c.prt me) me c.most) fun _ => bnd (ask .drop) fun _ => ret false
structure Task where
  calls : List Nat
  nth : Nat
  got : List Val
  replies : List Bool
structure Wd where
  inn : Int
  parts : List (Nat × List Nat)
  locks : List Nat
  sh : Nat
  tasks : List Task
def over (t : Task) : Bool := decide (t.calls.length ≤ t.nth)
def me (t : Task) : Nat := t.calls.getD t.nth 0
def turn (c : Cf) (t : Task) : Res Bool := accept c (me t) t.got
def may (w : Wd) : Op → Bool
  | .lock k => w.locks.getD k 0 == 0
  | .share => w.locks.getD 0 0 == 0
  | _ => true
def next (c : Cf) (w : Wd) (t : Task) : Option Op :=
  if over t then none else match turn c t with
    | .pause o => if may w o then some o else none
    | _ => none
def enabled (c : Cf) (w : Wd) : List Nat := (List.range w.tasks.length).filter fun i => match w.tasks[i]? with
  | some t => (next c w t).isSome
  | none => false
def partOf (w : Wd) (p : Nat) : Nat × List Nat := w.parts.getD p (0, [])
def slotAt (l : List Nat) (i : Nat) : Val := match l[i]? with
  | some c => .who c
  | none => .num 0
/-- An operation of task 'who', and what it is told. -/
def act (w : Wd) (who : Nat) : Op → Wd × Val
  | .lock k => ({ w with locks := w.locks.set k (who + 1) }, .num 0)
  | .share => ({ w with sh := w.sh + 1 }, .num 0)
  | .free k _ => (if w.locks.getD k 0 = who + 1 then { w with locks := w.locks.set k 0 } else w, .num 0)
  | .drop => (w, .num 0)
  | .bans => (w, .num 0)
  | .inn => (w, .num w.inn)
  | .size p => (w, .num (partOf w p).1)
  | .slot p i => (w, slotAt (partOf w p).2 i)
  | .wslot p i c => (if (partOf w p).2.length < i then w else { w with parts := w.parts.set p ((partOf w p).1, (partOf w p).2.take i ++ c :: (partOf w p).2.drop (i + 1)) }, .num 0)
  | .wsize p n => ({ w with parts := w.parts.set p (n, (partOf w p).2) }, .num 0)
  | .swap n => if w.inn = n then ({ w with inn := n + 1 }, .num 1) else (w, .num 0)
def take (c : Cf) (t : Task) (v : Val) : Task :=
  match turn c { t with got := t.got ++ [v] } with
  | .done b _ => { t with replies := t.replies ++ [b], nth := t.nth + 1, got := [] }
  | _ => { t with got := t.got ++ [v] }
def stepWith (c : Cf) (w : Wd) (who : Nat) (t : Task) (o : Op) : Wd :=
  { (act w who o).1 with tasks := w.tasks.set who (take c t (act w who o).2) }
def step (c : Cf) (w : Wd) (who : Nat) : Wd := match w.tasks[who]? with
  | none => w
  | some t => match next c w t with
    | none => w
    | some o => stepWith c w who t o
end Go.Proofs.YtnncjbkepakgpaaGreat.Pm
namespace Go.Proofs.YtnncjbkepakgpaaGreat.Pm
set_option linter.unusedVariables false
theorem bnd_ask_nil {β : Type} (o : Op) (f : Val → Tp β) : bnd (ask o) f [] = .pause o := rfl
theorem bnd_ask_cons {β : Type} (o : Op) (f : Val → Tp β) (v : Val) (r : List Val) : bnd (ask o) f (v :: r) = f v r := rfl
theorem bnd_ret {α β : Type} (a : α) (f : α → Tp β) : bnd (ret a) f = f a := rfl
theorem bnd_assoc {α β γ : Type} (m : Tp α) (f : α → Tp β) (g : β → Tp γ) : bnd (bnd m f) g = bnd m fun a => bnd (f a) g := by
  funext l; unfold bnd; cases m l <;> rfl
theorem bnd_eq {α β : Type} {m : Tp α} (f : α → Tp β) {l r : List Val} {a : α} (h : m l = .done a r) : bnd m f l = f a r := by unfold bnd; rw [h]
/-- Nobody of the list has the end of 'me'. -/
def Clear (me : Nat) (l : List Nat) : Prop := ∀ x ∈ l, kOf x ≠ kOf me
theorem has_clear {me : Nat} {l : List Nat} (h : Clear me l) : has me l = false := by
  unfold has
  rw [List.any_eq_false]
  intro x hx
  simpa using h x hx
theorem Clear.nil (me : Nat) : Clear me [] := fun _ h => by cases h
theorem Clear.snoc {me : Nat} {l : List Nat} (h : Clear me l) {c : Nat} (hc : kOf c ≠ kOf me) : Clear me (l ++ [c]) := fun x hx => by
  rcases List.mem_append.1 hx with h1 | h1
  · exact h x h1
  · rw [List.mem_singleton.1 h1]; exact hc
inductive Pos
  | share | bans | lock | size | slot (m : Nat) (acc : List Nat) | inn (l : List Nat) | swap (l : List Nat) (n : Int) | wslot (l : List Nat) | wsize (l : List Nat)
  | free (ok : Bool) | drop (ok : Bool) | lockAll (j : Nat) | rsize (j : Nat) (all : List (List Nat)) | rslot (j m : Nat) (acc : List Nat) (all : List (List Nat)) | sinn (all : List (List Nat)) | freeAll (i : Nat)
def dropK (ok : Bool) : Tp Bool := bnd (ask .drop) fun _ => ret ok
def innK (S most : Nat) (all : List (List Nat)) : Bool → Tp Unit
  | true => no
  | false => if 19 < total all then no else freeTo S S
def readK (S n me most : Nat) (all : List (List Nat)) : Tp Unit := if has me (all.getD n []) then no else bnd (reserve most) (innK S most all)
def endK (c : Cf) (me : Nat) : Bool → Tp Bool
  | true => dropK true
  | false => bnd (slow c.S (c.prt me) me c.most) fun _ => dropK false
def takeK (n me : Nat) (l : List Nat) : Bool → Tp Bool
  | true => bnd (ask (.wslot n l.length me)) fun _ => bnd (ask (.wsize n (l.length + 1))) fun _ => bnd (ask (.free (2 + n) false)) fun _ => ret true
  | false => bnd (ask (.free (2 + n) false)) fun _ => ret false
def quickK (n me most : Nat) (l : List Nat) : Tp Bool := if has me l then no else bnd (reserve most) (takeK n me l)
theorem quick_eq (n me most : Nat) : quick n me most = bnd (ask (.lock (2 + n))) fun _ => bnd (read n) (quickK n me most) := by
  unfold quick quickK takeK
  congr 1
theorem slow_eq (S n me most : Nat) : slow S n me most = bnd (lockFrom S 0) fun _ => bnd (readRest S 0 []) (readK S n me most) := by
  unfold slow readK innK
  congr 1
theorem accept_eq (c : Cf) (me : Nat) : accept c me = bnd (ask .share) fun _ => bnd (ask .bans) fun _ => bnd (quick (c.prt me) me c.most) (endK c me) := by
  unfold accept endK dropK
  congr 1
/-- What is left to do. -/
def code (c : Cf) (me : Nat) : Pos → Tp Bool
  | .share => accept c me
  | .bans => bnd (ask .bans) fun _ => bnd (quick (c.prt me) me c.most) (endK c me)
  | .lock => bnd (quick (c.prt me) me c.most) (endK c me)
  | .size => bnd (bnd (read (c.prt me)) (quickK (c.prt me) me c.most)) (endK c me)
  | .slot m acc => bnd (bnd (readFrom (c.prt me) (m + 1) acc) (quickK (c.prt me) me c.most)) (endK c me)
  | .inn l => bnd (bnd (reserve c.most) (takeK (c.prt me) me l)) (endK c me)
  | .swap l n => fun r => match r with
    | [] => .pause (.swap n)
    | s :: r' => if s = .num 1 then bnd (takeK (c.prt me) me l true) (endK c me) r' else bnd (bnd (reserve c.most) (takeK (c.prt me) me l)) (endK c me) r'
  | .wslot l => bnd (takeK (c.prt me) me l true) (endK c me)
  | .wsize l => bnd (ask (.wsize (c.prt me) (l.length + 1))) fun _ => bnd (ask (.free (2 + c.prt me) false)) fun _ => endK c me true
  | .free ok => bnd (ask (.free (2 + c.prt me) false)) fun _ => endK c me ok
  | .drop ok => dropK ok
  | .lockAll j => bnd (bnd (lockFrom (c.S - j) j) fun _ => bnd (readRest c.S 0 []) (readK c.S (c.prt me) me c.most)) fun _ => dropK false
  | .rsize j all => bnd (bnd (readRest (c.S - j) j all) (readK c.S (c.prt me) me c.most)) fun _ => dropK false
  | .rslot j m acc all => bnd (bnd (bnd (readFrom j (m + 1) acc) fun l => readRest (c.S - j - 1) (j + 1) (all ++ [l])) (readK c.S (c.prt me) me c.most)) fun _ => dropK false
  | .sinn all => bnd (bnd (reserve c.most) (innK c.S c.most all)) fun _ => dropK false
  | .freeAll i => bnd (freeTo c.S (i + 1)) fun _ => dropK false
/-- What is asked. -/
def opOf (c : Cf) (me : Nat) : Pos → Op
  | .share => .share
  | .bans => .bans
  | .lock => .lock (2 + c.prt me)
  | .size => .size (c.prt me)
  | .slot _ acc => .slot (c.prt me) acc.length
  | .inn _ => .inn
  | .swap _ n => .swap n
  | .wslot l => .wslot (c.prt me) l.length me
  | .wsize l => .wsize (c.prt me) (l.length + 1)
  | .free _ => .free (2 + c.prt me) false
  | .drop _ => .drop
  | .lockAll j => .lock (2 + j)
  | .rsize j _ => .size j
  | .rslot j _ acc _ => .slot j acc.length
  | .sinn _ => .inn
  | .freeAll i => .free (2 + i) (i + 1 == c.S)
/-- The position is one. -/
def fit (c : Cf) : Pos → Prop
  | .lockAll j => j < c.S
  | .rsize j _ => j < c.S
  | .rslot j _ _ _ => j < c.S
  | .freeAll i => i < c.S
  | _ => True
theorem stop (c : Cf) (me : Nat) (p : Pos) (h : fit c p) : code c me p [] = .pause (opOf c me p) := by
  cases p with
  | lockAll j =>
    obtain ⟨k, hk⟩ : ∃ k, c.S - j = k + 1 := ⟨c.S - j - 1, by simp only [fit] at h; omega⟩
    simp only [code, hk]; rfl
  | rsize j all =>
    obtain ⟨k, hk⟩ : ∃ k, c.S - j = k + 1 := ⟨c.S - j - 1, by simp only [fit] at h; omega⟩
    simp only [code, hk]; rfl
  | drop ok => rfl
  | free ok => rfl
  | share => simp only [code, accept_eq]; rfl
  | lock => simp only [code, quick_eq]; rfl
  | _ => rfl
def after (c : Cf) (j : Nat) (all : List (List Nat)) : Pos := if j < c.S then .rsize j all else .sinn all
/-- Where it is behind the answer. -/
def nxt (c : Cf) (me : Nat) : Pos → Val → Pos
  | .share, _ => .bans
  | .bans, _ => .lock
  | .lock, _ => .size
  | .size, .num n => if n.toNat = 0 then .inn [] else .slot (n.toNat - 1) []
  | .slot 0 acc, .who x => .inn (acc ++ [x])
  | .slot (m + 1) acc, .who x => .slot m (acc ++ [x])
  | .inn l, .num n => if (c.most : Int) ≤ n then .free false else .swap l n
  | .swap l _, v => if v = .num 1 then .wslot l else .inn l
  | .wslot l, _ => .wsize l
  | .wsize _, _ => .free true
  | .free true, _ => .drop true
  | .free false, _ => .lockAll 0
  | .lockAll j, _ => if j + 1 < c.S then .lockAll (j + 1) else .rsize 0 []
  | .rsize j all, .num n => if n.toNat = 0 then after c (j + 1) (all ++ [[]]) else .rslot j (n.toNat - 1) [] all
  | .rslot j 0 acc all, .who x => after c (j + 1) (all ++ [acc ++ [x]])
  | .rslot j (m + 1) acc all, .who x => .rslot j m (acc ++ [x]) all
  | .sinn _, _ => .freeAll (c.S - 1)
  | .freeAll 0, _ => .drop false
  | .freeAll (i + 1), _ => .freeAll i
  | p, _ => p
/-- The answer is one. -/
def okV (c : Cf) (me : Nat) : Pos → Val → Prop
  | .size, v => ∃ n : Int, v = .num n ∧ 0 ≤ n ∧ n ≤ 19
  | .slot _ acc, v => Clear me acc ∧ ∃ x, v = .who x ∧ kOf x ≠ kOf me
  | .inn l, v => ∃ n, v = .num n
  | .rsize j all, v => (∀ l ∈ all, Clear me l) ∧ ∃ n : Int, v = .num n ∧ 0 ≤ n ∧ n ≤ 19
  | .rslot j m acc all, v => (∀ l ∈ all, Clear me l) ∧ Clear me acc ∧ ∃ x, v = .who x ∧ kOf x ≠ kOf me
  | .sinn all, v => total all ≤ 19 ∧ ∃ n : Int, v = .num n ∧ (c.most : Int) ≤ n
  | .drop _, _ => False
  | _, _ => True
theorem has_all {me n : Nat} {all : List (List Nat)} (h : ∀ l ∈ all, Clear me l) : has me (all.getD n []) = false := by
  apply has_clear
  rw [List.getD_eq_getElem?_getD]
  cases e : all[n]? with
  | none => exact Clear.nil _
  | some l => exact h l (List.mem_of_getElem? e)
theorem lockFrom_code (c : Cf) (j : Nat) (hj : j < c.S) (me : Nat) (v : Val) (r : List Val) : code c me (.lockAll j) (v :: r) = code c me (if j + 1 < c.S then .lockAll (j + 1) else .rsize 0 []) r := by
  obtain ⟨k, hk⟩ : ∃ k, c.S - j = k + 1 := ⟨c.S - j - 1, by omega⟩
  simp only [code, hk, lockFrom]
  rw [bnd_assoc, bnd_assoc]
  simp only [bnd_assoc, bnd_ask_cons]
  split
  · rename_i h1
    simp only [show c.S - (j + 1) = k by omega, bnd_assoc]
  · have : k = 0 := by omega
    subst this
    simp only [lockFrom, bnd_ret, Nat.sub_zero]
theorem after_code (c : Cf) (me j : Nat) (all : List (List Nat)) (hj : j ≤ c.S) (h : ∀ l ∈ all, Clear me l) (r : List Val) : bnd (bnd (readRest (c.S - j) j all) (readK c.S (c.prt me) me c.most)) (fun _ => dropK false) r = code c me (after c j all) r := by
  unfold after
  split
  · rfl
  · have : c.S - j = 0 := by omega
    simp only [this, code, readRest, bnd_ret, readK, has_all h, Bool.false_eq_true, if_false]
theorem reserve_most (most : Int) (n : Int) (r : List Val) (h : most ≤ n) : reserve most (.num n :: r) = .done false r := by
  rw [reserve.eq_def]; simp [h]
theorem bnd_reserve {β : Type} (most : Int) (k : Bool → Tp β) (n : Int) (r : List Val) : bnd (reserve most) k (.num n :: r) = if most ≤ n then k false r else match r with
    | [] => .pause (.swap n)
    | s :: r' => if s = .num 1 then k true r' else bnd (reserve most) k r' := by
  unfold bnd
  rw [reserve.eq_def]
  by_cases h : most ≤ n
  · simp only [h, if_true]
  · simp only [h, if_false]
    cases r with
    | nil => rfl
    | cons s r' =>
      by_cases h1 : s = .num 1
      · simp only [h1, if_true]
      · simp only [h1, if_false]
theorem go (c : Cf) (me : Nat) (p : Pos) (v : Val) (r : List Val) (h : fit c p) (hS : 0 < c.S) (ho : okV c me p v) : code c me p (v :: r) = code c me (nxt c me p v) r := by
  cases p with
  | share => simp only [code, accept_eq, bnd_ask_cons, nxt]
  | bans => simp only [code, bnd_ask_cons, nxt]
  | lock => simp only [code, quick_eq, bnd_assoc, bnd_ask_cons, nxt]
  | size =>
    obtain ⟨n, rfl, h0, h1⟩ := ho
    simp only [code, read, bnd_assoc, bnd_ask_cons, h0, h1, and_self, if_true, nxt]
    split
    · rename_i h2
      rw [h2]
      simp only [readFrom, bnd_ret, quickK, has_clear (Clear.nil me), Bool.false_eq_true, if_false, bnd_assoc, code]
    · rename_i h2
      obtain ⟨k, hk⟩ : ∃ k, n.toNat = k + 1 := ⟨n.toNat - 1, by omega⟩
      simp only [code, hk, Nat.add_sub_cancel, bnd_assoc]
  | slot m acc =>
    obtain ⟨h1, x, rfl, h2⟩ := ho
    cases m with
    | zero => simp only [code, readFrom, bnd_assoc, bnd_ask_cons, bnd_ret, quickK, has_clear (h1.snoc h2), Bool.false_eq_true, if_false, nxt]
    | succ m => simp only [code, nxt]; rw [readFrom]; simp only [bnd_assoc, bnd_ask_cons]
  | inn l =>
    obtain ⟨n, rfl⟩ := ho
    simp only [code, bnd_assoc, bnd_reserve, nxt]
    split
    · simp only [takeK, bnd_assoc, bnd_ret, code]
    · simp only [code]
  | swap l n =>
    simp only [code, nxt]
    split <;> rfl
  | wslot l => simp only [code, takeK, bnd_assoc, bnd_ask_cons, bnd_ret, nxt]
  | wsize l => simp only [code, bnd_ask_cons, nxt]
  | free ok =>
    cases ok with
    | true => simp only [code, bnd_ask_cons, nxt, endK]
    | false => simp only [code, bnd_ask_cons, nxt, endK, slow_eq, Nat.sub_zero]
  | drop ok => exact absurd ho (by simp [okV])
  | lockAll j => simp only [nxt]; exact lockFrom_code c j h me v r
  | rsize j all =>
    obtain ⟨h1, n, rfl, h2, h3⟩ := ho
    simp only [fit] at h
    obtain ⟨k, hk⟩ : ∃ k, c.S - j = k + 1 := ⟨c.S - j - 1, by omega⟩
    simp only [nxt]
    split
    · rename_i h4
      rw [← after_code c me (j + 1) (all ++ [[]]) (by omega) (fun l hl => by
        rcases List.mem_append.1 hl with h5 | h5
        · exact h1 l h5
        · rw [List.mem_singleton.1 h5]; exact Clear.nil me) r, show c.S - (j + 1) = k by omega]
      simp only [code, hk]
      rw [readRest]
      simp only [read, bnd_assoc, bnd_ask_cons, h2, h3, and_self, if_true, h4, readFrom, bnd_ret]
    · rename_i h4
      obtain ⟨i, hi⟩ : ∃ i, n.toNat = i + 1 := ⟨n.toNat - 1, by omega⟩
      simp only [code, hk, hi, Nat.add_sub_cancel]
      rw [readRest]
      simp only [read, bnd_assoc, bnd_ask_cons, h2, h3, and_self, if_true, hi]
  | rslot j m acc all =>
    obtain ⟨h1, h2, x, rfl, h3⟩ := ho
    simp only [fit] at h
    cases m with
    | zero =>
      simp only [nxt]
      rw [← after_code c me (j + 1) (all ++ [acc ++ [x]]) (by omega) (fun l hl => by
        rcases List.mem_append.1 hl with h5 | h5
        · exact h1 l h5
        · rw [List.mem_singleton.1 h5]; exact h2.snoc h3) r, show c.S - (j + 1) = c.S - j - 1 by omega]
      simp only [code, readFrom, bnd_assoc, bnd_ask_cons, bnd_ret]
    | succ m => simp only [code, nxt]; rw [readFrom]; simp only [bnd_assoc, bnd_ask_cons]
  | sinn all =>
    obtain ⟨h1, n, rfl, h2⟩ := ho
    simp only [code, bnd_assoc, bnd_reserve, nxt, h2, if_true, innK, Nat.not_lt.2 h1, if_false]
    rw [show c.S - 1 + 1 = c.S by omega]
  | freeAll i =>
    cases i with
    | zero => simp only [code, nxt]; rw [freeTo]; simp only [bnd_assoc, bnd_ask_cons]; rfl
    | succ i => simp only [code, nxt]; rw [freeTo]; simp only [bnd_assoc, bnd_ask_cons]
theorem last (c : Cf) (me : Nat) (ok : Bool) (v : Val) (r : List Val) : code c me (.drop ok) (v :: r) = .done ok r := rfl
end Go.Proofs.YtnncjbkepakgpaaGreat.Pm
namespace Go.Proofs.YtnncjbkepakgpaaGreat.Pm
set_option linter.unusedVariables false
theorem sum_set {α : Type} (f : α → Nat) : ∀ (z : List α) (i : Nat) (a b : α), z[i]? = some a → ((z.set i b).map f).sum + f a = (z.map f).sum + f b
  | [], _, _, _, h => by simp at h
  | x :: z, 0, a, b, h => by
    simp only [List.getElem?_cons_zero, Option.some.injEq] at h
    subst h
    simp; omega
  | x :: z, i + 1, a, b, h => by
    have := sum_set f z i a b (by simpa using h)
    simp only [List.set_cons_succ, List.map_cons, List.sum_cons]
    omega
theorem sum_le {α : Type} (f : α → Nat) : ∀ (z : List α) (i : Nat) (a : α), z[i]? = some a → f a ≤ (z.map f).sum
  | [], _, _, h => by simp at h
  | x :: z, 0, a, h => by
    simp only [List.getElem?_cons_zero, Option.some.injEq] at h
    subst h
    simp
  | x :: z, i + 1, a, h => by
    have := sum_le f z i a (by simpa using h)
    simp only [List.map_cons, List.sum_cons]
    omega
theorem sum_same {α : Type} (f g : α → Nat) : ∀ (z : List α), (∀ a ∈ z, f a = g a) → (z.map f).sum = (z.map g).sum
  | [], _ => rfl
  | x :: z, h => by
    simp only [List.map_cons, List.sum_cons]
    rw [h x (by simp), sum_same f g z fun a ha => h a (by simp [ha])]
theorem sum_most {α : Type} (f : α → Nat) (m : Nat) : ∀ (z : List α), (∀ a ∈ z, f a ≤ m) → (z.map f).sum ≤ z.length * m
  | [], _ => by simp
  | x :: z, h => by
    have h1 := h x (by simp)
    have h2 := sum_most f m z fun a ha => h a (by simp [ha])
    simp only [List.map_cons, List.sum_cons, List.length_cons, Nat.add_mul]
    omega
def wrote : Pos → Bool
  | .wsize _ => true
  | .free true => true
  | .drop true => true
  | _ => false
def atW : Pos → Bool
  | .wslot _ => true
  | _ => false
def slowP : Pos → Bool
  | .free false => true
  | .drop false => true
  | .lockAll _ => true
  | .rsize _ _ => true
  | .rslot _ _ _ _ => true
  | .sinn _ => true
  | .freeAll _ => true
  | _ => false
def holdsP (c : Cf) (me : Nat) (q : Nat) : Pos → Prop
  | .size => q = c.prt me
  | .slot _ _ => q = c.prt me
  | .inn _ => q = c.prt me
  | .swap _ _ => q = c.prt me
  | .wslot _ => q = c.prt me
  | .wsize _ => q = c.prt me
  | .free _ => q = c.prt me
  | .lockAll j => q < j
  | .rsize _ _ => True
  | .rslot _ _ _ _ => True
  | .sinn _ => True
  | .freeAll i => q ≤ i
  | _ => False
abbrev Tk := Task × Pos
def live (x : Tk) : Prop := x.1.nth < x.1.calls.length
instance (x : Tk) : Decidable (live x) := by unfold live; infer_instance
def holds (c : Cf) (x : Tk) (q : Nat) : Prop := live x ∧ holdsP c (me x.1) q x.2
def wr (x : Tk) : Nat := if live x ∧ atW x.2 = true then 1 else 0
def pend (x : Tk) : Nat := if live x ∧ (atW x.2 || wrote x.2) = true then 1 else 0
def oks (x : Tk) : Nat := x.1.replies.count true
def lenOf (w : Wd) (q : Nat) : Nat := (partOf w q).2.length
def RAll (w : Wd) (me j : Nat) (all : List (List Nat)) : Prop := all.length = j ∧ ∀ q l, all[q]? = some l → l.length = lenOf w q ∧ Clear me l
def PosOk (c : Cf) (w : Wd) (me : Nat) : Pos → Prop
  | .slot m acc => acc.length + m + 1 = lenOf w (c.prt me) ∧ Clear me acc
  | .inn l => l.length = lenOf w (c.prt me)
  | .swap l n => l.length = lenOf w (c.prt me) ∧ n < c.most ∧ n ≤ w.inn
  | .wslot l => l.length = lenOf w (c.prt me)
  | .wsize l => l.length + 1 = lenOf w (c.prt me)
  | .rsize j all => RAll w me j all
  | .rslot j m acc all => RAll w me j all ∧ acc.length + m + 1 = lenOf w j ∧ Clear me acc
  | .sinn all => RAll w me c.S all
  | _ => True
def Each (c : Cf) (w : Wd) (x : Tk) : Prop := x.1.nth ≤ x.1.calls.length ∧ x.1.replies.length = x.1.nth ∧ (live x → (∀ g, accept c (me x.1) (x.1.got ++ g) = code c (me x.1) x.2 g) ∧ fit c x.2 ∧ PosOk c w (me x.1) x.2)
/-- No two calls come from one end. -/
def Apart (z : List Tk) : Prop := ∀ (i : Nat) (x : Tk) (k j : Nat) (y : Tk) (m : Nat), z[i]? = some x → z[j]? = some y → k < x.1.calls.length → m < y.1.calls.length → ¬ (i = j ∧ k = m) → kOf (x.1.calls.getD k 0) ≠ kOf (y.1.calls.getD m 0)
structure Inv (c : Cf) (w : Wd) (z : List Tk) : Prop where
  ts : w.tasks = z.map Prod.fst
  nl : w.locks.length = c.S + 2
  l0 : w.locks.getD 0 0 = 0
  np : w.parts.length = c.S
  lk : ∀ q, q < c.S → ∀ (i : Nat) (x : Tk), z[i]? = some x → (holds c x q ↔ w.locks.getD (2 + q) 0 = i + 1)
  lk' : ∀ q, q < c.S → w.locks.getD (2 + q) 0 = 0 ∨ ∃ (i : Nat) (x : Tk), z[i]? = some x ∧ w.locks.getD (2 + q) 0 = i + 1
  pt : ∀ q, q < c.S → (partOf w q).1 = lenOf w q ∨ ∃ (i : Nat) (x : Tk) (l : List Nat), z[i]? = some x ∧ live x ∧ c.prt (me x.1) = q ∧ x.2 = .wsize l
  clear : ∀ (i : Nat) (x : Tk) (k : Nat), z[i]? = some x → x.1.nth ≤ k → k < x.1.calls.length → (k = x.1.nth → wrote x.2 = false) → ∀ q, q < c.S → Clear (x.1.calls.getD k 0) (partOf w q).2
  s1 : w.inn = (((w.parts.map fun p => p.2.length).sum + (z.map wr).sum : Nat) : Int)
  s2 : w.inn = ((z.map fun x => oks x + pend x).sum : Nat)
  le : w.inn ≤ c.most
  full : ∀ (i : Nat) (x : Tk), z[i]? = some x → (false ∈ x.1.replies ∨ (live x ∧ slowP x.2 = true)) → (c.most : Int) ≤ w.inn
  each : ∀ (i : Nat) (x : Tk), z[i]? = some x → Each c w x
  apart : Apart z
/-- The conf is one. -/
structure Ok (c : Cf) : Prop where
  S : 0 < c.S
  most : c.most ≤ 19
  prt : ∀ m, c.prt m < c.S
theorem posOk_mono {c : Cf} {w w1 : Wd} {m : Nat} {p : Pos} (hf : fit c p) (hS : ∀ m, c.prt m < c.S) (h : PosOk c w m p) (hl : ∀ q, q < c.S → holdsP c m q p → lenOf w1 q = lenOf w q) (hi : w.inn ≤ w1.inn) : PosOk c w1 m p := by
  have hr : ∀ j all, j ≤ c.S → (∀ q, q < c.S → lenOf w1 q = lenOf w q) → RAll w m j all → RAll w1 m j all := fun j all hj hq ⟨h1, h2⟩ => ⟨h1, fun q l hl => by
    have := (List.getElem?_eq_some_iff.1 hl).1
    rw [hq q (by omega)]; exact h2 q l hl⟩
  cases p with
  | slot k acc => simp only [PosOk] at h ⊢; rw [hl _ (hS m) rfl]; exact h
  | inn l => simp only [PosOk] at h ⊢; rw [hl _ (hS m) rfl]; exact h
  | swap l n => simp only [PosOk] at h ⊢; rw [hl _ (hS m) rfl]; exact ⟨h.1, h.2.1, by omega⟩
  | wslot l => simp only [PosOk] at h ⊢; rw [hl _ (hS m) rfl]; exact h
  | wsize l => simp only [PosOk] at h ⊢; rw [hl _ (hS m) rfl]; exact h
  | rsize j all => exact hr j all (Nat.le_of_lt hf) (fun q hq => hl q hq trivial) h
  | rslot j k acc all => exact ⟨hr j all (Nat.le_of_lt hf) (fun q hq => hl q hq trivial) h.1, by rw [hl j hf trivial]; exact h.2.1, h.2.2⟩
  | sinn all => exact hr _ all (Nat.le_refl _) (fun q hq => hl q hq trivial) h
  | _ => trivial
theorem get_set {α : Type} {z : List α} {who i : Nat} {x y a : α} (hx : z[who]? = some x) (h : (z.set who y)[i]? = some a) : (i = who ∧ a = y) ∨ (i ≠ who ∧ z[i]? = some a) := by
  rw [List.getElem?_set] at h
  split at h
  · rename_i e
    subst e
    split at h
    · exact .inl ⟨rfl, (Option.some.inj h).symm⟩
    · cases h
  · rename_i e
    exact .inr ⟨fun e' => e e'.symm, h⟩
theorem Inv.next {c : Cf} {w : Wd} {z : List Tk} (h : Inv c w z) (hc : Ok c) {who : Nat} {x y : Tk} (hx : z[who]? = some x) {w1 : Wd} (hts : w1.tasks = w.tasks.set who y.1) (hca : y.1.calls = x.1.calls)
    (nl : w1.locks.length = c.S + 2) (l0 : w1.locks.getD 0 0 = 0) (np : w1.parts.length = c.S)
    (lk : ∀ q, q < c.S → (holds c y q ↔ w1.locks.getD (2 + q) 0 = who + 1) ∧ ∀ (i : Nat) (a : Tk), i ≠ who → z[i]? = some a → (holds c a q ↔ w1.locks.getD (2 + q) 0 = i + 1))
    (lk' : ∀ q, q < c.S → w1.locks.getD (2 + q) 0 = 0 ∨ w1.locks.getD (2 + q) 0 = who + 1 ∨ w1.locks.getD (2 + q) 0 = w.locks.getD (2 + q) 0)
    (pt : ∀ q, q < c.S → ((partOf w q).1 = lenOf w q ∨ ∃ (i : Nat) (a : Tk) (l : List Nat), i ≠ who ∧ z[i]? = some a ∧ live a ∧ c.prt (me a.1) = q ∧ a.2 = .wsize l) ∨ (c.prt (me x.1) = q ∧ live x ∧ ∃ l, x.2 = .wsize l) → (partOf w1 q).1 = lenOf w1 q ∨ (∃ (i : Nat) (a : Tk) (l : List Nat), i ≠ who ∧ z[i]? = some a ∧ live a ∧ c.prt (me a.1) = q ∧ a.2 = .wsize l) ∨ (c.prt (me y.1) = q ∧ live y ∧ ∃ l, y.2 = .wsize l))
    (clear : ∀ q, q < c.S → (∀ k, y.1.nth ≤ k → k < y.1.calls.length → (k = y.1.nth → wrote y.2 = false) → Clear (y.1.calls.getD k 0) (partOf w1 q).2) ∧
      ∀ (i : Nat) (a : Tk) (k : Nat), i ≠ who → z[i]? = some a → a.1.nth ≤ k → k < a.1.calls.length → (k = a.1.nth → wrote a.2 = false) → Clear (a.1.calls.getD k 0) (partOf w1 q).2)
    (s1 : w1.inn + (((w.parts.map fun p => p.2.length).sum + wr x : Nat) : Int) = w.inn + (((w1.parts.map fun p => p.2.length).sum + wr y : Nat) : Int))
    (s2 : w1.inn + ((oks x + pend x : Nat) : Int) = w.inn + ((oks y + pend y : Nat) : Int))
    (hle : w.inn ≤ w1.inn) (hmost : w1.inn ≤ c.most)
    (full : (false ∈ y.1.replies ∨ (live y ∧ slowP y.2 = true)) → (c.most : Int) ≤ w1.inn)
    (hlen : ∀ (i : Nat) (a : Tk) (q : Nat), i ≠ who → z[i]? = some a → holds c a q → q < c.S → lenOf w1 q = lenOf w q)
    (each : Each c w1 y) : Inv c w1 (z.set who y) := by
  have hlt : who < z.length := (List.getElem?_eq_some_iff.1 hx).1
  have hy : (z.set who y)[who]? = some y := by rw [List.getElem?_set]; simp [hlt]
  have ho : ∀ i, i ≠ who → (z.set who y)[i]? = z[i]? := fun i hi => by rw [List.getElem?_set]; simp [Ne.symm hi]
  refine ⟨?_, nl, l0, np, fun q hq i a ha => ?_, fun q hq => ?_, fun q hq => ?_, fun i a k ha h1 h2 h3 q hq => ?_, ?_, ?_, hmost, fun i a ha h1 => ?_, fun i a ha => ?_, fun i a k j b m ha hb h1 h2 h3 => ?_⟩
  · rw [hts, h.ts, List.map_set]
  · rcases get_set hx ha with ⟨rfl, rfl⟩ | ⟨h1, h2⟩
    · exact (lk q hq).1
    · exact (lk q hq).2 i a h1 h2
  · rcases lk' q hq with h1 | h1 | h1
    · exact .inl h1
    · exact .inr ⟨who, y, hy, h1⟩
    · rcases h.lk' q hq with h2 | ⟨i, a, h2, h3⟩
      · exact .inl (h1.trans h2)
      · by_cases e : i = who
        · subst e; exact .inr ⟨i, y, hy, h1.trans h3⟩
        · exact .inr ⟨i, a, by rw [ho i e]; exact h2, h1.trans h3⟩
  · have : ((partOf w q).1 = lenOf w q ∨ ∃ (i : Nat) (a : Tk) (l : List Nat), i ≠ who ∧ z[i]? = some a ∧ live a ∧ c.prt (me a.1) = q ∧ a.2 = .wsize l) ∨ (c.prt (me x.1) = q ∧ live x ∧ ∃ l, x.2 = .wsize l) := by
      rcases h.pt q hq with h1 | ⟨i, a, l, h1, h2, h3, h4⟩
      · exact .inl (.inl h1)
      · by_cases e : i = who
        · subst e
          rw [hx] at h1
          obtain rfl := Option.some.inj h1
          exact .inr ⟨h3, h2, l, h4⟩
        · exact .inl (.inr ⟨i, a, l, e, h1, h2, h3, h4⟩)
    rcases pt q hq this with h1 | ⟨i, a, l, h0, h1, h2, h3, h4⟩ | ⟨h1, h2, l, h3⟩
    · exact .inl h1
    · exact .inr ⟨i, a, l, by rw [ho i h0]; exact h1, h2, h3, h4⟩
    · exact .inr ⟨who, y, l, hy, h2, h1, h3⟩
  · rcases get_set hx ha with ⟨rfl, rfl⟩ | ⟨h4, h5⟩
    · exact (clear q hq).1 k h1 h2 h3
    · exact (clear q hq).2 i a k h4 h5 h1 h2 h3
  · have e := sum_set wr z who x y hx
    have := h.s1
    omega
  · have e := sum_set (fun x => oks x + pend x) z who x y hx
    have := h.s2
    omega
  · rcases get_set hx ha with ⟨rfl, rfl⟩ | ⟨h4, h5⟩
    · exact full h1
    · have := h.full i a h5 h1; omega
  · rcases get_set hx ha with ⟨rfl, rfl⟩ | ⟨h4, h5⟩
    · exact each
    · obtain ⟨e1, e2, e3⟩ := h.each i a h5
      refine ⟨e1, e2, fun hl => ?_⟩
      obtain ⟨e4, e5, e6⟩ := e3 hl
      exact ⟨e4, e5, posOk_mono e5 hc.prt e6 (fun q hq hh => hlen i a q h4 h5 ⟨hl, hh⟩ hq) hle⟩
  · rcases get_set hx ha with ⟨rfl, rfl⟩ | ⟨h4, h5⟩ <;> rcases get_set hx hb with ⟨rfl, rfl⟩ | ⟨h6, h7⟩
    · rw [hca] at h1 h2 ⊢
      exact h.apart _ _ k _ _ m hx hx h1 h2 h3
    · rw [hca] at h1 ⊢
      exact h.apart _ _ k _ _ m hx h7 h1 h2 h3
    · rw [hca] at h2 ⊢
      exact h.apart _ _ k _ _ m h5 hx h1 h2 h3
    · exact h.apart _ _ k _ _ m h5 h7 h1 h2 h3
section
variable {c : Cf} {w : Wd} {z : List Tk}
theorem Inv.len_le (h : Inv c w z) (hc : Ok c) (q : Nat) (hq : q < c.S) : lenOf w q ≤ 19 := by
  have hp : w.parts[q]? = some (partOf w q) := by
    have : q < w.parts.length := by rw [h.np]; exact hq
    simp [partOf, List.getD_eq_getElem?_getD, this]
  have h1 := sum_le (fun p : Nat × List Nat => p.2.length) _ _ _ hp
  have h2 := h.s1
  have h3 := h.le
  have h4 := hc.most
  unfold lenOf
  omega
theorem Inv.size_eq (h : Inv c w z) {who : Nat} {x : Tk} (hx : z[who]? = some x) {q : Nat} (hq : q < c.S) (hh : holds c x q) (hn : ∀ l, x.2 ≠ .wsize l) : (partOf w q).1 = lenOf w q := by
  rcases h.pt q hq with h1 | ⟨i, a, l, h1, h2, h3, h4⟩
  · exact h1
  · exfalso
    have h5 : holds c a q := ⟨h2, by rw [h4]; exact h3.symm⟩
    have h6 := (h.lk q hq i a h1).1 h5
    rw [(h.lk q hq who x hx).1 hh] at h6
    have : who = i := by omega
    subst this
    rw [hx] at h1
    obtain rfl := Option.some.inj h1
    exact hn l h4
theorem Inv.clear_me (h : Inv c w z) {who : Nat} {x : Tk} (hx : z[who]? = some x) (hl : live x) (hw : wrote x.2 = false) {q : Nat} (hq : q < c.S) : Clear (me x.1) (partOf w q).2 :=
  h.clear who x x.1.nth hx (Nat.le_refl _) hl (fun _ => hw) q hq
theorem Inv.slot_ok (h : Inv c w z) {who : Nat} {x : Tk} (hx : z[who]? = some x) (hl : live x) (hw : wrote x.2 = false) {q i : Nat} (hq : q < c.S) (hi : i < lenOf w q) : ∃ a, slotAt (partOf w q).2 i = .who a ∧ kOf a ≠ kOf (me x.1) := by
  refine ⟨(partOf w q).2[i], ?_, h.clear_me hx hl hw hq _ (List.getElem_mem _)⟩
  unfold slotAt
  rw [List.getElem?_eq_getElem hi]
theorem total_eq {w : Wd} {m S : Nat} {all : List (List Nat)} (hr : RAll w m S all) (hp : w.parts.length = S) : total all = (w.parts.map fun p => p.2.length).sum := by
  unfold total
  congr 1
  apply List.ext_getElem?
  intro q
  simp only [List.getElem?_map]
  by_cases hq : q < S
  · have h1 : q < all.length := by rw [hr.1]; exact hq
    have h2 : q < w.parts.length := by rw [hp]; exact hq
    rw [List.getElem?_eq_getElem h1, List.getElem?_eq_getElem h2]
    have := (hr.2 q _ (List.getElem?_eq_getElem h1)).1
    simp only [Option.map_some, Option.some.injEq, this]
    simp [lenOf, partOf, List.getD_eq_getElem?_getD, h2]
  · rw [List.getElem?_eq_none (by rw [hr.1]; omega), List.getElem?_eq_none (by omega)]; rfl
/-- What is told is fit. -/
theorem Inv.answer (h : Inv c w z) (hc : Ok c) {who : Nat} {x : Tk} (hx : z[who]? = some x) (hl : live x) (hd : ∀ b, x.2 ≠ .drop b) : okV c (me x.1) x.2 (act w who (opOf c (me x.1) x.2)).2 := by
  obtain ⟨t, p⟩ := x
  obtain ⟨_, _, he⟩ := h.each who _ hx
  obtain ⟨_, hf, hp⟩ := he hl
  have hle := fun q hq => h.len_le hc q hq
  have hfu := h.full who _ hx
  simp only at hd hf hp hfu
  cases p with
  | drop b => exact absurd rfl (hd b)
  | size =>
    have e := h.size_eq hx (hc.prt _) ⟨hl, rfl⟩ (fun l => by simp)
    have := hle _ (hc.prt (me t))
    simp only at e
    exact ⟨((partOf w (c.prt (me t))).1 : Nat), rfl, by omega, by omega⟩
  | slot m acc =>
    obtain ⟨h1, h2⟩ := hp
    obtain ⟨a, h3, h4⟩ := h.slot_ok hx hl rfl (hc.prt (me t)) (i := acc.length) (by omega)
    exact ⟨h2, a, h3, h4⟩
  | inn l => exact ⟨_, rfl⟩
  | rsize j all =>
    have e := h.size_eq hx hf ⟨hl, trivial⟩ (fun l => by simp)
    have := hle j hf
    exact ⟨fun l hl => by obtain ⟨q, hq⟩ := List.mem_iff_getElem?.1 hl; exact (hp.2 q l hq).2, ((partOf w j).1 : Nat), rfl, by omega, by omega⟩
  | rslot j m acc all =>
    obtain ⟨h0, h1, h2⟩ := hp
    obtain ⟨a, h3, h4⟩ := h.slot_ok hx hl rfl hf (i := acc.length) (by omega)
    exact ⟨fun l hl => by obtain ⟨q, hq⟩ := List.mem_iff_getElem?.1 hl; exact (h0.2 q l hq).2, h2, a, h3, h4⟩
  | sinn all =>
    have e := total_eq hp h.np
    have h1 := h.s1
    have h2 := h.le
    have h3 := hc.most
    refine ⟨by omega, _, rfl, hfu (.inr ⟨hl, rfl⟩)⟩
  | _ => trivial
end
end Go.Proofs.YtnncjbkepakgpaaGreat.Pm
