/-
  THE PLAIN LAWS of mixing (layer 10): no Go in sight: numbers of 64 bits; unlike numbers are mixed to unlike ones.
-/
namespace Go.Proofs.Ytdoofpanbcaigaa.Plain
/-- A number of 64 bits, as the integer that it is. -/
def toI (X : BitVec 64) : Int := X.toNat
def oneB (X : BitVec 64) : BitVec 64 :=
  let x1 := (X ^^^ X >>> 30) * 13787848793156543929#64
  let x2 := (x1 ^^^ x1 >>> 27) * 10723151780598845931#64
  x2 ^^^ x2 >>> 31
def rotB (X : BitVec 64) : BitVec 64 := X <<< 7 ||| X >>> 57
def stepB (h x : BitVec 64) : BitVec 64 := oneB (rotB h ^^^ oneB (x + 11400714819323198485#64))
def ofB (key : BitVec 64) (l : List (BitVec 64)) : BitVec 64 := l.foldl stepB (oneB (key + 11400714819323198485#64))

/-- A shift by at least one place, laid over a number, can be taken back. -/
theorem xorshift_inj {s : Nat} (hs : 0 < s) {X Y : BitVec 64} (h : X ^^^ X >>> s = Y ^^^ Y >>> s) : X = Y := by
  have key : ∀ (n i : Nat), 64 - i ≤ n → X.getLsbD i = Y.getLsbD i := by
    intro n
    induction n with
    | zero => intro i hi; rw [BitVec.getLsbD_of_ge X i (by omega), BitVec.getLsbD_of_ge Y i (by omega)]
    | succ n ih =>
      intro i hi
      have e := congrArg (fun Z => BitVec.getLsbD Z i) h
      simp only [BitVec.getLsbD_xor, BitVec.getLsbD_ushiftRight] at e
      by_cases h64 : i < 64
      · rw [ih (s + i) (by omega)] at e
        revert e
        cases X.getLsbD i <;> cases Y.getLsbD i <;> cases Y.getLsbD (s + i) <;> simp
      · rw [BitVec.getLsbD_of_ge X i (by omega), BitVec.getLsbD_of_ge Y i (by omega)]
  exact BitVec.eq_of_getLsbD_eq (fun i _ => key 64 i (by omega))
theorem mul_inj {c d : BitVec 64} (hcd : c * d = 1#64) {X Y : BitVec 64} (h : X * c = Y * c) : X = Y := by
  have e := congrArg (· * d) h
  simpa [BitVec.mul_assoc, hcd] using e
theorem c1_inv : 13787848793156543929#64 * 0x96de1b173f119089#64 = 1#64 := by decide
theorem c2_inv : 10723151780598845931#64 * 0x319642b2d24d8ec3#64 = 1#64 := by decide
theorem oneB_inj {X Y : BitVec 64} (h : oneB X = oneB Y) : X = Y := by
  unfold oneB at h
  exact xorshift_inj (by decide) (mul_inj c1_inv (xorshift_inj (by decide) (mul_inj c2_inv (xorshift_inj (by decide) h))))
theorem oneB_iff (X Y : BitVec 64) : oneB X = oneB Y ↔ X = Y := ⟨oneB_inj, fun h => by rw [h]⟩
theorem add_inj {X Y c : BitVec 64} (h : X + c = Y + c) : X = Y := by
  have e := congrArg (· - c) h
  simpa using e
theorem xor_inj {X Y c : BitVec 64} (h : c ^^^ X = c ^^^ Y) : X = Y := by
  have e := congrArg (c ^^^ ·) h
  simpa [← BitVec.xor_assoc] using e
theorem stepB_inj {h X Y : BitVec 64} (e : stepB h X = stepB h Y) : X = Y := add_inj (oneB_inj (xor_inj (oneB_inj e)))
theorem ofB_snoc (key : BitVec 64) (l : List (BitVec 64)) (x : BitVec 64) : ofB key (l ++ [x]) = stepB (ofB key l) x := by simp [ofB]
theorem ofB_last {key : BitVec 64} {l : List (BitVec 64)} (X Y : BitVec 64) : ofB key (l ++ [X]) = ofB key (l ++ [Y]) ↔ X = Y :=
  ⟨fun h => by rw [ofB_snoc, ofB_snoc] at h; exact stepB_inj h, fun h => by rw [h]⟩

theorem toI_lo (X : BitVec 64) : 0 ≤ toI X := by unfold toI; omega
theorem toI_hi (X : BitVec 64) : toI X < 18446744073709551616 := by unfold toI; have := X.isLt; omega
theorem toI_inj {X Y : BitVec 64} (h : toI X = toI Y) : X = Y := by unfold toI at h; exact BitVec.eq_of_toNat_eq (by omega)
theorem toI_iff (X Y : BitVec 64) : toI X = toI Y ↔ X = Y := ⟨toI_inj, fun h => by rw [h]⟩
theorem toI_ofInt {z : Int} (h0 : 0 ≤ z) (h1 : z < 18446744073709551616) : toI (BitVec.ofInt 64 z) = z := by
  unfold toI
  rw [BitVec.toNat_ofInt]
  have : z % (2 ^ 64 : Nat) = z := Int.emod_eq_of_lt h0 (by simpa using h1)
  rw [this]; omega
theorem toI_shr (X : BitVec 64) (s : Nat) : toI X / 2 ^ s = toI (X >>> s) := by
  unfold toI
  rw [BitVec.toNat_ushiftRight, Nat.shiftRight_eq_div_pow]
  simp
theorem toI_mul (X : BitVec 64) (c : Int) (C : BitVec 64) (hc : c = toI C) : toI X * c % 18446744073709551616 = toI (X * C) := by
  subst hc
  unfold toI
  rw [BitVec.toNat_mul]
  simp
theorem toI_add (X : BitVec 64) (c : Int) (C : BitVec 64) (hc : c = toI C) : (toI X + c) % 18446744073709551616 = toI (X + C) := by
  subst hc
  unfold toI
  rw [BitVec.toNat_add]
  simp
theorem toI_shl (X : BitVec 64) : toI X * 128 % 18446744073709551616 = toI (X <<< 7) := by
  unfold toI
  rw [BitVec.toNat_shiftLeft, Nat.shiftLeft_eq]
  simp
theorem rot_disjoint (X : BitVec 64) : X <<< 7 &&& X >>> 57 = 0#64 := by
  apply BitVec.eq_of_getLsbD_eq
  intro i hi
  simp only [BitVec.getLsbD_and, BitVec.getLsbD_shiftLeft, BitVec.getLsbD_ushiftRight]
  by_cases h : i < 7
  · simp [h]
  · have : X.getLsbD (57 + i) = false := BitVec.getLsbD_of_ge X _ (by omega)
    simp [this]
theorem rot_add (X : BitVec 64) : X <<< 7 + X >>> 57 = rotB X := by
  unfold rotB
  exact BitVec.add_eq_or_of_and_eq_zero _ _ (rot_disjoint X)
end Go.Proofs.Ytdoofpanbcaigaa.Plain
