/-
  A SLICE OF STRUCTS THAT CAME IN, opened by its elements' leaves.
-/
import Derived.Test.YtdoofpanbcaigaaOpen
namespace Go.Proofs.Ytdoofpanbcaigaa
open Go.ChangeShapes Go.WideShapes Go.ChangeAt Go.RowKit

/-- A slice's rows: each of so many cells, as the leaves say. -/
def IsRows (l : List Leaf) (W : World) (a : Option Addr) (len cap : Nat) : Prop :=
  (a = none ∧ len = 0 ∧ cap = 0) ∨ ∃ b, a = some b ∧ len ≤ cap ∧ cap ≤ maxLen ∧ ∀ i, i < len → ∃ cs : List Value, fits l cs ∧ ∀ k v, cs[k]? = some v → W.cell? (b.add (i * l.length + k)) = some v

section
variable {H : Type} {enc : TypeId × Value → H} {P : Program} {w : World} {base : Nat} {spare : Nat → Bool} {held : Bool}
theorem open_rows {t e : TypeId} {a : Option Addr} {len cap f : Nat} {l : List Leaf} {d : DataW H} {p : List MemPlace} (ht : P.underlying t = some (.slice e)) (hl : leavesOf P f e = some l) (hC : P.cellsOf e = l.length)
    (h : DataW.Trod enc P w base spare held t (.slice a len cap) d p) : IsRows l w a len cap := by
  obtain ⟨fuel, hf⟩ := h
  rcases Go.Deep.open_slice ht hf with ⟨h0, _⟩ | ⟨b, len', cap', m, n, D, Pl, hcs, _, hlc, hm, hmm, _, hi⟩
  · simp [Value.cells] at h0
    exact .inl h0
  · simp [Value.cells] at hcs
    obtain ⟨rfl, rfl, rfl⟩ := hcs
    refine .inr ⟨b, rfl, hlc, hm, fun i hil => ?_⟩
    have him : i < m := by rw [hmm]; split <;> omega
    obtain ⟨cs', hc, ht'⟩ := hi i him
    rw [hC] at hc
    obtain ⟨_, hcl, hat⟩ := World.cells?_some hc
    have hfit := leaves_fit f e l n cs' _ hl ht'
    refine ⟨cs', hfit, fun k v hk => ?_⟩
    have hkl : k < cs'.length := (List.getElem?_eq_some_iff.1 hk).1
    have := hat k (by rw [fits_length hfit] at hkl; exact hkl)
    rw [hk] at this
    rw [← this, Go.Deep.add_add]
end
theorem rows_len {l : List Leaf} {W : World} {a : Option Addr} {len cap : Nat} (h : IsRows l W a len cap) : len ≤ maxLen := by
  rcases h with ⟨_, rfl, _⟩ | ⟨_, _, h1, h2, _⟩
  · exact Nat.zero_le _
  · exact Nat.le_trans h1 h2
end Go.Proofs.Ytdoofpanbcaigaa
