/-
  No cell of these rows narrows 'for every input' (looked for: loops, veiled, ifaces, maps, wideKeys, modest, calm, conditions, laid).
  DERIVED. THE GIVEN ROWS OF THIS SEAT. 17 by the template 'for every input the law returns true; each argument reads behind the call as it read before'; 0 by the template 'total and deterministic' (their statements: YtdoofpanbcaigaaTotals.lean).
  GIVEN WITH THE SEED: the statements are not yours to turn. If you find one false, say at which input.
  Laid BY PROGRAM, IN A SANDBOX (cutbox-rows.mjs): the forced cells as the released guide's own fill.sh prints them over the translation 57425292ba0dcc26… (all of the seat's roots in one cut). By AI agents, Wed Nov 11 2026. No macro, syntax, notation, axiom, sorry.
-/
import Derived.Test.YtdoofpanbcaigaaChecked
import GoSem.Claim
import GoSem.ClaimJoined
import GoSem.ClaimMapViews
import Derived.JoinedTies
import Derived.KernelRfl
namespace Go.Proofs.Ytdoofpanbcaigaa
/- THE CELL 'sum', in the pinned program and in every row, IS THE sha256 OF THE DUMP (.gsa) THAT YtdoofpanbcaigaaProg.lean LOADS. Nothing in Lean hashes anything: it is a label: what it is worth is what the hold of that sum in a sandbox is worth. -/
noncomputable def Try.pinned : Pinned := { name := "ytdoofpanbcaigaa", sum := "57425292ba0dcc26cda51f95ef015240672f342a4a67c5ceecd1c55f58ce1f92", checked := Try.checked }
namespace Rows
def none {H : Type} : Left H := { results := [], args := [] }

/-- 'doormanlaw15.HalfTells': WHATEVER THE INPUT: true; the input reads as it did. -/
def halfTellsSpec : ChangeSpec := { name := "halfTells", fn := fun _ => fun
  | [d1, d2, d3] => { results := [.lit (.bool true)], args := [d1, d2, d3] }
  | _ => none }
def halfTellsRow : OpenClaim := { program := "ytdoofpanbcaigaa", sum := "57425292ba0dcc26cda51f95ef015240672f342a4a67c5ceecd1c55f58ce1f92", func := "doorman/doormanlaw15.HalfTells", spec := "halfTells", apart := false }
def HalfTellsSaid : Prop := halfTellsRow.holds Try.pinned (OpenSpec.ofChange halfTellsSpec)

/-- ITS FALSE NEIGHBOUR: 'it returns false'. Refute it at one input. -/
def halfTellsWrong : ChangeSpec := { name := "halfTells", fn := fun _ => fun
  | [d1, d2, d3] => { results := [.lit (.bool false)], args := [d1, d2, d3] }
  | _ => none }
def HalfTellsWrongFalsely : Prop := halfTellsRow.holds Try.pinned (OpenSpec.ofChange halfTellsWrong)

/-- 'doormanlaw15.HalfTwice': WHATEVER THE INPUT: true; the input reads as it did. -/
def halfTwiceSpec : ChangeSpec := { name := "halfTwice", fn := fun _ => fun
  | [d1, d2, d3] => { results := [.lit (.bool true)], args := [d1, d2, d3] }
  | _ => none }
def halfTwiceRow : OpenClaim := { program := "ytdoofpanbcaigaa", sum := "57425292ba0dcc26cda51f95ef015240672f342a4a67c5ceecd1c55f58ce1f92", func := "doorman/doormanlaw15.HalfTwice", spec := "halfTwice", apart := false }
def HalfTwiceSaid : Prop := halfTwiceRow.holds Try.pinned (OpenSpec.ofChange halfTwiceSpec)

/-- ITS FALSE NEIGHBOUR: 'it returns false'. Refute it at one input. -/
def halfTwiceWrong : ChangeSpec := { name := "halfTwice", fn := fun _ => fun
  | [d1, d2, d3] => { results := [.lit (.bool false)], args := [d1, d2, d3] }
  | _ => none }
def HalfTwiceWrongFalsely : Prop := halfTwiceRow.holds Try.pinned (OpenSpec.ofChange halfTwiceWrong)

/-- 'doormanlaw01.SatTells': WHATEVER THE INPUT: true; the input reads as it did. -/
def satTellsSpec : ChangeSpec := { name := "satTells", fn := fun _ => fun
  | [d1, d2, d3] => { results := [.lit (.bool true)], args := [d1, d2, d3] }
  | _ => none }
def satTellsRow : OpenClaim := { program := "ytdoofpanbcaigaa", sum := "57425292ba0dcc26cda51f95ef015240672f342a4a67c5ceecd1c55f58ce1f92", func := "doorman/doormanlaw01.SatTells", spec := "satTells", apart := false }
def SatTellsSaid : Prop := satTellsRow.holds Try.pinned (OpenSpec.ofChange satTellsSpec)

/-- ITS FALSE NEIGHBOUR: 'it returns false'. Refute it at one input. -/
def satTellsWrong : ChangeSpec := { name := "satTells", fn := fun _ => fun
  | [d1, d2, d3] => { results := [.lit (.bool false)], args := [d1, d2, d3] }
  | _ => none }
def SatTellsWrongFalsely : Prop := satTellsRow.holds Try.pinned (OpenSpec.ofChange satTellsWrong)

/-- 'doormanlaw01.SatOrder': WHATEVER THE INPUT: true; the input reads as it did. -/
def satOrderSpec : ChangeSpec := { name := "satOrder", fn := fun _ => fun
  | [d1, d2, d3] => { results := [.lit (.bool true)], args := [d1, d2, d3] }
  | _ => none }
def satOrderRow : OpenClaim := { program := "ytdoofpanbcaigaa", sum := "57425292ba0dcc26cda51f95ef015240672f342a4a67c5ceecd1c55f58ce1f92", func := "doorman/doormanlaw01.SatOrder", spec := "satOrder", apart := false }
def SatOrderSaid : Prop := satOrderRow.holds Try.pinned (OpenSpec.ofChange satOrderSpec)

/-- ITS FALSE NEIGHBOUR: 'it returns false'. Refute it at one input. -/
def satOrderWrong : ChangeSpec := { name := "satOrder", fn := fun _ => fun
  | [d1, d2, d3] => { results := [.lit (.bool false)], args := [d1, d2, d3] }
  | _ => none }
def SatOrderWrongFalsely : Prop := satOrderRow.holds Try.pinned (OpenSpec.ofChange satOrderWrong)

/-- 'doormanlaw01.SatGrows': WHATEVER THE INPUT: true; the input reads as it did. -/
def satGrowsSpec : ChangeSpec := { name := "satGrows", fn := fun _ => fun
  | [d1, d2, d3] => { results := [.lit (.bool true)], args := [d1, d2, d3] }
  | _ => none }
def satGrowsRow : OpenClaim := { program := "ytdoofpanbcaigaa", sum := "57425292ba0dcc26cda51f95ef015240672f342a4a67c5ceecd1c55f58ce1f92", func := "doorman/doormanlaw01.SatGrows", spec := "satGrows", apart := false }
def SatGrowsSaid : Prop := satGrowsRow.holds Try.pinned (OpenSpec.ofChange satGrowsSpec)

/-- ITS FALSE NEIGHBOUR: 'it returns false'. Refute it at one input. -/
def satGrowsWrong : ChangeSpec := { name := "satGrows", fn := fun _ => fun
  | [d1, d2, d3] => { results := [.lit (.bool false)], args := [d1, d2, d3] }
  | _ => none }
def SatGrowsWrongFalsely : Prop := satGrowsRow.holds Try.pinned (OpenSpec.ofChange satGrowsWrong)

/-- 'doormanlaw10.MixOnes': WHATEVER THE INPUT: true; the input reads as it did. -/
def mixOnesSpec : ChangeSpec := { name := "mixOnes", fn := fun _ => fun
  | [d1, d2, d3] => { results := [.lit (.bool true)], args := [d1, d2, d3] }
  | _ => none }
def mixOnesRow : OpenClaim := { program := "ytdoofpanbcaigaa", sum := "57425292ba0dcc26cda51f95ef015240672f342a4a67c5ceecd1c55f58ce1f92", func := "doorman/doormanlaw10.MixOnes", spec := "mixOnes", apart := false }
def MixOnesSaid : Prop := mixOnesRow.holds Try.pinned (OpenSpec.ofChange mixOnesSpec)

/-- ITS FALSE NEIGHBOUR: 'it returns false'. Refute it at one input. -/
def mixOnesWrong : ChangeSpec := { name := "mixOnes", fn := fun _ => fun
  | [d1, d2, d3] => { results := [.lit (.bool false)], args := [d1, d2, d3] }
  | _ => none }
def MixOnesWrongFalsely : Prop := mixOnesRow.holds Try.pinned (OpenSpec.ofChange mixOnesWrong)

/-- 'doormanlaw10.MixBelow': WHATEVER THE INPUT: true; the input reads as it did. -/
def mixBelowSpec : ChangeSpec := { name := "mixBelow", fn := fun _ => fun
  | [d1, d2, d3] => { results := [.lit (.bool true)], args := [d1, d2, d3] }
  | _ => none }
def mixBelowRow : OpenClaim := { program := "ytdoofpanbcaigaa", sum := "57425292ba0dcc26cda51f95ef015240672f342a4a67c5ceecd1c55f58ce1f92", func := "doorman/doormanlaw10.MixBelow", spec := "mixBelow", apart := false }
def MixBelowSaid : Prop := mixBelowRow.holds Try.pinned (OpenSpec.ofChange mixBelowSpec)

/-- ITS FALSE NEIGHBOUR: 'it returns false'. Refute it at one input. -/
def mixBelowWrong : ChangeSpec := { name := "mixBelow", fn := fun _ => fun
  | [d1, d2, d3] => { results := [.lit (.bool false)], args := [d1, d2, d3] }
  | _ => none }
def MixBelowWrongFalsely : Prop := mixBelowRow.holds Try.pinned (OpenSpec.ofChange mixBelowWrong)

/-- 'doormanlaw23.BackoffTells': WHATEVER THE INPUT: true; the input reads as it did. -/
def backoffTellsSpec : ChangeSpec := { name := "backoffTells", fn := fun _ => fun
  | [d1, d2, d3] => { results := [.lit (.bool true)], args := [d1, d2, d3] }
  | _ => none }
def backoffTellsRow : OpenClaim := { program := "ytdoofpanbcaigaa", sum := "57425292ba0dcc26cda51f95ef015240672f342a4a67c5ceecd1c55f58ce1f92", func := "doorman/doormanlaw23.BackoffTells", spec := "backoffTells", apart := false }
def BackoffTellsSaid : Prop := backoffTellsRow.holds Try.pinned (OpenSpec.ofChange backoffTellsSpec)

/-- ITS FALSE NEIGHBOUR: 'it returns false'. Refute it at one input. -/
def backoffTellsWrong : ChangeSpec := { name := "backoffTells", fn := fun _ => fun
  | [d1, d2, d3] => { results := [.lit (.bool false)], args := [d1, d2, d3] }
  | _ => none }
def BackoffTellsWrongFalsely : Prop := backoffTellsRow.holds Try.pinned (OpenSpec.ofChange backoffTellsWrong)

/-- 'doormanlaw23.BackoffGrows': WHATEVER THE INPUT: true; the input reads as it did. -/
def backoffGrowsSpec : ChangeSpec := { name := "backoffGrows", fn := fun _ => fun
  | [d1, d2, d3] => { results := [.lit (.bool true)], args := [d1, d2, d3] }
  | _ => none }
def backoffGrowsRow : OpenClaim := { program := "ytdoofpanbcaigaa", sum := "57425292ba0dcc26cda51f95ef015240672f342a4a67c5ceecd1c55f58ce1f92", func := "doorman/doormanlaw23.BackoffGrows", spec := "backoffGrows", apart := false }
def BackoffGrowsSaid : Prop := backoffGrowsRow.holds Try.pinned (OpenSpec.ofChange backoffGrowsSpec)

/-- ITS FALSE NEIGHBOUR: 'it returns false'. Refute it at one input. -/
def backoffGrowsWrong : ChangeSpec := { name := "backoffGrows", fn := fun _ => fun
  | [d1, d2, d3] => { results := [.lit (.bool false)], args := [d1, d2, d3] }
  | _ => none }
def BackoffGrowsWrongFalsely : Prop := backoffGrowsRow.holds Try.pinned (OpenSpec.ofChange backoffGrowsWrong)

/-- 'doormanlaw10.MixTells': WHATEVER THE INPUT: true; the input reads as it did. -/
def mixTellsSpec : ChangeSpec := { name := "mixTells", fn := fun _ => fun
  | [d1, d2, d3] => { results := [.lit (.bool true)], args := [d1, d2, d3] }
  | _ => none }
def mixTellsRow : OpenClaim := { program := "ytdoofpanbcaigaa", sum := "57425292ba0dcc26cda51f95ef015240672f342a4a67c5ceecd1c55f58ce1f92", func := "doorman/doormanlaw10.MixTells", spec := "mixTells", apart := false }
def MixTellsSaid : Prop := mixTellsRow.holds Try.pinned (OpenSpec.ofChange mixTellsSpec)

/-- ITS FALSE NEIGHBOUR: 'it returns false'. Refute it at one input. -/
def mixTellsWrong : ChangeSpec := { name := "mixTells", fn := fun _ => fun
  | [d1, d2, d3] => { results := [.lit (.bool false)], args := [d1, d2, d3] }
  | _ => none }
def MixTellsWrongFalsely : Prop := mixTellsRow.holds Try.pinned (OpenSpec.ofChange mixTellsWrong)

/-- 'doormanlaw16.ScoreTells': WHATEVER THE INPUT: true; the input reads as it did. -/
def scoreTellsSpec : ChangeSpec := { name := "scoreTells", fn := fun _ => fun
  | [d1, d2, d3] => { results := [.lit (.bool true)], args := [d1, d2, d3] }
  | _ => none }
def scoreTellsRow : OpenClaim := { program := "ytdoofpanbcaigaa", sum := "57425292ba0dcc26cda51f95ef015240672f342a4a67c5ceecd1c55f58ce1f92", func := "doorman/doormanlaw16.ScoreTells", spec := "scoreTells", apart := false }
def ScoreTellsSaid : Prop := scoreTellsRow.holds Try.pinned (OpenSpec.ofChange scoreTellsSpec)

/-- ITS FALSE NEIGHBOUR: 'it returns false'. Refute it at one input. -/
def scoreTellsWrong : ChangeSpec := { name := "scoreTells", fn := fun _ => fun
  | [d1, d2, d3] => { results := [.lit (.bool false)], args := [d1, d2, d3] }
  | _ => none }
def ScoreTellsWrongFalsely : Prop := scoreTellsRow.holds Try.pinned (OpenSpec.ofChange scoreTellsWrong)

/-- 'doormanlaw16.ScoreAdds': WHATEVER THE INPUT: true; the input reads as it did. -/
def scoreAddsSpec : ChangeSpec := { name := "scoreAdds", fn := fun _ => fun
  | [d1, d2, d3] => { results := [.lit (.bool true)], args := [d1, d2, d3] }
  | _ => none }
def scoreAddsRow : OpenClaim := { program := "ytdoofpanbcaigaa", sum := "57425292ba0dcc26cda51f95ef015240672f342a4a67c5ceecd1c55f58ce1f92", func := "doorman/doormanlaw16.ScoreAdds", spec := "scoreAdds", apart := false }
def ScoreAddsSaid : Prop := scoreAddsRow.holds Try.pinned (OpenSpec.ofChange scoreAddsSpec)

/-- ITS FALSE NEIGHBOUR: 'it returns false'. Refute it at one input. -/
def scoreAddsWrong : ChangeSpec := { name := "scoreAdds", fn := fun _ => fun
  | [d1, d2, d3] => { results := [.lit (.bool false)], args := [d1, d2, d3] }
  | _ => none }
def ScoreAddsWrongFalsely : Prop := scoreAddsRow.holds Try.pinned (OpenSpec.ofChange scoreAddsWrong)

/-- 'doormanlaw46.ClockTells': WHATEVER THE INPUT: true; the input reads as it did. -/
def clockTellsSpec : ChangeSpec := { name := "clockTells", fn := fun _ => fun
  | [d1, d2, d3] => { results := [.lit (.bool true)], args := [d1, d2, d3] }
  | _ => none }
def clockTellsRow : OpenClaim := { program := "ytdoofpanbcaigaa", sum := "57425292ba0dcc26cda51f95ef015240672f342a4a67c5ceecd1c55f58ce1f92", func := "doorman/doormanlaw46.ClockTells", spec := "clockTells", apart := false }
def ClockTellsSaid : Prop := clockTellsRow.holds Try.pinned (OpenSpec.ofChange clockTellsSpec)

/-- ITS FALSE NEIGHBOUR: 'it returns false'. Refute it at one input. -/
def clockTellsWrong : ChangeSpec := { name := "clockTells", fn := fun _ => fun
  | [d1, d2, d3] => { results := [.lit (.bool false)], args := [d1, d2, d3] }
  | _ => none }
def ClockTellsWrongFalsely : Prop := clockTellsRow.holds Try.pinned (OpenSpec.ofChange clockTellsWrong)

/-- 'doormanlaw46.ClockStamps': WHATEVER THE INPUT: true; the input reads as it did. -/
def clockStampsSpec : ChangeSpec := { name := "clockStamps", fn := fun _ => fun
  | [d1, d2] => { results := [.lit (.bool true)], args := [d1, d2] }
  | _ => none }
def clockStampsRow : OpenClaim := { program := "ytdoofpanbcaigaa", sum := "57425292ba0dcc26cda51f95ef015240672f342a4a67c5ceecd1c55f58ce1f92", func := "doorman/doormanlaw46.ClockStamps", spec := "clockStamps", apart := false }
def ClockStampsSaid : Prop := clockStampsRow.holds Try.pinned (OpenSpec.ofChange clockStampsSpec)

/-- ITS FALSE NEIGHBOUR: 'it returns false'. Refute it at one input. -/
def clockStampsWrong : ChangeSpec := { name := "clockStamps", fn := fun _ => fun
  | [d1, d2] => { results := [.lit (.bool false)], args := [d1, d2] }
  | _ => none }
def ClockStampsWrongFalsely : Prop := clockStampsRow.holds Try.pinned (OpenSpec.ofChange clockStampsWrong)

/-- 'doormanlaw46.ClockAhead': WHATEVER THE INPUT: true; the input reads as it did. -/
def clockAheadSpec : ChangeSpec := { name := "clockAhead", fn := fun _ => fun
  | [d1, d2] => { results := [.lit (.bool true)], args := [d1, d2] }
  | _ => none }
def clockAheadRow : OpenClaim := { program := "ytdoofpanbcaigaa", sum := "57425292ba0dcc26cda51f95ef015240672f342a4a67c5ceecd1c55f58ce1f92", func := "doorman/doormanlaw46.ClockAhead", spec := "clockAhead", apart := false }
def ClockAheadSaid : Prop := clockAheadRow.holds Try.pinned (OpenSpec.ofChange clockAheadSpec)

/-- ITS FALSE NEIGHBOUR: 'it returns false'. Refute it at one input. -/
def clockAheadWrong : ChangeSpec := { name := "clockAhead", fn := fun _ => fun
  | [d1, d2] => { results := [.lit (.bool false)], args := [d1, d2] }
  | _ => none }
def ClockAheadWrongFalsely : Prop := clockAheadRow.holds Try.pinned (OpenSpec.ofChange clockAheadWrong)

/-- 'doormanlaw25.EntryTells': WHATEVER THE INPUT: true; the input reads as it did. -/
def entryTellsSpec : ChangeSpec := { name := "entryTells", fn := fun _ => fun
  | [d1, d2, d3] => { results := [.lit (.bool true)], args := [d1, d2, d3] }
  | _ => none }
def entryTellsRow : OpenClaim := { program := "ytdoofpanbcaigaa", sum := "57425292ba0dcc26cda51f95ef015240672f342a4a67c5ceecd1c55f58ce1f92", func := "doorman/doormanlaw25.EntryTells", spec := "entryTells", apart := false }
def EntryTellsSaid : Prop := entryTellsRow.holds Try.pinned (OpenSpec.ofChange entryTellsSpec)

/-- ITS FALSE NEIGHBOUR: 'it returns false'. Refute it at one input. -/
def entryTellsWrong : ChangeSpec := { name := "entryTells", fn := fun _ => fun
  | [d1, d2, d3] => { results := [.lit (.bool false)], args := [d1, d2, d3] }
  | _ => none }
def EntryTellsWrongFalsely : Prop := entryTellsRow.holds Try.pinned (OpenSpec.ofChange entryTellsWrong)

/-- 'doormanlaw25.EntryWaits': WHATEVER THE INPUT: true; the input reads as it did. -/
def entryWaitsSpec : ChangeSpec := { name := "entryWaits", fn := fun _ => fun
  | [d1, d2, d3] => { results := [.lit (.bool true)], args := [d1, d2, d3] }
  | _ => none }
def entryWaitsRow : OpenClaim := { program := "ytdoofpanbcaigaa", sum := "57425292ba0dcc26cda51f95ef015240672f342a4a67c5ceecd1c55f58ce1f92", func := "doorman/doormanlaw25.EntryWaits", spec := "entryWaits", apart := false }
def EntryWaitsSaid : Prop := entryWaitsRow.holds Try.pinned (OpenSpec.ofChange entryWaitsSpec)

/-- ITS FALSE NEIGHBOUR: 'it returns false'. Refute it at one input. -/
def entryWaitsWrong : ChangeSpec := { name := "entryWaits", fn := fun _ => fun
  | [d1, d2, d3] => { results := [.lit (.bool false)], args := [d1, d2, d3] }
  | _ => none }
def EntryWaitsWrongFalsely : Prop := entryWaitsRow.holds Try.pinned (OpenSpec.ofChange entryWaitsWrong)

/- THE SECOND FORM. 'bulk': how many values and letters a reading holds, each counted each time it is reached (what is shared counts as often as it is met; a slice's spare places count too). A statement '..UptoSaid' is the law's where the arguments, and the package variables that the reading takes, are together of bulk at most 1048576: NARROWER than '..Said'. Prove '..Said' where nothing that the law and all that it calls make is longer than what came in: it says more and counts as full. Else prove '..UptoSaid'. A law counts once. -/
mutual
def uptoBulk {H : Type} : DataW H → Nat
  | .lit (.string bytes) => bytes.length + 1
  | .lit _ => 1
  | .nil => 1
  | .ptr d => uptoBulk d + 1
  | .slice elems spare => uptoBulkAll elems + uptoBulkAll spare + 1
  | .agg parts => uptoBulkAll parts + 1
  | .iface _ d => uptoBulk d + 1
  | .map entries => uptoBulkEntries entries + 1
  | .held _ => 1
def uptoBulkAll {H : Type} : List (DataW H) → Nat
  | [] => 0
  | d :: r => uptoBulk d + uptoBulkAll r
def uptoBulkEntries {H : Type} : List (Lit × DataW H) → Nat
  | [] => 0
  | x :: r => uptoBulkEntry x + uptoBulkEntries r
def uptoBulkEntry {H : Type} : Lit × DataW H → Nat
  | (.string bytes, d) => bytes.length + uptoBulk d + 1
  | (_, d) => uptoBulk d + 1
 end
def uptoSmall : (H : Type) → List (DataW H) → Bool := fun _ ds => decide (uptoBulkAll ds ≤ 1048576)
def OpenSpec.upto (s : _root_.Go.ChangeSpec) : _root_.Go.OpenSpec := { _root_.Go.OpenSpec.ofChange s with cond := some uptoSmall }

/-- 'doormanlaw15.HalfTells', WHERE WHAT IT READS IS OF BULK AT MOST 1048576: true; the input reads as it did. -/
def halfTellsUptoRow : OpenClaim := { program := "ytdoofpanbcaigaa", sum := "57425292ba0dcc26cda51f95ef015240672f342a4a67c5ceecd1c55f58ce1f92", func := "doorman/doormanlaw15.HalfTells", spec := "halfTells", apart := false, narrowed := true }
def HalfTellsUptoSaid : Prop := halfTellsUptoRow.holds Try.pinned (OpenSpec.upto halfTellsSpec)

/-- 'doormanlaw15.HalfTwice', WHERE WHAT IT READS IS OF BULK AT MOST 1048576: true; the input reads as it did. -/
def halfTwiceUptoRow : OpenClaim := { program := "ytdoofpanbcaigaa", sum := "57425292ba0dcc26cda51f95ef015240672f342a4a67c5ceecd1c55f58ce1f92", func := "doorman/doormanlaw15.HalfTwice", spec := "halfTwice", apart := false, narrowed := true }
def HalfTwiceUptoSaid : Prop := halfTwiceUptoRow.holds Try.pinned (OpenSpec.upto halfTwiceSpec)

/-- 'doormanlaw01.SatTells', WHERE WHAT IT READS IS OF BULK AT MOST 1048576: true; the input reads as it did. -/
def satTellsUptoRow : OpenClaim := { program := "ytdoofpanbcaigaa", sum := "57425292ba0dcc26cda51f95ef015240672f342a4a67c5ceecd1c55f58ce1f92", func := "doorman/doormanlaw01.SatTells", spec := "satTells", apart := false, narrowed := true }
def SatTellsUptoSaid : Prop := satTellsUptoRow.holds Try.pinned (OpenSpec.upto satTellsSpec)

/-- 'doormanlaw01.SatOrder', WHERE WHAT IT READS IS OF BULK AT MOST 1048576: true; the input reads as it did. -/
def satOrderUptoRow : OpenClaim := { program := "ytdoofpanbcaigaa", sum := "57425292ba0dcc26cda51f95ef015240672f342a4a67c5ceecd1c55f58ce1f92", func := "doorman/doormanlaw01.SatOrder", spec := "satOrder", apart := false, narrowed := true }
def SatOrderUptoSaid : Prop := satOrderUptoRow.holds Try.pinned (OpenSpec.upto satOrderSpec)

/-- 'doormanlaw01.SatGrows', WHERE WHAT IT READS IS OF BULK AT MOST 1048576: true; the input reads as it did. -/
def satGrowsUptoRow : OpenClaim := { program := "ytdoofpanbcaigaa", sum := "57425292ba0dcc26cda51f95ef015240672f342a4a67c5ceecd1c55f58ce1f92", func := "doorman/doormanlaw01.SatGrows", spec := "satGrows", apart := false, narrowed := true }
def SatGrowsUptoSaid : Prop := satGrowsUptoRow.holds Try.pinned (OpenSpec.upto satGrowsSpec)

/-- 'doormanlaw10.MixOnes', WHERE WHAT IT READS IS OF BULK AT MOST 1048576: true; the input reads as it did. -/
def mixOnesUptoRow : OpenClaim := { program := "ytdoofpanbcaigaa", sum := "57425292ba0dcc26cda51f95ef015240672f342a4a67c5ceecd1c55f58ce1f92", func := "doorman/doormanlaw10.MixOnes", spec := "mixOnes", apart := false, narrowed := true }
def MixOnesUptoSaid : Prop := mixOnesUptoRow.holds Try.pinned (OpenSpec.upto mixOnesSpec)

/-- 'doormanlaw10.MixBelow', WHERE WHAT IT READS IS OF BULK AT MOST 1048576: true; the input reads as it did. -/
def mixBelowUptoRow : OpenClaim := { program := "ytdoofpanbcaigaa", sum := "57425292ba0dcc26cda51f95ef015240672f342a4a67c5ceecd1c55f58ce1f92", func := "doorman/doormanlaw10.MixBelow", spec := "mixBelow", apart := false, narrowed := true }
def MixBelowUptoSaid : Prop := mixBelowUptoRow.holds Try.pinned (OpenSpec.upto mixBelowSpec)

/-- 'doormanlaw23.BackoffTells', WHERE WHAT IT READS IS OF BULK AT MOST 1048576: true; the input reads as it did. -/
def backoffTellsUptoRow : OpenClaim := { program := "ytdoofpanbcaigaa", sum := "57425292ba0dcc26cda51f95ef015240672f342a4a67c5ceecd1c55f58ce1f92", func := "doorman/doormanlaw23.BackoffTells", spec := "backoffTells", apart := false, narrowed := true }
def BackoffTellsUptoSaid : Prop := backoffTellsUptoRow.holds Try.pinned (OpenSpec.upto backoffTellsSpec)

/-- 'doormanlaw23.BackoffGrows', WHERE WHAT IT READS IS OF BULK AT MOST 1048576: true; the input reads as it did. -/
def backoffGrowsUptoRow : OpenClaim := { program := "ytdoofpanbcaigaa", sum := "57425292ba0dcc26cda51f95ef015240672f342a4a67c5ceecd1c55f58ce1f92", func := "doorman/doormanlaw23.BackoffGrows", spec := "backoffGrows", apart := false, narrowed := true }
def BackoffGrowsUptoSaid : Prop := backoffGrowsUptoRow.holds Try.pinned (OpenSpec.upto backoffGrowsSpec)

/-- 'doormanlaw10.MixTells', WHERE WHAT IT READS IS OF BULK AT MOST 1048576: true; the input reads as it did. -/
def mixTellsUptoRow : OpenClaim := { program := "ytdoofpanbcaigaa", sum := "57425292ba0dcc26cda51f95ef015240672f342a4a67c5ceecd1c55f58ce1f92", func := "doorman/doormanlaw10.MixTells", spec := "mixTells", apart := false, narrowed := true }
def MixTellsUptoSaid : Prop := mixTellsUptoRow.holds Try.pinned (OpenSpec.upto mixTellsSpec)

/-- 'doormanlaw16.ScoreTells', WHERE WHAT IT READS IS OF BULK AT MOST 1048576: true; the input reads as it did. -/
def scoreTellsUptoRow : OpenClaim := { program := "ytdoofpanbcaigaa", sum := "57425292ba0dcc26cda51f95ef015240672f342a4a67c5ceecd1c55f58ce1f92", func := "doorman/doormanlaw16.ScoreTells", spec := "scoreTells", apart := false, narrowed := true }
def ScoreTellsUptoSaid : Prop := scoreTellsUptoRow.holds Try.pinned (OpenSpec.upto scoreTellsSpec)

/-- 'doormanlaw16.ScoreAdds', WHERE WHAT IT READS IS OF BULK AT MOST 1048576: true; the input reads as it did. -/
def scoreAddsUptoRow : OpenClaim := { program := "ytdoofpanbcaigaa", sum := "57425292ba0dcc26cda51f95ef015240672f342a4a67c5ceecd1c55f58ce1f92", func := "doorman/doormanlaw16.ScoreAdds", spec := "scoreAdds", apart := false, narrowed := true }
def ScoreAddsUptoSaid : Prop := scoreAddsUptoRow.holds Try.pinned (OpenSpec.upto scoreAddsSpec)

/-- 'doormanlaw46.ClockTells', WHERE WHAT IT READS IS OF BULK AT MOST 1048576: true; the input reads as it did. -/
def clockTellsUptoRow : OpenClaim := { program := "ytdoofpanbcaigaa", sum := "57425292ba0dcc26cda51f95ef015240672f342a4a67c5ceecd1c55f58ce1f92", func := "doorman/doormanlaw46.ClockTells", spec := "clockTells", apart := false, narrowed := true }
def ClockTellsUptoSaid : Prop := clockTellsUptoRow.holds Try.pinned (OpenSpec.upto clockTellsSpec)

/-- 'doormanlaw46.ClockStamps', WHERE WHAT IT READS IS OF BULK AT MOST 1048576: true; the input reads as it did. -/
def clockStampsUptoRow : OpenClaim := { program := "ytdoofpanbcaigaa", sum := "57425292ba0dcc26cda51f95ef015240672f342a4a67c5ceecd1c55f58ce1f92", func := "doorman/doormanlaw46.ClockStamps", spec := "clockStamps", apart := false, narrowed := true }
def ClockStampsUptoSaid : Prop := clockStampsUptoRow.holds Try.pinned (OpenSpec.upto clockStampsSpec)

/-- 'doormanlaw46.ClockAhead', WHERE WHAT IT READS IS OF BULK AT MOST 1048576: true; the input reads as it did. -/
def clockAheadUptoRow : OpenClaim := { program := "ytdoofpanbcaigaa", sum := "57425292ba0dcc26cda51f95ef015240672f342a4a67c5ceecd1c55f58ce1f92", func := "doorman/doormanlaw46.ClockAhead", spec := "clockAhead", apart := false, narrowed := true }
def ClockAheadUptoSaid : Prop := clockAheadUptoRow.holds Try.pinned (OpenSpec.upto clockAheadSpec)

/-- 'doormanlaw25.EntryTells', WHERE WHAT IT READS IS OF BULK AT MOST 1048576: true; the input reads as it did. -/
def entryTellsUptoRow : OpenClaim := { program := "ytdoofpanbcaigaa", sum := "57425292ba0dcc26cda51f95ef015240672f342a4a67c5ceecd1c55f58ce1f92", func := "doorman/doormanlaw25.EntryTells", spec := "entryTells", apart := false, narrowed := true }
def EntryTellsUptoSaid : Prop := entryTellsUptoRow.holds Try.pinned (OpenSpec.upto entryTellsSpec)

/-- 'doormanlaw25.EntryWaits', WHERE WHAT IT READS IS OF BULK AT MOST 1048576: true; the input reads as it did. -/
def entryWaitsUptoRow : OpenClaim := { program := "ytdoofpanbcaigaa", sum := "57425292ba0dcc26cda51f95ef015240672f342a4a67c5ceecd1c55f58ce1f92", func := "doorman/doormanlaw25.EntryWaits", spec := "entryWaits", apart := false, narrowed := true }
def EntryWaitsUptoSaid : Prop := entryWaitsUptoRow.holds Try.pinned (OpenSpec.upto entryWaitsSpec)

end Rows
end Go.Proofs.Ytdoofpanbcaigaa
