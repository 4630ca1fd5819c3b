/-
  No cell of these rows narrows 'for every input' (looked for: loops, veiled, ifaces, maps, wideKeys, modest, calm, conditions, laid).
  DERIVED. THE GIVEN ROWS OF THIS SEAT. 12 by the template 'for every input the law returns true; each argument reads behind the call as it read before'; 0 by the template 'total and deterministic' (their statements: YtnfiiclmbiiokaaTotals.lean).
  GIVEN WITH THE SEED: the statements are not yours to turn. If you find one false, say at which input.
  Laid BY PROGRAM, IN A SANDBOX (cutbox-rows.mjs): the forced cells as the released guide's own fill.sh prints them over the translation 5391c97d2672b066… (all of the seat's roots in one cut). By AI agents, Wed Nov 11 2026. No macro, syntax, notation, axiom, sorry.
-/
import Derived.Test.YtnfiiclmbiiokaaChecked
import GoSem.Claim
import GoSem.ClaimJoined
import GoSem.ClaimMapViews
import Derived.JoinedTies
import Derived.KernelRfl
namespace Go.Proofs.Ytnfiiclmbiiokaa
/- THE CELL 'sum', in the pinned program and in every row, IS THE sha256 OF THE DUMP (.gsa) THAT YtnfiiclmbiiokaaProg.lean LOADS. Nothing in Lean hashes anything: it is a label: what it is worth is what the hold of that sum in a sandbox is worth. -/
noncomputable def Try.pinned : Pinned := { name := "ytnfiiclmbiiokaa", sum := "5391c97d2672b066d229a76e4f1e1c550a6050fd6ee497e14df694c96d08ad05", checked := Try.checked }
namespace Rows
def none {H : Type} : Left H := { results := [], args := [] }

/-- 'fardellaw01.FieldLoads': WHATEVER THE INPUT: true; the input reads as it did. -/
def fieldLoadsSpec : ChangeSpec := { name := "fieldLoads", fn := fun _ => fun
  | [d1, d2, d3] => { results := [.lit (.bool true)], args := [d1, d2, d3] }
  | _ => none }
def fieldLoadsRow : OpenClaim := { program := "ytnfiiclmbiiokaa", sum := "5391c97d2672b066d229a76e4f1e1c550a6050fd6ee497e14df694c96d08ad05", func := "fardel/fardellaw01.FieldLoads", spec := "fieldLoads", inPlace := ["math/bits.Add64"], unfollowed := true, recurses := true, apart := false }
def FieldLoadsSaid : Prop := fieldLoadsRow.holds Try.pinned (OpenSpec.ofChange fieldLoadsSpec)

/-- ITS FALSE NEIGHBOUR: 'it returns false'. Refute it at one input. -/
def fieldLoadsWrong : ChangeSpec := { name := "fieldLoads", fn := fun _ => fun
  | [d1, d2, d3] => { results := [.lit (.bool false)], args := [d1, d2, d3] }
  | _ => none }
def FieldLoadsWrongFalsely : Prop := fieldLoadsRow.holds Try.pinned (OpenSpec.ofChange fieldLoadsWrong)

/-- 'fardellaw01.FieldBytes': WHATEVER THE INPUT: true; the input reads as it did. -/
def fieldBytesSpec : ChangeSpec := { name := "fieldBytes", fn := fun _ => fun
  | [d] => { results := [.lit (.bool true)], args := [d] }
  | _ => none }
def fieldBytesRow : OpenClaim := { program := "ytnfiiclmbiiokaa", sum := "5391c97d2672b066d229a76e4f1e1c550a6050fd6ee497e14df694c96d08ad05", func := "fardel/fardellaw01.FieldBytes", spec := "fieldBytes", inPlace := ["math/bits.Add64"], unfollowed := true, recurses := true, apart := false }
def FieldBytesSaid : Prop := fieldBytesRow.holds Try.pinned (OpenSpec.ofChange fieldBytesSpec)

/-- ITS FALSE NEIGHBOUR: 'it returns false'. Refute it at one input. -/
def fieldBytesWrong : ChangeSpec := { name := "fieldBytes", fn := fun _ => fun
  | [d] => { results := [.lit (.bool false)], args := [d] }
  | _ => none }
def FieldBytesWrongFalsely : Prop := fieldBytesRow.holds Try.pinned (OpenSpec.ofChange fieldBytesWrong)

/-- 'fardellaw01.FieldPlays': WHATEVER THE INPUT: true; the input reads as it did. -/
def fieldPlaysSpec : ChangeSpec := { name := "fieldPlays", fn := fun _ => fun
  | [d1, d2, d3] => { results := [.lit (.bool true)], args := [d1, d2, d3] }
  | _ => none }
def fieldPlaysRow : OpenClaim := { program := "ytnfiiclmbiiokaa", sum := "5391c97d2672b066d229a76e4f1e1c550a6050fd6ee497e14df694c96d08ad05", func := "fardel/fardellaw01.FieldPlays", spec := "fieldPlays", inPlace := ["math/bits.Add64"], unfollowed := true, recurses := true, apart := false }
def FieldPlaysSaid : Prop := fieldPlaysRow.holds Try.pinned (OpenSpec.ofChange fieldPlaysSpec)

/-- ITS FALSE NEIGHBOUR: 'it returns false'. Refute it at one input. -/
def fieldPlaysWrong : ChangeSpec := { name := "fieldPlays", fn := fun _ => fun
  | [d1, d2, d3] => { results := [.lit (.bool false)], args := [d1, d2, d3] }
  | _ => none }
def FieldPlaysWrongFalsely : Prop := fieldPlaysRow.holds Try.pinned (OpenSpec.ofChange fieldPlaysWrong)

/-- 'fardellaw01.FieldRoots': WHATEVER THE INPUT: true; the input reads as it did. -/
def fieldRootsSpec : ChangeSpec := { name := "fieldRoots", fn := fun _ => fun
  | [d1, d2] => { results := [.lit (.bool true)], args := [d1, d2] }
  | _ => none }
def fieldRootsRow : OpenClaim := { program := "ytnfiiclmbiiokaa", sum := "5391c97d2672b066d229a76e4f1e1c550a6050fd6ee497e14df694c96d08ad05", func := "fardel/fardellaw01.FieldRoots", spec := "fieldRoots", inPlace := ["math/bits.Add64"], unfollowed := true, recurses := true, apart := false }
def FieldRootsSaid : Prop := fieldRootsRow.holds Try.pinned (OpenSpec.ofChange fieldRootsSpec)

/-- ITS FALSE NEIGHBOUR: 'it returns false'. Refute it at one input. -/
def fieldRootsWrong : ChangeSpec := { name := "fieldRoots", fn := fun _ => fun
  | [d1, d2] => { results := [.lit (.bool false)], args := [d1, d2] }
  | _ => none }
def FieldRootsWrongFalsely : Prop := fieldRootsRow.holds Try.pinned (OpenSpec.ofChange fieldRootsWrong)

/-- 'fardellaw01.FieldSmall': WHATEVER THE INPUT: true; the input reads as it did. -/
def fieldSmallSpec : ChangeSpec := { name := "fieldSmall", fn := fun _ => fun
  | [d1, d2] => { results := [.lit (.bool true)], args := [d1, d2] }
  | _ => none }
def fieldSmallRow : OpenClaim := { program := "ytnfiiclmbiiokaa", sum := "5391c97d2672b066d229a76e4f1e1c550a6050fd6ee497e14df694c96d08ad05", func := "fardel/fardellaw01.FieldSmall", spec := "fieldSmall", inPlace := ["math/bits.Add64"], unfollowed := true, recurses := true, apart := false }
def FieldSmallSaid : Prop := fieldSmallRow.holds Try.pinned (OpenSpec.ofChange fieldSmallSpec)

/-- ITS FALSE NEIGHBOUR: 'it returns false'. Refute it at one input. -/
def fieldSmallWrong : ChangeSpec := { name := "fieldSmall", fn := fun _ => fun
  | [d1, d2] => { results := [.lit (.bool false)], args := [d1, d2] }
  | _ => none }
def FieldSmallWrongFalsely : Prop := fieldSmallRow.holds Try.pinned (OpenSpec.ofChange fieldSmallWrong)

/-- 'fardellaw01.FieldTells': WHATEVER THE INPUT: true; the input reads as it did. -/
def fieldTellsSpec : ChangeSpec := { name := "fieldTells", fn := fun _ => fun
  | [d1, d2] => { results := [.lit (.bool true)], args := [d1, d2] }
  | _ => none }
def fieldTellsRow : OpenClaim := { program := "ytnfiiclmbiiokaa", sum := "5391c97d2672b066d229a76e4f1e1c550a6050fd6ee497e14df694c96d08ad05", func := "fardel/fardellaw01.FieldTells", spec := "fieldTells", inPlace := ["math/bits.Add64"], unfollowed := true, recurses := true, apart := false }
def FieldTellsSaid : Prop := fieldTellsRow.holds Try.pinned (OpenSpec.ofChange fieldTellsSpec)

/-- ITS FALSE NEIGHBOUR: 'it returns false'. Refute it at one input. -/
def fieldTellsWrong : ChangeSpec := { name := "fieldTells", fn := fun _ => fun
  | [d1, d2] => { results := [.lit (.bool false)], args := [d1, d2] }
  | _ => none }
def FieldTellsWrongFalsely : Prop := fieldTellsRow.holds Try.pinned (OpenSpec.ofChange fieldTellsWrong)

/-- 'fardellaw01.FieldRing': WHATEVER THE INPUT: true; the input reads as it did. -/
def fieldRingSpec : ChangeSpec := { name := "fieldRing", fn := fun _ => fun
  | [d1, d2, d3] => { results := [.lit (.bool true)], args := [d1, d2, d3] }
  | _ => none }
def fieldRingRow : OpenClaim := { program := "ytnfiiclmbiiokaa", sum := "5391c97d2672b066d229a76e4f1e1c550a6050fd6ee497e14df694c96d08ad05", func := "fardel/fardellaw01.FieldRing", spec := "fieldRing", inPlace := ["math/bits.Add64"], unfollowed := true, recurses := true, apart := false }
def FieldRingSaid : Prop := fieldRingRow.holds Try.pinned (OpenSpec.ofChange fieldRingSpec)

/-- ITS FALSE NEIGHBOUR: 'it returns false'. Refute it at one input. -/
def fieldRingWrong : ChangeSpec := { name := "fieldRing", fn := fun _ => fun
  | [d1, d2, d3] => { results := [.lit (.bool false)], args := [d1, d2, d3] }
  | _ => none }
def FieldRingWrongFalsely : Prop := fieldRingRow.holds Try.pinned (OpenSpec.ofChange fieldRingWrong)

/-- 'fardellaw06.LadderTells': WHATEVER THE INPUT: true; the input reads as it did. -/
def ladderTellsSpec : ChangeSpec := { name := "ladderTells", fn := fun _ => fun
  | [d1, d2] => { results := [.lit (.bool true)], args := [d1, d2] }
  | _ => none }
def ladderTellsRow : OpenClaim := { program := "ytnfiiclmbiiokaa", sum := "5391c97d2672b066d229a76e4f1e1c550a6050fd6ee497e14df694c96d08ad05", func := "fardel/fardellaw06.LadderTells", spec := "ladderTells", inPlace := ["math/bits.Add64"], unfollowed := true, recurses := true, apart := false }
def LadderTellsSaid : Prop := ladderTellsRow.holds Try.pinned (OpenSpec.ofChange ladderTellsSpec)

/-- ITS FALSE NEIGHBOUR: 'it returns false'. Refute it at one input. -/
def ladderTellsWrong : ChangeSpec := { name := "ladderTells", fn := fun _ => fun
  | [d1, d2] => { results := [.lit (.bool false)], args := [d1, d2] }
  | _ => none }
def LadderTellsWrongFalsely : Prop := ladderTellsRow.holds Try.pinned (OpenSpec.ofChange ladderTellsWrong)

/-- 'fardellaw06.LadderMeets': WHATEVER THE INPUT: true; the input reads as it did. -/
def ladderMeetsSpec : ChangeSpec := { name := "ladderMeets", fn := fun _ => fun
  | [d1, d2] => { results := [.lit (.bool true)], args := [d1, d2] }
  | _ => none }
def ladderMeetsRow : OpenClaim := { program := "ytnfiiclmbiiokaa", sum := "5391c97d2672b066d229a76e4f1e1c550a6050fd6ee497e14df694c96d08ad05", func := "fardel/fardellaw06.LadderMeets", spec := "ladderMeets", inPlace := ["math/bits.Add64"], unfollowed := true, recurses := true, apart := false }
def LadderMeetsSaid : Prop := ladderMeetsRow.holds Try.pinned (OpenSpec.ofChange ladderMeetsSpec)

/-- ITS FALSE NEIGHBOUR: 'it returns false'. Refute it at one input. -/
def ladderMeetsWrong : ChangeSpec := { name := "ladderMeets", fn := fun _ => fun
  | [d1, d2] => { results := [.lit (.bool false)], args := [d1, d2] }
  | _ => none }
def LadderMeetsWrongFalsely : Prop := ladderMeetsRow.holds Try.pinned (OpenSpec.ofChange ladderMeetsWrong)

/-- 'fardellaw06.LadderBits': WHATEVER THE INPUT: true; the input reads as it did. -/
def ladderBitsSpec : ChangeSpec := { name := "ladderBits", fn := fun _ => fun
  | [d1, d2, d3, d4] => { results := [.lit (.bool true)], args := [d1, d2, d3, d4] }
  | _ => none }
def ladderBitsRow : OpenClaim := { program := "ytnfiiclmbiiokaa", sum := "5391c97d2672b066d229a76e4f1e1c550a6050fd6ee497e14df694c96d08ad05", func := "fardel/fardellaw06.LadderBits", spec := "ladderBits", inPlace := ["math/bits.Add64"], unfollowed := true, recurses := true, apart := false }
def LadderBitsSaid : Prop := ladderBitsRow.holds Try.pinned (OpenSpec.ofChange ladderBitsSpec)

/-- ITS FALSE NEIGHBOUR: 'it returns false'. Refute it at one input. -/
def ladderBitsWrong : ChangeSpec := { name := "ladderBits", fn := fun _ => fun
  | [d1, d2, d3, d4] => { results := [.lit (.bool false)], args := [d1, d2, d3, d4] }
  | _ => none }
def LadderBitsWrongFalsely : Prop := ladderBitsRow.holds Try.pinned (OpenSpec.ofChange ladderBitsWrong)

/-- 'fardellaw06.LadderChain': WHATEVER THE INPUT: true; the input reads as it did. -/
def ladderChainSpec : ChangeSpec := { name := "ladderChain", fn := fun _ => fun
  | [d1, d2, d3] => { results := [.lit (.bool true)], args := [d1, d2, d3] }
  | _ => none }
def ladderChainRow : OpenClaim := { program := "ytnfiiclmbiiokaa", sum := "5391c97d2672b066d229a76e4f1e1c550a6050fd6ee497e14df694c96d08ad05", func := "fardel/fardellaw06.LadderChain", spec := "ladderChain", inPlace := ["math/bits.Add64"], unfollowed := true, recurses := true, apart := false }
def LadderChainSaid : Prop := ladderChainRow.holds Try.pinned (OpenSpec.ofChange ladderChainSpec)

/-- ITS FALSE NEIGHBOUR: 'it returns false'. Refute it at one input. -/
def ladderChainWrong : ChangeSpec := { name := "ladderChain", fn := fun _ => fun
  | [d1, d2, d3] => { results := [.lit (.bool false)], args := [d1, d2, d3] }
  | _ => none }
def LadderChainWrongFalsely : Prop := ladderChainRow.holds Try.pinned (OpenSpec.ofChange ladderChainWrong)

/-- 'fardellaw06.LadderZero': WHATEVER THE INPUT: true; the input reads as it did. -/
def ladderZeroSpec : ChangeSpec := { name := "ladderZero", fn := fun _ => fun
  | [d1, d2] => { results := [.lit (.bool true)], args := [d1, d2] }
  | _ => none }
def ladderZeroRow : OpenClaim := { program := "ytnfiiclmbiiokaa", sum := "5391c97d2672b066d229a76e4f1e1c550a6050fd6ee497e14df694c96d08ad05", func := "fardel/fardellaw06.LadderZero", spec := "ladderZero", inPlace := ["math/bits.Add64"], unfollowed := true, recurses := true, apart := false }
def LadderZeroSaid : Prop := ladderZeroRow.holds Try.pinned (OpenSpec.ofChange ladderZeroSpec)

/-- ITS FALSE NEIGHBOUR: 'it returns false'. Refute it at one input. -/
def ladderZeroWrong : ChangeSpec := { name := "ladderZero", fn := fun _ => fun
  | [d1, d2] => { results := [.lit (.bool false)], args := [d1, d2] }
  | _ => none }
def LadderZeroWrongFalsely : Prop := ladderZeroRow.holds Try.pinned (OpenSpec.ofChange ladderZeroWrong)

/- THE SECOND FORM. 'bulk': how many values and letters a reading holds, each counted each time it is reached (what is shared counts as often as it is met; a slice's spare places count too). A statement '..UptoSaid' is the law's where the arguments, and the package variables that the reading takes, are together of bulk at most 1048576: NARROWER than '..Said'. Prove '..Said' where nothing that the law and all that it calls make is longer than what came in: it says more and counts as full. Else prove '..UptoSaid'. A law counts once. -/
mutual
def uptoBulk {H : Type} : DataW H → Nat
  | .lit (.string bytes) => bytes.length + 1
  | .lit _ => 1
  | .nil => 1
  | .ptr d => uptoBulk d + 1
  | .slice elems spare => uptoBulkAll elems + uptoBulkAll spare + 1
  | .agg parts => uptoBulkAll parts + 1
  | .iface _ d => uptoBulk d + 1
  | .map entries => uptoBulkEntries entries + 1
  | .held _ => 1
def uptoBulkAll {H : Type} : List (DataW H) → Nat
  | [] => 0
  | d :: r => uptoBulk d + uptoBulkAll r
def uptoBulkEntries {H : Type} : List (Lit × DataW H) → Nat
  | [] => 0
  | x :: r => uptoBulkEntry x + uptoBulkEntries r
def uptoBulkEntry {H : Type} : Lit × DataW H → Nat
  | (.string bytes, d) => bytes.length + uptoBulk d + 1
  | (_, d) => uptoBulk d + 1
 end
def uptoSmall : (H : Type) → List (DataW H) → Bool := fun _ ds => decide (uptoBulkAll ds ≤ 1048576)
def OpenSpec.upto (s : _root_.Go.ChangeSpec) : _root_.Go.OpenSpec := { _root_.Go.OpenSpec.ofChange s with cond := some uptoSmall }

/-- 'fardellaw01.FieldLoads', WHERE WHAT IT READS IS OF BULK AT MOST 1048576: true; the input reads as it did. -/
def fieldLoadsUptoRow : OpenClaim := { program := "ytnfiiclmbiiokaa", sum := "5391c97d2672b066d229a76e4f1e1c550a6050fd6ee497e14df694c96d08ad05", func := "fardel/fardellaw01.FieldLoads", spec := "fieldLoads", inPlace := ["math/bits.Add64"], unfollowed := true, recurses := true, apart := false, narrowed := true }
def FieldLoadsUptoSaid : Prop := fieldLoadsUptoRow.holds Try.pinned (OpenSpec.upto fieldLoadsSpec)

/-- 'fardellaw01.FieldBytes', WHERE WHAT IT READS IS OF BULK AT MOST 1048576: true; the input reads as it did. -/
def fieldBytesUptoRow : OpenClaim := { program := "ytnfiiclmbiiokaa", sum := "5391c97d2672b066d229a76e4f1e1c550a6050fd6ee497e14df694c96d08ad05", func := "fardel/fardellaw01.FieldBytes", spec := "fieldBytes", inPlace := ["math/bits.Add64"], unfollowed := true, recurses := true, apart := false, narrowed := true }
def FieldBytesUptoSaid : Prop := fieldBytesUptoRow.holds Try.pinned (OpenSpec.upto fieldBytesSpec)

/-- 'fardellaw01.FieldPlays', WHERE WHAT IT READS IS OF BULK AT MOST 1048576: true; the input reads as it did. -/
def fieldPlaysUptoRow : OpenClaim := { program := "ytnfiiclmbiiokaa", sum := "5391c97d2672b066d229a76e4f1e1c550a6050fd6ee497e14df694c96d08ad05", func := "fardel/fardellaw01.FieldPlays", spec := "fieldPlays", inPlace := ["math/bits.Add64"], unfollowed := true, recurses := true, apart := false, narrowed := true }
def FieldPlaysUptoSaid : Prop := fieldPlaysUptoRow.holds Try.pinned (OpenSpec.upto fieldPlaysSpec)

/-- 'fardellaw01.FieldRoots', WHERE WHAT IT READS IS OF BULK AT MOST 1048576: true; the input reads as it did. -/
def fieldRootsUptoRow : OpenClaim := { program := "ytnfiiclmbiiokaa", sum := "5391c97d2672b066d229a76e4f1e1c550a6050fd6ee497e14df694c96d08ad05", func := "fardel/fardellaw01.FieldRoots", spec := "fieldRoots", inPlace := ["math/bits.Add64"], unfollowed := true, recurses := true, apart := false, narrowed := true }
def FieldRootsUptoSaid : Prop := fieldRootsUptoRow.holds Try.pinned (OpenSpec.upto fieldRootsSpec)

/-- 'fardellaw01.FieldSmall', WHERE WHAT IT READS IS OF BULK AT MOST 1048576: true; the input reads as it did. -/
def fieldSmallUptoRow : OpenClaim := { program := "ytnfiiclmbiiokaa", sum := "5391c97d2672b066d229a76e4f1e1c550a6050fd6ee497e14df694c96d08ad05", func := "fardel/fardellaw01.FieldSmall", spec := "fieldSmall", inPlace := ["math/bits.Add64"], unfollowed := true, recurses := true, apart := false, narrowed := true }
def FieldSmallUptoSaid : Prop := fieldSmallUptoRow.holds Try.pinned (OpenSpec.upto fieldSmallSpec)

/-- 'fardellaw01.FieldTells', WHERE WHAT IT READS IS OF BULK AT MOST 1048576: true; the input reads as it did. -/
def fieldTellsUptoRow : OpenClaim := { program := "ytnfiiclmbiiokaa", sum := "5391c97d2672b066d229a76e4f1e1c550a6050fd6ee497e14df694c96d08ad05", func := "fardel/fardellaw01.FieldTells", spec := "fieldTells", inPlace := ["math/bits.Add64"], unfollowed := true, recurses := true, apart := false, narrowed := true }
def FieldTellsUptoSaid : Prop := fieldTellsUptoRow.holds Try.pinned (OpenSpec.upto fieldTellsSpec)

/-- 'fardellaw01.FieldRing', WHERE WHAT IT READS IS OF BULK AT MOST 1048576: true; the input reads as it did. -/
def fieldRingUptoRow : OpenClaim := { program := "ytnfiiclmbiiokaa", sum := "5391c97d2672b066d229a76e4f1e1c550a6050fd6ee497e14df694c96d08ad05", func := "fardel/fardellaw01.FieldRing", spec := "fieldRing", inPlace := ["math/bits.Add64"], unfollowed := true, recurses := true, apart := false, narrowed := true }
def FieldRingUptoSaid : Prop := fieldRingUptoRow.holds Try.pinned (OpenSpec.upto fieldRingSpec)

/-- 'fardellaw06.LadderTells', WHERE WHAT IT READS IS OF BULK AT MOST 1048576: true; the input reads as it did. -/
def ladderTellsUptoRow : OpenClaim := { program := "ytnfiiclmbiiokaa", sum := "5391c97d2672b066d229a76e4f1e1c550a6050fd6ee497e14df694c96d08ad05", func := "fardel/fardellaw06.LadderTells", spec := "ladderTells", inPlace := ["math/bits.Add64"], unfollowed := true, recurses := true, apart := false, narrowed := true }
def LadderTellsUptoSaid : Prop := ladderTellsUptoRow.holds Try.pinned (OpenSpec.upto ladderTellsSpec)

/-- 'fardellaw06.LadderMeets', WHERE WHAT IT READS IS OF BULK AT MOST 1048576: true; the input reads as it did. -/
def ladderMeetsUptoRow : OpenClaim := { program := "ytnfiiclmbiiokaa", sum := "5391c97d2672b066d229a76e4f1e1c550a6050fd6ee497e14df694c96d08ad05", func := "fardel/fardellaw06.LadderMeets", spec := "ladderMeets", inPlace := ["math/bits.Add64"], unfollowed := true, recurses := true, apart := false, narrowed := true }
def LadderMeetsUptoSaid : Prop := ladderMeetsUptoRow.holds Try.pinned (OpenSpec.upto ladderMeetsSpec)

/-- 'fardellaw06.LadderBits', WHERE WHAT IT READS IS OF BULK AT MOST 1048576: true; the input reads as it did. -/
def ladderBitsUptoRow : OpenClaim := { program := "ytnfiiclmbiiokaa", sum := "5391c97d2672b066d229a76e4f1e1c550a6050fd6ee497e14df694c96d08ad05", func := "fardel/fardellaw06.LadderBits", spec := "ladderBits", inPlace := ["math/bits.Add64"], unfollowed := true, recurses := true, apart := false, narrowed := true }
def LadderBitsUptoSaid : Prop := ladderBitsUptoRow.holds Try.pinned (OpenSpec.upto ladderBitsSpec)

/-- 'fardellaw06.LadderChain', WHERE WHAT IT READS IS OF BULK AT MOST 1048576: true; the input reads as it did. -/
def ladderChainUptoRow : OpenClaim := { program := "ytnfiiclmbiiokaa", sum := "5391c97d2672b066d229a76e4f1e1c550a6050fd6ee497e14df694c96d08ad05", func := "fardel/fardellaw06.LadderChain", spec := "ladderChain", inPlace := ["math/bits.Add64"], unfollowed := true, recurses := true, apart := false, narrowed := true }
def LadderChainUptoSaid : Prop := ladderChainUptoRow.holds Try.pinned (OpenSpec.upto ladderChainSpec)

/-- 'fardellaw06.LadderZero', WHERE WHAT IT READS IS OF BULK AT MOST 1048576: true; the input reads as it did. -/
def ladderZeroUptoRow : OpenClaim := { program := "ytnfiiclmbiiokaa", sum := "5391c97d2672b066d229a76e4f1e1c550a6050fd6ee497e14df694c96d08ad05", func := "fardel/fardellaw06.LadderZero", spec := "ladderZero", inPlace := ["math/bits.Add64"], unfollowed := true, recurses := true, apart := false, narrowed := true }
def LadderZeroUptoSaid : Prop := ladderZeroUptoRow.holds Try.pinned (OpenSpec.upto ladderZeroSpec)

end Rows
end Go.Proofs.Ytnfiiclmbiiokaa
