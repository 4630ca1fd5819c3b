/-
  No cell of these rows narrows 'for every input' (looked for: loops, veiled, ifaces, maps, wideKeys, modest, calm, conditions, laid).
  DERIVED. THE GIVEN ROWS OF THIS SEAT. 23 by the template 'for every input the law returns true; each argument reads behind the call as it read before'; 0 by the template 'total and deterministic' (their statements: YtkpelchcpiafaaaTotals.lean).
  GIVEN WITH THE SEED: the statements are not yours to turn. If you find one false, say at which input.
  Laid BY PROGRAM, IN A SANDBOX (cutbox-rows.mjs): the forced cells as the released guide's own fill.sh prints them over the translation 38bec0b954feed2d… (all of the seat's roots in one cut). By AI agents, Wed Nov 11 2026. No macro, syntax, notation, axiom, sorry.
-/
import Derived.Test.YtkpelchcpiafaaaChecked
import GoSem.Claim
import GoSem.ClaimJoined
import GoSem.ClaimMapViews
import Derived.JoinedTies
import Derived.KernelRfl
namespace Go.Proofs.Ytkpelchcpiafaaa
/- THE CELL 'sum', in the pinned program and in every row, IS THE sha256 OF THE DUMP (.gsa) THAT YtkpelchcpiafaaaProg.lean LOADS. Nothing in Lean hashes anything: it is a label: what it is worth is what the hold of that sum in a sandbox is worth. -/
noncomputable def Try.pinned : Pinned := { name := "ytkpelchcpiafaaa", sum := "38bec0b954feed2d7ca5dafcc947a4314de516cc33c197088652f603e5ec78bd", checked := Try.checked }
namespace Rows
def none {H : Type} : Left H := { results := [], args := [] }

/-- 'fardellaw09.ChachaNames': WHATEVER THE INPUT: true; the input reads as it did. -/
def chachaNamesSpec : ChangeSpec := { name := "chachaNames", fn := fun _ => fun
  | [] => { results := [.lit (.bool true)], args := [] }
  | _ => none }
def chachaNamesRow : OpenClaim := { program := "ytkpelchcpiafaaa", sum := "38bec0b954feed2d7ca5dafcc947a4314de516cc33c197088652f603e5ec78bd", func := "fardel/fardellaw09.ChachaNames", spec := "chachaNames", unfollowed := true, recurses := true, apart := false }
def ChachaNamesSaid : Prop := chachaNamesRow.holds Try.pinned (OpenSpec.ofChange chachaNamesSpec)

/-- ITS FALSE NEIGHBOUR: 'it returns false'. Refute it at one input. -/
def chachaNamesWrong : ChangeSpec := { name := "chachaNames", fn := fun _ => fun
  | [] => { results := [.lit (.bool false)], args := [] }
  | _ => none }
def ChachaNamesWrongFalsely : Prop := chachaNamesRow.holds Try.pinned (OpenSpec.ofChange chachaNamesWrong)

/-- 'fardellaw09.ChachaTells': WHATEVER THE INPUT: true; the input reads as it did. -/
def chachaTellsSpec : ChangeSpec := { name := "chachaTells", fn := fun _ => fun
  | [d1, d2, d3, d4] => { results := [.lit (.bool true)], args := [d1, d2, d3, d4] }
  | _ => none }
def chachaTellsRow : OpenClaim := { program := "ytkpelchcpiafaaa", sum := "38bec0b954feed2d7ca5dafcc947a4314de516cc33c197088652f603e5ec78bd", func := "fardel/fardellaw09.ChachaTells", spec := "chachaTells", unfollowed := true, recurses := true, apart := false }
def ChachaTellsSaid : Prop := chachaTellsRow.holds Try.pinned (OpenSpec.ofChange chachaTellsSpec)

/-- ITS FALSE NEIGHBOUR: 'it returns false'. Refute it at one input. -/
def chachaTellsWrong : ChangeSpec := { name := "chachaTells", fn := fun _ => fun
  | [d1, d2, d3, d4] => { results := [.lit (.bool false)], args := [d1, d2, d3, d4] }
  | _ => none }
def ChachaTellsWrongFalsely : Prop := chachaTellsRow.holds Try.pinned (OpenSpec.ofChange chachaTellsWrong)

/-- 'fardellaw09.ChachaTwice': WHATEVER THE INPUT: true; the input reads as it did. -/
def chachaTwiceSpec : ChangeSpec := { name := "chachaTwice", fn := fun _ => fun
  | [d1, d2, d3, d4] => { results := [.lit (.bool true)], args := [d1, d2, d3, d4] }
  | _ => none }
def chachaTwiceRow : OpenClaim := { program := "ytkpelchcpiafaaa", sum := "38bec0b954feed2d7ca5dafcc947a4314de516cc33c197088652f603e5ec78bd", func := "fardel/fardellaw09.ChachaTwice", spec := "chachaTwice", unfollowed := true, recurses := true, apart := false }
def ChachaTwiceSaid : Prop := chachaTwiceRow.holds Try.pinned (OpenSpec.ofChange chachaTwiceSpec)

/-- ITS FALSE NEIGHBOUR: 'it returns false'. Refute it at one input. -/
def chachaTwiceWrong : ChangeSpec := { name := "chachaTwice", fn := fun _ => fun
  | [d1, d2, d3, d4] => { results := [.lit (.bool false)], args := [d1, d2, d3, d4] }
  | _ => none }
def ChachaTwiceWrongFalsely : Prop := chachaTwiceRow.holds Try.pinned (OpenSpec.ofChange chachaTwiceWrong)

/-- 'fardellaw09.ChachaParts': WHATEVER THE INPUT: true; the input reads as it did. -/
def chachaPartsSpec : ChangeSpec := { name := "chachaParts", fn := fun _ => fun
  | [d1, d2, d3, d4, d5] => { results := [.lit (.bool true)], args := [d1, d2, d3, d4, d5] }
  | _ => none }
def chachaPartsRow : OpenClaim := { program := "ytkpelchcpiafaaa", sum := "38bec0b954feed2d7ca5dafcc947a4314de516cc33c197088652f603e5ec78bd", func := "fardel/fardellaw09.ChachaParts", spec := "chachaParts", unfollowed := true, recurses := true, apart := false }
def ChachaPartsSaid : Prop := chachaPartsRow.holds Try.pinned (OpenSpec.ofChange chachaPartsSpec)

/-- ITS FALSE NEIGHBOUR: 'it returns false'. Refute it at one input. -/
def chachaPartsWrong : ChangeSpec := { name := "chachaParts", fn := fun _ => fun
  | [d1, d2, d3, d4, d5] => { results := [.lit (.bool false)], args := [d1, d2, d3, d4, d5] }
  | _ => none }
def ChachaPartsWrongFalsely : Prop := chachaPartsRow.holds Try.pinned (OpenSpec.ofChange chachaPartsWrong)

/-- 'fardellaw09.ChachaZeros': WHATEVER THE INPUT: true; the input reads as it did. -/
def chachaZerosSpec : ChangeSpec := { name := "chachaZeros", fn := fun _ => fun
  | [d1, d2, d3, d4] => { results := [.lit (.bool true)], args := [d1, d2, d3, d4] }
  | _ => none }
def chachaZerosRow : OpenClaim := { program := "ytkpelchcpiafaaa", sum := "38bec0b954feed2d7ca5dafcc947a4314de516cc33c197088652f603e5ec78bd", func := "fardel/fardellaw09.ChachaZeros", spec := "chachaZeros", unfollowed := true, recurses := true, apart := false }
def ChachaZerosSaid : Prop := chachaZerosRow.holds Try.pinned (OpenSpec.ofChange chachaZerosSpec)

/-- ITS FALSE NEIGHBOUR: 'it returns false'. Refute it at one input. -/
def chachaZerosWrong : ChangeSpec := { name := "chachaZeros", fn := fun _ => fun
  | [d1, d2, d3, d4] => { results := [.lit (.bool false)], args := [d1, d2, d3, d4] }
  | _ => none }
def ChachaZerosWrongFalsely : Prop := chachaZerosRow.holds Try.pinned (OpenSpec.ofChange chachaZerosWrong)

/-- 'fardellaw10.PolyTells': WHATEVER THE INPUT: true; the input reads as it did. -/
def polyTellsSpec : ChangeSpec := { name := "polyTells", fn := fun _ => fun
  | [d1, d2] => { results := [.lit (.bool true)], args := [d1, d2] }
  | _ => none }
def polyTellsRow : OpenClaim := { program := "ytkpelchcpiafaaa", sum := "38bec0b954feed2d7ca5dafcc947a4314de516cc33c197088652f603e5ec78bd", func := "fardel/fardellaw10.PolyTells", spec := "polyTells", inPlace := ["internal/bytealg.MakeNoZero", "math/bits.Add64"], apart := false }
def PolyTellsSaid : Prop := polyTellsRow.holds Try.pinned (OpenSpec.ofChange polyTellsSpec)

/-- ITS FALSE NEIGHBOUR: 'it returns false'. Refute it at one input. -/
def polyTellsWrong : ChangeSpec := { name := "polyTells", fn := fun _ => fun
  | [d1, d2] => { results := [.lit (.bool false)], args := [d1, d2] }
  | _ => none }
def PolyTellsWrongFalsely : Prop := polyTellsRow.holds Try.pinned (OpenSpec.ofChange polyTellsWrong)

/-- 'fardellaw10.PolyParts': WHATEVER THE INPUT: true; the input reads as it did. -/
def polyPartsSpec : ChangeSpec := { name := "polyParts", fn := fun _ => fun
  | [d1, d2, d3] => { results := [.lit (.bool true)], args := [d1, d2, d3] }
  | _ => none }
def polyPartsRow : OpenClaim := { program := "ytkpelchcpiafaaa", sum := "38bec0b954feed2d7ca5dafcc947a4314de516cc33c197088652f603e5ec78bd", func := "fardel/fardellaw10.PolyParts", spec := "polyParts", inPlace := ["internal/bytealg.MakeNoZero", "math/bits.Add64"], apart := false }
def PolyPartsSaid : Prop := polyPartsRow.holds Try.pinned (OpenSpec.ofChange polyPartsSpec)

/-- ITS FALSE NEIGHBOUR: 'it returns false'. Refute it at one input. -/
def polyPartsWrong : ChangeSpec := { name := "polyParts", fn := fun _ => fun
  | [d1, d2, d3] => { results := [.lit (.bool false)], args := [d1, d2, d3] }
  | _ => none }
def PolyPartsWrongFalsely : Prop := polyPartsRow.holds Try.pinned (OpenSpec.ofChange polyPartsWrong)

/-- 'fardellaw10.PolyKeys': WHATEVER THE INPUT: true; the input reads as it did. -/
def polyKeysSpec : ChangeSpec := { name := "polyKeys", fn := fun _ => fun
  | [d1, d2, d3] => { results := [.lit (.bool true)], args := [d1, d2, d3] }
  | _ => none }
def polyKeysRow : OpenClaim := { program := "ytkpelchcpiafaaa", sum := "38bec0b954feed2d7ca5dafcc947a4314de516cc33c197088652f603e5ec78bd", func := "fardel/fardellaw10.PolyKeys", spec := "polyKeys", inPlace := ["internal/bytealg.MakeNoZero", "math/bits.Add64"], apart := false }
def PolyKeysSaid : Prop := polyKeysRow.holds Try.pinned (OpenSpec.ofChange polyKeysSpec)

/-- ITS FALSE NEIGHBOUR: 'it returns false'. Refute it at one input. -/
def polyKeysWrong : ChangeSpec := { name := "polyKeys", fn := fun _ => fun
  | [d1, d2, d3] => { results := [.lit (.bool false)], args := [d1, d2, d3] }
  | _ => none }
def PolyKeysWrongFalsely : Prop := polyKeysRow.holds Try.pinned (OpenSpec.ofChange polyKeysWrong)

/-- 'fardellaw10.PolyNone': WHATEVER THE INPUT: true; the input reads as it did. -/
def polyNoneSpec : ChangeSpec := { name := "polyNone", fn := fun _ => fun
  | [d1, d2] => { results := [.lit (.bool true)], args := [d1, d2] }
  | _ => none }
def polyNoneRow : OpenClaim := { program := "ytkpelchcpiafaaa", sum := "38bec0b954feed2d7ca5dafcc947a4314de516cc33c197088652f603e5ec78bd", func := "fardel/fardellaw10.PolyNone", spec := "polyNone", inPlace := ["internal/bytealg.MakeNoZero", "math/bits.Add64"], apart := false }
def PolyNoneSaid : Prop := polyNoneRow.holds Try.pinned (OpenSpec.ofChange polyNoneSpec)

/-- ITS FALSE NEIGHBOUR: 'it returns false'. Refute it at one input. -/
def polyNoneWrong : ChangeSpec := { name := "polyNone", fn := fun _ => fun
  | [d1, d2] => { results := [.lit (.bool false)], args := [d1, d2] }
  | _ => none }
def PolyNoneWrongFalsely : Prop := polyNoneRow.holds Try.pinned (OpenSpec.ofChange polyNoneWrong)

/-- 'fardellaw18.SegmentNonces': WHATEVER THE INPUT: true; the input reads as it did. -/
def segmentNoncesSpec : ChangeSpec := { name := "segmentNonces", fn := fun _ => fun
  | [d1, d2, d3, d4, d5, d6] => { results := [.lit (.bool true)], args := [d1, d2, d3, d4, d5, d6] }
  | _ => none }
def segmentNoncesRow : OpenClaim := { program := "ytkpelchcpiafaaa", sum := "38bec0b954feed2d7ca5dafcc947a4314de516cc33c197088652f603e5ec78bd", func := "fardel/fardellaw18.SegmentNonces", spec := "segmentNonces", inPlace := ["internal/bytealg.MakeNoZero", "math/bits.Add64"], unfollowed := true, recurses := true, apart := false }
def SegmentNoncesSaid : Prop := segmentNoncesRow.holds Try.pinned (OpenSpec.ofChange segmentNoncesSpec)

/-- ITS FALSE NEIGHBOUR: 'it returns false'. Refute it at one input. -/
def segmentNoncesWrong : ChangeSpec := { name := "segmentNonces", fn := fun _ => fun
  | [d1, d2, d3, d4, d5, d6] => { results := [.lit (.bool false)], args := [d1, d2, d3, d4, d5, d6] }
  | _ => none }
def SegmentNoncesWrongFalsely : Prop := segmentNoncesRow.holds Try.pinned (OpenSpec.ofChange segmentNoncesWrong)

/-- 'fardellaw10.PolyOne': WHATEVER THE INPUT: true; the input reads as it did. -/
def polyOneSpec : ChangeSpec := { name := "polyOne", fn := fun _ => fun
  | [d1, d2] => { results := [.lit (.bool true)], args := [d1, d2] }
  | _ => none }
def polyOneRow : OpenClaim := { program := "ytkpelchcpiafaaa", sum := "38bec0b954feed2d7ca5dafcc947a4314de516cc33c197088652f603e5ec78bd", func := "fardel/fardellaw10.PolyOne", spec := "polyOne", inPlace := ["internal/bytealg.MakeNoZero", "math/bits.Add64"], apart := false }
def PolyOneSaid : Prop := polyOneRow.holds Try.pinned (OpenSpec.ofChange polyOneSpec)

/-- ITS FALSE NEIGHBOUR: 'it returns false'. Refute it at one input. -/
def polyOneWrong : ChangeSpec := { name := "polyOne", fn := fun _ => fun
  | [d1, d2] => { results := [.lit (.bool false)], args := [d1, d2] }
  | _ => none }
def PolyOneWrongFalsely : Prop := polyOneRow.holds Try.pinned (OpenSpec.ofChange polyOneWrong)

/-- 'fardellaw18.SegmentFirst': WHATEVER THE INPUT: true; the input reads as it did. -/
def segmentFirstSpec : ChangeSpec := { name := "segmentFirst", fn := fun _ => fun
  | [d1, d2, d3, d4] => { results := [.lit (.bool true)], args := [d1, d2, d3, d4] }
  | _ => none }
def segmentFirstRow : OpenClaim := { program := "ytkpelchcpiafaaa", sum := "38bec0b954feed2d7ca5dafcc947a4314de516cc33c197088652f603e5ec78bd", func := "fardel/fardellaw18.SegmentFirst", spec := "segmentFirst", inPlace := ["internal/bytealg.MakeNoZero", "math/bits.Add64"], unfollowed := true, recurses := true, apart := false }
def SegmentFirstSaid : Prop := segmentFirstRow.holds Try.pinned (OpenSpec.ofChange segmentFirstSpec)

/-- ITS FALSE NEIGHBOUR: 'it returns false'. Refute it at one input. -/
def segmentFirstWrong : ChangeSpec := { name := "segmentFirst", fn := fun _ => fun
  | [d1, d2, d3, d4] => { results := [.lit (.bool false)], args := [d1, d2, d3, d4] }
  | _ => none }
def SegmentFirstWrongFalsely : Prop := segmentFirstRow.holds Try.pinned (OpenSpec.ofChange segmentFirstWrong)

/-- 'fardellaw11.AeadNames': WHATEVER THE INPUT: true; the input reads as it did. -/
def aeadNamesSpec : ChangeSpec := { name := "aeadNames", fn := fun _ => fun
  | [] => { results := [.lit (.bool true)], args := [] }
  | _ => none }
def aeadNamesRow : OpenClaim := { program := "ytkpelchcpiafaaa", sum := "38bec0b954feed2d7ca5dafcc947a4314de516cc33c197088652f603e5ec78bd", func := "fardel/fardellaw11.AeadNames", spec := "aeadNames", inPlace := ["internal/bytealg.MakeNoZero", "math/bits.Add64"], unfollowed := true, recurses := true, apart := false }
def AeadNamesSaid : Prop := aeadNamesRow.holds Try.pinned (OpenSpec.ofChange aeadNamesSpec)

/-- ITS FALSE NEIGHBOUR: 'it returns false'. Refute it at one input. -/
def aeadNamesWrong : ChangeSpec := { name := "aeadNames", fn := fun _ => fun
  | [] => { results := [.lit (.bool false)], args := [] }
  | _ => none }
def AeadNamesWrongFalsely : Prop := aeadNamesRow.holds Try.pinned (OpenSpec.ofChange aeadNamesWrong)

/-- 'fardellaw11.AeadTells': WHATEVER THE INPUT: true; the input reads as it did. -/
def aeadTellsSpec : ChangeSpec := { name := "aeadTells", fn := fun _ => fun
  | [d1, d2, d3, d4] => { results := [.lit (.bool true)], args := [d1, d2, d3, d4] }
  | _ => none }
def aeadTellsRow : OpenClaim := { program := "ytkpelchcpiafaaa", sum := "38bec0b954feed2d7ca5dafcc947a4314de516cc33c197088652f603e5ec78bd", func := "fardel/fardellaw11.AeadTells", spec := "aeadTells", inPlace := ["internal/bytealg.MakeNoZero", "math/bits.Add64"], unfollowed := true, recurses := true, apart := false }
def AeadTellsSaid : Prop := aeadTellsRow.holds Try.pinned (OpenSpec.ofChange aeadTellsSpec)

/-- ITS FALSE NEIGHBOUR: 'it returns false'. Refute it at one input. -/
def aeadTellsWrong : ChangeSpec := { name := "aeadTells", fn := fun _ => fun
  | [d1, d2, d3, d4] => { results := [.lit (.bool false)], args := [d1, d2, d3, d4] }
  | _ => none }
def AeadTellsWrongFalsely : Prop := aeadTellsRow.holds Try.pinned (OpenSpec.ofChange aeadTellsWrong)

/-- 'fardellaw11.AeadBack': WHATEVER THE INPUT: true; the input reads as it did. -/
def aeadBackSpec : ChangeSpec := { name := "aeadBack", fn := fun _ => fun
  | [d1, d2, d3, d4] => { results := [.lit (.bool true)], args := [d1, d2, d3, d4] }
  | _ => none }
def aeadBackRow : OpenClaim := { program := "ytkpelchcpiafaaa", sum := "38bec0b954feed2d7ca5dafcc947a4314de516cc33c197088652f603e5ec78bd", func := "fardel/fardellaw11.AeadBack", spec := "aeadBack", inPlace := ["internal/bytealg.MakeNoZero", "math/bits.Add64"], unfollowed := true, recurses := true, apart := false }
def AeadBackSaid : Prop := aeadBackRow.holds Try.pinned (OpenSpec.ofChange aeadBackSpec)

/-- ITS FALSE NEIGHBOUR: 'it returns false'. Refute it at one input. -/
def aeadBackWrong : ChangeSpec := { name := "aeadBack", fn := fun _ => fun
  | [d1, d2, d3, d4] => { results := [.lit (.bool false)], args := [d1, d2, d3, d4] }
  | _ => none }
def AeadBackWrongFalsely : Prop := aeadBackRow.holds Try.pinned (OpenSpec.ofChange aeadBackWrong)

/-- 'fardellaw11.AeadTurns': WHATEVER THE INPUT: true; the input reads as it did. -/
def aeadTurnsSpec : ChangeSpec := { name := "aeadTurns", fn := fun _ => fun
  | [d1, d2, d3, d4, d5, d6, d7] => { results := [.lit (.bool true)], args := [d1, d2, d3, d4, d5, d6, d7] }
  | _ => none }
def aeadTurnsRow : OpenClaim := { program := "ytkpelchcpiafaaa", sum := "38bec0b954feed2d7ca5dafcc947a4314de516cc33c197088652f603e5ec78bd", func := "fardel/fardellaw11.AeadTurns", spec := "aeadTurns", inPlace := ["internal/bytealg.MakeNoZero", "math/bits.Add64"], unfollowed := true, recurses := true, apart := false }
def AeadTurnsSaid : Prop := aeadTurnsRow.holds Try.pinned (OpenSpec.ofChange aeadTurnsSpec)

/-- ITS FALSE NEIGHBOUR: 'it returns false'. Refute it at one input. -/
def aeadTurnsWrong : ChangeSpec := { name := "aeadTurns", fn := fun _ => fun
  | [d1, d2, d3, d4, d5, d6, d7] => { results := [.lit (.bool false)], args := [d1, d2, d3, d4, d5, d6, d7] }
  | _ => none }
def AeadTurnsWrongFalsely : Prop := aeadTurnsRow.holds Try.pinned (OpenSpec.ofChange aeadTurnsWrong)

/-- 'fardellaw11.AeadTag': WHATEVER THE INPUT: true; the input reads as it did. -/
def aeadTagSpec : ChangeSpec := { name := "aeadTag", fn := fun _ => fun
  | [d1, d2, d3, d4, d5, d6] => { results := [.lit (.bool true)], args := [d1, d2, d3, d4, d5, d6] }
  | _ => none }
def aeadTagRow : OpenClaim := { program := "ytkpelchcpiafaaa", sum := "38bec0b954feed2d7ca5dafcc947a4314de516cc33c197088652f603e5ec78bd", func := "fardel/fardellaw11.AeadTag", spec := "aeadTag", inPlace := ["internal/bytealg.MakeNoZero", "math/bits.Add64"], unfollowed := true, recurses := true, apart := false }
def AeadTagSaid : Prop := aeadTagRow.holds Try.pinned (OpenSpec.ofChange aeadTagSpec)

/-- ITS FALSE NEIGHBOUR: 'it returns false'. Refute it at one input. -/
def aeadTagWrong : ChangeSpec := { name := "aeadTag", fn := fun _ => fun
  | [d1, d2, d3, d4, d5, d6] => { results := [.lit (.bool false)], args := [d1, d2, d3, d4, d5, d6] }
  | _ => none }
def AeadTagWrongFalsely : Prop := aeadTagRow.holds Try.pinned (OpenSpec.ofChange aeadTagWrong)

/-- 'fardellaw11.AeadEmpty': WHATEVER THE INPUT: true; the input reads as it did. -/
def aeadEmptySpec : ChangeSpec := { name := "aeadEmpty", fn := fun _ => fun
  | [d1, d2, d3, d4, d5] => { results := [.lit (.bool true)], args := [d1, d2, d3, d4, d5] }
  | _ => none }
def aeadEmptyRow : OpenClaim := { program := "ytkpelchcpiafaaa", sum := "38bec0b954feed2d7ca5dafcc947a4314de516cc33c197088652f603e5ec78bd", func := "fardel/fardellaw11.AeadEmpty", spec := "aeadEmpty", inPlace := ["internal/bytealg.MakeNoZero", "math/bits.Add64"], unfollowed := true, recurses := true, apart := false }
def AeadEmptySaid : Prop := aeadEmptyRow.holds Try.pinned (OpenSpec.ofChange aeadEmptySpec)

/-- ITS FALSE NEIGHBOUR: 'it returns false'. Refute it at one input. -/
def aeadEmptyWrong : ChangeSpec := { name := "aeadEmpty", fn := fun _ => fun
  | [d1, d2, d3, d4, d5] => { results := [.lit (.bool false)], args := [d1, d2, d3, d4, d5] }
  | _ => none }
def AeadEmptyWrongFalsely : Prop := aeadEmptyRow.holds Try.pinned (OpenSpec.ofChange aeadEmptyWrong)

/-- 'fardellaw18.SegmentNames': WHATEVER THE INPUT: true; the input reads as it did. -/
def segmentNamesSpec : ChangeSpec := { name := "segmentNames", fn := fun _ => fun
  | [] => { results := [.lit (.bool true)], args := [] }
  | _ => none }
def segmentNamesRow : OpenClaim := { program := "ytkpelchcpiafaaa", sum := "38bec0b954feed2d7ca5dafcc947a4314de516cc33c197088652f603e5ec78bd", func := "fardel/fardellaw18.SegmentNames", spec := "segmentNames", inPlace := ["internal/bytealg.MakeNoZero", "math/bits.Add64"], unfollowed := true, recurses := true, apart := false }
def SegmentNamesSaid : Prop := segmentNamesRow.holds Try.pinned (OpenSpec.ofChange segmentNamesSpec)

/-- ITS FALSE NEIGHBOUR: 'it returns false'. Refute it at one input. -/
def segmentNamesWrong : ChangeSpec := { name := "segmentNames", fn := fun _ => fun
  | [] => { results := [.lit (.bool false)], args := [] }
  | _ => none }
def SegmentNamesWrongFalsely : Prop := segmentNamesRow.holds Try.pinned (OpenSpec.ofChange segmentNamesWrong)

/-- 'fardellaw18.SegmentTells': WHATEVER THE INPUT: true; the input reads as it did. -/
def segmentTellsSpec : ChangeSpec := { name := "segmentTells", fn := fun _ => fun
  | [d1, d2, d3, d4, d5, d6] => { results := [.lit (.bool true)], args := [d1, d2, d3, d4, d5, d6] }
  | _ => none }
def segmentTellsRow : OpenClaim := { program := "ytkpelchcpiafaaa", sum := "38bec0b954feed2d7ca5dafcc947a4314de516cc33c197088652f603e5ec78bd", func := "fardel/fardellaw18.SegmentTells", spec := "segmentTells", inPlace := ["internal/bytealg.MakeNoZero", "math/bits.Add64"], unfollowed := true, recurses := true, apart := false }
def SegmentTellsSaid : Prop := segmentTellsRow.holds Try.pinned (OpenSpec.ofChange segmentTellsSpec)

/-- ITS FALSE NEIGHBOUR: 'it returns false'. Refute it at one input. -/
def segmentTellsWrong : ChangeSpec := { name := "segmentTells", fn := fun _ => fun
  | [d1, d2, d3, d4, d5, d6] => { results := [.lit (.bool false)], args := [d1, d2, d3, d4, d5, d6] }
  | _ => none }
def SegmentTellsWrongFalsely : Prop := segmentTellsRow.holds Try.pinned (OpenSpec.ofChange segmentTellsWrong)

/-- 'fardellaw18.SegmentBack': WHATEVER THE INPUT: true; the input reads as it did. -/
def segmentBackSpec : ChangeSpec := { name := "segmentBack", fn := fun _ => fun
  | [d1, d2, d3] => { results := [.lit (.bool true)], args := [d1, d2, d3] }
  | _ => none }
def segmentBackRow : OpenClaim := { program := "ytkpelchcpiafaaa", sum := "38bec0b954feed2d7ca5dafcc947a4314de516cc33c197088652f603e5ec78bd", func := "fardel/fardellaw18.SegmentBack", spec := "segmentBack", inPlace := ["internal/bytealg.MakeNoZero", "math/bits.Add64"], unfollowed := true, recurses := true, apart := false }
def SegmentBackSaid : Prop := segmentBackRow.holds Try.pinned (OpenSpec.ofChange segmentBackSpec)

/-- ITS FALSE NEIGHBOUR: 'it returns false'. Refute it at one input. -/
def segmentBackWrong : ChangeSpec := { name := "segmentBack", fn := fun _ => fun
  | [d1, d2, d3] => { results := [.lit (.bool false)], args := [d1, d2, d3] }
  | _ => none }
def SegmentBackWrongFalsely : Prop := segmentBackRow.holds Try.pinned (OpenSpec.ofChange segmentBackWrong)

/-- 'fardellaw18.SegmentMoves': WHATEVER THE INPUT: true; the input reads as it did. -/
def segmentMovesSpec : ChangeSpec := { name := "segmentMoves", fn := fun _ => fun
  | [d1, d2, d3, d4, d5, d6, d7] => { results := [.lit (.bool true)], args := [d1, d2, d3, d4, d5, d6, d7] }
  | _ => none }
def segmentMovesRow : OpenClaim := { program := "ytkpelchcpiafaaa", sum := "38bec0b954feed2d7ca5dafcc947a4314de516cc33c197088652f603e5ec78bd", func := "fardel/fardellaw18.SegmentMoves", spec := "segmentMoves", inPlace := ["internal/bytealg.MakeNoZero", "math/bits.Add64"], unfollowed := true, recurses := true, apart := false }
def SegmentMovesSaid : Prop := segmentMovesRow.holds Try.pinned (OpenSpec.ofChange segmentMovesSpec)

/-- ITS FALSE NEIGHBOUR: 'it returns false'. Refute it at one input. -/
def segmentMovesWrong : ChangeSpec := { name := "segmentMoves", fn := fun _ => fun
  | [d1, d2, d3, d4, d5, d6, d7] => { results := [.lit (.bool false)], args := [d1, d2, d3, d4, d5, d6, d7] }
  | _ => none }
def SegmentMovesWrongFalsely : Prop := segmentMovesRow.holds Try.pinned (OpenSpec.ofChange segmentMovesWrong)

/-- 'fardellaw18.SegmentEach': WHATEVER THE INPUT: true; the input reads as it did. -/
def segmentEachSpec : ChangeSpec := { name := "segmentEach", fn := fun _ => fun
  | [d1, d2, d3, d4] => { results := [.lit (.bool true)], args := [d1, d2, d3, d4] }
  | _ => none }
def segmentEachRow : OpenClaim := { program := "ytkpelchcpiafaaa", sum := "38bec0b954feed2d7ca5dafcc947a4314de516cc33c197088652f603e5ec78bd", func := "fardel/fardellaw18.SegmentEach", spec := "segmentEach", inPlace := ["internal/bytealg.MakeNoZero", "math/bits.Add64"], unfollowed := true, recurses := true, apart := false }
def SegmentEachSaid : Prop := segmentEachRow.holds Try.pinned (OpenSpec.ofChange segmentEachSpec)

/-- ITS FALSE NEIGHBOUR: 'it returns false'. Refute it at one input. -/
def segmentEachWrong : ChangeSpec := { name := "segmentEach", fn := fun _ => fun
  | [d1, d2, d3, d4] => { results := [.lit (.bool false)], args := [d1, d2, d3, d4] }
  | _ => none }
def SegmentEachWrongFalsely : Prop := segmentEachRow.holds Try.pinned (OpenSpec.ofChange segmentEachWrong)

/- THE SECOND FORM. 'bulk': how many values and letters a reading holds, each counted each time it is reached (what is shared counts as often as it is met; a slice's spare places count too). A statement '..UptoSaid' is the law's where the arguments, and the package variables that the reading takes, are together of bulk at most 1048576: NARROWER than '..Said'. Prove '..Said' where nothing that the law and all that it calls make is longer than what came in: it says more and counts as full. Else prove '..UptoSaid'. A law counts once. -/
mutual
def uptoBulk {H : Type} : DataW H → Nat
  | .lit (.string bytes) => bytes.length + 1
  | .lit _ => 1
  | .nil => 1
  | .ptr d => uptoBulk d + 1
  | .slice elems spare => uptoBulkAll elems + uptoBulkAll spare + 1
  | .agg parts => uptoBulkAll parts + 1
  | .iface _ d => uptoBulk d + 1
  | .map entries => uptoBulkEntries entries + 1
  | .held _ => 1
def uptoBulkAll {H : Type} : List (DataW H) → Nat
  | [] => 0
  | d :: r => uptoBulk d + uptoBulkAll r
def uptoBulkEntries {H : Type} : List (Lit × DataW H) → Nat
  | [] => 0
  | x :: r => uptoBulkEntry x + uptoBulkEntries r
def uptoBulkEntry {H : Type} : Lit × DataW H → Nat
  | (.string bytes, d) => bytes.length + uptoBulk d + 1
  | (_, d) => uptoBulk d + 1
 end
def uptoSmall : (H : Type) → List (DataW H) → Bool := fun _ ds => decide (uptoBulkAll ds ≤ 1048576)
def OpenSpec.upto (s : _root_.Go.ChangeSpec) : _root_.Go.OpenSpec := { _root_.Go.OpenSpec.ofChange s with cond := some uptoSmall }

/-- 'fardellaw09.ChachaNames', WHERE WHAT IT READS IS OF BULK AT MOST 1048576: true; the input reads as it did. -/
def chachaNamesUptoRow : OpenClaim := { program := "ytkpelchcpiafaaa", sum := "38bec0b954feed2d7ca5dafcc947a4314de516cc33c197088652f603e5ec78bd", func := "fardel/fardellaw09.ChachaNames", spec := "chachaNames", unfollowed := true, recurses := true, apart := false, narrowed := true }
def ChachaNamesUptoSaid : Prop := chachaNamesUptoRow.holds Try.pinned (OpenSpec.upto chachaNamesSpec)

/-- 'fardellaw09.ChachaTells', WHERE WHAT IT READS IS OF BULK AT MOST 1048576: true; the input reads as it did. -/
def chachaTellsUptoRow : OpenClaim := { program := "ytkpelchcpiafaaa", sum := "38bec0b954feed2d7ca5dafcc947a4314de516cc33c197088652f603e5ec78bd", func := "fardel/fardellaw09.ChachaTells", spec := "chachaTells", unfollowed := true, recurses := true, apart := false, narrowed := true }
def ChachaTellsUptoSaid : Prop := chachaTellsUptoRow.holds Try.pinned (OpenSpec.upto chachaTellsSpec)

/-- 'fardellaw09.ChachaTwice', WHERE WHAT IT READS IS OF BULK AT MOST 1048576: true; the input reads as it did. -/
def chachaTwiceUptoRow : OpenClaim := { program := "ytkpelchcpiafaaa", sum := "38bec0b954feed2d7ca5dafcc947a4314de516cc33c197088652f603e5ec78bd", func := "fardel/fardellaw09.ChachaTwice", spec := "chachaTwice", unfollowed := true, recurses := true, apart := false, narrowed := true }
def ChachaTwiceUptoSaid : Prop := chachaTwiceUptoRow.holds Try.pinned (OpenSpec.upto chachaTwiceSpec)

/-- 'fardellaw09.ChachaParts', WHERE WHAT IT READS IS OF BULK AT MOST 1048576: true; the input reads as it did. -/
def chachaPartsUptoRow : OpenClaim := { program := "ytkpelchcpiafaaa", sum := "38bec0b954feed2d7ca5dafcc947a4314de516cc33c197088652f603e5ec78bd", func := "fardel/fardellaw09.ChachaParts", spec := "chachaParts", unfollowed := true, recurses := true, apart := false, narrowed := true }
def ChachaPartsUptoSaid : Prop := chachaPartsUptoRow.holds Try.pinned (OpenSpec.upto chachaPartsSpec)

/-- 'fardellaw09.ChachaZeros', WHERE WHAT IT READS IS OF BULK AT MOST 1048576: true; the input reads as it did. -/
def chachaZerosUptoRow : OpenClaim := { program := "ytkpelchcpiafaaa", sum := "38bec0b954feed2d7ca5dafcc947a4314de516cc33c197088652f603e5ec78bd", func := "fardel/fardellaw09.ChachaZeros", spec := "chachaZeros", unfollowed := true, recurses := true, apart := false, narrowed := true }
def ChachaZerosUptoSaid : Prop := chachaZerosUptoRow.holds Try.pinned (OpenSpec.upto chachaZerosSpec)

/-- 'fardellaw10.PolyTells', WHERE WHAT IT READS IS OF BULK AT MOST 1048576: true; the input reads as it did. -/
def polyTellsUptoRow : OpenClaim := { program := "ytkpelchcpiafaaa", sum := "38bec0b954feed2d7ca5dafcc947a4314de516cc33c197088652f603e5ec78bd", func := "fardel/fardellaw10.PolyTells", spec := "polyTells", inPlace := ["internal/bytealg.MakeNoZero", "math/bits.Add64"], apart := false, narrowed := true }
def PolyTellsUptoSaid : Prop := polyTellsUptoRow.holds Try.pinned (OpenSpec.upto polyTellsSpec)

/-- 'fardellaw10.PolyParts', WHERE WHAT IT READS IS OF BULK AT MOST 1048576: true; the input reads as it did. -/
def polyPartsUptoRow : OpenClaim := { program := "ytkpelchcpiafaaa", sum := "38bec0b954feed2d7ca5dafcc947a4314de516cc33c197088652f603e5ec78bd", func := "fardel/fardellaw10.PolyParts", spec := "polyParts", inPlace := ["internal/bytealg.MakeNoZero", "math/bits.Add64"], apart := false, narrowed := true }
def PolyPartsUptoSaid : Prop := polyPartsUptoRow.holds Try.pinned (OpenSpec.upto polyPartsSpec)

/-- 'fardellaw10.PolyKeys', WHERE WHAT IT READS IS OF BULK AT MOST 1048576: true; the input reads as it did. -/
def polyKeysUptoRow : OpenClaim := { program := "ytkpelchcpiafaaa", sum := "38bec0b954feed2d7ca5dafcc947a4314de516cc33c197088652f603e5ec78bd", func := "fardel/fardellaw10.PolyKeys", spec := "polyKeys", inPlace := ["internal/bytealg.MakeNoZero", "math/bits.Add64"], apart := false, narrowed := true }
def PolyKeysUptoSaid : Prop := polyKeysUptoRow.holds Try.pinned (OpenSpec.upto polyKeysSpec)

/-- 'fardellaw10.PolyNone', WHERE WHAT IT READS IS OF BULK AT MOST 1048576: true; the input reads as it did. -/
def polyNoneUptoRow : OpenClaim := { program := "ytkpelchcpiafaaa", sum := "38bec0b954feed2d7ca5dafcc947a4314de516cc33c197088652f603e5ec78bd", func := "fardel/fardellaw10.PolyNone", spec := "polyNone", inPlace := ["internal/bytealg.MakeNoZero", "math/bits.Add64"], apart := false, narrowed := true }
def PolyNoneUptoSaid : Prop := polyNoneUptoRow.holds Try.pinned (OpenSpec.upto polyNoneSpec)

/-- 'fardellaw18.SegmentNonces', WHERE WHAT IT READS IS OF BULK AT MOST 1048576: true; the input reads as it did. -/
def segmentNoncesUptoRow : OpenClaim := { program := "ytkpelchcpiafaaa", sum := "38bec0b954feed2d7ca5dafcc947a4314de516cc33c197088652f603e5ec78bd", func := "fardel/fardellaw18.SegmentNonces", spec := "segmentNonces", inPlace := ["internal/bytealg.MakeNoZero", "math/bits.Add64"], unfollowed := true, recurses := true, apart := false, narrowed := true }
def SegmentNoncesUptoSaid : Prop := segmentNoncesUptoRow.holds Try.pinned (OpenSpec.upto segmentNoncesSpec)

/-- 'fardellaw10.PolyOne', WHERE WHAT IT READS IS OF BULK AT MOST 1048576: true; the input reads as it did. -/
def polyOneUptoRow : OpenClaim := { program := "ytkpelchcpiafaaa", sum := "38bec0b954feed2d7ca5dafcc947a4314de516cc33c197088652f603e5ec78bd", func := "fardel/fardellaw10.PolyOne", spec := "polyOne", inPlace := ["internal/bytealg.MakeNoZero", "math/bits.Add64"], apart := false, narrowed := true }
def PolyOneUptoSaid : Prop := polyOneUptoRow.holds Try.pinned (OpenSpec.upto polyOneSpec)

/-- 'fardellaw18.SegmentFirst', WHERE WHAT IT READS IS OF BULK AT MOST 1048576: true; the input reads as it did. -/
def segmentFirstUptoRow : OpenClaim := { program := "ytkpelchcpiafaaa", sum := "38bec0b954feed2d7ca5dafcc947a4314de516cc33c197088652f603e5ec78bd", func := "fardel/fardellaw18.SegmentFirst", spec := "segmentFirst", inPlace := ["internal/bytealg.MakeNoZero", "math/bits.Add64"], unfollowed := true, recurses := true, apart := false, narrowed := true }
def SegmentFirstUptoSaid : Prop := segmentFirstUptoRow.holds Try.pinned (OpenSpec.upto segmentFirstSpec)

/-- 'fardellaw11.AeadNames', WHERE WHAT IT READS IS OF BULK AT MOST 1048576: true; the input reads as it did. -/
def aeadNamesUptoRow : OpenClaim := { program := "ytkpelchcpiafaaa", sum := "38bec0b954feed2d7ca5dafcc947a4314de516cc33c197088652f603e5ec78bd", func := "fardel/fardellaw11.AeadNames", spec := "aeadNames", inPlace := ["internal/bytealg.MakeNoZero", "math/bits.Add64"], unfollowed := true, recurses := true, apart := false, narrowed := true }
def AeadNamesUptoSaid : Prop := aeadNamesUptoRow.holds Try.pinned (OpenSpec.upto aeadNamesSpec)

/-- 'fardellaw11.AeadTells', WHERE WHAT IT READS IS OF BULK AT MOST 1048576: true; the input reads as it did. -/
def aeadTellsUptoRow : OpenClaim := { program := "ytkpelchcpiafaaa", sum := "38bec0b954feed2d7ca5dafcc947a4314de516cc33c197088652f603e5ec78bd", func := "fardel/fardellaw11.AeadTells", spec := "aeadTells", inPlace := ["internal/bytealg.MakeNoZero", "math/bits.Add64"], unfollowed := true, recurses := true, apart := false, narrowed := true }
def AeadTellsUptoSaid : Prop := aeadTellsUptoRow.holds Try.pinned (OpenSpec.upto aeadTellsSpec)

/-- 'fardellaw11.AeadBack', WHERE WHAT IT READS IS OF BULK AT MOST 1048576: true; the input reads as it did. -/
def aeadBackUptoRow : OpenClaim := { program := "ytkpelchcpiafaaa", sum := "38bec0b954feed2d7ca5dafcc947a4314de516cc33c197088652f603e5ec78bd", func := "fardel/fardellaw11.AeadBack", spec := "aeadBack", inPlace := ["internal/bytealg.MakeNoZero", "math/bits.Add64"], unfollowed := true, recurses := true, apart := false, narrowed := true }
def AeadBackUptoSaid : Prop := aeadBackUptoRow.holds Try.pinned (OpenSpec.upto aeadBackSpec)

/-- 'fardellaw11.AeadTurns', WHERE WHAT IT READS IS OF BULK AT MOST 1048576: true; the input reads as it did. -/
def aeadTurnsUptoRow : OpenClaim := { program := "ytkpelchcpiafaaa", sum := "38bec0b954feed2d7ca5dafcc947a4314de516cc33c197088652f603e5ec78bd", func := "fardel/fardellaw11.AeadTurns", spec := "aeadTurns", inPlace := ["internal/bytealg.MakeNoZero", "math/bits.Add64"], unfollowed := true, recurses := true, apart := false, narrowed := true }
def AeadTurnsUptoSaid : Prop := aeadTurnsUptoRow.holds Try.pinned (OpenSpec.upto aeadTurnsSpec)

/-- 'fardellaw11.AeadTag', WHERE WHAT IT READS IS OF BULK AT MOST 1048576: true; the input reads as it did. -/
def aeadTagUptoRow : OpenClaim := { program := "ytkpelchcpiafaaa", sum := "38bec0b954feed2d7ca5dafcc947a4314de516cc33c197088652f603e5ec78bd", func := "fardel/fardellaw11.AeadTag", spec := "aeadTag", inPlace := ["internal/bytealg.MakeNoZero", "math/bits.Add64"], unfollowed := true, recurses := true, apart := false, narrowed := true }
def AeadTagUptoSaid : Prop := aeadTagUptoRow.holds Try.pinned (OpenSpec.upto aeadTagSpec)

/-- 'fardellaw11.AeadEmpty', WHERE WHAT IT READS IS OF BULK AT MOST 1048576: true; the input reads as it did. -/
def aeadEmptyUptoRow : OpenClaim := { program := "ytkpelchcpiafaaa", sum := "38bec0b954feed2d7ca5dafcc947a4314de516cc33c197088652f603e5ec78bd", func := "fardel/fardellaw11.AeadEmpty", spec := "aeadEmpty", inPlace := ["internal/bytealg.MakeNoZero", "math/bits.Add64"], unfollowed := true, recurses := true, apart := false, narrowed := true }
def AeadEmptyUptoSaid : Prop := aeadEmptyUptoRow.holds Try.pinned (OpenSpec.upto aeadEmptySpec)

/-- 'fardellaw18.SegmentNames', WHERE WHAT IT READS IS OF BULK AT MOST 1048576: true; the input reads as it did. -/
def segmentNamesUptoRow : OpenClaim := { program := "ytkpelchcpiafaaa", sum := "38bec0b954feed2d7ca5dafcc947a4314de516cc33c197088652f603e5ec78bd", func := "fardel/fardellaw18.SegmentNames", spec := "segmentNames", inPlace := ["internal/bytealg.MakeNoZero", "math/bits.Add64"], unfollowed := true, recurses := true, apart := false, narrowed := true }
def SegmentNamesUptoSaid : Prop := segmentNamesUptoRow.holds Try.pinned (OpenSpec.upto segmentNamesSpec)

/-- 'fardellaw18.SegmentTells', WHERE WHAT IT READS IS OF BULK AT MOST 1048576: true; the input reads as it did. -/
def segmentTellsUptoRow : OpenClaim := { program := "ytkpelchcpiafaaa", sum := "38bec0b954feed2d7ca5dafcc947a4314de516cc33c197088652f603e5ec78bd", func := "fardel/fardellaw18.SegmentTells", spec := "segmentTells", inPlace := ["internal/bytealg.MakeNoZero", "math/bits.Add64"], unfollowed := true, recurses := true, apart := false, narrowed := true }
def SegmentTellsUptoSaid : Prop := segmentTellsUptoRow.holds Try.pinned (OpenSpec.upto segmentTellsSpec)

/-- 'fardellaw18.SegmentBack', WHERE WHAT IT READS IS OF BULK AT MOST 1048576: true; the input reads as it did. -/
def segmentBackUptoRow : OpenClaim := { program := "ytkpelchcpiafaaa", sum := "38bec0b954feed2d7ca5dafcc947a4314de516cc33c197088652f603e5ec78bd", func := "fardel/fardellaw18.SegmentBack", spec := "segmentBack", inPlace := ["internal/bytealg.MakeNoZero", "math/bits.Add64"], unfollowed := true, recurses := true, apart := false, narrowed := true }
def SegmentBackUptoSaid : Prop := segmentBackUptoRow.holds Try.pinned (OpenSpec.upto segmentBackSpec)

/-- 'fardellaw18.SegmentMoves', WHERE WHAT IT READS IS OF BULK AT MOST 1048576: true; the input reads as it did. -/
def segmentMovesUptoRow : OpenClaim := { program := "ytkpelchcpiafaaa", sum := "38bec0b954feed2d7ca5dafcc947a4314de516cc33c197088652f603e5ec78bd", func := "fardel/fardellaw18.SegmentMoves", spec := "segmentMoves", inPlace := ["internal/bytealg.MakeNoZero", "math/bits.Add64"], unfollowed := true, recurses := true, apart := false, narrowed := true }
def SegmentMovesUptoSaid : Prop := segmentMovesUptoRow.holds Try.pinned (OpenSpec.upto segmentMovesSpec)

/-- 'fardellaw18.SegmentEach', WHERE WHAT IT READS IS OF BULK AT MOST 1048576: true; the input reads as it did. -/
def segmentEachUptoRow : OpenClaim := { program := "ytkpelchcpiafaaa", sum := "38bec0b954feed2d7ca5dafcc947a4314de516cc33c197088652f603e5ec78bd", func := "fardel/fardellaw18.SegmentEach", spec := "segmentEach", inPlace := ["internal/bytealg.MakeNoZero", "math/bits.Add64"], unfollowed := true, recurses := true, apart := false, narrowed := true }
def SegmentEachUptoSaid : Prop := segmentEachUptoRow.holds Try.pinned (OpenSpec.upto segmentEachSpec)

end Rows
end Go.Proofs.Ytkpelchcpiafaaa
