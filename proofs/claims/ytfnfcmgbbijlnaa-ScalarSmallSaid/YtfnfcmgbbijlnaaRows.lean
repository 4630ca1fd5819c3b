/-
  No cell of these rows narrows 'for every input' (looked for: loops, veiled, ifaces, maps, wideKeys, modest, calm, conditions, laid).
  DERIVED. THE GIVEN ROWS OF THIS SEAT. 4 by the template 'for every input the law returns true; each argument reads behind the call as it read before'; 0 by the template 'total and deterministic' (their statements: YtfnfcmgbbijlnaaTotals.lean).
  GIVEN WITH THE SEED: the statements are not yours to turn. If you find one false, say at which input.
  Laid BY PROGRAM, IN A SANDBOX (cutbox-rows.mjs): the forced cells as the released guide's own fill.sh prints them over the translation 5d9f6bdb836c49e6… (all of the seat's roots in one cut). By AI agents, Wed Nov 11 2026. No macro, syntax, notation, axiom, sorry.
-/
import Derived.Test.YtfnfcmgbbijlnaaChecked
import GoSem.Claim
import GoSem.ClaimJoined
import GoSem.ClaimMapViews
import Derived.JoinedTies
import Derived.KernelRfl
namespace Go.Proofs.Ytfnfcmgbbijlnaa
/- THE CELL 'sum', in the pinned program and in every row, IS THE sha256 OF THE DUMP (.gsa) THAT YtfnfcmgbbijlnaaProg.lean LOADS. Nothing in Lean hashes anything: it is a label: what it is worth is what the hold of that sum in a sandbox is worth. -/
noncomputable def Try.pinned : Pinned := { name := "ytfnfcmgbbijlnaa", sum := "5d9f6bdb836c49e694ec835ff40a296bbbb17da4fa85f04b73af05020fa93b26", checked := Try.checked }
namespace Rows
def none {H : Type} : Left H := { results := [], args := [] }

/-- 'fardellaw02.ScalarTells': WHATEVER THE INPUT: true; the input reads as it did. -/
def scalarTellsSpec : ChangeSpec := { name := "scalarTells", fn := fun _ => fun
  | [d1, d2, d3, d4] => { results := [.lit (.bool true)], args := [d1, d2, d3, d4] }
  | _ => none }
def scalarTellsRow : OpenClaim := { program := "ytfnfcmgbbijlnaa", sum := "5d9f6bdb836c49e694ec835ff40a296bbbb17da4fa85f04b73af05020fa93b26", func := "fardel/fardellaw02.ScalarTells", spec := "scalarTells", inPlace := ["math/bits.Sub64", "math/bits.Add64"], apart := false }
def ScalarTellsSaid : Prop := scalarTellsRow.holds Try.pinned (OpenSpec.ofChange scalarTellsSpec)

/-- ITS FALSE NEIGHBOUR: 'it returns false'. Refute it at one input. -/
def scalarTellsWrong : ChangeSpec := { name := "scalarTells", fn := fun _ => fun
  | [d1, d2, d3, d4] => { results := [.lit (.bool false)], args := [d1, d2, d3, d4] }
  | _ => none }
def ScalarTellsWrongFalsely : Prop := scalarTellsRow.holds Try.pinned (OpenSpec.ofChange scalarTellsWrong)

/-- 'fardellaw02.ScalarRing': WHATEVER THE INPUT: true; the input reads as it did. -/
def scalarRingSpec : ChangeSpec := { name := "scalarRing", fn := fun _ => fun
  | [d1, d2, d3] => { results := [.lit (.bool true)], args := [d1, d2, d3] }
  | _ => none }
def scalarRingRow : OpenClaim := { program := "ytfnfcmgbbijlnaa", sum := "5d9f6bdb836c49e694ec835ff40a296bbbb17da4fa85f04b73af05020fa93b26", func := "fardel/fardellaw02.ScalarRing", spec := "scalarRing", inPlace := ["math/bits.Sub64", "math/bits.Add64"], apart := false }
def ScalarRingSaid : Prop := scalarRingRow.holds Try.pinned (OpenSpec.ofChange scalarRingSpec)

/-- ITS FALSE NEIGHBOUR: 'it returns false'. Refute it at one input. -/
def scalarRingWrong : ChangeSpec := { name := "scalarRing", fn := fun _ => fun
  | [d1, d2, d3] => { results := [.lit (.bool false)], args := [d1, d2, d3] }
  | _ => none }
def ScalarRingWrongFalsely : Prop := scalarRingRow.holds Try.pinned (OpenSpec.ofChange scalarRingWrong)

/-- 'fardellaw02.ScalarOnce': WHATEVER THE INPUT: true; the input reads as it did. -/
def scalarOnceSpec : ChangeSpec := { name := "scalarOnce", fn := fun _ => fun
  | [d1, d2] => { results := [.lit (.bool true)], args := [d1, d2] }
  | _ => none }
def scalarOnceRow : OpenClaim := { program := "ytfnfcmgbbijlnaa", sum := "5d9f6bdb836c49e694ec835ff40a296bbbb17da4fa85f04b73af05020fa93b26", func := "fardel/fardellaw02.ScalarOnce", spec := "scalarOnce", inPlace := ["math/bits.Sub64", "math/bits.Add64"], apart := false }
def ScalarOnceSaid : Prop := scalarOnceRow.holds Try.pinned (OpenSpec.ofChange scalarOnceSpec)

/-- ITS FALSE NEIGHBOUR: 'it returns false'. Refute it at one input. -/
def scalarOnceWrong : ChangeSpec := { name := "scalarOnce", fn := fun _ => fun
  | [d1, d2] => { results := [.lit (.bool false)], args := [d1, d2] }
  | _ => none }
def ScalarOnceWrongFalsely : Prop := scalarOnceRow.holds Try.pinned (OpenSpec.ofChange scalarOnceWrong)

/-- 'fardellaw02.ScalarSmall': WHATEVER THE INPUT: true; the input reads as it did. -/
def scalarSmallSpec : ChangeSpec := { name := "scalarSmall", fn := fun _ => fun
  | [d1, d2, d3, d4] => { results := [.lit (.bool true)], args := [d1, d2, d3, d4] }
  | _ => none }
def scalarSmallRow : OpenClaim := { program := "ytfnfcmgbbijlnaa", sum := "5d9f6bdb836c49e694ec835ff40a296bbbb17da4fa85f04b73af05020fa93b26", func := "fardel/fardellaw02.ScalarSmall", spec := "scalarSmall", inPlace := ["math/bits.Sub64", "math/bits.Add64"], apart := false }
def ScalarSmallSaid : Prop := scalarSmallRow.holds Try.pinned (OpenSpec.ofChange scalarSmallSpec)

/-- ITS FALSE NEIGHBOUR: 'it returns false'. Refute it at one input. -/
def scalarSmallWrong : ChangeSpec := { name := "scalarSmall", fn := fun _ => fun
  | [d1, d2, d3, d4] => { results := [.lit (.bool false)], args := [d1, d2, d3, d4] }
  | _ => none }
def ScalarSmallWrongFalsely : Prop := scalarSmallRow.holds Try.pinned (OpenSpec.ofChange scalarSmallWrong)

/- THE SECOND FORM. 'bulk': how many values and letters a reading holds, each counted each time it is reached (what is shared counts as often as it is met; a slice's spare places count too). A statement '..UptoSaid' is the law's where the arguments, and the package variables that the reading takes, are together of bulk at most 1048576: NARROWER than '..Said'. Prove '..Said' where nothing that the law and all that it calls make is longer than what came in: it says more and counts as full. Else prove '..UptoSaid'. A law counts once. -/
mutual
def uptoBulk {H : Type} : DataW H → Nat
  | .lit (.string bytes) => bytes.length + 1
  | .lit _ => 1
  | .nil => 1
  | .ptr d => uptoBulk d + 1
  | .slice elems spare => uptoBulkAll elems + uptoBulkAll spare + 1
  | .agg parts => uptoBulkAll parts + 1
  | .iface _ d => uptoBulk d + 1
  | .map entries => uptoBulkEntries entries + 1
  | .held _ => 1
def uptoBulkAll {H : Type} : List (DataW H) → Nat
  | [] => 0
  | d :: r => uptoBulk d + uptoBulkAll r
def uptoBulkEntries {H : Type} : List (Lit × DataW H) → Nat
  | [] => 0
  | x :: r => uptoBulkEntry x + uptoBulkEntries r
def uptoBulkEntry {H : Type} : Lit × DataW H → Nat
  | (.string bytes, d) => bytes.length + uptoBulk d + 1
  | (_, d) => uptoBulk d + 1
 end
def uptoSmall : (H : Type) → List (DataW H) → Bool := fun _ ds => decide (uptoBulkAll ds ≤ 1048576)
def OpenSpec.upto (s : _root_.Go.ChangeSpec) : _root_.Go.OpenSpec := { _root_.Go.OpenSpec.ofChange s with cond := some uptoSmall }

/-- 'fardellaw02.ScalarTells', WHERE WHAT IT READS IS OF BULK AT MOST 1048576: true; the input reads as it did. -/
def scalarTellsUptoRow : OpenClaim := { program := "ytfnfcmgbbijlnaa", sum := "5d9f6bdb836c49e694ec835ff40a296bbbb17da4fa85f04b73af05020fa93b26", func := "fardel/fardellaw02.ScalarTells", spec := "scalarTells", inPlace := ["math/bits.Sub64", "math/bits.Add64"], apart := false, narrowed := true }
def ScalarTellsUptoSaid : Prop := scalarTellsUptoRow.holds Try.pinned (OpenSpec.upto scalarTellsSpec)

/-- 'fardellaw02.ScalarRing', WHERE WHAT IT READS IS OF BULK AT MOST 1048576: true; the input reads as it did. -/
def scalarRingUptoRow : OpenClaim := { program := "ytfnfcmgbbijlnaa", sum := "5d9f6bdb836c49e694ec835ff40a296bbbb17da4fa85f04b73af05020fa93b26", func := "fardel/fardellaw02.ScalarRing", spec := "scalarRing", inPlace := ["math/bits.Sub64", "math/bits.Add64"], apart := false, narrowed := true }
def ScalarRingUptoSaid : Prop := scalarRingUptoRow.holds Try.pinned (OpenSpec.upto scalarRingSpec)

/-- 'fardellaw02.ScalarOnce', WHERE WHAT IT READS IS OF BULK AT MOST 1048576: true; the input reads as it did. -/
def scalarOnceUptoRow : OpenClaim := { program := "ytfnfcmgbbijlnaa", sum := "5d9f6bdb836c49e694ec835ff40a296bbbb17da4fa85f04b73af05020fa93b26", func := "fardel/fardellaw02.ScalarOnce", spec := "scalarOnce", inPlace := ["math/bits.Sub64", "math/bits.Add64"], apart := false, narrowed := true }
def ScalarOnceUptoSaid : Prop := scalarOnceUptoRow.holds Try.pinned (OpenSpec.upto scalarOnceSpec)

/-- 'fardellaw02.ScalarSmall', WHERE WHAT IT READS IS OF BULK AT MOST 1048576: true; the input reads as it did. -/
def scalarSmallUptoRow : OpenClaim := { program := "ytfnfcmgbbijlnaa", sum := "5d9f6bdb836c49e694ec835ff40a296bbbb17da4fa85f04b73af05020fa93b26", func := "fardel/fardellaw02.ScalarSmall", spec := "scalarSmall", inPlace := ["math/bits.Sub64", "math/bits.Add64"], apart := false, narrowed := true }
def ScalarSmallUptoSaid : Prop := scalarSmallUptoRow.holds Try.pinned (OpenSpec.upto scalarSmallSpec)

end Rows
end Go.Proofs.Ytfnfcmgbbijlnaa
