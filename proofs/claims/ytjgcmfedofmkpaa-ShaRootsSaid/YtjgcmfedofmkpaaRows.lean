/-
  No cell of these rows narrows 'for every input' (looked for: loops, veiled, ifaces, maps, wideKeys, modest, calm, conditions, laid).
  DERIVED. THE GIVEN ROWS OF THIS SEAT. 16 by the template 'for every input the law returns true; each argument reads behind the call as it read before'; 0 by the template 'total and deterministic' (their statements: YtjgcmfedofmkpaaTotals.lean).
  GIVEN WITH THE SEED: the statements are not yours to turn. If you find one false, say at which input.
  Laid BY PROGRAM, IN A SANDBOX (cutbox-rows.mjs): the forced cells as the released guide's own fill.sh prints them over the translation 5a57eb7f09185b50… (all of the seat's roots in one cut). By AI agents, Wed Nov 11 2026. No macro, syntax, notation, axiom, sorry.
-/
import Derived.Test.YtjgcmfedofmkpaaChecked
import GoSem.Claim
import GoSem.ClaimJoined
import GoSem.ClaimMapViews
import Derived.JoinedTies
import Derived.KernelRfl
namespace Go.Proofs.Ytjgcmfedofmkpaa
/- THE CELL 'sum', in the pinned program and in every row, IS THE sha256 OF THE DUMP (.gsa) THAT YtjgcmfedofmkpaaProg.lean LOADS. Nothing in Lean hashes anything: it is a label: what it is worth is what the hold of that sum in a sandbox is worth. -/
noncomputable def Try.pinned : Pinned := { name := "ytjgcmfedofmkpaa", sum := "5a57eb7f09185b503c752966223ac88566ff0e0917e8b9005d756704819d53a8", checked := Try.checked }
namespace Rows
def none {H : Type} : Left H := { results := [], args := [] }

/-- 'fardellaw03.ShaTells': WHATEVER THE INPUT: true; the input reads as it did. -/
def shaTellsSpec : ChangeSpec := { name := "shaTells", fn := fun _ => fun
  | [d] => { results := [.lit (.bool true)], args := [d] }
  | _ => none }
def shaTellsRow : OpenClaim := { program := "ytjgcmfedofmkpaa", sum := "5a57eb7f09185b503c752966223ac88566ff0e0917e8b9005d756704819d53a8", func := "fardel/fardellaw03.ShaTells", spec := "shaTells", unfollowed := true, recurses := true, apart := false }
def ShaTellsSaid : Prop := shaTellsRow.holds Try.pinned (OpenSpec.ofChange shaTellsSpec)

/-- ITS FALSE NEIGHBOUR: 'it returns false'. Refute it at one input. -/
def shaTellsWrong : ChangeSpec := { name := "shaTells", fn := fun _ => fun
  | [d] => { results := [.lit (.bool false)], args := [d] }
  | _ => none }
def ShaTellsWrongFalsely : Prop := shaTellsRow.holds Try.pinned (OpenSpec.ofChange shaTellsWrong)

/-- 'fardellaw03.ShaRoots': WHATEVER THE INPUT: true; the input reads as it did. -/
def shaRootsSpec : ChangeSpec := { name := "shaRoots", fn := fun _ => fun
  | [d1, d2] => { results := [.lit (.bool true)], args := [d1, d2] }
  | _ => none }
def shaRootsRow : OpenClaim := { program := "ytjgcmfedofmkpaa", sum := "5a57eb7f09185b503c752966223ac88566ff0e0917e8b9005d756704819d53a8", func := "fardel/fardellaw03.ShaRoots", spec := "shaRoots", unfollowed := true, recurses := true, apart := false }
def ShaRootsSaid : Prop := shaRootsRow.holds Try.pinned (OpenSpec.ofChange shaRootsSpec)

/-- ITS FALSE NEIGHBOUR: 'it returns false'. Refute it at one input. -/
def shaRootsWrong : ChangeSpec := { name := "shaRoots", fn := fun _ => fun
  | [d1, d2] => { results := [.lit (.bool false)], args := [d1, d2] }
  | _ => none }
def ShaRootsWrongFalsely : Prop := shaRootsRow.holds Try.pinned (OpenSpec.ofChange shaRootsWrong)

/-- 'fardellaw03.ShaParts': WHATEVER THE INPUT: true; the input reads as it did. -/
def shaPartsSpec : ChangeSpec := { name := "shaParts", fn := fun _ => fun
  | [d1, d2] => { results := [.lit (.bool true)], args := [d1, d2] }
  | _ => none }
def shaPartsRow : OpenClaim := { program := "ytjgcmfedofmkpaa", sum := "5a57eb7f09185b503c752966223ac88566ff0e0917e8b9005d756704819d53a8", func := "fardel/fardellaw03.ShaParts", spec := "shaParts", unfollowed := true, recurses := true, apart := false }
def ShaPartsSaid : Prop := shaPartsRow.holds Try.pinned (OpenSpec.ofChange shaPartsSpec)

/-- ITS FALSE NEIGHBOUR: 'it returns false'. Refute it at one input. -/
def shaPartsWrong : ChangeSpec := { name := "shaParts", fn := fun _ => fun
  | [d1, d2] => { results := [.lit (.bool false)], args := [d1, d2] }
  | _ => none }
def ShaPartsWrongFalsely : Prop := shaPartsRow.holds Try.pinned (OpenSpec.ofChange shaPartsWrong)

/-- 'fardellaw03.ShaOwn': WHATEVER THE INPUT: true; the input reads as it did. -/
def shaOwnSpec : ChangeSpec := { name := "shaOwn", fn := fun _ => fun
  | [d1, d2, d3] => { results := [.lit (.bool true)], args := [d1, d2, d3] }
  | _ => none }
def shaOwnRow : OpenClaim := { program := "ytjgcmfedofmkpaa", sum := "5a57eb7f09185b503c752966223ac88566ff0e0917e8b9005d756704819d53a8", func := "fardel/fardellaw03.ShaOwn", spec := "shaOwn", unfollowed := true, recurses := true, apart := false }
def ShaOwnSaid : Prop := shaOwnRow.holds Try.pinned (OpenSpec.ofChange shaOwnSpec)

/-- ITS FALSE NEIGHBOUR: 'it returns false'. Refute it at one input. -/
def shaOwnWrong : ChangeSpec := { name := "shaOwn", fn := fun _ => fun
  | [d1, d2, d3] => { results := [.lit (.bool false)], args := [d1, d2, d3] }
  | _ => none }
def ShaOwnWrongFalsely : Prop := shaOwnRow.holds Try.pinned (OpenSpec.ofChange shaOwnWrong)

/-- 'fardellaw03.ShaNone': WHATEVER THE INPUT: true; the input reads as it did. -/
def shaNoneSpec : ChangeSpec := { name := "shaNone", fn := fun _ => fun
  | [d1, d2] => { results := [.lit (.bool true)], args := [d1, d2] }
  | _ => none }
def shaNoneRow : OpenClaim := { program := "ytjgcmfedofmkpaa", sum := "5a57eb7f09185b503c752966223ac88566ff0e0917e8b9005d756704819d53a8", func := "fardel/fardellaw03.ShaNone", spec := "shaNone", unfollowed := true, recurses := true, apart := false }
def ShaNoneSaid : Prop := shaNoneRow.holds Try.pinned (OpenSpec.ofChange shaNoneSpec)

/-- ITS FALSE NEIGHBOUR: 'it returns false'. Refute it at one input. -/
def shaNoneWrong : ChangeSpec := { name := "shaNone", fn := fun _ => fun
  | [d1, d2] => { results := [.lit (.bool false)], args := [d1, d2] }
  | _ => none }
def ShaNoneWrongFalsely : Prop := shaNoneRow.holds Try.pinned (OpenSpec.ofChange shaNoneWrong)

/-- 'fardellaw04.MacTells': WHATEVER THE INPUT: true; the input reads as it did. -/
def macTellsSpec : ChangeSpec := { name := "macTells", fn := fun _ => fun
  | [d1, d2] => { results := [.lit (.bool true)], args := [d1, d2] }
  | _ => none }
def macTellsRow : OpenClaim := { program := "ytjgcmfedofmkpaa", sum := "5a57eb7f09185b503c752966223ac88566ff0e0917e8b9005d756704819d53a8", func := "fardel/fardellaw04.MacTells", spec := "macTells", unfollowed := true, recurses := true, apart := false }
def MacTellsSaid : Prop := macTellsRow.holds Try.pinned (OpenSpec.ofChange macTellsSpec)

/-- ITS FALSE NEIGHBOUR: 'it returns false'. Refute it at one input. -/
def macTellsWrong : ChangeSpec := { name := "macTells", fn := fun _ => fun
  | [d1, d2] => { results := [.lit (.bool false)], args := [d1, d2] }
  | _ => none }
def MacTellsWrongFalsely : Prop := macTellsRow.holds Try.pinned (OpenSpec.ofChange macTellsWrong)

/-- 'fardellaw04.MacParts': WHATEVER THE INPUT: true; the input reads as it did. -/
def macPartsSpec : ChangeSpec := { name := "macParts", fn := fun _ => fun
  | [d1, d2, d3] => { results := [.lit (.bool true)], args := [d1, d2, d3] }
  | _ => none }
def macPartsRow : OpenClaim := { program := "ytjgcmfedofmkpaa", sum := "5a57eb7f09185b503c752966223ac88566ff0e0917e8b9005d756704819d53a8", func := "fardel/fardellaw04.MacParts", spec := "macParts", unfollowed := true, recurses := true, apart := false }
def MacPartsSaid : Prop := macPartsRow.holds Try.pinned (OpenSpec.ofChange macPartsSpec)

/-- ITS FALSE NEIGHBOUR: 'it returns false'. Refute it at one input. -/
def macPartsWrong : ChangeSpec := { name := "macParts", fn := fun _ => fun
  | [d1, d2, d3] => { results := [.lit (.bool false)], args := [d1, d2, d3] }
  | _ => none }
def MacPartsWrongFalsely : Prop := macPartsRow.holds Try.pinned (OpenSpec.ofChange macPartsWrong)

/-- 'fardellaw04.MacKeys': WHATEVER THE INPUT: true; the input reads as it did. -/
def macKeysSpec : ChangeSpec := { name := "macKeys", fn := fun _ => fun
  | [d1, d2, d3] => { results := [.lit (.bool true)], args := [d1, d2, d3] }
  | _ => none }
def macKeysRow : OpenClaim := { program := "ytjgcmfedofmkpaa", sum := "5a57eb7f09185b503c752966223ac88566ff0e0917e8b9005d756704819d53a8", func := "fardel/fardellaw04.MacKeys", spec := "macKeys", unfollowed := true, recurses := true, apart := false }
def MacKeysSaid : Prop := macKeysRow.holds Try.pinned (OpenSpec.ofChange macKeysSpec)

/-- ITS FALSE NEIGHBOUR: 'it returns false'. Refute it at one input. -/
def macKeysWrong : ChangeSpec := { name := "macKeys", fn := fun _ => fun
  | [d1, d2, d3] => { results := [.lit (.bool false)], args := [d1, d2, d3] }
  | _ => none }
def MacKeysWrongFalsely : Prop := macKeysRow.holds Try.pinned (OpenSpec.ofChange macKeysWrong)

/-- 'fardellaw04.MacSame': WHATEVER THE INPUT: true; the input reads as it did. -/
def macSameSpec : ChangeSpec := { name := "macSame", fn := fun _ => fun
  | [d1, d2, d3, d4] => { results := [.lit (.bool true)], args := [d1, d2, d3, d4] }
  | _ => none }
def macSameRow : OpenClaim := { program := "ytjgcmfedofmkpaa", sum := "5a57eb7f09185b503c752966223ac88566ff0e0917e8b9005d756704819d53a8", func := "fardel/fardellaw04.MacSame", spec := "macSame", unfollowed := true, recurses := true, apart := false }
def MacSameSaid : Prop := macSameRow.holds Try.pinned (OpenSpec.ofChange macSameSpec)

/-- ITS FALSE NEIGHBOUR: 'it returns false'. Refute it at one input. -/
def macSameWrong : ChangeSpec := { name := "macSame", fn := fun _ => fun
  | [d1, d2, d3, d4] => { results := [.lit (.bool false)], args := [d1, d2, d3, d4] }
  | _ => none }
def MacSameWrongFalsely : Prop := macSameRow.holds Try.pinned (OpenSpec.ofChange macSameWrong)

/-- 'fardellaw04.MacLong': WHATEVER THE INPUT: true; the input reads as it did. -/
def macLongSpec : ChangeSpec := { name := "macLong", fn := fun _ => fun
  | [d1, d2] => { results := [.lit (.bool true)], args := [d1, d2] }
  | _ => none }
def macLongRow : OpenClaim := { program := "ytjgcmfedofmkpaa", sum := "5a57eb7f09185b503c752966223ac88566ff0e0917e8b9005d756704819d53a8", func := "fardel/fardellaw04.MacLong", spec := "macLong", unfollowed := true, recurses := true, apart := false }
def MacLongSaid : Prop := macLongRow.holds Try.pinned (OpenSpec.ofChange macLongSpec)

/-- ITS FALSE NEIGHBOUR: 'it returns false'. Refute it at one input. -/
def macLongWrong : ChangeSpec := { name := "macLong", fn := fun _ => fun
  | [d1, d2] => { results := [.lit (.bool false)], args := [d1, d2] }
  | _ => none }
def MacLongWrongFalsely : Prop := macLongRow.holds Try.pinned (OpenSpec.ofChange macLongWrong)

/-- 'fardellaw05.KdfNames': WHATEVER THE INPUT: true; the input reads as it did. -/
def kdfNamesSpec : ChangeSpec := { name := "kdfNames", fn := fun _ => fun
  | [] => { results := [.lit (.bool true)], args := [] }
  | _ => none }
def kdfNamesRow : OpenClaim := { program := "ytjgcmfedofmkpaa", sum := "5a57eb7f09185b503c752966223ac88566ff0e0917e8b9005d756704819d53a8", func := "fardel/fardellaw05.KdfNames", spec := "kdfNames", unfollowed := true, recurses := true, apart := false }
def KdfNamesSaid : Prop := kdfNamesRow.holds Try.pinned (OpenSpec.ofChange kdfNamesSpec)

/-- ITS FALSE NEIGHBOUR: 'it returns false'. Refute it at one input. -/
def kdfNamesWrong : ChangeSpec := { name := "kdfNames", fn := fun _ => fun
  | [] => { results := [.lit (.bool false)], args := [] }
  | _ => none }
def KdfNamesWrongFalsely : Prop := kdfNamesRow.holds Try.pinned (OpenSpec.ofChange kdfNamesWrong)

/-- 'fardellaw05.KdfTells': WHATEVER THE INPUT: true; the input reads as it did. -/
def kdfTellsSpec : ChangeSpec := { name := "kdfTells", fn := fun _ => fun
  | [d1, d2, d3] => { results := [.lit (.bool true)], args := [d1, d2, d3] }
  | _ => none }
def kdfTellsRow : OpenClaim := { program := "ytjgcmfedofmkpaa", sum := "5a57eb7f09185b503c752966223ac88566ff0e0917e8b9005d756704819d53a8", func := "fardel/fardellaw05.KdfTells", spec := "kdfTells", unfollowed := true, recurses := true, apart := false }
def KdfTellsSaid : Prop := kdfTellsRow.holds Try.pinned (OpenSpec.ofChange kdfTellsSpec)

/-- ITS FALSE NEIGHBOUR: 'it returns false'. Refute it at one input. -/
def kdfTellsWrong : ChangeSpec := { name := "kdfTells", fn := fun _ => fun
  | [d1, d2, d3] => { results := [.lit (.bool false)], args := [d1, d2, d3] }
  | _ => none }
def KdfTellsWrongFalsely : Prop := kdfTellsRow.holds Try.pinned (OpenSpec.ofChange kdfTellsWrong)

/-- 'fardellaw05.KdfBegins': WHATEVER THE INPUT: true; the input reads as it did. -/
def kdfBeginsSpec : ChangeSpec := { name := "kdfBegins", fn := fun _ => fun
  | [d1, d2, d3, d4] => { results := [.lit (.bool true)], args := [d1, d2, d3, d4] }
  | _ => none }
def kdfBeginsRow : OpenClaim := { program := "ytjgcmfedofmkpaa", sum := "5a57eb7f09185b503c752966223ac88566ff0e0917e8b9005d756704819d53a8", func := "fardel/fardellaw05.KdfBegins", spec := "kdfBegins", unfollowed := true, recurses := true, apart := false }
def KdfBeginsSaid : Prop := kdfBeginsRow.holds Try.pinned (OpenSpec.ofChange kdfBeginsSpec)

/-- ITS FALSE NEIGHBOUR: 'it returns false'. Refute it at one input. -/
def kdfBeginsWrong : ChangeSpec := { name := "kdfBegins", fn := fun _ => fun
  | [d1, d2, d3, d4] => { results := [.lit (.bool false)], args := [d1, d2, d3, d4] }
  | _ => none }
def KdfBeginsWrongFalsely : Prop := kdfBeginsRow.holds Try.pinned (OpenSpec.ofChange kdfBeginsWrong)

/-- 'fardellaw05.KdfMost': WHATEVER THE INPUT: true; the input reads as it did. -/
def kdfMostSpec : ChangeSpec := { name := "kdfMost", fn := fun _ => fun
  | [d1, d2, d3] => { results := [.lit (.bool true)], args := [d1, d2, d3] }
  | _ => none }
def kdfMostRow : OpenClaim := { program := "ytjgcmfedofmkpaa", sum := "5a57eb7f09185b503c752966223ac88566ff0e0917e8b9005d756704819d53a8", func := "fardel/fardellaw05.KdfMost", spec := "kdfMost", unfollowed := true, recurses := true, apart := false }
def KdfMostSaid : Prop := kdfMostRow.holds Try.pinned (OpenSpec.ofChange kdfMostSpec)

/-- ITS FALSE NEIGHBOUR: 'it returns false'. Refute it at one input. -/
def kdfMostWrong : ChangeSpec := { name := "kdfMost", fn := fun _ => fun
  | [d1, d2, d3] => { results := [.lit (.bool false)], args := [d1, d2, d3] }
  | _ => none }
def KdfMostWrongFalsely : Prop := kdfMostRow.holds Try.pinned (OpenSpec.ofChange kdfMostWrong)

/-- 'fardellaw05.KdfFirst': WHATEVER THE INPUT: true; the input reads as it did. -/
def kdfFirstSpec : ChangeSpec := { name := "kdfFirst", fn := fun _ => fun
  | [d1, d2] => { results := [.lit (.bool true)], args := [d1, d2] }
  | _ => none }
def kdfFirstRow : OpenClaim := { program := "ytjgcmfedofmkpaa", sum := "5a57eb7f09185b503c752966223ac88566ff0e0917e8b9005d756704819d53a8", func := "fardel/fardellaw05.KdfFirst", spec := "kdfFirst", unfollowed := true, recurses := true, apart := false }
def KdfFirstSaid : Prop := kdfFirstRow.holds Try.pinned (OpenSpec.ofChange kdfFirstSpec)

/-- ITS FALSE NEIGHBOUR: 'it returns false'. Refute it at one input. -/
def kdfFirstWrong : ChangeSpec := { name := "kdfFirst", fn := fun _ => fun
  | [d1, d2] => { results := [.lit (.bool false)], args := [d1, d2] }
  | _ => none }
def KdfFirstWrongFalsely : Prop := kdfFirstRow.holds Try.pinned (OpenSpec.ofChange kdfFirstWrong)

/-- 'fardellaw05.KdfSalt': WHATEVER THE INPUT: true; the input reads as it did. -/
def kdfSaltSpec : ChangeSpec := { name := "kdfSalt", fn := fun _ => fun
  | [d1, d2, d3] => { results := [.lit (.bool true)], args := [d1, d2, d3] }
  | _ => none }
def kdfSaltRow : OpenClaim := { program := "ytjgcmfedofmkpaa", sum := "5a57eb7f09185b503c752966223ac88566ff0e0917e8b9005d756704819d53a8", func := "fardel/fardellaw05.KdfSalt", spec := "kdfSalt", unfollowed := true, recurses := true, apart := false }
def KdfSaltSaid : Prop := kdfSaltRow.holds Try.pinned (OpenSpec.ofChange kdfSaltSpec)

/-- ITS FALSE NEIGHBOUR: 'it returns false'. Refute it at one input. -/
def kdfSaltWrong : ChangeSpec := { name := "kdfSalt", fn := fun _ => fun
  | [d1, d2, d3] => { results := [.lit (.bool false)], args := [d1, d2, d3] }
  | _ => none }
def KdfSaltWrongFalsely : Prop := kdfSaltRow.holds Try.pinned (OpenSpec.ofChange kdfSaltWrong)

/- THE SECOND FORM. 'bulk': how many values and letters a reading holds, each counted each time it is reached (what is shared counts as often as it is met; a slice's spare places count too). A statement '..UptoSaid' is the law's where the arguments, and the package variables that the reading takes, are together of bulk at most 1048576: NARROWER than '..Said'. Prove '..Said' where nothing that the law and all that it calls make is longer than what came in: it says more and counts as full. Else prove '..UptoSaid'. A law counts once. -/
mutual
def uptoBulk {H : Type} : DataW H → Nat
  | .lit (.string bytes) => bytes.length + 1
  | .lit _ => 1
  | .nil => 1
  | .ptr d => uptoBulk d + 1
  | .slice elems spare => uptoBulkAll elems + uptoBulkAll spare + 1
  | .agg parts => uptoBulkAll parts + 1
  | .iface _ d => uptoBulk d + 1
  | .map entries => uptoBulkEntries entries + 1
  | .held _ => 1
def uptoBulkAll {H : Type} : List (DataW H) → Nat
  | [] => 0
  | d :: r => uptoBulk d + uptoBulkAll r
def uptoBulkEntries {H : Type} : List (Lit × DataW H) → Nat
  | [] => 0
  | x :: r => uptoBulkEntry x + uptoBulkEntries r
def uptoBulkEntry {H : Type} : Lit × DataW H → Nat
  | (.string bytes, d) => bytes.length + uptoBulk d + 1
  | (_, d) => uptoBulk d + 1
 end
def uptoSmall : (H : Type) → List (DataW H) → Bool := fun _ ds => decide (uptoBulkAll ds ≤ 1048576)
def OpenSpec.upto (s : _root_.Go.ChangeSpec) : _root_.Go.OpenSpec := { _root_.Go.OpenSpec.ofChange s with cond := some uptoSmall }

/-- 'fardellaw03.ShaTells', WHERE WHAT IT READS IS OF BULK AT MOST 1048576: true; the input reads as it did. -/
def shaTellsUptoRow : OpenClaim := { program := "ytjgcmfedofmkpaa", sum := "5a57eb7f09185b503c752966223ac88566ff0e0917e8b9005d756704819d53a8", func := "fardel/fardellaw03.ShaTells", spec := "shaTells", unfollowed := true, recurses := true, apart := false, narrowed := true }
def ShaTellsUptoSaid : Prop := shaTellsUptoRow.holds Try.pinned (OpenSpec.upto shaTellsSpec)

/-- 'fardellaw03.ShaRoots', WHERE WHAT IT READS IS OF BULK AT MOST 1048576: true; the input reads as it did. -/
def shaRootsUptoRow : OpenClaim := { program := "ytjgcmfedofmkpaa", sum := "5a57eb7f09185b503c752966223ac88566ff0e0917e8b9005d756704819d53a8", func := "fardel/fardellaw03.ShaRoots", spec := "shaRoots", unfollowed := true, recurses := true, apart := false, narrowed := true }
def ShaRootsUptoSaid : Prop := shaRootsUptoRow.holds Try.pinned (OpenSpec.upto shaRootsSpec)

/-- 'fardellaw03.ShaParts', WHERE WHAT IT READS IS OF BULK AT MOST 1048576: true; the input reads as it did. -/
def shaPartsUptoRow : OpenClaim := { program := "ytjgcmfedofmkpaa", sum := "5a57eb7f09185b503c752966223ac88566ff0e0917e8b9005d756704819d53a8", func := "fardel/fardellaw03.ShaParts", spec := "shaParts", unfollowed := true, recurses := true, apart := false, narrowed := true }
def ShaPartsUptoSaid : Prop := shaPartsUptoRow.holds Try.pinned (OpenSpec.upto shaPartsSpec)

/-- 'fardellaw03.ShaOwn', WHERE WHAT IT READS IS OF BULK AT MOST 1048576: true; the input reads as it did. -/
def shaOwnUptoRow : OpenClaim := { program := "ytjgcmfedofmkpaa", sum := "5a57eb7f09185b503c752966223ac88566ff0e0917e8b9005d756704819d53a8", func := "fardel/fardellaw03.ShaOwn", spec := "shaOwn", unfollowed := true, recurses := true, apart := false, narrowed := true }
def ShaOwnUptoSaid : Prop := shaOwnUptoRow.holds Try.pinned (OpenSpec.upto shaOwnSpec)

/-- 'fardellaw03.ShaNone', WHERE WHAT IT READS IS OF BULK AT MOST 1048576: true; the input reads as it did. -/
def shaNoneUptoRow : OpenClaim := { program := "ytjgcmfedofmkpaa", sum := "5a57eb7f09185b503c752966223ac88566ff0e0917e8b9005d756704819d53a8", func := "fardel/fardellaw03.ShaNone", spec := "shaNone", unfollowed := true, recurses := true, apart := false, narrowed := true }
def ShaNoneUptoSaid : Prop := shaNoneUptoRow.holds Try.pinned (OpenSpec.upto shaNoneSpec)

/-- 'fardellaw04.MacTells', WHERE WHAT IT READS IS OF BULK AT MOST 1048576: true; the input reads as it did. -/
def macTellsUptoRow : OpenClaim := { program := "ytjgcmfedofmkpaa", sum := "5a57eb7f09185b503c752966223ac88566ff0e0917e8b9005d756704819d53a8", func := "fardel/fardellaw04.MacTells", spec := "macTells", unfollowed := true, recurses := true, apart := false, narrowed := true }
def MacTellsUptoSaid : Prop := macTellsUptoRow.holds Try.pinned (OpenSpec.upto macTellsSpec)

/-- 'fardellaw04.MacParts', WHERE WHAT IT READS IS OF BULK AT MOST 1048576: true; the input reads as it did. -/
def macPartsUptoRow : OpenClaim := { program := "ytjgcmfedofmkpaa", sum := "5a57eb7f09185b503c752966223ac88566ff0e0917e8b9005d756704819d53a8", func := "fardel/fardellaw04.MacParts", spec := "macParts", unfollowed := true, recurses := true, apart := false, narrowed := true }
def MacPartsUptoSaid : Prop := macPartsUptoRow.holds Try.pinned (OpenSpec.upto macPartsSpec)

/-- 'fardellaw04.MacKeys', WHERE WHAT IT READS IS OF BULK AT MOST 1048576: true; the input reads as it did. -/
def macKeysUptoRow : OpenClaim := { program := "ytjgcmfedofmkpaa", sum := "5a57eb7f09185b503c752966223ac88566ff0e0917e8b9005d756704819d53a8", func := "fardel/fardellaw04.MacKeys", spec := "macKeys", unfollowed := true, recurses := true, apart := false, narrowed := true }
def MacKeysUptoSaid : Prop := macKeysUptoRow.holds Try.pinned (OpenSpec.upto macKeysSpec)

/-- 'fardellaw04.MacSame', WHERE WHAT IT READS IS OF BULK AT MOST 1048576: true; the input reads as it did. -/
def macSameUptoRow : OpenClaim := { program := "ytjgcmfedofmkpaa", sum := "5a57eb7f09185b503c752966223ac88566ff0e0917e8b9005d756704819d53a8", func := "fardel/fardellaw04.MacSame", spec := "macSame", unfollowed := true, recurses := true, apart := false, narrowed := true }
def MacSameUptoSaid : Prop := macSameUptoRow.holds Try.pinned (OpenSpec.upto macSameSpec)

/-- 'fardellaw04.MacLong', WHERE WHAT IT READS IS OF BULK AT MOST 1048576: true; the input reads as it did. -/
def macLongUptoRow : OpenClaim := { program := "ytjgcmfedofmkpaa", sum := "5a57eb7f09185b503c752966223ac88566ff0e0917e8b9005d756704819d53a8", func := "fardel/fardellaw04.MacLong", spec := "macLong", unfollowed := true, recurses := true, apart := false, narrowed := true }
def MacLongUptoSaid : Prop := macLongUptoRow.holds Try.pinned (OpenSpec.upto macLongSpec)

/-- 'fardellaw05.KdfNames', WHERE WHAT IT READS IS OF BULK AT MOST 1048576: true; the input reads as it did. -/
def kdfNamesUptoRow : OpenClaim := { program := "ytjgcmfedofmkpaa", sum := "5a57eb7f09185b503c752966223ac88566ff0e0917e8b9005d756704819d53a8", func := "fardel/fardellaw05.KdfNames", spec := "kdfNames", unfollowed := true, recurses := true, apart := false, narrowed := true }
def KdfNamesUptoSaid : Prop := kdfNamesUptoRow.holds Try.pinned (OpenSpec.upto kdfNamesSpec)

/-- 'fardellaw05.KdfTells', WHERE WHAT IT READS IS OF BULK AT MOST 1048576: true; the input reads as it did. -/
def kdfTellsUptoRow : OpenClaim := { program := "ytjgcmfedofmkpaa", sum := "5a57eb7f09185b503c752966223ac88566ff0e0917e8b9005d756704819d53a8", func := "fardel/fardellaw05.KdfTells", spec := "kdfTells", unfollowed := true, recurses := true, apart := false, narrowed := true }
def KdfTellsUptoSaid : Prop := kdfTellsUptoRow.holds Try.pinned (OpenSpec.upto kdfTellsSpec)

/-- 'fardellaw05.KdfBegins', WHERE WHAT IT READS IS OF BULK AT MOST 1048576: true; the input reads as it did. -/
def kdfBeginsUptoRow : OpenClaim := { program := "ytjgcmfedofmkpaa", sum := "5a57eb7f09185b503c752966223ac88566ff0e0917e8b9005d756704819d53a8", func := "fardel/fardellaw05.KdfBegins", spec := "kdfBegins", unfollowed := true, recurses := true, apart := false, narrowed := true }
def KdfBeginsUptoSaid : Prop := kdfBeginsUptoRow.holds Try.pinned (OpenSpec.upto kdfBeginsSpec)

/-- 'fardellaw05.KdfMost', WHERE WHAT IT READS IS OF BULK AT MOST 1048576: true; the input reads as it did. -/
def kdfMostUptoRow : OpenClaim := { program := "ytjgcmfedofmkpaa", sum := "5a57eb7f09185b503c752966223ac88566ff0e0917e8b9005d756704819d53a8", func := "fardel/fardellaw05.KdfMost", spec := "kdfMost", unfollowed := true, recurses := true, apart := false, narrowed := true }
def KdfMostUptoSaid : Prop := kdfMostUptoRow.holds Try.pinned (OpenSpec.upto kdfMostSpec)

/-- 'fardellaw05.KdfFirst', WHERE WHAT IT READS IS OF BULK AT MOST 1048576: true; the input reads as it did. -/
def kdfFirstUptoRow : OpenClaim := { program := "ytjgcmfedofmkpaa", sum := "5a57eb7f09185b503c752966223ac88566ff0e0917e8b9005d756704819d53a8", func := "fardel/fardellaw05.KdfFirst", spec := "kdfFirst", unfollowed := true, recurses := true, apart := false, narrowed := true }
def KdfFirstUptoSaid : Prop := kdfFirstUptoRow.holds Try.pinned (OpenSpec.upto kdfFirstSpec)

/-- 'fardellaw05.KdfSalt', WHERE WHAT IT READS IS OF BULK AT MOST 1048576: true; the input reads as it did. -/
def kdfSaltUptoRow : OpenClaim := { program := "ytjgcmfedofmkpaa", sum := "5a57eb7f09185b503c752966223ac88566ff0e0917e8b9005d756704819d53a8", func := "fardel/fardellaw05.KdfSalt", spec := "kdfSalt", unfollowed := true, recurses := true, apart := false, narrowed := true }
def KdfSaltUptoSaid : Prop := kdfSaltUptoRow.holds Try.pinned (OpenSpec.upto kdfSaltSpec)

end Rows
end Go.Proofs.Ytjgcmfedofmkpaa
