/-
  No cell of these rows narrows 'for every input' (looked for: loops, veiled, ifaces, maps, wideKeys, modest, calm, conditions, laid).
  DERIVED. THE GIVEN ROWS OF THIS SEAT. 12 by the template 'for every input the law returns true; each argument reads behind the call as it read before'; 0 by the template 'total and deterministic' (their statements: YteggnboikjjaiaaTotals.lean).
  GIVEN WITH THE SEED: the statements are not yours to turn. If you find one false, say at which input.
  Laid BY PROGRAM, IN A SANDBOX (cutbox-rows.mjs): the forced cells as the released guide's own fill.sh prints them over the translation 799adeca92df79e8… (all of the seat's roots in one cut). By AI agents, Wed Nov 11 2026. No macro, syntax, notation, axiom, sorry.
-/
import Derived.Test.YteggnboikjjaiaaChecked
import GoSem.Claim
import GoSem.ClaimJoined
import GoSem.ClaimMapViews
import Derived.JoinedTies
import Derived.KernelRfl
namespace Go.Proofs.Yteggnboikjjaiaa
/- THE CELL 'sum', in the pinned program and in every row, IS THE sha256 OF THE DUMP (.gsa) THAT YteggnboikjjaiaaProg.lean LOADS. Nothing in Lean hashes anything: it is a label: what it is worth is what the hold of that sum in a sandbox is worth. -/
noncomputable def Try.pinned : Pinned := { name := "yteggnboikjjaiaa", sum := "799adeca92df79e88bafe8f73bfd3cc347c8f0645de656fa64a2ec6d1b5b4947", checked := Try.checked }
namespace Rows
def none {H : Type} : Left H := { results := [], args := [] }

/-- 'laws.FnExactMassesOk': WHATEVER THE INPUT: true; the input reads as it did. -/
def fnExactMassesOkSpec : ChangeSpec := { name := "fnExactMassesOk", fn := fun _ => fun
  | [d] => { results := [.lit (.bool true)], args := [d] }
  | _ => none }
def fnExactMassesOkRow : OpenClaim := { program := "yteggnboikjjaiaa", sum := "799adeca92df79e88bafe8f73bfd3cc347c8f0645de656fa64a2ec6d1b5b4947", func := "loop.example/g00059/laws.FnExactMassesOk", spec := "fnExactMassesOk", unfollowed := true, recurses := true, apart := false }
def FnExactMassesOkSaid : Prop := fnExactMassesOkRow.holds Try.pinned (OpenSpec.ofChange fnExactMassesOkSpec)

/-- ITS FALSE NEIGHBOUR: 'it returns false'. Refute it at one input. -/
def fnExactMassesOkWrong : ChangeSpec := { name := "fnExactMassesOk", fn := fun _ => fun
  | [d] => { results := [.lit (.bool false)], args := [d] }
  | _ => none }
def FnExactMassesOkWrongFalsely : Prop := fnExactMassesOkRow.holds Try.pinned (OpenSpec.ofChange fnExactMassesOkWrong)

/-- 'laws.FnExactLoadOf': WHATEVER THE INPUT: true; the input reads as it did. -/
def fnExactLoadOfSpec : ChangeSpec := { name := "fnExactLoadOf", fn := fun _ => fun
  | [d] => { results := [.lit (.bool true)], args := [d] }
  | _ => none }
def fnExactLoadOfRow : OpenClaim := { program := "yteggnboikjjaiaa", sum := "799adeca92df79e88bafe8f73bfd3cc347c8f0645de656fa64a2ec6d1b5b4947", func := "loop.example/g00059/laws.FnExactLoadOf", spec := "fnExactLoadOf", unfollowed := true, recurses := true, apart := false }
def FnExactLoadOfSaid : Prop := fnExactLoadOfRow.holds Try.pinned (OpenSpec.ofChange fnExactLoadOfSpec)

/-- ITS FALSE NEIGHBOUR: 'it returns false'. Refute it at one input. -/
def fnExactLoadOfWrong : ChangeSpec := { name := "fnExactLoadOf", fn := fun _ => fun
  | [d] => { results := [.lit (.bool false)], args := [d] }
  | _ => none }
def FnExactLoadOfWrongFalsely : Prop := fnExactLoadOfRow.holds Try.pinned (OpenSpec.ofChange fnExactLoadOfWrong)

/-- 'laws.FnExactHullOk': WHATEVER THE INPUT: true; the input reads as it did. -/
def fnExactHullOkSpec : ChangeSpec := { name := "fnExactHullOk", fn := fun _ => fun
  | [d] => { results := [.lit (.bool true)], args := [d] }
  | _ => none }
def fnExactHullOkRow : OpenClaim := { program := "yteggnboikjjaiaa", sum := "799adeca92df79e88bafe8f73bfd3cc347c8f0645de656fa64a2ec6d1b5b4947", func := "loop.example/g00059/laws.FnExactHullOk", spec := "fnExactHullOk", unfollowed := true, recurses := true, apart := false }
def FnExactHullOkSaid : Prop := fnExactHullOkRow.holds Try.pinned (OpenSpec.ofChange fnExactHullOkSpec)

/-- ITS FALSE NEIGHBOUR: 'it returns false'. Refute it at one input. -/
def fnExactHullOkWrong : ChangeSpec := { name := "fnExactHullOk", fn := fun _ => fun
  | [d] => { results := [.lit (.bool false)], args := [d] }
  | _ => none }
def FnExactHullOkWrongFalsely : Prop := fnExactHullOkRow.holds Try.pinned (OpenSpec.ofChange fnExactHullOkWrong)

/-- 'laws.FnExactPlane': WHATEVER THE INPUT: true; the input reads as it did. -/
def fnExactPlaneSpec : ChangeSpec := { name := "fnExactPlane", fn := fun _ => fun
  | [d1, d2] => { results := [.lit (.bool true)], args := [d1, d2] }
  | _ => none }
def fnExactPlaneRow : OpenClaim := { program := "yteggnboikjjaiaa", sum := "799adeca92df79e88bafe8f73bfd3cc347c8f0645de656fa64a2ec6d1b5b4947", func := "loop.example/g00059/laws.FnExactPlane", spec := "fnExactPlane", unfollowed := true, recurses := true, apart := false }
def FnExactPlaneSaid : Prop := fnExactPlaneRow.holds Try.pinned (OpenSpec.ofChange fnExactPlaneSpec)

/-- ITS FALSE NEIGHBOUR: 'it returns false'. Refute it at one input. -/
def fnExactPlaneWrong : ChangeSpec := { name := "fnExactPlane", fn := fun _ => fun
  | [d1, d2] => { results := [.lit (.bool false)], args := [d1, d2] }
  | _ => none }
def FnExactPlaneWrongFalsely : Prop := fnExactPlaneRow.holds Try.pinned (OpenSpec.ofChange fnExactPlaneWrong)

/-- 'laws.FnExactInertia3': WHATEVER THE INPUT: true; the input reads as it did. -/
def fnExactInertia3Spec : ChangeSpec := { name := "fnExactInertia3", fn := fun _ => fun
  | [d1, d2] => { results := [.lit (.bool true)], args := [d1, d2] }
  | _ => none }
def fnExactInertia3Row : OpenClaim := { program := "yteggnboikjjaiaa", sum := "799adeca92df79e88bafe8f73bfd3cc347c8f0645de656fa64a2ec6d1b5b4947", func := "loop.example/g00059/laws.FnExactInertia3", spec := "fnExactInertia3", unfollowed := true, recurses := true, apart := false }
def FnExactInertia3Said : Prop := fnExactInertia3Row.holds Try.pinned (OpenSpec.ofChange fnExactInertia3Spec)

/-- ITS FALSE NEIGHBOUR: 'it returns false'. Refute it at one input. -/
def fnExactInertia3Wrong : ChangeSpec := { name := "fnExactInertia3", fn := fun _ => fun
  | [d1, d2] => { results := [.lit (.bool false)], args := [d1, d2] }
  | _ => none }
def FnExactInertia3WrongFalsely : Prop := fnExactInertia3Row.holds Try.pinned (OpenSpec.ofChange fnExactInertia3Wrong)

/-- 'laws.FnExactAlong4': WHATEVER THE INPUT: true; the input reads as it did. -/
def fnExactAlong4Spec : ChangeSpec := { name := "fnExactAlong4", fn := fun _ => fun
  | [d1, d2] => { results := [.lit (.bool true)], args := [d1, d2] }
  | _ => none }
def fnExactAlong4Row : OpenClaim := { program := "yteggnboikjjaiaa", sum := "799adeca92df79e88bafe8f73bfd3cc347c8f0645de656fa64a2ec6d1b5b4947", func := "loop.example/g00059/laws.FnExactAlong4", spec := "fnExactAlong4", unfollowed := true, recurses := true, apart := false }
def FnExactAlong4Said : Prop := fnExactAlong4Row.holds Try.pinned (OpenSpec.ofChange fnExactAlong4Spec)

/-- ITS FALSE NEIGHBOUR: 'it returns false'. Refute it at one input. -/
def fnExactAlong4Wrong : ChangeSpec := { name := "fnExactAlong4", fn := fun _ => fun
  | [d1, d2] => { results := [.lit (.bool false)], args := [d1, d2] }
  | _ => none }
def FnExactAlong4WrongFalsely : Prop := fnExactAlong4Row.holds Try.pinned (OpenSpec.ofChange fnExactAlong4Wrong)

/-- 'laws.FnExactVolume2': WHATEVER THE INPUT: true; the input reads as it did. -/
def fnExactVolume2Spec : ChangeSpec := { name := "fnExactVolume2", fn := fun _ => fun
  | [d1, d2] => { results := [.lit (.bool true)], args := [d1, d2] }
  | _ => none }
def fnExactVolume2Row : OpenClaim := { program := "yteggnboikjjaiaa", sum := "799adeca92df79e88bafe8f73bfd3cc347c8f0645de656fa64a2ec6d1b5b4947", func := "loop.example/g00059/laws.FnExactVolume2", spec := "fnExactVolume2", unfollowed := true, recurses := true, apart := false }
def FnExactVolume2Said : Prop := fnExactVolume2Row.holds Try.pinned (OpenSpec.ofChange fnExactVolume2Spec)

/-- ITS FALSE NEIGHBOUR: 'it returns false'. Refute it at one input. -/
def fnExactVolume2Wrong : ChangeSpec := { name := "fnExactVolume2", fn := fun _ => fun
  | [d1, d2] => { results := [.lit (.bool false)], args := [d1, d2] }
  | _ => none }
def FnExactVolume2WrongFalsely : Prop := fnExactVolume2Row.holds Try.pinned (OpenSpec.ofChange fnExactVolume2Wrong)

/-- 'laws.FnExactHeight4': WHATEVER THE INPUT: true; the input reads as it did. -/
def fnExactHeight4Spec : ChangeSpec := { name := "fnExactHeight4", fn := fun _ => fun
  | [d1, d2] => { results := [.lit (.bool true)], args := [d1, d2] }
  | _ => none }
def fnExactHeight4Row : OpenClaim := { program := "yteggnboikjjaiaa", sum := "799adeca92df79e88bafe8f73bfd3cc347c8f0645de656fa64a2ec6d1b5b4947", func := "loop.example/g00059/laws.FnExactHeight4", spec := "fnExactHeight4", unfollowed := true, recurses := true, apart := false }
def FnExactHeight4Said : Prop := fnExactHeight4Row.holds Try.pinned (OpenSpec.ofChange fnExactHeight4Spec)

/-- ITS FALSE NEIGHBOUR: 'it returns false'. Refute it at one input. -/
def fnExactHeight4Wrong : ChangeSpec := { name := "fnExactHeight4", fn := fun _ => fun
  | [d1, d2] => { results := [.lit (.bool false)], args := [d1, d2] }
  | _ => none }
def FnExactHeight4WrongFalsely : Prop := fnExactHeight4Row.holds Try.pinned (OpenSpec.ofChange fnExactHeight4Wrong)

/-- 'laws.FnExactStrips2': WHATEVER THE INPUT: true; the input reads as it did. -/
def fnExactStrips2Spec : ChangeSpec := { name := "fnExactStrips2", fn := fun _ => fun
  | [d1, d2] => { results := [.lit (.bool true)], args := [d1, d2] }
  | _ => none }
def fnExactStrips2Row : OpenClaim := { program := "yteggnboikjjaiaa", sum := "799adeca92df79e88bafe8f73bfd3cc347c8f0645de656fa64a2ec6d1b5b4947", func := "loop.example/g00059/laws.FnExactStrips2", spec := "fnExactStrips2", unfollowed := true, recurses := true, apart := false }
def FnExactStrips2Said : Prop := fnExactStrips2Row.holds Try.pinned (OpenSpec.ofChange fnExactStrips2Spec)

/-- ITS FALSE NEIGHBOUR: 'it returns false'. Refute it at one input. -/
def fnExactStrips2Wrong : ChangeSpec := { name := "fnExactStrips2", fn := fun _ => fun
  | [d1, d2] => { results := [.lit (.bool false)], args := [d1, d2] }
  | _ => none }
def FnExactStrips2WrongFalsely : Prop := fnExactStrips2Row.holds Try.pinned (OpenSpec.ofChange fnExactStrips2Wrong)

/-- 'laws.FnExactAfloat': WHATEVER THE INPUT: true; the input reads as it did. -/
def fnExactAfloatSpec : ChangeSpec := { name := "fnExactAfloat", fn := fun _ => fun
  | [d1, d2] => { results := [.lit (.bool true)], args := [d1, d2] }
  | _ => none }
def fnExactAfloatRow : OpenClaim := { program := "yteggnboikjjaiaa", sum := "799adeca92df79e88bafe8f73bfd3cc347c8f0645de656fa64a2ec6d1b5b4947", func := "loop.example/g00059/laws.FnExactAfloat", spec := "fnExactAfloat", unfollowed := true, recurses := true, apart := false }
def FnExactAfloatSaid : Prop := fnExactAfloatRow.holds Try.pinned (OpenSpec.ofChange fnExactAfloatSpec)

/-- ITS FALSE NEIGHBOUR: 'it returns false'. Refute it at one input. -/
def fnExactAfloatWrong : ChangeSpec := { name := "fnExactAfloat", fn := fun _ => fun
  | [d1, d2] => { results := [.lit (.bool false)], args := [d1, d2] }
  | _ => none }
def FnExactAfloatWrongFalsely : Prop := fnExactAfloatRow.holds Try.pinned (OpenSpec.ofChange fnExactAfloatWrong)

/-- 'laws.FnExactRoomsOk': WHATEVER THE INPUT: true; the input reads as it did. -/
def fnExactRoomsOkSpec : ChangeSpec := { name := "fnExactRoomsOk", fn := fun _ => fun
  | [d1, d2] => { results := [.lit (.bool true)], args := [d1, d2] }
  | _ => none }
def fnExactRoomsOkRow : OpenClaim := { program := "yteggnboikjjaiaa", sum := "799adeca92df79e88bafe8f73bfd3cc347c8f0645de656fa64a2ec6d1b5b4947", func := "loop.example/g00059/laws.FnExactRoomsOk", spec := "fnExactRoomsOk", unfollowed := true, recurses := true, apart := false }
def FnExactRoomsOkSaid : Prop := fnExactRoomsOkRow.holds Try.pinned (OpenSpec.ofChange fnExactRoomsOkSpec)

/-- ITS FALSE NEIGHBOUR: 'it returns false'. Refute it at one input. -/
def fnExactRoomsOkWrong : ChangeSpec := { name := "fnExactRoomsOk", fn := fun _ => fun
  | [d1, d2] => { results := [.lit (.bool false)], args := [d1, d2] }
  | _ => none }
def FnExactRoomsOkWrongFalsely : Prop := fnExactRoomsOkRow.holds Try.pinned (OpenSpec.ofChange fnExactRoomsOkWrong)

/-- 'laws.FnExactMetacentre': WHATEVER THE INPUT: true; the input reads as it did. -/
def fnExactMetacentreSpec : ChangeSpec := { name := "fnExactMetacentre", fn := fun _ => fun
  | [d1, d2, d3, d4] => { results := [.lit (.bool true)], args := [d1, d2, d3, d4] }
  | _ => none }
def fnExactMetacentreRow : OpenClaim := { program := "yteggnboikjjaiaa", sum := "799adeca92df79e88bafe8f73bfd3cc347c8f0645de656fa64a2ec6d1b5b4947", func := "loop.example/g00059/laws.FnExactMetacentre", spec := "fnExactMetacentre", unfollowed := true, recurses := true, apart := false }
def FnExactMetacentreSaid : Prop := fnExactMetacentreRow.holds Try.pinned (OpenSpec.ofChange fnExactMetacentreSpec)

/-- ITS FALSE NEIGHBOUR: 'it returns false'. Refute it at one input. -/
def fnExactMetacentreWrong : ChangeSpec := { name := "fnExactMetacentre", fn := fun _ => fun
  | [d1, d2, d3, d4] => { results := [.lit (.bool false)], args := [d1, d2, d3, d4] }
  | _ => none }
def FnExactMetacentreWrongFalsely : Prop := fnExactMetacentreRow.holds Try.pinned (OpenSpec.ofChange fnExactMetacentreWrong)

/- THE SECOND FORM. 'bulk': how many values and letters a reading holds, each counted each time it is reached (what is shared counts as often as it is met; a slice's spare places count too). A statement '..UptoSaid' is the law's where the arguments, and the package variables that the reading takes, are together of bulk at most 1048576: NARROWER than '..Said'. Prove '..Said' where nothing that the law and all that it calls make is longer than what came in: it says more and counts as full. Else prove '..UptoSaid'. A law counts once. -/
mutual
def uptoBulk {H : Type} : DataW H → Nat
  | .lit (.string bytes) => bytes.length + 1
  | .lit _ => 1
  | .nil => 1
  | .ptr d => uptoBulk d + 1
  | .slice elems spare => uptoBulkAll elems + uptoBulkAll spare + 1
  | .agg parts => uptoBulkAll parts + 1
  | .iface _ d => uptoBulk d + 1
  | .map entries => uptoBulkEntries entries + 1
  | .held _ => 1
def uptoBulkAll {H : Type} : List (DataW H) → Nat
  | [] => 0
  | d :: r => uptoBulk d + uptoBulkAll r
def uptoBulkEntries {H : Type} : List (Lit × DataW H) → Nat
  | [] => 0
  | x :: r => uptoBulkEntry x + uptoBulkEntries r
def uptoBulkEntry {H : Type} : Lit × DataW H → Nat
  | (.string bytes, d) => bytes.length + uptoBulk d + 1
  | (_, d) => uptoBulk d + 1
 end
def uptoSmall : (H : Type) → List (DataW H) → Bool := fun _ ds => decide (uptoBulkAll ds ≤ 1048576)
def OpenSpec.upto (s : _root_.Go.ChangeSpec) : _root_.Go.OpenSpec := { _root_.Go.OpenSpec.ofChange s with cond := some uptoSmall }

/-- 'laws.FnExactMassesOk', WHERE WHAT IT READS IS OF BULK AT MOST 1048576: true; the input reads as it did. -/
def fnExactMassesOkUptoRow : OpenClaim := { program := "yteggnboikjjaiaa", sum := "799adeca92df79e88bafe8f73bfd3cc347c8f0645de656fa64a2ec6d1b5b4947", func := "loop.example/g00059/laws.FnExactMassesOk", spec := "fnExactMassesOk", unfollowed := true, recurses := true, apart := false, narrowed := true }
def FnExactMassesOkUptoSaid : Prop := fnExactMassesOkUptoRow.holds Try.pinned (OpenSpec.upto fnExactMassesOkSpec)

/-- 'laws.FnExactLoadOf', WHERE WHAT IT READS IS OF BULK AT MOST 1048576: true; the input reads as it did. -/
def fnExactLoadOfUptoRow : OpenClaim := { program := "yteggnboikjjaiaa", sum := "799adeca92df79e88bafe8f73bfd3cc347c8f0645de656fa64a2ec6d1b5b4947", func := "loop.example/g00059/laws.FnExactLoadOf", spec := "fnExactLoadOf", unfollowed := true, recurses := true, apart := false, narrowed := true }
def FnExactLoadOfUptoSaid : Prop := fnExactLoadOfUptoRow.holds Try.pinned (OpenSpec.upto fnExactLoadOfSpec)

/-- 'laws.FnExactHullOk', WHERE WHAT IT READS IS OF BULK AT MOST 1048576: true; the input reads as it did. -/
def fnExactHullOkUptoRow : OpenClaim := { program := "yteggnboikjjaiaa", sum := "799adeca92df79e88bafe8f73bfd3cc347c8f0645de656fa64a2ec6d1b5b4947", func := "loop.example/g00059/laws.FnExactHullOk", spec := "fnExactHullOk", unfollowed := true, recurses := true, apart := false, narrowed := true }
def FnExactHullOkUptoSaid : Prop := fnExactHullOkUptoRow.holds Try.pinned (OpenSpec.upto fnExactHullOkSpec)

/-- 'laws.FnExactPlane', WHERE WHAT IT READS IS OF BULK AT MOST 1048576: true; the input reads as it did. -/
def fnExactPlaneUptoRow : OpenClaim := { program := "yteggnboikjjaiaa", sum := "799adeca92df79e88bafe8f73bfd3cc347c8f0645de656fa64a2ec6d1b5b4947", func := "loop.example/g00059/laws.FnExactPlane", spec := "fnExactPlane", unfollowed := true, recurses := true, apart := false, narrowed := true }
def FnExactPlaneUptoSaid : Prop := fnExactPlaneUptoRow.holds Try.pinned (OpenSpec.upto fnExactPlaneSpec)

/-- 'laws.FnExactInertia3', WHERE WHAT IT READS IS OF BULK AT MOST 1048576: true; the input reads as it did. -/
def fnExactInertia3UptoRow : OpenClaim := { program := "yteggnboikjjaiaa", sum := "799adeca92df79e88bafe8f73bfd3cc347c8f0645de656fa64a2ec6d1b5b4947", func := "loop.example/g00059/laws.FnExactInertia3", spec := "fnExactInertia3", unfollowed := true, recurses := true, apart := false, narrowed := true }
def FnExactInertia3UptoSaid : Prop := fnExactInertia3UptoRow.holds Try.pinned (OpenSpec.upto fnExactInertia3Spec)

/-- 'laws.FnExactAlong4', WHERE WHAT IT READS IS OF BULK AT MOST 1048576: true; the input reads as it did. -/
def fnExactAlong4UptoRow : OpenClaim := { program := "yteggnboikjjaiaa", sum := "799adeca92df79e88bafe8f73bfd3cc347c8f0645de656fa64a2ec6d1b5b4947", func := "loop.example/g00059/laws.FnExactAlong4", spec := "fnExactAlong4", unfollowed := true, recurses := true, apart := false, narrowed := true }
def FnExactAlong4UptoSaid : Prop := fnExactAlong4UptoRow.holds Try.pinned (OpenSpec.upto fnExactAlong4Spec)

/-- 'laws.FnExactVolume2', WHERE WHAT IT READS IS OF BULK AT MOST 1048576: true; the input reads as it did. -/
def fnExactVolume2UptoRow : OpenClaim := { program := "yteggnboikjjaiaa", sum := "799adeca92df79e88bafe8f73bfd3cc347c8f0645de656fa64a2ec6d1b5b4947", func := "loop.example/g00059/laws.FnExactVolume2", spec := "fnExactVolume2", unfollowed := true, recurses := true, apart := false, narrowed := true }
def FnExactVolume2UptoSaid : Prop := fnExactVolume2UptoRow.holds Try.pinned (OpenSpec.upto fnExactVolume2Spec)

/-- 'laws.FnExactHeight4', WHERE WHAT IT READS IS OF BULK AT MOST 1048576: true; the input reads as it did. -/
def fnExactHeight4UptoRow : OpenClaim := { program := "yteggnboikjjaiaa", sum := "799adeca92df79e88bafe8f73bfd3cc347c8f0645de656fa64a2ec6d1b5b4947", func := "loop.example/g00059/laws.FnExactHeight4", spec := "fnExactHeight4", unfollowed := true, recurses := true, apart := false, narrowed := true }
def FnExactHeight4UptoSaid : Prop := fnExactHeight4UptoRow.holds Try.pinned (OpenSpec.upto fnExactHeight4Spec)

/-- 'laws.FnExactStrips2', WHERE WHAT IT READS IS OF BULK AT MOST 1048576: true; the input reads as it did. -/
def fnExactStrips2UptoRow : OpenClaim := { program := "yteggnboikjjaiaa", sum := "799adeca92df79e88bafe8f73bfd3cc347c8f0645de656fa64a2ec6d1b5b4947", func := "loop.example/g00059/laws.FnExactStrips2", spec := "fnExactStrips2", unfollowed := true, recurses := true, apart := false, narrowed := true }
def FnExactStrips2UptoSaid : Prop := fnExactStrips2UptoRow.holds Try.pinned (OpenSpec.upto fnExactStrips2Spec)

/-- 'laws.FnExactAfloat', WHERE WHAT IT READS IS OF BULK AT MOST 1048576: true; the input reads as it did. -/
def fnExactAfloatUptoRow : OpenClaim := { program := "yteggnboikjjaiaa", sum := "799adeca92df79e88bafe8f73bfd3cc347c8f0645de656fa64a2ec6d1b5b4947", func := "loop.example/g00059/laws.FnExactAfloat", spec := "fnExactAfloat", unfollowed := true, recurses := true, apart := false, narrowed := true }
def FnExactAfloatUptoSaid : Prop := fnExactAfloatUptoRow.holds Try.pinned (OpenSpec.upto fnExactAfloatSpec)

/-- 'laws.FnExactRoomsOk', WHERE WHAT IT READS IS OF BULK AT MOST 1048576: true; the input reads as it did. -/
def fnExactRoomsOkUptoRow : OpenClaim := { program := "yteggnboikjjaiaa", sum := "799adeca92df79e88bafe8f73bfd3cc347c8f0645de656fa64a2ec6d1b5b4947", func := "loop.example/g00059/laws.FnExactRoomsOk", spec := "fnExactRoomsOk", unfollowed := true, recurses := true, apart := false, narrowed := true }
def FnExactRoomsOkUptoSaid : Prop := fnExactRoomsOkUptoRow.holds Try.pinned (OpenSpec.upto fnExactRoomsOkSpec)

/-- 'laws.FnExactMetacentre', WHERE WHAT IT READS IS OF BULK AT MOST 1048576: true; the input reads as it did. -/
def fnExactMetacentreUptoRow : OpenClaim := { program := "yteggnboikjjaiaa", sum := "799adeca92df79e88bafe8f73bfd3cc347c8f0645de656fa64a2ec6d1b5b4947", func := "loop.example/g00059/laws.FnExactMetacentre", spec := "fnExactMetacentre", unfollowed := true, recurses := true, apart := false, narrowed := true }
def FnExactMetacentreUptoSaid : Prop := fnExactMetacentreUptoRow.holds Try.pinned (OpenSpec.upto fnExactMetacentreSpec)

end Rows
end Go.Proofs.Yteggnboikjjaiaa
