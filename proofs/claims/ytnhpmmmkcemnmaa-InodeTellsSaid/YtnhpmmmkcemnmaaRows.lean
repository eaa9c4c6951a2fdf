/-
  No cell of these rows narrows 'for every input' (looked for: loops, veiled, ifaces, maps, wideKeys, modest, calm, conditions, laid).
  DERIVED. THE GIVEN ROWS OF THIS SEAT. 20 by the template 'for every input the law returns true; each argument reads behind the call as it read before'; 0 by the template 'total and deterministic' (their statements: YtnhpmmmkcemnmaaTotals.lean).
  GIVEN WITH THE SEED: the statements are not yours to turn. If you find one false, say at which input.
  Laid BY PROGRAM, IN A SANDBOX (cutbox-rows.mjs): the forced cells as the released guide's own fill.sh prints them over the translation 703e24ed2d11b3c3… (all of the seat's roots in one cut). By AI agents, Wed Nov 11 2026. No macro, syntax, notation, axiom, sorry.
-/
import Derived.Test.YtnhpmmmkcemnmaaChecked
import GoSem.Claim
import GoSem.ClaimJoined
import GoSem.ClaimMapViews
import Derived.JoinedTies
import Derived.KernelRfl
namespace Go.Proofs.Ytnhpmmmkcemnmaa
/- THE CELL 'sum', in the pinned program and in every row, IS THE sha256 OF THE DUMP (.gsa) THAT YtnhpmmmkcemnmaaProg.lean LOADS. Nothing in Lean hashes anything: it is a label: what it is worth is what the hold of that sum in a sandbox is worth. -/
noncomputable def Try.pinned : Pinned := { name := "ytnhpmmmkcemnmaa", sum := "703e24ed2d11b3c3a1ee473d67eb12ef3aec9aa3889d7ceaf01a2b1fc548b7e2", checked := Try.checked }
namespace Rows
def none {H : Type} : Left H := { results := [], args := [] }

/-- 'purlinlaw2.SealTells': WHATEVER THE INPUT: true; the input reads as it did. -/
def sealTellsSpec : ChangeSpec := { name := "sealTells", fn := fun _ => fun
  | [d1, d2, d3] => { results := [.lit (.bool true)], args := [d1, d2, d3] }
  | _ => none }
def sealTellsRow : OpenClaim := { program := "ytnhpmmmkcemnmaa", sum := "703e24ed2d11b3c3a1ee473d67eb12ef3aec9aa3889d7ceaf01a2b1fc548b7e2", func := "purlin/purlinlaw2.SealTells", spec := "sealTells", apart := false }
def SealTellsSaid : Prop := sealTellsRow.holds Try.pinned (OpenSpec.ofChange sealTellsSpec)

/-- ITS FALSE NEIGHBOUR: 'it returns false'. Refute it at one input. -/
def sealTellsWrong : ChangeSpec := { name := "sealTells", fn := fun _ => fun
  | [d1, d2, d3] => { results := [.lit (.bool false)], args := [d1, d2, d3] }
  | _ => none }
def SealTellsWrongFalsely : Prop := sealTellsRow.holds Try.pinned (OpenSpec.ofChange sealTellsWrong)

/-- 'purlinlaw2.SealBack': WHATEVER THE INPUT: true; the input reads as it did. -/
def sealBackSpec : ChangeSpec := { name := "sealBack", fn := fun _ => fun
  | [d1, d2, d3] => { results := [.lit (.bool true)], args := [d1, d2, d3] }
  | _ => none }
def sealBackRow : OpenClaim := { program := "ytnhpmmmkcemnmaa", sum := "703e24ed2d11b3c3a1ee473d67eb12ef3aec9aa3889d7ceaf01a2b1fc548b7e2", func := "purlin/purlinlaw2.SealBack", spec := "sealBack", apart := false }
def SealBackSaid : Prop := sealBackRow.holds Try.pinned (OpenSpec.ofChange sealBackSpec)

/-- ITS FALSE NEIGHBOUR: 'it returns false'. Refute it at one input. -/
def sealBackWrong : ChangeSpec := { name := "sealBack", fn := fun _ => fun
  | [d1, d2, d3] => { results := [.lit (.bool false)], args := [d1, d2, d3] }
  | _ => none }
def SealBackWrongFalsely : Prop := sealBackRow.holds Try.pinned (OpenSpec.ofChange sealBackWrong)

/-- 'purlinlaw2.SealApart': WHATEVER THE INPUT: true; the input reads as it did. -/
def sealApartSpec : ChangeSpec := { name := "sealApart", fn := fun _ => fun
  | [d1, d2, d3, d4] => { results := [.lit (.bool true)], args := [d1, d2, d3, d4] }
  | _ => none }
def sealApartRow : OpenClaim := { program := "ytnhpmmmkcemnmaa", sum := "703e24ed2d11b3c3a1ee473d67eb12ef3aec9aa3889d7ceaf01a2b1fc548b7e2", func := "purlin/purlinlaw2.SealApart", spec := "sealApart", apart := false }
def SealApartSaid : Prop := sealApartRow.holds Try.pinned (OpenSpec.ofChange sealApartSpec)

/-- ITS FALSE NEIGHBOUR: 'it returns false'. Refute it at one input. -/
def sealApartWrong : ChangeSpec := { name := "sealApart", fn := fun _ => fun
  | [d1, d2, d3, d4] => { results := [.lit (.bool false)], args := [d1, d2, d3, d4] }
  | _ => none }
def SealApartWrongFalsely : Prop := sealApartRow.holds Try.pinned (OpenSpec.ofChange sealApartWrong)

/-- 'purlinlaw2.SealPads': WHATEVER THE INPUT: true; the input reads as it did. -/
def sealPadsSpec : ChangeSpec := { name := "sealPads", fn := fun _ => fun
  | [d1, d2, d3] => { results := [.lit (.bool true)], args := [d1, d2, d3] }
  | _ => none }
def sealPadsRow : OpenClaim := { program := "ytnhpmmmkcemnmaa", sum := "703e24ed2d11b3c3a1ee473d67eb12ef3aec9aa3889d7ceaf01a2b1fc548b7e2", func := "purlin/purlinlaw2.SealPads", spec := "sealPads", apart := false }
def SealPadsSaid : Prop := sealPadsRow.holds Try.pinned (OpenSpec.ofChange sealPadsSpec)

/-- ITS FALSE NEIGHBOUR: 'it returns false'. Refute it at one input. -/
def sealPadsWrong : ChangeSpec := { name := "sealPads", fn := fun _ => fun
  | [d1, d2, d3] => { results := [.lit (.bool false)], args := [d1, d2, d3] }
  | _ => none }
def SealPadsWrongFalsely : Prop := sealPadsRow.holds Try.pinned (OpenSpec.ofChange sealPadsWrong)

/-- 'purlinlaw3.BitsRuns': WHATEVER THE INPUT: true; the input reads as it did. -/
def bitsRunsSpec : ChangeSpec := { name := "bitsRuns", fn := fun _ => fun
  | [d1, d2, d3] => { results := [.lit (.bool true)], args := [d1, d2, d3] }
  | _ => none }
def bitsRunsRow : OpenClaim := { program := "ytnhpmmmkcemnmaa", sum := "703e24ed2d11b3c3a1ee473d67eb12ef3aec9aa3889d7ceaf01a2b1fc548b7e2", func := "purlin/purlinlaw3.BitsRuns", spec := "bitsRuns", apart := false }
def BitsRunsSaid : Prop := bitsRunsRow.holds Try.pinned (OpenSpec.ofChange bitsRunsSpec)

/-- ITS FALSE NEIGHBOUR: 'it returns false'. Refute it at one input. -/
def bitsRunsWrong : ChangeSpec := { name := "bitsRuns", fn := fun _ => fun
  | [d1, d2, d3] => { results := [.lit (.bool false)], args := [d1, d2, d3] }
  | _ => none }
def BitsRunsWrongFalsely : Prop := bitsRunsRow.holds Try.pinned (OpenSpec.ofChange bitsRunsWrong)

/-- 'purlinlaw3.BitsSets': WHATEVER THE INPUT: true; the input reads as it did. -/
def bitsSetsSpec : ChangeSpec := { name := "bitsSets", fn := fun _ => fun
  | [d1, d2] => { results := [.lit (.bool true)], args := [d1, d2] }
  | _ => none }
def bitsSetsRow : OpenClaim := { program := "ytnhpmmmkcemnmaa", sum := "703e24ed2d11b3c3a1ee473d67eb12ef3aec9aa3889d7ceaf01a2b1fc548b7e2", func := "purlin/purlinlaw3.BitsSets", spec := "bitsSets", apart := false }
def BitsSetsSaid : Prop := bitsSetsRow.holds Try.pinned (OpenSpec.ofChange bitsSetsSpec)

/-- ITS FALSE NEIGHBOUR: 'it returns false'. Refute it at one input. -/
def bitsSetsWrong : ChangeSpec := { name := "bitsSets", fn := fun _ => fun
  | [d1, d2] => { results := [.lit (.bool false)], args := [d1, d2] }
  | _ => none }
def BitsSetsWrongFalsely : Prop := bitsSetsRow.holds Try.pinned (OpenSpec.ofChange bitsSetsWrong)

/-- 'purlinlaw3.BitsOrders': WHATEVER THE INPUT: true; the input reads as it did. -/
def bitsOrdersSpec : ChangeSpec := { name := "bitsOrders", fn := fun _ => fun
  | [d1, d2, d3] => { results := [.lit (.bool true)], args := [d1, d2, d3] }
  | _ => none }
def bitsOrdersRow : OpenClaim := { program := "ytnhpmmmkcemnmaa", sum := "703e24ed2d11b3c3a1ee473d67eb12ef3aec9aa3889d7ceaf01a2b1fc548b7e2", func := "purlin/purlinlaw3.BitsOrders", spec := "bitsOrders", apart := false }
def BitsOrdersSaid : Prop := bitsOrdersRow.holds Try.pinned (OpenSpec.ofChange bitsOrdersSpec)

/-- ITS FALSE NEIGHBOUR: 'it returns false'. Refute it at one input. -/
def bitsOrdersWrong : ChangeSpec := { name := "bitsOrders", fn := fun _ => fun
  | [d1, d2, d3] => { results := [.lit (.bool false)], args := [d1, d2, d3] }
  | _ => none }
def BitsOrdersWrongFalsely : Prop := bitsOrdersRow.holds Try.pinned (OpenSpec.ofChange bitsOrdersWrong)

/-- 'purlinlaw8.PtrTells': WHATEVER THE INPUT: true; the input reads as it did. -/
def ptrTellsSpec : ChangeSpec := { name := "ptrTells", fn := fun _ => fun
  | [d1, d2] => { results := [.lit (.bool true)], args := [d1, d2] }
  | _ => none }
def ptrTellsRow : OpenClaim := { program := "ytnhpmmmkcemnmaa", sum := "703e24ed2d11b3c3a1ee473d67eb12ef3aec9aa3889d7ceaf01a2b1fc548b7e2", func := "purlin/purlinlaw8.PtrTells", spec := "ptrTells", apart := false }
def PtrTellsSaid : Prop := ptrTellsRow.holds Try.pinned (OpenSpec.ofChange ptrTellsSpec)

/-- ITS FALSE NEIGHBOUR: 'it returns false'. Refute it at one input. -/
def ptrTellsWrong : ChangeSpec := { name := "ptrTells", fn := fun _ => fun
  | [d1, d2] => { results := [.lit (.bool false)], args := [d1, d2] }
  | _ => none }
def PtrTellsWrongFalsely : Prop := ptrTellsRow.holds Try.pinned (OpenSpec.ofChange ptrTellsWrong)

/-- 'purlinlaw8.PtrApart': WHATEVER THE INPUT: true; the input reads as it did. -/
def ptrApartSpec : ChangeSpec := { name := "ptrApart", fn := fun _ => fun
  | [d1, d2, d3, d4] => { results := [.lit (.bool true)], args := [d1, d2, d3, d4] }
  | _ => none }
def ptrApartRow : OpenClaim := { program := "ytnhpmmmkcemnmaa", sum := "703e24ed2d11b3c3a1ee473d67eb12ef3aec9aa3889d7ceaf01a2b1fc548b7e2", func := "purlin/purlinlaw8.PtrApart", spec := "ptrApart", apart := false }
def PtrApartSaid : Prop := ptrApartRow.holds Try.pinned (OpenSpec.ofChange ptrApartSpec)

/-- ITS FALSE NEIGHBOUR: 'it returns false'. Refute it at one input. -/
def ptrApartWrong : ChangeSpec := { name := "ptrApart", fn := fun _ => fun
  | [d1, d2, d3, d4] => { results := [.lit (.bool false)], args := [d1, d2, d3, d4] }
  | _ => none }
def PtrApartWrongFalsely : Prop := ptrApartRow.holds Try.pinned (OpenSpec.ofChange ptrApartWrong)

/-- 'purlinlaw6.SuperTells': WHATEVER THE INPUT: true; the input reads as it did. -/
def superTellsSpec : ChangeSpec := { name := "superTells", fn := fun _ => fun
  | [d1, d2, d3] => { results := [.lit (.bool true)], args := [d1, d2, d3] }
  | _ => none }
def superTellsRow : OpenClaim := { program := "ytnhpmmmkcemnmaa", sum := "703e24ed2d11b3c3a1ee473d67eb12ef3aec9aa3889d7ceaf01a2b1fc548b7e2", func := "purlin/purlinlaw6.SuperTells", spec := "superTells", apart := false }
def SuperTellsSaid : Prop := superTellsRow.holds Try.pinned (OpenSpec.ofChange superTellsSpec)

/-- ITS FALSE NEIGHBOUR: 'it returns false'. Refute it at one input. -/
def superTellsWrong : ChangeSpec := { name := "superTells", fn := fun _ => fun
  | [d1, d2, d3] => { results := [.lit (.bool false)], args := [d1, d2, d3] }
  | _ => none }
def SuperTellsWrongFalsely : Prop := superTellsRow.holds Try.pinned (OpenSpec.ofChange superTellsWrong)

/-- 'purlinlaw6.SuperBack': WHATEVER THE INPUT: true; the input reads as it did. -/
def superBackSpec : ChangeSpec := { name := "superBack", fn := fun _ => fun
  | [d1, d2, d3, d4, d5, d6] => { results := [.lit (.bool true)], args := [d1, d2, d3, d4, d5, d6] }
  | _ => none }
def superBackRow : OpenClaim := { program := "ytnhpmmmkcemnmaa", sum := "703e24ed2d11b3c3a1ee473d67eb12ef3aec9aa3889d7ceaf01a2b1fc548b7e2", func := "purlin/purlinlaw6.SuperBack", spec := "superBack", apart := false }
def SuperBackSaid : Prop := superBackRow.holds Try.pinned (OpenSpec.ofChange superBackSpec)

/-- ITS FALSE NEIGHBOUR: 'it returns false'. Refute it at one input. -/
def superBackWrong : ChangeSpec := { name := "superBack", fn := fun _ => fun
  | [d1, d2, d3, d4, d5, d6] => { results := [.lit (.bool false)], args := [d1, d2, d3, d4, d5, d6] }
  | _ => none }
def SuperBackWrongFalsely : Prop := superBackRow.holds Try.pinned (OpenSpec.ofChange superBackWrong)

/-- 'purlinlaw6.SuperApart': WHATEVER THE INPUT: true; the input reads as it did. -/
def superApartSpec : ChangeSpec := { name := "superApart", fn := fun _ => fun
  | [d1, d2, d3, d4] => { results := [.lit (.bool true)], args := [d1, d2, d3, d4] }
  | _ => none }
def superApartRow : OpenClaim := { program := "ytnhpmmmkcemnmaa", sum := "703e24ed2d11b3c3a1ee473d67eb12ef3aec9aa3889d7ceaf01a2b1fc548b7e2", func := "purlin/purlinlaw6.SuperApart", spec := "superApart", apart := false }
def SuperApartSaid : Prop := superApartRow.holds Try.pinned (OpenSpec.ofChange superApartSpec)

/-- ITS FALSE NEIGHBOUR: 'it returns false'. Refute it at one input. -/
def superApartWrong : ChangeSpec := { name := "superApart", fn := fun _ => fun
  | [d1, d2, d3, d4] => { results := [.lit (.bool false)], args := [d1, d2, d3, d4] }
  | _ => none }
def SuperApartWrongFalsely : Prop := superApartRow.holds Try.pinned (OpenSpec.ofChange superApartWrong)

/-- 'purlinlaw11.GroupTells': WHATEVER THE INPUT: true; the input reads as it did. -/
def groupTellsSpec : ChangeSpec := { name := "groupTells", fn := fun _ => fun
  | [d1, d2, d3, d4, d5] => { results := [.lit (.bool true)], args := [d1, d2, d3, d4, d5] }
  | _ => none }
def groupTellsRow : OpenClaim := { program := "ytnhpmmmkcemnmaa", sum := "703e24ed2d11b3c3a1ee473d67eb12ef3aec9aa3889d7ceaf01a2b1fc548b7e2", func := "purlin/purlinlaw11.GroupTells", spec := "groupTells", apart := false }
def GroupTellsSaid : Prop := groupTellsRow.holds Try.pinned (OpenSpec.ofChange groupTellsSpec)

/-- ITS FALSE NEIGHBOUR: 'it returns false'. Refute it at one input. -/
def groupTellsWrong : ChangeSpec := { name := "groupTells", fn := fun _ => fun
  | [d1, d2, d3, d4, d5] => { results := [.lit (.bool false)], args := [d1, d2, d3, d4, d5] }
  | _ => none }
def GroupTellsWrongFalsely : Prop := groupTellsRow.holds Try.pinned (OpenSpec.ofChange groupTellsWrong)

/-- 'purlinlaw11.GroupBack': WHATEVER THE INPUT: true; the input reads as it did. -/
def groupBackSpec : ChangeSpec := { name := "groupBack", fn := fun _ => fun
  | [d1, d2, d3, d4, d5] => { results := [.lit (.bool true)], args := [d1, d2, d3, d4, d5] }
  | _ => none }
def groupBackRow : OpenClaim := { program := "ytnhpmmmkcemnmaa", sum := "703e24ed2d11b3c3a1ee473d67eb12ef3aec9aa3889d7ceaf01a2b1fc548b7e2", func := "purlin/purlinlaw11.GroupBack", spec := "groupBack", apart := false }
def GroupBackSaid : Prop := groupBackRow.holds Try.pinned (OpenSpec.ofChange groupBackSpec)

/-- ITS FALSE NEIGHBOUR: 'it returns false'. Refute it at one input. -/
def groupBackWrong : ChangeSpec := { name := "groupBack", fn := fun _ => fun
  | [d1, d2, d3, d4, d5] => { results := [.lit (.bool false)], args := [d1, d2, d3, d4, d5] }
  | _ => none }
def GroupBackWrongFalsely : Prop := groupBackRow.holds Try.pinned (OpenSpec.ofChange groupBackWrong)

/-- 'purlinlaw11.GroupWidths': WHATEVER THE INPUT: true; the input reads as it did. -/
def groupWidthsSpec : ChangeSpec := { name := "groupWidths", fn := fun _ => fun
  | [d1, d2, d3, d4] => { results := [.lit (.bool true)], args := [d1, d2, d3, d4] }
  | _ => none }
def groupWidthsRow : OpenClaim := { program := "ytnhpmmmkcemnmaa", sum := "703e24ed2d11b3c3a1ee473d67eb12ef3aec9aa3889d7ceaf01a2b1fc548b7e2", func := "purlin/purlinlaw11.GroupWidths", spec := "groupWidths", apart := false }
def GroupWidthsSaid : Prop := groupWidthsRow.holds Try.pinned (OpenSpec.ofChange groupWidthsSpec)

/-- ITS FALSE NEIGHBOUR: 'it returns false'. Refute it at one input. -/
def groupWidthsWrong : ChangeSpec := { name := "groupWidths", fn := fun _ => fun
  | [d1, d2, d3, d4] => { results := [.lit (.bool false)], args := [d1, d2, d3, d4] }
  | _ => none }
def GroupWidthsWrongFalsely : Prop := groupWidthsRow.holds Try.pinned (OpenSpec.ofChange groupWidthsWrong)

/-- 'purlinlaw7.InodeTells': WHATEVER THE INPUT: true; the input reads as it did. -/
def inodeTellsSpec : ChangeSpec := { name := "inodeTells", fn := fun _ => fun
  | [d1, d2, d3] => { results := [.lit (.bool true)], args := [d1, d2, d3] }
  | _ => none }
def inodeTellsRow : OpenClaim := { program := "ytnhpmmmkcemnmaa", sum := "703e24ed2d11b3c3a1ee473d67eb12ef3aec9aa3889d7ceaf01a2b1fc548b7e2", func := "purlin/purlinlaw7.InodeTells", spec := "inodeTells", apart := false }
def InodeTellsSaid : Prop := inodeTellsRow.holds Try.pinned (OpenSpec.ofChange inodeTellsSpec)

/-- ITS FALSE NEIGHBOUR: 'it returns false'. Refute it at one input. -/
def inodeTellsWrong : ChangeSpec := { name := "inodeTells", fn := fun _ => fun
  | [d1, d2, d3] => { results := [.lit (.bool false)], args := [d1, d2, d3] }
  | _ => none }
def InodeTellsWrongFalsely : Prop := inodeTellsRow.holds Try.pinned (OpenSpec.ofChange inodeTellsWrong)

/-- 'purlinlaw7.InodeBack': WHATEVER THE INPUT: true; the input reads as it did. -/
def inodeBackSpec : ChangeSpec := { name := "inodeBack", fn := fun _ => fun
  | [d] => { results := [.lit (.bool true)], args := [d] }
  | _ => none }
def inodeBackRow : OpenClaim := { program := "ytnhpmmmkcemnmaa", sum := "703e24ed2d11b3c3a1ee473d67eb12ef3aec9aa3889d7ceaf01a2b1fc548b7e2", func := "purlin/purlinlaw7.InodeBack", spec := "inodeBack", apart := false }
def InodeBackSaid : Prop := inodeBackRow.holds Try.pinned (OpenSpec.ofChange inodeBackSpec)

/-- ITS FALSE NEIGHBOUR: 'it returns false'. Refute it at one input. -/
def inodeBackWrong : ChangeSpec := { name := "inodeBack", fn := fun _ => fun
  | [d] => { results := [.lit (.bool false)], args := [d] }
  | _ => none }
def InodeBackWrongFalsely : Prop := inodeBackRow.holds Try.pinned (OpenSpec.ofChange inodeBackWrong)

/-- 'purlinlaw7.InodePlaces': WHATEVER THE INPUT: true; the input reads as it did. -/
def inodePlacesSpec : ChangeSpec := { name := "inodePlaces", fn := fun _ => fun
  | [d1, d2, d3] => { results := [.lit (.bool true)], args := [d1, d2, d3] }
  | _ => none }
def inodePlacesRow : OpenClaim := { program := "ytnhpmmmkcemnmaa", sum := "703e24ed2d11b3c3a1ee473d67eb12ef3aec9aa3889d7ceaf01a2b1fc548b7e2", func := "purlin/purlinlaw7.InodePlaces", spec := "inodePlaces", apart := false }
def InodePlacesSaid : Prop := inodePlacesRow.holds Try.pinned (OpenSpec.ofChange inodePlacesSpec)

/-- ITS FALSE NEIGHBOUR: 'it returns false'. Refute it at one input. -/
def inodePlacesWrong : ChangeSpec := { name := "inodePlaces", fn := fun _ => fun
  | [d1, d2, d3] => { results := [.lit (.bool false)], args := [d1, d2, d3] }
  | _ => none }
def InodePlacesWrongFalsely : Prop := inodePlacesRow.holds Try.pinned (OpenSpec.ofChange inodePlacesWrong)

/-- 'purlinlaw7.InodeApart': WHATEVER THE INPUT: true; the input reads as it did. -/
def inodeApartSpec : ChangeSpec := { name := "inodeApart", fn := fun _ => fun
  | [d1, d2, d3] => { results := [.lit (.bool true)], args := [d1, d2, d3] }
  | _ => none }
def inodeApartRow : OpenClaim := { program := "ytnhpmmmkcemnmaa", sum := "703e24ed2d11b3c3a1ee473d67eb12ef3aec9aa3889d7ceaf01a2b1fc548b7e2", func := "purlin/purlinlaw7.InodeApart", spec := "inodeApart", apart := false }
def InodeApartSaid : Prop := inodeApartRow.holds Try.pinned (OpenSpec.ofChange inodeApartSpec)

/-- ITS FALSE NEIGHBOUR: 'it returns false'. Refute it at one input. -/
def inodeApartWrong : ChangeSpec := { name := "inodeApart", fn := fun _ => fun
  | [d1, d2, d3] => { results := [.lit (.bool false)], args := [d1, d2, d3] }
  | _ => none }
def InodeApartWrongFalsely : Prop := inodeApartRow.holds Try.pinned (OpenSpec.ofChange inodeApartWrong)

/-- 'purlinlaw7.InodeSlots': WHATEVER THE INPUT: true; the input reads as it did. -/
def inodeSlotsSpec : ChangeSpec := { name := "inodeSlots", fn := fun _ => fun
  | [d1, d2, d3] => { results := [.lit (.bool true)], args := [d1, d2, d3] }
  | _ => none }
def inodeSlotsRow : OpenClaim := { program := "ytnhpmmmkcemnmaa", sum := "703e24ed2d11b3c3a1ee473d67eb12ef3aec9aa3889d7ceaf01a2b1fc548b7e2", func := "purlin/purlinlaw7.InodeSlots", spec := "inodeSlots", apart := false }
def InodeSlotsSaid : Prop := inodeSlotsRow.holds Try.pinned (OpenSpec.ofChange inodeSlotsSpec)

/-- ITS FALSE NEIGHBOUR: 'it returns false'. Refute it at one input. -/
def inodeSlotsWrong : ChangeSpec := { name := "inodeSlots", fn := fun _ => fun
  | [d1, d2, d3] => { results := [.lit (.bool false)], args := [d1, d2, d3] }
  | _ => none }
def InodeSlotsWrongFalsely : Prop := inodeSlotsRow.holds Try.pinned (OpenSpec.ofChange inodeSlotsWrong)

/- THE SECOND FORM. 'bulk': how many values and letters a reading holds, each counted each time it is reached (what is shared counts as often as it is met; a slice's spare places count too). A statement '..UptoSaid' is the law's where the arguments, and the package variables that the reading takes, are together of bulk at most 1048576: NARROWER than '..Said'. Prove '..Said' where nothing that the law and all that it calls make is longer than what came in: it says more and counts as full. Else prove '..UptoSaid'. A law counts once. -/
mutual
def uptoBulk {H : Type} : DataW H → Nat
  | .lit (.string bytes) => bytes.length + 1
  | .lit _ => 1
  | .nil => 1
  | .ptr d => uptoBulk d + 1
  | .slice elems spare => uptoBulkAll elems + uptoBulkAll spare + 1
  | .agg parts => uptoBulkAll parts + 1
  | .iface _ d => uptoBulk d + 1
  | .map entries => uptoBulkEntries entries + 1
  | .held _ => 1
def uptoBulkAll {H : Type} : List (DataW H) → Nat
  | [] => 0
  | d :: r => uptoBulk d + uptoBulkAll r
def uptoBulkEntries {H : Type} : List (Lit × DataW H) → Nat
  | [] => 0
  | x :: r => uptoBulkEntry x + uptoBulkEntries r
def uptoBulkEntry {H : Type} : Lit × DataW H → Nat
  | (.string bytes, d) => bytes.length + uptoBulk d + 1
  | (_, d) => uptoBulk d + 1
 end
def uptoSmall : (H : Type) → List (DataW H) → Bool := fun _ ds => decide (uptoBulkAll ds ≤ 1048576)
def OpenSpec.upto (s : _root_.Go.ChangeSpec) : _root_.Go.OpenSpec := { _root_.Go.OpenSpec.ofChange s with cond := some uptoSmall }

/-- 'purlinlaw2.SealTells', WHERE WHAT IT READS IS OF BULK AT MOST 1048576: true; the input reads as it did. -/
def sealTellsUptoRow : OpenClaim := { program := "ytnhpmmmkcemnmaa", sum := "703e24ed2d11b3c3a1ee473d67eb12ef3aec9aa3889d7ceaf01a2b1fc548b7e2", func := "purlin/purlinlaw2.SealTells", spec := "sealTells", apart := false, narrowed := true }
def SealTellsUptoSaid : Prop := sealTellsUptoRow.holds Try.pinned (OpenSpec.upto sealTellsSpec)

/-- 'purlinlaw2.SealBack', WHERE WHAT IT READS IS OF BULK AT MOST 1048576: true; the input reads as it did. -/
def sealBackUptoRow : OpenClaim := { program := "ytnhpmmmkcemnmaa", sum := "703e24ed2d11b3c3a1ee473d67eb12ef3aec9aa3889d7ceaf01a2b1fc548b7e2", func := "purlin/purlinlaw2.SealBack", spec := "sealBack", apart := false, narrowed := true }
def SealBackUptoSaid : Prop := sealBackUptoRow.holds Try.pinned (OpenSpec.upto sealBackSpec)

/-- 'purlinlaw2.SealApart', WHERE WHAT IT READS IS OF BULK AT MOST 1048576: true; the input reads as it did. -/
def sealApartUptoRow : OpenClaim := { program := "ytnhpmmmkcemnmaa", sum := "703e24ed2d11b3c3a1ee473d67eb12ef3aec9aa3889d7ceaf01a2b1fc548b7e2", func := "purlin/purlinlaw2.SealApart", spec := "sealApart", apart := false, narrowed := true }
def SealApartUptoSaid : Prop := sealApartUptoRow.holds Try.pinned (OpenSpec.upto sealApartSpec)

/-- 'purlinlaw2.SealPads', WHERE WHAT IT READS IS OF BULK AT MOST 1048576: true; the input reads as it did. -/
def sealPadsUptoRow : OpenClaim := { program := "ytnhpmmmkcemnmaa", sum := "703e24ed2d11b3c3a1ee473d67eb12ef3aec9aa3889d7ceaf01a2b1fc548b7e2", func := "purlin/purlinlaw2.SealPads", spec := "sealPads", apart := false, narrowed := true }
def SealPadsUptoSaid : Prop := sealPadsUptoRow.holds Try.pinned (OpenSpec.upto sealPadsSpec)

/-- 'purlinlaw3.BitsRuns', WHERE WHAT IT READS IS OF BULK AT MOST 1048576: true; the input reads as it did. -/
def bitsRunsUptoRow : OpenClaim := { program := "ytnhpmmmkcemnmaa", sum := "703e24ed2d11b3c3a1ee473d67eb12ef3aec9aa3889d7ceaf01a2b1fc548b7e2", func := "purlin/purlinlaw3.BitsRuns", spec := "bitsRuns", apart := false, narrowed := true }
def BitsRunsUptoSaid : Prop := bitsRunsUptoRow.holds Try.pinned (OpenSpec.upto bitsRunsSpec)

/-- 'purlinlaw3.BitsSets', WHERE WHAT IT READS IS OF BULK AT MOST 1048576: true; the input reads as it did. -/
def bitsSetsUptoRow : OpenClaim := { program := "ytnhpmmmkcemnmaa", sum := "703e24ed2d11b3c3a1ee473d67eb12ef3aec9aa3889d7ceaf01a2b1fc548b7e2", func := "purlin/purlinlaw3.BitsSets", spec := "bitsSets", apart := false, narrowed := true }
def BitsSetsUptoSaid : Prop := bitsSetsUptoRow.holds Try.pinned (OpenSpec.upto bitsSetsSpec)

/-- 'purlinlaw3.BitsOrders', WHERE WHAT IT READS IS OF BULK AT MOST 1048576: true; the input reads as it did. -/
def bitsOrdersUptoRow : OpenClaim := { program := "ytnhpmmmkcemnmaa", sum := "703e24ed2d11b3c3a1ee473d67eb12ef3aec9aa3889d7ceaf01a2b1fc548b7e2", func := "purlin/purlinlaw3.BitsOrders", spec := "bitsOrders", apart := false, narrowed := true }
def BitsOrdersUptoSaid : Prop := bitsOrdersUptoRow.holds Try.pinned (OpenSpec.upto bitsOrdersSpec)

/-- 'purlinlaw8.PtrTells', WHERE WHAT IT READS IS OF BULK AT MOST 1048576: true; the input reads as it did. -/
def ptrTellsUptoRow : OpenClaim := { program := "ytnhpmmmkcemnmaa", sum := "703e24ed2d11b3c3a1ee473d67eb12ef3aec9aa3889d7ceaf01a2b1fc548b7e2", func := "purlin/purlinlaw8.PtrTells", spec := "ptrTells", apart := false, narrowed := true }
def PtrTellsUptoSaid : Prop := ptrTellsUptoRow.holds Try.pinned (OpenSpec.upto ptrTellsSpec)

/-- 'purlinlaw8.PtrApart', WHERE WHAT IT READS IS OF BULK AT MOST 1048576: true; the input reads as it did. -/
def ptrApartUptoRow : OpenClaim := { program := "ytnhpmmmkcemnmaa", sum := "703e24ed2d11b3c3a1ee473d67eb12ef3aec9aa3889d7ceaf01a2b1fc548b7e2", func := "purlin/purlinlaw8.PtrApart", spec := "ptrApart", apart := false, narrowed := true }
def PtrApartUptoSaid : Prop := ptrApartUptoRow.holds Try.pinned (OpenSpec.upto ptrApartSpec)

/-- 'purlinlaw6.SuperTells', WHERE WHAT IT READS IS OF BULK AT MOST 1048576: true; the input reads as it did. -/
def superTellsUptoRow : OpenClaim := { program := "ytnhpmmmkcemnmaa", sum := "703e24ed2d11b3c3a1ee473d67eb12ef3aec9aa3889d7ceaf01a2b1fc548b7e2", func := "purlin/purlinlaw6.SuperTells", spec := "superTells", apart := false, narrowed := true }
def SuperTellsUptoSaid : Prop := superTellsUptoRow.holds Try.pinned (OpenSpec.upto superTellsSpec)

/-- 'purlinlaw6.SuperBack', WHERE WHAT IT READS IS OF BULK AT MOST 1048576: true; the input reads as it did. -/
def superBackUptoRow : OpenClaim := { program := "ytnhpmmmkcemnmaa", sum := "703e24ed2d11b3c3a1ee473d67eb12ef3aec9aa3889d7ceaf01a2b1fc548b7e2", func := "purlin/purlinlaw6.SuperBack", spec := "superBack", apart := false, narrowed := true }
def SuperBackUptoSaid : Prop := superBackUptoRow.holds Try.pinned (OpenSpec.upto superBackSpec)

/-- 'purlinlaw6.SuperApart', WHERE WHAT IT READS IS OF BULK AT MOST 1048576: true; the input reads as it did. -/
def superApartUptoRow : OpenClaim := { program := "ytnhpmmmkcemnmaa", sum := "703e24ed2d11b3c3a1ee473d67eb12ef3aec9aa3889d7ceaf01a2b1fc548b7e2", func := "purlin/purlinlaw6.SuperApart", spec := "superApart", apart := false, narrowed := true }
def SuperApartUptoSaid : Prop := superApartUptoRow.holds Try.pinned (OpenSpec.upto superApartSpec)

/-- 'purlinlaw11.GroupTells', WHERE WHAT IT READS IS OF BULK AT MOST 1048576: true; the input reads as it did. -/
def groupTellsUptoRow : OpenClaim := { program := "ytnhpmmmkcemnmaa", sum := "703e24ed2d11b3c3a1ee473d67eb12ef3aec9aa3889d7ceaf01a2b1fc548b7e2", func := "purlin/purlinlaw11.GroupTells", spec := "groupTells", apart := false, narrowed := true }
def GroupTellsUptoSaid : Prop := groupTellsUptoRow.holds Try.pinned (OpenSpec.upto groupTellsSpec)

/-- 'purlinlaw11.GroupBack', WHERE WHAT IT READS IS OF BULK AT MOST 1048576: true; the input reads as it did. -/
def groupBackUptoRow : OpenClaim := { program := "ytnhpmmmkcemnmaa", sum := "703e24ed2d11b3c3a1ee473d67eb12ef3aec9aa3889d7ceaf01a2b1fc548b7e2", func := "purlin/purlinlaw11.GroupBack", spec := "groupBack", apart := false, narrowed := true }
def GroupBackUptoSaid : Prop := groupBackUptoRow.holds Try.pinned (OpenSpec.upto groupBackSpec)

/-- 'purlinlaw11.GroupWidths', WHERE WHAT IT READS IS OF BULK AT MOST 1048576: true; the input reads as it did. -/
def groupWidthsUptoRow : OpenClaim := { program := "ytnhpmmmkcemnmaa", sum := "703e24ed2d11b3c3a1ee473d67eb12ef3aec9aa3889d7ceaf01a2b1fc548b7e2", func := "purlin/purlinlaw11.GroupWidths", spec := "groupWidths", apart := false, narrowed := true }
def GroupWidthsUptoSaid : Prop := groupWidthsUptoRow.holds Try.pinned (OpenSpec.upto groupWidthsSpec)

/-- 'purlinlaw7.InodeTells', WHERE WHAT IT READS IS OF BULK AT MOST 1048576: true; the input reads as it did. -/
def inodeTellsUptoRow : OpenClaim := { program := "ytnhpmmmkcemnmaa", sum := "703e24ed2d11b3c3a1ee473d67eb12ef3aec9aa3889d7ceaf01a2b1fc548b7e2", func := "purlin/purlinlaw7.InodeTells", spec := "inodeTells", apart := false, narrowed := true }
def InodeTellsUptoSaid : Prop := inodeTellsUptoRow.holds Try.pinned (OpenSpec.upto inodeTellsSpec)

/-- 'purlinlaw7.InodeBack', WHERE WHAT IT READS IS OF BULK AT MOST 1048576: true; the input reads as it did. -/
def inodeBackUptoRow : OpenClaim := { program := "ytnhpmmmkcemnmaa", sum := "703e24ed2d11b3c3a1ee473d67eb12ef3aec9aa3889d7ceaf01a2b1fc548b7e2", func := "purlin/purlinlaw7.InodeBack", spec := "inodeBack", apart := false, narrowed := true }
def InodeBackUptoSaid : Prop := inodeBackUptoRow.holds Try.pinned (OpenSpec.upto inodeBackSpec)

/-- 'purlinlaw7.InodePlaces', WHERE WHAT IT READS IS OF BULK AT MOST 1048576: true; the input reads as it did. -/
def inodePlacesUptoRow : OpenClaim := { program := "ytnhpmmmkcemnmaa", sum := "703e24ed2d11b3c3a1ee473d67eb12ef3aec9aa3889d7ceaf01a2b1fc548b7e2", func := "purlin/purlinlaw7.InodePlaces", spec := "inodePlaces", apart := false, narrowed := true }
def InodePlacesUptoSaid : Prop := inodePlacesUptoRow.holds Try.pinned (OpenSpec.upto inodePlacesSpec)

/-- 'purlinlaw7.InodeApart', WHERE WHAT IT READS IS OF BULK AT MOST 1048576: true; the input reads as it did. -/
def inodeApartUptoRow : OpenClaim := { program := "ytnhpmmmkcemnmaa", sum := "703e24ed2d11b3c3a1ee473d67eb12ef3aec9aa3889d7ceaf01a2b1fc548b7e2", func := "purlin/purlinlaw7.InodeApart", spec := "inodeApart", apart := false, narrowed := true }
def InodeApartUptoSaid : Prop := inodeApartUptoRow.holds Try.pinned (OpenSpec.upto inodeApartSpec)

/-- 'purlinlaw7.InodeSlots', WHERE WHAT IT READS IS OF BULK AT MOST 1048576: true; the input reads as it did. -/
def inodeSlotsUptoRow : OpenClaim := { program := "ytnhpmmmkcemnmaa", sum := "703e24ed2d11b3c3a1ee473d67eb12ef3aec9aa3889d7ceaf01a2b1fc548b7e2", func := "purlin/purlinlaw7.InodeSlots", spec := "inodeSlots", apart := false, narrowed := true }
def InodeSlotsUptoSaid : Prop := inodeSlotsUptoRow.holds Try.pinned (OpenSpec.upto inodeSlotsSpec)

end Rows
end Go.Proofs.Ytnhpmmmkcemnmaa
