/-
  No cell of these rows narrows 'for every input' (looked for: loops, veiled, ifaces, maps, wideKeys, modest, calm, conditions, laid).
  DERIVED. THE GIVEN ROWS OF THIS SEAT. 18 by the template 'for every input the law returns true; each argument reads behind the call as it read before'; 0 by the template 'total and deterministic' (their statements: YtobhmonmeocfmaaTotals.lean).
  GIVEN WITH THE SEED: the statements are not yours to turn. If you find one false, say at which input.
  Laid BY PROGRAM, IN A SANDBOX (cutbox-rows.mjs): the forced cells as the released guide's own fill.sh prints them over the translation c0581205cd318281… (all of the seat's roots in one cut). By AI agents, Wed Nov 11 2026. No macro, syntax, notation, axiom, sorry.
-/
import Derived.Test.YtobhmonmeocfmaaChecked
import GoSem.Claim
import GoSem.ClaimJoined
import GoSem.ClaimMapViews
import Derived.JoinedTies
import Derived.KernelRfl
namespace Go.Proofs.Ytobhmonmeocfmaa
/- THE CELL 'sum', in the pinned program and in every row, IS THE sha256 OF THE DUMP (.gsa) THAT YtobhmonmeocfmaaProg.lean LOADS. Nothing in Lean hashes anything: it is a label: what it is worth is what the hold of that sum in a sandbox is worth. -/
noncomputable def Try.pinned : Pinned := { name := "ytobhmonmeocfmaa", sum := "c0581205cd318281ec208a908557c4c51ee4ad4b973206660b8c8c92d45c33b8", checked := Try.checked }
namespace Rows
def none {H : Type} : Left H := { results := [], args := [] }

/-- 'wharfagelaw6.Gues': WHATEVER THE INPUT: true; the input reads as it did. -/
def guesSpec : ChangeSpec := { name := "gues", fn := fun _ => fun
  | [d1, d2] => { results := [.lit (.bool true)], args := [d1, d2] }
  | _ => none }
def guesRow : OpenClaim := { program := "ytobhmonmeocfmaa", sum := "c0581205cd318281ec208a908557c4c51ee4ad4b973206660b8c8c92d45c33b8", func := "wharfage/wharfagelaw6.Gues", spec := "gues", apart := false }
def GuesSaid : Prop := guesRow.holds Try.pinned (OpenSpec.ofChange guesSpec)

/-- ITS FALSE NEIGHBOUR: 'it returns false'. Refute it at one input. -/
def guesWrong : ChangeSpec := { name := "gues", fn := fun _ => fun
  | [d1, d2] => { results := [.lit (.bool false)], args := [d1, d2] }
  | _ => none }
def GuesWrongFalsely : Prop := guesRow.holds Try.pinned (OpenSpec.ofChange guesWrong)

/-- 'wharfagelaw6.GueNests': WHATEVER THE INPUT: true; the input reads as it did. -/
def gueNestsSpec : ChangeSpec := { name := "gueNests", fn := fun _ => fun
  | [d1, d2, d3, d4] => { results := [.lit (.bool true)], args := [d1, d2, d3, d4] }
  | _ => none }
def gueNestsRow : OpenClaim := { program := "ytobhmonmeocfmaa", sum := "c0581205cd318281ec208a908557c4c51ee4ad4b973206660b8c8c92d45c33b8", func := "wharfage/wharfagelaw6.GueNests", spec := "gueNests", apart := false }
def GueNestsSaid : Prop := gueNestsRow.holds Try.pinned (OpenSpec.ofChange gueNestsSpec)

/-- ITS FALSE NEIGHBOUR: 'it returns false'. Refute it at one input. -/
def gueNestsWrong : ChangeSpec := { name := "gueNests", fn := fun _ => fun
  | [d1, d2, d3, d4] => { results := [.lit (.bool false)], args := [d1, d2, d3, d4] }
  | _ => none }
def GueNestsWrongFalsely : Prop := gueNestsRow.holds Try.pinned (OpenSpec.ofChange gueNestsWrong)

/-- 'wharfagelaw6.GueForms': WHATEVER THE INPUT: true; the input reads as it did. -/
def gueFormsSpec : ChangeSpec := { name := "gueForms", fn := fun _ => fun
  | [d1, d2] => { results := [.lit (.bool true)], args := [d1, d2] }
  | _ => none }
def gueFormsRow : OpenClaim := { program := "ytobhmonmeocfmaa", sum := "c0581205cd318281ec208a908557c4c51ee4ad4b973206660b8c8c92d45c33b8", func := "wharfage/wharfagelaw6.GueForms", spec := "gueForms", apart := false }
def GueFormsSaid : Prop := gueFormsRow.holds Try.pinned (OpenSpec.ofChange gueFormsSpec)

/-- ITS FALSE NEIGHBOUR: 'it returns false'. Refute it at one input. -/
def gueFormsWrong : ChangeSpec := { name := "gueForms", fn := fun _ => fun
  | [d1, d2] => { results := [.lit (.bool false)], args := [d1, d2] }
  | _ => none }
def GueFormsWrongFalsely : Prop := gueFormsRow.holds Try.pinned (OpenSpec.ofChange gueFormsWrong)

/-- 'wharfagelaw6.GueCut': WHATEVER THE INPUT: true; the input reads as it did. -/
def gueCutSpec : ChangeSpec := { name := "gueCut", fn := fun _ => fun
  | [d1, d2, d3] => { results := [.lit (.bool true)], args := [d1, d2, d3] }
  | _ => none }
def gueCutRow : OpenClaim := { program := "ytobhmonmeocfmaa", sum := "c0581205cd318281ec208a908557c4c51ee4ad4b973206660b8c8c92d45c33b8", func := "wharfage/wharfagelaw6.GueCut", spec := "gueCut", apart := false }
def GueCutSaid : Prop := gueCutRow.holds Try.pinned (OpenSpec.ofChange gueCutSpec)

/-- ITS FALSE NEIGHBOUR: 'it returns false'. Refute it at one input. -/
def gueCutWrong : ChangeSpec := { name := "gueCut", fn := fun _ => fun
  | [d1, d2, d3] => { results := [.lit (.bool false)], args := [d1, d2, d3] }
  | _ => none }
def GueCutWrongFalsely : Prop := gueCutRow.holds Try.pinned (OpenSpec.ofChange gueCutWrong)

/-- 'wharfagelaw6.GueUnlike': WHATEVER THE INPUT: true; the input reads as it did. -/
def gueUnlikeSpec : ChangeSpec := { name := "gueUnlike", fn := fun _ => fun
  | [d1, d2] => { results := [.lit (.bool true)], args := [d1, d2] }
  | _ => none }
def gueUnlikeRow : OpenClaim := { program := "ytobhmonmeocfmaa", sum := "c0581205cd318281ec208a908557c4c51ee4ad4b973206660b8c8c92d45c33b8", func := "wharfage/wharfagelaw6.GueUnlike", spec := "gueUnlike", apart := false }
def GueUnlikeSaid : Prop := gueUnlikeRow.holds Try.pinned (OpenSpec.ofChange gueUnlikeSpec)

/-- ITS FALSE NEIGHBOUR: 'it returns false'. Refute it at one input. -/
def gueUnlikeWrong : ChangeSpec := { name := "gueUnlike", fn := fun _ => fun
  | [d1, d2] => { results := [.lit (.bool false)], args := [d1, d2] }
  | _ => none }
def GueUnlikeWrongFalsely : Prop := gueUnlikeRow.holds Try.pinned (OpenSpec.ofChange gueUnlikeWrong)

/-- 'wharfagelaw3.Segs': WHATEVER THE INPUT: true; the input reads as it did. -/
def segsSpec : ChangeSpec := { name := "segs", fn := fun _ => fun
  | [d1, d2, d3, d4, d5] => { results := [.lit (.bool true)], args := [d1, d2, d3, d4, d5] }
  | _ => none }
def segsRow : OpenClaim := { program := "ytobhmonmeocfmaa", sum := "c0581205cd318281ec208a908557c4c51ee4ad4b973206660b8c8c92d45c33b8", func := "wharfage/wharfagelaw3.Segs", spec := "segs", apart := false }
def SegsSaid : Prop := segsRow.holds Try.pinned (OpenSpec.ofChange segsSpec)

/-- ITS FALSE NEIGHBOUR: 'it returns false'. Refute it at one input. -/
def segsWrong : ChangeSpec := { name := "segs", fn := fun _ => fun
  | [d1, d2, d3, d4, d5] => { results := [.lit (.bool false)], args := [d1, d2, d3, d4, d5] }
  | _ => none }
def SegsWrongFalsely : Prop := segsRow.holds Try.pinned (OpenSpec.ofChange segsWrong)

/-- 'wharfagelaw3.SegBack': WHATEVER THE INPUT: true; the input reads as it did. -/
def segBackSpec : ChangeSpec := { name := "segBack", fn := fun _ => fun
  | [d1, d2, d3, d4, d5] => { results := [.lit (.bool true)], args := [d1, d2, d3, d4, d5] }
  | _ => none }
def segBackRow : OpenClaim := { program := "ytobhmonmeocfmaa", sum := "c0581205cd318281ec208a908557c4c51ee4ad4b973206660b8c8c92d45c33b8", func := "wharfage/wharfagelaw3.SegBack", spec := "segBack", apart := false }
def SegBackSaid : Prop := segBackRow.holds Try.pinned (OpenSpec.ofChange segBackSpec)

/-- ITS FALSE NEIGHBOUR: 'it returns false'. Refute it at one input. -/
def segBackWrong : ChangeSpec := { name := "segBack", fn := fun _ => fun
  | [d1, d2, d3, d4, d5] => { results := [.lit (.bool false)], args := [d1, d2, d3, d4, d5] }
  | _ => none }
def SegBackWrongFalsely : Prop := segBackRow.holds Try.pinned (OpenSpec.ofChange segBackWrong)

/-- 'wharfagelaw3.SegForms': WHATEVER THE INPUT: true; the input reads as it did. -/
def segFormsSpec : ChangeSpec := { name := "segForms", fn := fun _ => fun
  | [d1, d2] => { results := [.lit (.bool true)], args := [d1, d2] }
  | _ => none }
def segFormsRow : OpenClaim := { program := "ytobhmonmeocfmaa", sum := "c0581205cd318281ec208a908557c4c51ee4ad4b973206660b8c8c92d45c33b8", func := "wharfage/wharfagelaw3.SegForms", spec := "segForms", apart := false }
def SegFormsSaid : Prop := segFormsRow.holds Try.pinned (OpenSpec.ofChange segFormsSpec)

/-- ITS FALSE NEIGHBOUR: 'it returns false'. Refute it at one input. -/
def segFormsWrong : ChangeSpec := { name := "segForms", fn := fun _ => fun
  | [d1, d2] => { results := [.lit (.bool false)], args := [d1, d2] }
  | _ => none }
def SegFormsWrongFalsely : Prop := segFormsRow.holds Try.pinned (OpenSpec.ofChange segFormsWrong)

/-- 'wharfagelaw3.SegApart': WHATEVER THE INPUT: true; the input reads as it did. -/
def segApartSpec : ChangeSpec := { name := "segApart", fn := fun _ => fun
  | [d1, d2, d3, d4] => { results := [.lit (.bool true)], args := [d1, d2, d3, d4] }
  | _ => none }
def segApartRow : OpenClaim := { program := "ytobhmonmeocfmaa", sum := "c0581205cd318281ec208a908557c4c51ee4ad4b973206660b8c8c92d45c33b8", func := "wharfage/wharfagelaw3.SegApart", spec := "segApart", apart := false }
def SegApartSaid : Prop := segApartRow.holds Try.pinned (OpenSpec.ofChange segApartSpec)

/-- ITS FALSE NEIGHBOUR: 'it returns false'. Refute it at one input. -/
def segApartWrong : ChangeSpec := { name := "segApart", fn := fun _ => fun
  | [d1, d2, d3, d4] => { results := [.lit (.bool false)], args := [d1, d2, d3, d4] }
  | _ => none }
def SegApartWrongFalsely : Prop := segApartRow.holds Try.pinned (OpenSpec.ofChange segApartWrong)

/-- 'wharfagelaw3.SegNone': WHATEVER THE INPUT: true; the input reads as it did. -/
def segNoneSpec : ChangeSpec := { name := "segNone", fn := fun _ => fun
  | [d1, d2, d3] => { results := [.lit (.bool true)], args := [d1, d2, d3] }
  | _ => none }
def segNoneRow : OpenClaim := { program := "ytobhmonmeocfmaa", sum := "c0581205cd318281ec208a908557c4c51ee4ad4b973206660b8c8c92d45c33b8", func := "wharfage/wharfagelaw3.SegNone", spec := "segNone", apart := false }
def SegNoneSaid : Prop := segNoneRow.holds Try.pinned (OpenSpec.ofChange segNoneSpec)

/-- ITS FALSE NEIGHBOUR: 'it returns false'. Refute it at one input. -/
def segNoneWrong : ChangeSpec := { name := "segNone", fn := fun _ => fun
  | [d1, d2, d3] => { results := [.lit (.bool false)], args := [d1, d2, d3] }
  | _ => none }
def SegNoneWrongFalsely : Prop := segNoneRow.holds Try.pinned (OpenSpec.ofChange segNoneWrong)

/-- 'wharfagelaw3.SegHeads': WHATEVER THE INPUT: true; the input reads as it did. -/
def segHeadsSpec : ChangeSpec := { name := "segHeads", fn := fun _ => fun
  | [d1, d2, d3] => { results := [.lit (.bool true)], args := [d1, d2, d3] }
  | _ => none }
def segHeadsRow : OpenClaim := { program := "ytobhmonmeocfmaa", sum := "c0581205cd318281ec208a908557c4c51ee4ad4b973206660b8c8c92d45c33b8", func := "wharfage/wharfagelaw3.SegHeads", spec := "segHeads", apart := false }
def SegHeadsSaid : Prop := segHeadsRow.holds Try.pinned (OpenSpec.ofChange segHeadsSpec)

/-- ITS FALSE NEIGHBOUR: 'it returns false'. Refute it at one input. -/
def segHeadsWrong : ChangeSpec := { name := "segHeads", fn := fun _ => fun
  | [d1, d2, d3] => { results := [.lit (.bool false)], args := [d1, d2, d3] }
  | _ => none }
def SegHeadsWrongFalsely : Prop := segHeadsRow.holds Try.pinned (OpenSpec.ofChange segHeadsWrong)

/-- 'wharfagelaw4.Flows': WHATEVER THE INPUT: true; the input reads as it did. -/
def flowsSpec : ChangeSpec := { name := "flows", fn := fun _ => fun
  | [d1, d2, d3, d4] => { results := [.lit (.bool true)], args := [d1, d2, d3, d4] }
  | _ => none }
def flowsRow : OpenClaim := { program := "ytobhmonmeocfmaa", sum := "c0581205cd318281ec208a908557c4c51ee4ad4b973206660b8c8c92d45c33b8", func := "wharfage/wharfagelaw4.Flows", spec := "flows", apart := false }
def FlowsSaid : Prop := flowsRow.holds Try.pinned (OpenSpec.ofChange flowsSpec)

/-- ITS FALSE NEIGHBOUR: 'it returns false'. Refute it at one input. -/
def flowsWrong : ChangeSpec := { name := "flows", fn := fun _ => fun
  | [d1, d2, d3, d4] => { results := [.lit (.bool false)], args := [d1, d2, d3, d4] }
  | _ => none }
def FlowsWrongFalsely : Prop := flowsRow.holds Try.pinned (OpenSpec.ofChange flowsWrong)

/-- 'wharfagelaw4.FlowBack': WHATEVER THE INPUT: true; the input reads as it did. -/
def flowBackSpec : ChangeSpec := { name := "flowBack", fn := fun _ => fun
  | [d1, d2, d3] => { results := [.lit (.bool true)], args := [d1, d2, d3] }
  | _ => none }
def flowBackRow : OpenClaim := { program := "ytobhmonmeocfmaa", sum := "c0581205cd318281ec208a908557c4c51ee4ad4b973206660b8c8c92d45c33b8", func := "wharfage/wharfagelaw4.FlowBack", spec := "flowBack", apart := false }
def FlowBackSaid : Prop := flowBackRow.holds Try.pinned (OpenSpec.ofChange flowBackSpec)

/-- ITS FALSE NEIGHBOUR: 'it returns false'. Refute it at one input. -/
def flowBackWrong : ChangeSpec := { name := "flowBack", fn := fun _ => fun
  | [d1, d2, d3] => { results := [.lit (.bool false)], args := [d1, d2, d3] }
  | _ => none }
def FlowBackWrongFalsely : Prop := flowBackRow.holds Try.pinned (OpenSpec.ofChange flowBackWrong)

/-- 'wharfagelaw4.FlowForms': WHATEVER THE INPUT: true; the input reads as it did. -/
def flowFormsSpec : ChangeSpec := { name := "flowForms", fn := fun _ => fun
  | [d1, d2] => { results := [.lit (.bool true)], args := [d1, d2] }
  | _ => none }
def flowFormsRow : OpenClaim := { program := "ytobhmonmeocfmaa", sum := "c0581205cd318281ec208a908557c4c51ee4ad4b973206660b8c8c92d45c33b8", func := "wharfage/wharfagelaw4.FlowForms", spec := "flowForms", apart := false }
def FlowFormsSaid : Prop := flowFormsRow.holds Try.pinned (OpenSpec.ofChange flowFormsSpec)

/-- ITS FALSE NEIGHBOUR: 'it returns false'. Refute it at one input. -/
def flowFormsWrong : ChangeSpec := { name := "flowForms", fn := fun _ => fun
  | [d1, d2] => { results := [.lit (.bool false)], args := [d1, d2] }
  | _ => none }
def FlowFormsWrongFalsely : Prop := flowFormsRow.holds Try.pinned (OpenSpec.ofChange flowFormsWrong)

/-- 'wharfagelaw4.FlowTurned': WHATEVER THE INPUT: true; the input reads as it did. -/
def flowTurnedSpec : ChangeSpec := { name := "flowTurned", fn := fun _ => fun
  | [d1, d2, d3, d4, d5] => { results := [.lit (.bool true)], args := [d1, d2, d3, d4, d5] }
  | _ => none }
def flowTurnedRow : OpenClaim := { program := "ytobhmonmeocfmaa", sum := "c0581205cd318281ec208a908557c4c51ee4ad4b973206660b8c8c92d45c33b8", func := "wharfage/wharfagelaw4.FlowTurned", spec := "flowTurned", apart := false }
def FlowTurnedSaid : Prop := flowTurnedRow.holds Try.pinned (OpenSpec.ofChange flowTurnedSpec)

/-- ITS FALSE NEIGHBOUR: 'it returns false'. Refute it at one input. -/
def flowTurnedWrong : ChangeSpec := { name := "flowTurned", fn := fun _ => fun
  | [d1, d2, d3, d4, d5] => { results := [.lit (.bool false)], args := [d1, d2, d3, d4, d5] }
  | _ => none }
def FlowTurnedWrongFalsely : Prop := flowTurnedRow.holds Try.pinned (OpenSpec.ofChange flowTurnedWrong)

/-- 'wharfagelaw4.FlowUnlike': WHATEVER THE INPUT: true; the input reads as it did. -/
def flowUnlikeSpec : ChangeSpec := { name := "flowUnlike", fn := fun _ => fun
  | [d1, d2, d3] => { results := [.lit (.bool true)], args := [d1, d2, d3] }
  | _ => none }
def flowUnlikeRow : OpenClaim := { program := "ytobhmonmeocfmaa", sum := "c0581205cd318281ec208a908557c4c51ee4ad4b973206660b8c8c92d45c33b8", func := "wharfage/wharfagelaw4.FlowUnlike", spec := "flowUnlike", apart := false }
def FlowUnlikeSaid : Prop := flowUnlikeRow.holds Try.pinned (OpenSpec.ofChange flowUnlikeSpec)

/-- ITS FALSE NEIGHBOUR: 'it returns false'. Refute it at one input. -/
def flowUnlikeWrong : ChangeSpec := { name := "flowUnlike", fn := fun _ => fun
  | [d1, d2, d3] => { results := [.lit (.bool false)], args := [d1, d2, d3] }
  | _ => none }
def FlowUnlikeWrongFalsely : Prop := flowUnlikeRow.holds Try.pinned (OpenSpec.ofChange flowUnlikeWrong)

/-- 'wharfagelaw21.Backends': WHATEVER THE INPUT: true; the input reads as it did. -/
def backendsSpec : ChangeSpec := { name := "backends", fn := fun _ => fun
  | [d1, d2, d3] => { results := [.lit (.bool true)], args := [d1, d2, d3] }
  | _ => none }
def backendsRow : OpenClaim := { program := "ytobhmonmeocfmaa", sum := "c0581205cd318281ec208a908557c4c51ee4ad4b973206660b8c8c92d45c33b8", func := "wharfage/wharfagelaw21.Backends", spec := "backends", apart := false }
def BackendsSaid : Prop := backendsRow.holds Try.pinned (OpenSpec.ofChange backendsSpec)

/-- ITS FALSE NEIGHBOUR: 'it returns false'. Refute it at one input. -/
def backendsWrong : ChangeSpec := { name := "backends", fn := fun _ => fun
  | [d1, d2, d3] => { results := [.lit (.bool false)], args := [d1, d2, d3] }
  | _ => none }
def BackendsWrongFalsely : Prop := backendsRow.holds Try.pinned (OpenSpec.ofChange backendsWrong)

/-- 'wharfagelaw21.BackTable': WHATEVER THE INPUT: true; the input reads as it did. -/
def backTableSpec : ChangeSpec := { name := "backTable", fn := fun _ => fun
  | [d1, d2] => { results := [.lit (.bool true)], args := [d1, d2] }
  | _ => none }
def backTableRow : OpenClaim := { program := "ytobhmonmeocfmaa", sum := "c0581205cd318281ec208a908557c4c51ee4ad4b973206660b8c8c92d45c33b8", func := "wharfage/wharfagelaw21.BackTable", spec := "backTable", apart := false }
def BackTableSaid : Prop := backTableRow.holds Try.pinned (OpenSpec.ofChange backTableSpec)

/-- ITS FALSE NEIGHBOUR: 'it returns false'. Refute it at one input. -/
def backTableWrong : ChangeSpec := { name := "backTable", fn := fun _ => fun
  | [d1, d2] => { results := [.lit (.bool false)], args := [d1, d2] }
  | _ => none }
def BackTableWrongFalsely : Prop := backTableRow.holds Try.pinned (OpenSpec.ofChange backTableWrong)

/- THE SECOND FORM. 'bulk': how many values and letters a reading holds, each counted each time it is reached (what is shared counts as often as it is met; a slice's spare places count too). A statement '..UptoSaid' is the law's where the arguments, and the package variables that the reading takes, are together of bulk at most 1048576: NARROWER than '..Said'. Prove '..Said' where nothing that the law and all that it calls make is longer than what came in: it says more and counts as full. Else prove '..UptoSaid'. A law counts once. -/
mutual
def uptoBulk {H : Type} : DataW H → Nat
  | .lit (.string bytes) => bytes.length + 1
  | .lit _ => 1
  | .nil => 1
  | .ptr d => uptoBulk d + 1
  | .slice elems spare => uptoBulkAll elems + uptoBulkAll spare + 1
  | .agg parts => uptoBulkAll parts + 1
  | .iface _ d => uptoBulk d + 1
  | .map entries => uptoBulkEntries entries + 1
  | .held _ => 1
def uptoBulkAll {H : Type} : List (DataW H) → Nat
  | [] => 0
  | d :: r => uptoBulk d + uptoBulkAll r
def uptoBulkEntries {H : Type} : List (Lit × DataW H) → Nat
  | [] => 0
  | x :: r => uptoBulkEntry x + uptoBulkEntries r
def uptoBulkEntry {H : Type} : Lit × DataW H → Nat
  | (.string bytes, d) => bytes.length + uptoBulk d + 1
  | (_, d) => uptoBulk d + 1
 end
def uptoSmall : (H : Type) → List (DataW H) → Bool := fun _ ds => decide (uptoBulkAll ds ≤ 1048576)
def OpenSpec.upto (s : _root_.Go.ChangeSpec) : _root_.Go.OpenSpec := { _root_.Go.OpenSpec.ofChange s with cond := some uptoSmall }

/-- 'wharfagelaw6.Gues', WHERE WHAT IT READS IS OF BULK AT MOST 1048576: true; the input reads as it did. -/
def guesUptoRow : OpenClaim := { program := "ytobhmonmeocfmaa", sum := "c0581205cd318281ec208a908557c4c51ee4ad4b973206660b8c8c92d45c33b8", func := "wharfage/wharfagelaw6.Gues", spec := "gues", apart := false, narrowed := true }
def GuesUptoSaid : Prop := guesUptoRow.holds Try.pinned (OpenSpec.upto guesSpec)

/-- 'wharfagelaw6.GueNests', WHERE WHAT IT READS IS OF BULK AT MOST 1048576: true; the input reads as it did. -/
def gueNestsUptoRow : OpenClaim := { program := "ytobhmonmeocfmaa", sum := "c0581205cd318281ec208a908557c4c51ee4ad4b973206660b8c8c92d45c33b8", func := "wharfage/wharfagelaw6.GueNests", spec := "gueNests", apart := false, narrowed := true }
def GueNestsUptoSaid : Prop := gueNestsUptoRow.holds Try.pinned (OpenSpec.upto gueNestsSpec)

/-- 'wharfagelaw6.GueForms', WHERE WHAT IT READS IS OF BULK AT MOST 1048576: true; the input reads as it did. -/
def gueFormsUptoRow : OpenClaim := { program := "ytobhmonmeocfmaa", sum := "c0581205cd318281ec208a908557c4c51ee4ad4b973206660b8c8c92d45c33b8", func := "wharfage/wharfagelaw6.GueForms", spec := "gueForms", apart := false, narrowed := true }
def GueFormsUptoSaid : Prop := gueFormsUptoRow.holds Try.pinned (OpenSpec.upto gueFormsSpec)

/-- 'wharfagelaw6.GueCut', WHERE WHAT IT READS IS OF BULK AT MOST 1048576: true; the input reads as it did. -/
def gueCutUptoRow : OpenClaim := { program := "ytobhmonmeocfmaa", sum := "c0581205cd318281ec208a908557c4c51ee4ad4b973206660b8c8c92d45c33b8", func := "wharfage/wharfagelaw6.GueCut", spec := "gueCut", apart := false, narrowed := true }
def GueCutUptoSaid : Prop := gueCutUptoRow.holds Try.pinned (OpenSpec.upto gueCutSpec)

/-- 'wharfagelaw6.GueUnlike', WHERE WHAT IT READS IS OF BULK AT MOST 1048576: true; the input reads as it did. -/
def gueUnlikeUptoRow : OpenClaim := { program := "ytobhmonmeocfmaa", sum := "c0581205cd318281ec208a908557c4c51ee4ad4b973206660b8c8c92d45c33b8", func := "wharfage/wharfagelaw6.GueUnlike", spec := "gueUnlike", apart := false, narrowed := true }
def GueUnlikeUptoSaid : Prop := gueUnlikeUptoRow.holds Try.pinned (OpenSpec.upto gueUnlikeSpec)

/-- 'wharfagelaw3.Segs', WHERE WHAT IT READS IS OF BULK AT MOST 1048576: true; the input reads as it did. -/
def segsUptoRow : OpenClaim := { program := "ytobhmonmeocfmaa", sum := "c0581205cd318281ec208a908557c4c51ee4ad4b973206660b8c8c92d45c33b8", func := "wharfage/wharfagelaw3.Segs", spec := "segs", apart := false, narrowed := true }
def SegsUptoSaid : Prop := segsUptoRow.holds Try.pinned (OpenSpec.upto segsSpec)

/-- 'wharfagelaw3.SegBack', WHERE WHAT IT READS IS OF BULK AT MOST 1048576: true; the input reads as it did. -/
def segBackUptoRow : OpenClaim := { program := "ytobhmonmeocfmaa", sum := "c0581205cd318281ec208a908557c4c51ee4ad4b973206660b8c8c92d45c33b8", func := "wharfage/wharfagelaw3.SegBack", spec := "segBack", apart := false, narrowed := true }
def SegBackUptoSaid : Prop := segBackUptoRow.holds Try.pinned (OpenSpec.upto segBackSpec)

/-- 'wharfagelaw3.SegForms', WHERE WHAT IT READS IS OF BULK AT MOST 1048576: true; the input reads as it did. -/
def segFormsUptoRow : OpenClaim := { program := "ytobhmonmeocfmaa", sum := "c0581205cd318281ec208a908557c4c51ee4ad4b973206660b8c8c92d45c33b8", func := "wharfage/wharfagelaw3.SegForms", spec := "segForms", apart := false, narrowed := true }
def SegFormsUptoSaid : Prop := segFormsUptoRow.holds Try.pinned (OpenSpec.upto segFormsSpec)

/-- 'wharfagelaw3.SegApart', WHERE WHAT IT READS IS OF BULK AT MOST 1048576: true; the input reads as it did. -/
def segApartUptoRow : OpenClaim := { program := "ytobhmonmeocfmaa", sum := "c0581205cd318281ec208a908557c4c51ee4ad4b973206660b8c8c92d45c33b8", func := "wharfage/wharfagelaw3.SegApart", spec := "segApart", apart := false, narrowed := true }
def SegApartUptoSaid : Prop := segApartUptoRow.holds Try.pinned (OpenSpec.upto segApartSpec)

/-- 'wharfagelaw3.SegNone', WHERE WHAT IT READS IS OF BULK AT MOST 1048576: true; the input reads as it did. -/
def segNoneUptoRow : OpenClaim := { program := "ytobhmonmeocfmaa", sum := "c0581205cd318281ec208a908557c4c51ee4ad4b973206660b8c8c92d45c33b8", func := "wharfage/wharfagelaw3.SegNone", spec := "segNone", apart := false, narrowed := true }
def SegNoneUptoSaid : Prop := segNoneUptoRow.holds Try.pinned (OpenSpec.upto segNoneSpec)

/-- 'wharfagelaw3.SegHeads', WHERE WHAT IT READS IS OF BULK AT MOST 1048576: true; the input reads as it did. -/
def segHeadsUptoRow : OpenClaim := { program := "ytobhmonmeocfmaa", sum := "c0581205cd318281ec208a908557c4c51ee4ad4b973206660b8c8c92d45c33b8", func := "wharfage/wharfagelaw3.SegHeads", spec := "segHeads", apart := false, narrowed := true }
def SegHeadsUptoSaid : Prop := segHeadsUptoRow.holds Try.pinned (OpenSpec.upto segHeadsSpec)

/-- 'wharfagelaw4.Flows', WHERE WHAT IT READS IS OF BULK AT MOST 1048576: true; the input reads as it did. -/
def flowsUptoRow : OpenClaim := { program := "ytobhmonmeocfmaa", sum := "c0581205cd318281ec208a908557c4c51ee4ad4b973206660b8c8c92d45c33b8", func := "wharfage/wharfagelaw4.Flows", spec := "flows", apart := false, narrowed := true }
def FlowsUptoSaid : Prop := flowsUptoRow.holds Try.pinned (OpenSpec.upto flowsSpec)

/-- 'wharfagelaw4.FlowBack', WHERE WHAT IT READS IS OF BULK AT MOST 1048576: true; the input reads as it did. -/
def flowBackUptoRow : OpenClaim := { program := "ytobhmonmeocfmaa", sum := "c0581205cd318281ec208a908557c4c51ee4ad4b973206660b8c8c92d45c33b8", func := "wharfage/wharfagelaw4.FlowBack", spec := "flowBack", apart := false, narrowed := true }
def FlowBackUptoSaid : Prop := flowBackUptoRow.holds Try.pinned (OpenSpec.upto flowBackSpec)

/-- 'wharfagelaw4.FlowForms', WHERE WHAT IT READS IS OF BULK AT MOST 1048576: true; the input reads as it did. -/
def flowFormsUptoRow : OpenClaim := { program := "ytobhmonmeocfmaa", sum := "c0581205cd318281ec208a908557c4c51ee4ad4b973206660b8c8c92d45c33b8", func := "wharfage/wharfagelaw4.FlowForms", spec := "flowForms", apart := false, narrowed := true }
def FlowFormsUptoSaid : Prop := flowFormsUptoRow.holds Try.pinned (OpenSpec.upto flowFormsSpec)

/-- 'wharfagelaw4.FlowTurned', WHERE WHAT IT READS IS OF BULK AT MOST 1048576: true; the input reads as it did. -/
def flowTurnedUptoRow : OpenClaim := { program := "ytobhmonmeocfmaa", sum := "c0581205cd318281ec208a908557c4c51ee4ad4b973206660b8c8c92d45c33b8", func := "wharfage/wharfagelaw4.FlowTurned", spec := "flowTurned", apart := false, narrowed := true }
def FlowTurnedUptoSaid : Prop := flowTurnedUptoRow.holds Try.pinned (OpenSpec.upto flowTurnedSpec)

/-- 'wharfagelaw4.FlowUnlike', WHERE WHAT IT READS IS OF BULK AT MOST 1048576: true; the input reads as it did. -/
def flowUnlikeUptoRow : OpenClaim := { program := "ytobhmonmeocfmaa", sum := "c0581205cd318281ec208a908557c4c51ee4ad4b973206660b8c8c92d45c33b8", func := "wharfage/wharfagelaw4.FlowUnlike", spec := "flowUnlike", apart := false, narrowed := true }
def FlowUnlikeUptoSaid : Prop := flowUnlikeUptoRow.holds Try.pinned (OpenSpec.upto flowUnlikeSpec)

/-- 'wharfagelaw21.Backends', WHERE WHAT IT READS IS OF BULK AT MOST 1048576: true; the input reads as it did. -/
def backendsUptoRow : OpenClaim := { program := "ytobhmonmeocfmaa", sum := "c0581205cd318281ec208a908557c4c51ee4ad4b973206660b8c8c92d45c33b8", func := "wharfage/wharfagelaw21.Backends", spec := "backends", apart := false, narrowed := true }
def BackendsUptoSaid : Prop := backendsUptoRow.holds Try.pinned (OpenSpec.upto backendsSpec)

/-- 'wharfagelaw21.BackTable', WHERE WHAT IT READS IS OF BULK AT MOST 1048576: true; the input reads as it did. -/
def backTableUptoRow : OpenClaim := { program := "ytobhmonmeocfmaa", sum := "c0581205cd318281ec208a908557c4c51ee4ad4b973206660b8c8c92d45c33b8", func := "wharfage/wharfagelaw21.BackTable", spec := "backTable", apart := false, narrowed := true }
def BackTableUptoSaid : Prop := backTableUptoRow.holds Try.pinned (OpenSpec.upto backTableSpec)

end Rows
end Go.Proofs.Ytobhmonmeocfmaa
