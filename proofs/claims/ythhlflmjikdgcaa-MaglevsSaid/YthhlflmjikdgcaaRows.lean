/-
  No cell of these rows narrows 'for every input' (looked for: loops, veiled, ifaces, maps, wideKeys, modest, calm, conditions, laid).
  DERIVED. THE GIVEN ROWS OF THIS SEAT. 8 by the template 'for every input the law returns true; each argument reads behind the call as it read before'; 0 by the template 'total and deterministic' (their statements: YthhlflmjikdgcaaTotals.lean).
  GIVEN WITH THE SEED: the statements are not yours to turn. If you find one false, say at which input.
  Laid BY PROGRAM, IN A SANDBOX (cutbox-rows.mjs): the forced cells as the released guide's own fill.sh prints them over the translation c99cd6dc778675cd… (all of the seat's roots in one cut). By AI agents, Wed Nov 11 2026. No macro, syntax, notation, axiom, sorry.
-/
import Derived.Test.YthhlflmjikdgcaaChecked
import GoSem.Claim
import GoSem.ClaimJoined
import GoSem.ClaimMapViews
import Derived.JoinedTies
import Derived.KernelRfl
namespace Go.Proofs.Ythhlflmjikdgcaa
/- THE CELL 'sum', in the pinned program and in every row, IS THE sha256 OF THE DUMP (.gsa) THAT YthhlflmjikdgcaaProg.lean LOADS. Nothing in Lean hashes anything: it is a label: what it is worth is what the hold of that sum in a sandbox is worth. -/
noncomputable def Try.pinned : Pinned := { name := "ythhlflmjikdgcaa", sum := "c99cd6dc778675cd485d8eb1dd07feac5d769f939d0ca59460d8ca90141154a1", checked := Try.checked }
namespace Rows
def none {H : Type} : Left H := { results := [], args := [] }

/-- 'wharfagelaw8.HashSpreads': WHATEVER THE INPUT: true; the input reads as it did. -/
def hashSpreadsSpec : ChangeSpec := { name := "hashSpreads", fn := fun _ => fun
  | [d1, d2] => { results := [.lit (.bool true)], args := [d1, d2] }
  | _ => none }
def hashSpreadsRow : OpenClaim := { program := "ythhlflmjikdgcaa", sum := "c99cd6dc778675cd485d8eb1dd07feac5d769f939d0ca59460d8ca90141154a1", func := "wharfage/wharfagelaw8.HashSpreads", spec := "hashSpreads", apart := false }
def HashSpreadsSaid : Prop := hashSpreadsRow.holds Try.pinned (OpenSpec.ofChange hashSpreadsSpec)

/-- ITS FALSE NEIGHBOUR: 'it returns false'. Refute it at one input. -/
def hashSpreadsWrong : ChangeSpec := { name := "hashSpreads", fn := fun _ => fun
  | [d1, d2] => { results := [.lit (.bool false)], args := [d1, d2] }
  | _ => none }
def HashSpreadsWrongFalsely : Prop := hashSpreadsRow.holds Try.pinned (OpenSpec.ofChange hashSpreadsWrong)

/-- 'wharfagelaw9.Maglevs': WHATEVER THE INPUT: true; the input reads as it did. -/
def maglevsSpec : ChangeSpec := { name := "maglevs", fn := fun _ => fun
  | [d1, d2] => { results := [.lit (.bool true)], args := [d1, d2] }
  | _ => none }
def maglevsRow : OpenClaim := { program := "ythhlflmjikdgcaa", sum := "c99cd6dc778675cd485d8eb1dd07feac5d769f939d0ca59460d8ca90141154a1", func := "wharfage/wharfagelaw9.Maglevs", spec := "maglevs", apart := false }
def MaglevsSaid : Prop := maglevsRow.holds Try.pinned (OpenSpec.ofChange maglevsSpec)

/-- ITS FALSE NEIGHBOUR: 'it returns false'. Refute it at one input. -/
def maglevsWrong : ChangeSpec := { name := "maglevs", fn := fun _ => fun
  | [d1, d2] => { results := [.lit (.bool false)], args := [d1, d2] }
  | _ => none }
def MaglevsWrongFalsely : Prop := maglevsRow.holds Try.pinned (OpenSpec.ofChange maglevsWrong)

/-- 'wharfagelaw9.MaglevShares': WHATEVER THE INPUT: true; the input reads as it did. -/
def maglevSharesSpec : ChangeSpec := { name := "maglevShares", fn := fun _ => fun
  | [d] => { results := [.lit (.bool true)], args := [d] }
  | _ => none }
def maglevSharesRow : OpenClaim := { program := "ythhlflmjikdgcaa", sum := "c99cd6dc778675cd485d8eb1dd07feac5d769f939d0ca59460d8ca90141154a1", func := "wharfage/wharfagelaw9.MaglevShares", spec := "maglevShares", apart := false }
def MaglevSharesSaid : Prop := maglevSharesRow.holds Try.pinned (OpenSpec.ofChange maglevSharesSpec)

/-- ITS FALSE NEIGHBOUR: 'it returns false'. Refute it at one input. -/
def maglevSharesWrong : ChangeSpec := { name := "maglevShares", fn := fun _ => fun
  | [d] => { results := [.lit (.bool false)], args := [d] }
  | _ => none }
def MaglevSharesWrongFalsely : Prop := maglevSharesRow.holds Try.pinned (OpenSpec.ofChange maglevSharesWrong)

/-- 'wharfagelaw9.MaglevForms': WHATEVER THE INPUT: true; the input reads as it did. -/
def maglevFormsSpec : ChangeSpec := { name := "maglevForms", fn := fun _ => fun
  | [d1, d2] => { results := [.lit (.bool true)], args := [d1, d2] }
  | _ => none }
def maglevFormsRow : OpenClaim := { program := "ythhlflmjikdgcaa", sum := "c99cd6dc778675cd485d8eb1dd07feac5d769f939d0ca59460d8ca90141154a1", func := "wharfage/wharfagelaw9.MaglevForms", spec := "maglevForms", apart := false }
def MaglevFormsSaid : Prop := maglevFormsRow.holds Try.pinned (OpenSpec.ofChange maglevFormsSpec)

/-- ITS FALSE NEIGHBOUR: 'it returns false'. Refute it at one input. -/
def maglevFormsWrong : ChangeSpec := { name := "maglevForms", fn := fun _ => fun
  | [d1, d2] => { results := [.lit (.bool false)], args := [d1, d2] }
  | _ => none }
def MaglevFormsWrongFalsely : Prop := maglevFormsRow.holds Try.pinned (OpenSpec.ofChange maglevFormsWrong)

/-- 'wharfagelaw9.MaglevPicks': WHATEVER THE INPUT: true; the input reads as it did. -/
def maglevPicksSpec : ChangeSpec := { name := "maglevPicks", fn := fun _ => fun
  | [d1, d2, d3] => { results := [.lit (.bool true)], args := [d1, d2, d3] }
  | _ => none }
def maglevPicksRow : OpenClaim := { program := "ythhlflmjikdgcaa", sum := "c99cd6dc778675cd485d8eb1dd07feac5d769f939d0ca59460d8ca90141154a1", func := "wharfage/wharfagelaw9.MaglevPicks", spec := "maglevPicks", apart := false }
def MaglevPicksSaid : Prop := maglevPicksRow.holds Try.pinned (OpenSpec.ofChange maglevPicksSpec)

/-- ITS FALSE NEIGHBOUR: 'it returns false'. Refute it at one input. -/
def maglevPicksWrong : ChangeSpec := { name := "maglevPicks", fn := fun _ => fun
  | [d1, d2, d3] => { results := [.lit (.bool false)], args := [d1, d2, d3] }
  | _ => none }
def MaglevPicksWrongFalsely : Prop := maglevPicksRow.holds Try.pinned (OpenSpec.ofChange maglevPicksWrong)

/-- 'wharfagelaw9.MaglevOne': WHATEVER THE INPUT: true; the input reads as it did. -/
def maglevOneSpec : ChangeSpec := { name := "maglevOne", fn := fun _ => fun
  | [d1, d2, d3] => { results := [.lit (.bool true)], args := [d1, d2, d3] }
  | _ => none }
def maglevOneRow : OpenClaim := { program := "ythhlflmjikdgcaa", sum := "c99cd6dc778675cd485d8eb1dd07feac5d769f939d0ca59460d8ca90141154a1", func := "wharfage/wharfagelaw9.MaglevOne", spec := "maglevOne", apart := false }
def MaglevOneSaid : Prop := maglevOneRow.holds Try.pinned (OpenSpec.ofChange maglevOneSpec)

/-- ITS FALSE NEIGHBOUR: 'it returns false'. Refute it at one input. -/
def maglevOneWrong : ChangeSpec := { name := "maglevOne", fn := fun _ => fun
  | [d1, d2, d3] => { results := [.lit (.bool false)], args := [d1, d2, d3] }
  | _ => none }
def MaglevOneWrongFalsely : Prop := maglevOneRow.holds Try.pinned (OpenSpec.ofChange maglevOneWrong)

/-- 'wharfagelaw9.MaglevSame': WHATEVER THE INPUT: true; the input reads as it did. -/
def maglevSameSpec : ChangeSpec := { name := "maglevSame", fn := fun _ => fun
  | [d] => { results := [.lit (.bool true)], args := [d] }
  | _ => none }
def maglevSameRow : OpenClaim := { program := "ythhlflmjikdgcaa", sum := "c99cd6dc778675cd485d8eb1dd07feac5d769f939d0ca59460d8ca90141154a1", func := "wharfage/wharfagelaw9.MaglevSame", spec := "maglevSame", apart := false }
def MaglevSameSaid : Prop := maglevSameRow.holds Try.pinned (OpenSpec.ofChange maglevSameSpec)

/-- ITS FALSE NEIGHBOUR: 'it returns false'. Refute it at one input. -/
def maglevSameWrong : ChangeSpec := { name := "maglevSame", fn := fun _ => fun
  | [d] => { results := [.lit (.bool false)], args := [d] }
  | _ => none }
def MaglevSameWrongFalsely : Prop := maglevSameRow.holds Try.pinned (OpenSpec.ofChange maglevSameWrong)

/-- 'wharfagelaw9.MaglevMore': WHATEVER THE INPUT: true; the input reads as it did. -/
def maglevMoreSpec : ChangeSpec := { name := "maglevMore", fn := fun _ => fun
  | [d1, d2, d3] => { results := [.lit (.bool true)], args := [d1, d2, d3] }
  | _ => none }
def maglevMoreRow : OpenClaim := { program := "ythhlflmjikdgcaa", sum := "c99cd6dc778675cd485d8eb1dd07feac5d769f939d0ca59460d8ca90141154a1", func := "wharfage/wharfagelaw9.MaglevMore", spec := "maglevMore", apart := false }
def MaglevMoreSaid : Prop := maglevMoreRow.holds Try.pinned (OpenSpec.ofChange maglevMoreSpec)

/-- ITS FALSE NEIGHBOUR: 'it returns false'. Refute it at one input. -/
def maglevMoreWrong : ChangeSpec := { name := "maglevMore", fn := fun _ => fun
  | [d1, d2, d3] => { results := [.lit (.bool false)], args := [d1, d2, d3] }
  | _ => none }
def MaglevMoreWrongFalsely : Prop := maglevMoreRow.holds Try.pinned (OpenSpec.ofChange maglevMoreWrong)

/- THE SECOND FORM. 'bulk': how many values and letters a reading holds, each counted each time it is reached (what is shared counts as often as it is met; a slice's spare places count too). A statement '..UptoSaid' is the law's where the arguments, and the package variables that the reading takes, are together of bulk at most 1048576: NARROWER than '..Said'. Prove '..Said' where nothing that the law and all that it calls make is longer than what came in: it says more and counts as full. Else prove '..UptoSaid'. A law counts once. -/
mutual
def uptoBulk {H : Type} : DataW H → Nat
  | .lit (.string bytes) => bytes.length + 1
  | .lit _ => 1
  | .nil => 1
  | .ptr d => uptoBulk d + 1
  | .slice elems spare => uptoBulkAll elems + uptoBulkAll spare + 1
  | .agg parts => uptoBulkAll parts + 1
  | .iface _ d => uptoBulk d + 1
  | .map entries => uptoBulkEntries entries + 1
  | .held _ => 1
def uptoBulkAll {H : Type} : List (DataW H) → Nat
  | [] => 0
  | d :: r => uptoBulk d + uptoBulkAll r
def uptoBulkEntries {H : Type} : List (Lit × DataW H) → Nat
  | [] => 0
  | x :: r => uptoBulkEntry x + uptoBulkEntries r
def uptoBulkEntry {H : Type} : Lit × DataW H → Nat
  | (.string bytes, d) => bytes.length + uptoBulk d + 1
  | (_, d) => uptoBulk d + 1
 end
def uptoSmall : (H : Type) → List (DataW H) → Bool := fun _ ds => decide (uptoBulkAll ds ≤ 1048576)
def OpenSpec.upto (s : _root_.Go.ChangeSpec) : _root_.Go.OpenSpec := { _root_.Go.OpenSpec.ofChange s with cond := some uptoSmall }

/-- 'wharfagelaw8.HashSpreads', WHERE WHAT IT READS IS OF BULK AT MOST 1048576: true; the input reads as it did. -/
def hashSpreadsUptoRow : OpenClaim := { program := "ythhlflmjikdgcaa", sum := "c99cd6dc778675cd485d8eb1dd07feac5d769f939d0ca59460d8ca90141154a1", func := "wharfage/wharfagelaw8.HashSpreads", spec := "hashSpreads", apart := false, narrowed := true }
def HashSpreadsUptoSaid : Prop := hashSpreadsUptoRow.holds Try.pinned (OpenSpec.upto hashSpreadsSpec)

/-- 'wharfagelaw9.Maglevs', WHERE WHAT IT READS IS OF BULK AT MOST 1048576: true; the input reads as it did. -/
def maglevsUptoRow : OpenClaim := { program := "ythhlflmjikdgcaa", sum := "c99cd6dc778675cd485d8eb1dd07feac5d769f939d0ca59460d8ca90141154a1", func := "wharfage/wharfagelaw9.Maglevs", spec := "maglevs", apart := false, narrowed := true }
def MaglevsUptoSaid : Prop := maglevsUptoRow.holds Try.pinned (OpenSpec.upto maglevsSpec)

/-- 'wharfagelaw9.MaglevShares', WHERE WHAT IT READS IS OF BULK AT MOST 1048576: true; the input reads as it did. -/
def maglevSharesUptoRow : OpenClaim := { program := "ythhlflmjikdgcaa", sum := "c99cd6dc778675cd485d8eb1dd07feac5d769f939d0ca59460d8ca90141154a1", func := "wharfage/wharfagelaw9.MaglevShares", spec := "maglevShares", apart := false, narrowed := true }
def MaglevSharesUptoSaid : Prop := maglevSharesUptoRow.holds Try.pinned (OpenSpec.upto maglevSharesSpec)

/-- 'wharfagelaw9.MaglevForms', WHERE WHAT IT READS IS OF BULK AT MOST 1048576: true; the input reads as it did. -/
def maglevFormsUptoRow : OpenClaim := { program := "ythhlflmjikdgcaa", sum := "c99cd6dc778675cd485d8eb1dd07feac5d769f939d0ca59460d8ca90141154a1", func := "wharfage/wharfagelaw9.MaglevForms", spec := "maglevForms", apart := false, narrowed := true }
def MaglevFormsUptoSaid : Prop := maglevFormsUptoRow.holds Try.pinned (OpenSpec.upto maglevFormsSpec)

/-- 'wharfagelaw9.MaglevPicks', WHERE WHAT IT READS IS OF BULK AT MOST 1048576: true; the input reads as it did. -/
def maglevPicksUptoRow : OpenClaim := { program := "ythhlflmjikdgcaa", sum := "c99cd6dc778675cd485d8eb1dd07feac5d769f939d0ca59460d8ca90141154a1", func := "wharfage/wharfagelaw9.MaglevPicks", spec := "maglevPicks", apart := false, narrowed := true }
def MaglevPicksUptoSaid : Prop := maglevPicksUptoRow.holds Try.pinned (OpenSpec.upto maglevPicksSpec)

/-- 'wharfagelaw9.MaglevOne', WHERE WHAT IT READS IS OF BULK AT MOST 1048576: true; the input reads as it did. -/
def maglevOneUptoRow : OpenClaim := { program := "ythhlflmjikdgcaa", sum := "c99cd6dc778675cd485d8eb1dd07feac5d769f939d0ca59460d8ca90141154a1", func := "wharfage/wharfagelaw9.MaglevOne", spec := "maglevOne", apart := false, narrowed := true }
def MaglevOneUptoSaid : Prop := maglevOneUptoRow.holds Try.pinned (OpenSpec.upto maglevOneSpec)

/-- 'wharfagelaw9.MaglevSame', WHERE WHAT IT READS IS OF BULK AT MOST 1048576: true; the input reads as it did. -/
def maglevSameUptoRow : OpenClaim := { program := "ythhlflmjikdgcaa", sum := "c99cd6dc778675cd485d8eb1dd07feac5d769f939d0ca59460d8ca90141154a1", func := "wharfage/wharfagelaw9.MaglevSame", spec := "maglevSame", apart := false, narrowed := true }
def MaglevSameUptoSaid : Prop := maglevSameUptoRow.holds Try.pinned (OpenSpec.upto maglevSameSpec)

/-- 'wharfagelaw9.MaglevMore', WHERE WHAT IT READS IS OF BULK AT MOST 1048576: true; the input reads as it did. -/
def maglevMoreUptoRow : OpenClaim := { program := "ythhlflmjikdgcaa", sum := "c99cd6dc778675cd485d8eb1dd07feac5d769f939d0ca59460d8ca90141154a1", func := "wharfage/wharfagelaw9.MaglevMore", spec := "maglevMore", apart := false, narrowed := true }
def MaglevMoreUptoSaid : Prop := maglevMoreUptoRow.holds Try.pinned (OpenSpec.upto maglevMoreSpec)

end Rows
end Go.Proofs.Ythhlflmjikdgcaa
