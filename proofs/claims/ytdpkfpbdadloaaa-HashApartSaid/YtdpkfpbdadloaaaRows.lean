/-
  No cell of these rows narrows 'for every input' (looked for: loops, veiled, ifaces, maps, wideKeys, modest, calm, conditions, laid).
  DERIVED. THE GIVEN ROWS OF THIS SEAT. 14 by the template 'for every input the law returns true; each argument reads behind the call as it read before'; 0 by the template 'total and deterministic' (their statements: YtdpkfpbdadloaaaTotals.lean).
  GIVEN WITH THE SEED: the statements are not yours to turn. If you find one false, say at which input.
  Laid BY PROGRAM, IN A SANDBOX (cutbox-rows.mjs): the forced cells as the released guide's own fill.sh prints them over the translation 3e63da6fb31d30a6… (all of the seat's roots in one cut). By AI agents, Wed Nov 11 2026. No macro, syntax, notation, axiom, sorry.
-/
import Derived.Test.YtdpkfpbdadloaaaChecked
import GoSem.Claim
import GoSem.ClaimJoined
import GoSem.ClaimMapViews
import Derived.JoinedTies
import Derived.KernelRfl
namespace Go.Proofs.Ytdpkfpbdadloaaa
/- THE CELL 'sum', in the pinned program and in every row, IS THE sha256 OF THE DUMP (.gsa) THAT YtdpkfpbdadloaaaProg.lean LOADS. Nothing in Lean hashes anything: it is a label: what it is worth is what the hold of that sum in a sandbox is worth. -/
noncomputable def Try.pinned : Pinned := { name := "ytdpkfpbdadloaaa", sum := "3e63da6fb31d30a6182a4c139a676b41943588180890cf0cf72eb269f924aeab", checked := Try.checked }
namespace Rows
def none {H : Type} : Left H := { results := [], args := [] }

/-- 'wharfagelaw0.WharfageNames': WHATEVER THE INPUT: true; the input reads as it did. -/
def wharfageNamesSpec : ChangeSpec := { name := "wharfageNames", fn := fun _ => fun
  | [] => { results := [.lit (.bool true)], args := [] }
  | _ => none }
def wharfageNamesRow : OpenClaim := { program := "ytdpkfpbdadloaaa", sum := "3e63da6fb31d30a6182a4c139a676b41943588180890cf0cf72eb269f924aeab", func := "wharfage/wharfagelaw0.WharfageNames", spec := "wharfageNames", apart := false }
def WharfageNamesSaid : Prop := wharfageNamesRow.holds Try.pinned (OpenSpec.ofChange wharfageNamesSpec)

/-- ITS FALSE NEIGHBOUR: 'it returns false'. Refute it at one input. -/
def wharfageNamesWrong : ChangeSpec := { name := "wharfageNames", fn := fun _ => fun
  | [] => { results := [.lit (.bool false)], args := [] }
  | _ => none }
def WharfageNamesWrongFalsely : Prop := wharfageNamesRow.holds Try.pinned (OpenSpec.ofChange wharfageNamesWrong)

/-- 'wharfagelaw11.Healths': WHATEVER THE INPUT: true; the input reads as it did. -/
def healthsSpec : ChangeSpec := { name := "healths", fn := fun _ => fun
  | [d1, d2] => { results := [.lit (.bool true)], args := [d1, d2] }
  | _ => none }
def healthsRow : OpenClaim := { program := "ytdpkfpbdadloaaa", sum := "3e63da6fb31d30a6182a4c139a676b41943588180890cf0cf72eb269f924aeab", func := "wharfage/wharfagelaw11.Healths", spec := "healths", apart := false }
def HealthsSaid : Prop := healthsRow.holds Try.pinned (OpenSpec.ofChange healthsSpec)

/-- ITS FALSE NEIGHBOUR: 'it returns false'. Refute it at one input. -/
def healthsWrong : ChangeSpec := { name := "healths", fn := fun _ => fun
  | [d1, d2] => { results := [.lit (.bool false)], args := [d1, d2] }
  | _ => none }
def HealthsWrongFalsely : Prop := healthsRow.holds Try.pinned (OpenSpec.ofChange healthsWrong)

/-- 'wharfagelaw11.HealthRows': WHATEVER THE INPUT: true; the input reads as it did. -/
def healthRowsSpec : ChangeSpec := { name := "healthRows", fn := fun _ => fun
  | [d] => { results := [.lit (.bool true)], args := [d] }
  | _ => none }
def healthRowsRow : OpenClaim := { program := "ytdpkfpbdadloaaa", sum := "3e63da6fb31d30a6182a4c139a676b41943588180890cf0cf72eb269f924aeab", func := "wharfage/wharfagelaw11.HealthRows", spec := "healthRows", apart := false }
def HealthRowsSaid : Prop := healthRowsRow.holds Try.pinned (OpenSpec.ofChange healthRowsSpec)

/-- ITS FALSE NEIGHBOUR: 'it returns false'. Refute it at one input. -/
def healthRowsWrong : ChangeSpec := { name := "healthRows", fn := fun _ => fun
  | [d] => { results := [.lit (.bool false)], args := [d] }
  | _ => none }
def HealthRowsWrongFalsely : Prop := healthRowsRow.holds Try.pinned (OpenSpec.ofChange healthRowsWrong)

/-- 'wharfagelaw11.HealthForms': WHATEVER THE INPUT: true; the input reads as it did. -/
def healthFormsSpec : ChangeSpec := { name := "healthForms", fn := fun _ => fun
  | [d1, d2, d3] => { results := [.lit (.bool true)], args := [d1, d2, d3] }
  | _ => none }
def healthFormsRow : OpenClaim := { program := "ytdpkfpbdadloaaa", sum := "3e63da6fb31d30a6182a4c139a676b41943588180890cf0cf72eb269f924aeab", func := "wharfage/wharfagelaw11.HealthForms", spec := "healthForms", apart := false }
def HealthFormsSaid : Prop := healthFormsRow.holds Try.pinned (OpenSpec.ofChange healthFormsSpec)

/-- ITS FALSE NEIGHBOUR: 'it returns false'. Refute it at one input. -/
def healthFormsWrong : ChangeSpec := { name := "healthForms", fn := fun _ => fun
  | [d1, d2, d3] => { results := [.lit (.bool false)], args := [d1, d2, d3] }
  | _ => none }
def HealthFormsWrongFalsely : Prop := healthFormsRow.holds Try.pinned (OpenSpec.ofChange healthFormsWrong)

/-- 'wharfagelaw11.HealthGood': WHATEVER THE INPUT: true; the input reads as it did. -/
def healthGoodSpec : ChangeSpec := { name := "healthGood", fn := fun _ => fun
  | [d1, d2] => { results := [.lit (.bool true)], args := [d1, d2] }
  | _ => none }
def healthGoodRow : OpenClaim := { program := "ytdpkfpbdadloaaa", sum := "3e63da6fb31d30a6182a4c139a676b41943588180890cf0cf72eb269f924aeab", func := "wharfage/wharfagelaw11.HealthGood", spec := "healthGood", apart := false }
def HealthGoodSaid : Prop := healthGoodRow.holds Try.pinned (OpenSpec.ofChange healthGoodSpec)

/-- ITS FALSE NEIGHBOUR: 'it returns false'. Refute it at one input. -/
def healthGoodWrong : ChangeSpec := { name := "healthGood", fn := fun _ => fun
  | [d1, d2] => { results := [.lit (.bool false)], args := [d1, d2] }
  | _ => none }
def HealthGoodWrongFalsely : Prop := healthGoodRow.holds Try.pinned (OpenSpec.ofChange healthGoodWrong)

/-- 'wharfagelaw11.HealthFlaps': WHATEVER THE INPUT: true; the input reads as it did. -/
def healthFlapsSpec : ChangeSpec := { name := "healthFlaps", fn := fun _ => fun
  | [d1, d2] => { results := [.lit (.bool true)], args := [d1, d2] }
  | _ => none }
def healthFlapsRow : OpenClaim := { program := "ytdpkfpbdadloaaa", sum := "3e63da6fb31d30a6182a4c139a676b41943588180890cf0cf72eb269f924aeab", func := "wharfage/wharfagelaw11.HealthFlaps", spec := "healthFlaps", apart := false }
def HealthFlapsSaid : Prop := healthFlapsRow.holds Try.pinned (OpenSpec.ofChange healthFlapsSpec)

/-- ITS FALSE NEIGHBOUR: 'it returns false'. Refute it at one input. -/
def healthFlapsWrong : ChangeSpec := { name := "healthFlaps", fn := fun _ => fun
  | [d1, d2] => { results := [.lit (.bool false)], args := [d1, d2] }
  | _ => none }
def HealthFlapsWrongFalsely : Prop := healthFlapsRow.holds Try.pinned (OpenSpec.ofChange healthFlapsWrong)

/-- 'wharfagelaw5.Addrs': WHATEVER THE INPUT: true; the input reads as it did. -/
def addrsSpec : ChangeSpec := { name := "addrs", fn := fun _ => fun
  | [d1, d2, d3, d4] => { results := [.lit (.bool true)], args := [d1, d2, d3, d4] }
  | _ => none }
def addrsRow : OpenClaim := { program := "ytdpkfpbdadloaaa", sum := "3e63da6fb31d30a6182a4c139a676b41943588180890cf0cf72eb269f924aeab", func := "wharfage/wharfagelaw5.Addrs", spec := "addrs", apart := false }
def AddrsSaid : Prop := addrsRow.holds Try.pinned (OpenSpec.ofChange addrsSpec)

/-- ITS FALSE NEIGHBOUR: 'it returns false'. Refute it at one input. -/
def addrsWrong : ChangeSpec := { name := "addrs", fn := fun _ => fun
  | [d1, d2, d3, d4] => { results := [.lit (.bool false)], args := [d1, d2, d3, d4] }
  | _ => none }
def AddrsWrongFalsely : Prop := addrsRow.holds Try.pinned (OpenSpec.ofChange addrsWrong)

/-- 'wharfagelaw5.AddrBack': WHATEVER THE INPUT: true; the input reads as it did. -/
def addrBackSpec : ChangeSpec := { name := "addrBack", fn := fun _ => fun
  | [d1, d2, d3] => { results := [.lit (.bool true)], args := [d1, d2, d3] }
  | _ => none }
def addrBackRow : OpenClaim := { program := "ytdpkfpbdadloaaa", sum := "3e63da6fb31d30a6182a4c139a676b41943588180890cf0cf72eb269f924aeab", func := "wharfage/wharfagelaw5.AddrBack", spec := "addrBack", apart := false }
def AddrBackSaid : Prop := addrBackRow.holds Try.pinned (OpenSpec.ofChange addrBackSpec)

/-- ITS FALSE NEIGHBOUR: 'it returns false'. Refute it at one input. -/
def addrBackWrong : ChangeSpec := { name := "addrBack", fn := fun _ => fun
  | [d1, d2, d3] => { results := [.lit (.bool false)], args := [d1, d2, d3] }
  | _ => none }
def AddrBackWrongFalsely : Prop := addrBackRow.holds Try.pinned (OpenSpec.ofChange addrBackWrong)

/-- 'wharfagelaw5.AddrNone': WHATEVER THE INPUT: true; the input reads as it did. -/
def addrNoneSpec : ChangeSpec := { name := "addrNone", fn := fun _ => fun
  | [d1, d2] => { results := [.lit (.bool true)], args := [d1, d2] }
  | _ => none }
def addrNoneRow : OpenClaim := { program := "ytdpkfpbdadloaaa", sum := "3e63da6fb31d30a6182a4c139a676b41943588180890cf0cf72eb269f924aeab", func := "wharfage/wharfagelaw5.AddrNone", spec := "addrNone", apart := false }
def AddrNoneSaid : Prop := addrNoneRow.holds Try.pinned (OpenSpec.ofChange addrNoneSpec)

/-- ITS FALSE NEIGHBOUR: 'it returns false'. Refute it at one input. -/
def addrNoneWrong : ChangeSpec := { name := "addrNone", fn := fun _ => fun
  | [d1, d2] => { results := [.lit (.bool false)], args := [d1, d2] }
  | _ => none }
def AddrNoneWrongFalsely : Prop := addrNoneRow.holds Try.pinned (OpenSpec.ofChange addrNoneWrong)

/-- 'wharfagelaw8.Hashes': WHATEVER THE INPUT: true; the input reads as it did. -/
def hashesSpec : ChangeSpec := { name := "hashes", fn := fun _ => fun
  | [d1, d2, d3] => { results := [.lit (.bool true)], args := [d1, d2, d3] }
  | _ => none }
def hashesRow : OpenClaim := { program := "ytdpkfpbdadloaaa", sum := "3e63da6fb31d30a6182a4c139a676b41943588180890cf0cf72eb269f924aeab", func := "wharfage/wharfagelaw8.Hashes", spec := "hashes", apart := false }
def HashesSaid : Prop := hashesRow.holds Try.pinned (OpenSpec.ofChange hashesSpec)

/-- ITS FALSE NEIGHBOUR: 'it returns false'. Refute it at one input. -/
def hashesWrong : ChangeSpec := { name := "hashes", fn := fun _ => fun
  | [d1, d2, d3] => { results := [.lit (.bool false)], args := [d1, d2, d3] }
  | _ => none }
def HashesWrongFalsely : Prop := hashesRow.holds Try.pinned (OpenSpec.ofChange hashesWrong)

/-- 'wharfagelaw8.HashOne': WHATEVER THE INPUT: true; the input reads as it did. -/
def hashOneSpec : ChangeSpec := { name := "hashOne", fn := fun _ => fun
  | [d1, d2, d3] => { results := [.lit (.bool true)], args := [d1, d2, d3] }
  | _ => none }
def hashOneRow : OpenClaim := { program := "ytdpkfpbdadloaaa", sum := "3e63da6fb31d30a6182a4c139a676b41943588180890cf0cf72eb269f924aeab", func := "wharfage/wharfagelaw8.HashOne", spec := "hashOne", apart := false }
def HashOneSaid : Prop := hashOneRow.holds Try.pinned (OpenSpec.ofChange hashOneSpec)

/-- ITS FALSE NEIGHBOUR: 'it returns false'. Refute it at one input. -/
def hashOneWrong : ChangeSpec := { name := "hashOne", fn := fun _ => fun
  | [d1, d2, d3] => { results := [.lit (.bool false)], args := [d1, d2, d3] }
  | _ => none }
def HashOneWrongFalsely : Prop := hashOneRow.holds Try.pinned (OpenSpec.ofChange hashOneWrong)

/-- 'wharfagelaw8.HashForms': WHATEVER THE INPUT: true; the input reads as it did. -/
def hashFormsSpec : ChangeSpec := { name := "hashForms", fn := fun _ => fun
  | [d] => { results := [.lit (.bool true)], args := [d] }
  | _ => none }
def hashFormsRow : OpenClaim := { program := "ytdpkfpbdadloaaa", sum := "3e63da6fb31d30a6182a4c139a676b41943588180890cf0cf72eb269f924aeab", func := "wharfage/wharfagelaw8.HashForms", spec := "hashForms", apart := false }
def HashFormsSaid : Prop := hashFormsRow.holds Try.pinned (OpenSpec.ofChange hashFormsSpec)

/-- ITS FALSE NEIGHBOUR: 'it returns false'. Refute it at one input. -/
def hashFormsWrong : ChangeSpec := { name := "hashForms", fn := fun _ => fun
  | [d] => { results := [.lit (.bool false)], args := [d] }
  | _ => none }
def HashFormsWrongFalsely : Prop := hashFormsRow.holds Try.pinned (OpenSpec.ofChange hashFormsWrong)

/-- 'wharfagelaw8.HashApart': WHATEVER THE INPUT: true; the input reads as it did. -/
def hashApartSpec : ChangeSpec := { name := "hashApart", fn := fun _ => fun
  | [d1, d2, d3] => { results := [.lit (.bool true)], args := [d1, d2, d3] }
  | _ => none }
def hashApartRow : OpenClaim := { program := "ytdpkfpbdadloaaa", sum := "3e63da6fb31d30a6182a4c139a676b41943588180890cf0cf72eb269f924aeab", func := "wharfage/wharfagelaw8.HashApart", spec := "hashApart", apart := false }
def HashApartSaid : Prop := hashApartRow.holds Try.pinned (OpenSpec.ofChange hashApartSpec)

/-- ITS FALSE NEIGHBOUR: 'it returns false'. Refute it at one input. -/
def hashApartWrong : ChangeSpec := { name := "hashApart", fn := fun _ => fun
  | [d1, d2, d3] => { results := [.lit (.bool false)], args := [d1, d2, d3] }
  | _ => none }
def HashApartWrongFalsely : Prop := hashApartRow.holds Try.pinned (OpenSpec.ofChange hashApartWrong)

/-- 'wharfagelaw8.HashSpreads': WHATEVER THE INPUT: true; the input reads as it did. -/
def hashSpreadsSpec : ChangeSpec := { name := "hashSpreads", fn := fun _ => fun
  | [d1, d2] => { results := [.lit (.bool true)], args := [d1, d2] }
  | _ => none }
def hashSpreadsRow : OpenClaim := { program := "ytdpkfpbdadloaaa", sum := "3e63da6fb31d30a6182a4c139a676b41943588180890cf0cf72eb269f924aeab", func := "wharfage/wharfagelaw8.HashSpreads", spec := "hashSpreads", apart := false }
def HashSpreadsSaid : Prop := hashSpreadsRow.holds Try.pinned (OpenSpec.ofChange hashSpreadsSpec)

/-- ITS FALSE NEIGHBOUR: 'it returns false'. Refute it at one input. -/
def hashSpreadsWrong : ChangeSpec := { name := "hashSpreads", fn := fun _ => fun
  | [d1, d2] => { results := [.lit (.bool false)], args := [d1, d2] }
  | _ => none }
def HashSpreadsWrongFalsely : Prop := hashSpreadsRow.holds Try.pinned (OpenSpec.ofChange hashSpreadsWrong)

/- THE SECOND FORM. 'bulk': how many values and letters a reading holds, each counted each time it is reached (what is shared counts as often as it is met; a slice's spare places count too). A statement '..UptoSaid' is the law's where the arguments, and the package variables that the reading takes, are together of bulk at most 1048576: NARROWER than '..Said'. Prove '..Said' where nothing that the law and all that it calls make is longer than what came in: it says more and counts as full. Else prove '..UptoSaid'. A law counts once. -/
mutual
def uptoBulk {H : Type} : DataW H → Nat
  | .lit (.string bytes) => bytes.length + 1
  | .lit _ => 1
  | .nil => 1
  | .ptr d => uptoBulk d + 1
  | .slice elems spare => uptoBulkAll elems + uptoBulkAll spare + 1
  | .agg parts => uptoBulkAll parts + 1
  | .iface _ d => uptoBulk d + 1
  | .map entries => uptoBulkEntries entries + 1
  | .held _ => 1
def uptoBulkAll {H : Type} : List (DataW H) → Nat
  | [] => 0
  | d :: r => uptoBulk d + uptoBulkAll r
def uptoBulkEntries {H : Type} : List (Lit × DataW H) → Nat
  | [] => 0
  | x :: r => uptoBulkEntry x + uptoBulkEntries r
def uptoBulkEntry {H : Type} : Lit × DataW H → Nat
  | (.string bytes, d) => bytes.length + uptoBulk d + 1
  | (_, d) => uptoBulk d + 1
 end
def uptoSmall : (H : Type) → List (DataW H) → Bool := fun _ ds => decide (uptoBulkAll ds ≤ 1048576)
def OpenSpec.upto (s : _root_.Go.ChangeSpec) : _root_.Go.OpenSpec := { _root_.Go.OpenSpec.ofChange s with cond := some uptoSmall }

/-- 'wharfagelaw0.WharfageNames', WHERE WHAT IT READS IS OF BULK AT MOST 1048576: true; the input reads as it did. -/
def wharfageNamesUptoRow : OpenClaim := { program := "ytdpkfpbdadloaaa", sum := "3e63da6fb31d30a6182a4c139a676b41943588180890cf0cf72eb269f924aeab", func := "wharfage/wharfagelaw0.WharfageNames", spec := "wharfageNames", apart := false, narrowed := true }
def WharfageNamesUptoSaid : Prop := wharfageNamesUptoRow.holds Try.pinned (OpenSpec.upto wharfageNamesSpec)

/-- 'wharfagelaw11.Healths', WHERE WHAT IT READS IS OF BULK AT MOST 1048576: true; the input reads as it did. -/
def healthsUptoRow : OpenClaim := { program := "ytdpkfpbdadloaaa", sum := "3e63da6fb31d30a6182a4c139a676b41943588180890cf0cf72eb269f924aeab", func := "wharfage/wharfagelaw11.Healths", spec := "healths", apart := false, narrowed := true }
def HealthsUptoSaid : Prop := healthsUptoRow.holds Try.pinned (OpenSpec.upto healthsSpec)

/-- 'wharfagelaw11.HealthRows', WHERE WHAT IT READS IS OF BULK AT MOST 1048576: true; the input reads as it did. -/
def healthRowsUptoRow : OpenClaim := { program := "ytdpkfpbdadloaaa", sum := "3e63da6fb31d30a6182a4c139a676b41943588180890cf0cf72eb269f924aeab", func := "wharfage/wharfagelaw11.HealthRows", spec := "healthRows", apart := false, narrowed := true }
def HealthRowsUptoSaid : Prop := healthRowsUptoRow.holds Try.pinned (OpenSpec.upto healthRowsSpec)

/-- 'wharfagelaw11.HealthForms', WHERE WHAT IT READS IS OF BULK AT MOST 1048576: true; the input reads as it did. -/
def healthFormsUptoRow : OpenClaim := { program := "ytdpkfpbdadloaaa", sum := "3e63da6fb31d30a6182a4c139a676b41943588180890cf0cf72eb269f924aeab", func := "wharfage/wharfagelaw11.HealthForms", spec := "healthForms", apart := false, narrowed := true }
def HealthFormsUptoSaid : Prop := healthFormsUptoRow.holds Try.pinned (OpenSpec.upto healthFormsSpec)

/-- 'wharfagelaw11.HealthGood', WHERE WHAT IT READS IS OF BULK AT MOST 1048576: true; the input reads as it did. -/
def healthGoodUptoRow : OpenClaim := { program := "ytdpkfpbdadloaaa", sum := "3e63da6fb31d30a6182a4c139a676b41943588180890cf0cf72eb269f924aeab", func := "wharfage/wharfagelaw11.HealthGood", spec := "healthGood", apart := false, narrowed := true }
def HealthGoodUptoSaid : Prop := healthGoodUptoRow.holds Try.pinned (OpenSpec.upto healthGoodSpec)

/-- 'wharfagelaw11.HealthFlaps', WHERE WHAT IT READS IS OF BULK AT MOST 1048576: true; the input reads as it did. -/
def healthFlapsUptoRow : OpenClaim := { program := "ytdpkfpbdadloaaa", sum := "3e63da6fb31d30a6182a4c139a676b41943588180890cf0cf72eb269f924aeab", func := "wharfage/wharfagelaw11.HealthFlaps", spec := "healthFlaps", apart := false, narrowed := true }
def HealthFlapsUptoSaid : Prop := healthFlapsUptoRow.holds Try.pinned (OpenSpec.upto healthFlapsSpec)

/-- 'wharfagelaw5.Addrs', WHERE WHAT IT READS IS OF BULK AT MOST 1048576: true; the input reads as it did. -/
def addrsUptoRow : OpenClaim := { program := "ytdpkfpbdadloaaa", sum := "3e63da6fb31d30a6182a4c139a676b41943588180890cf0cf72eb269f924aeab", func := "wharfage/wharfagelaw5.Addrs", spec := "addrs", apart := false, narrowed := true }
def AddrsUptoSaid : Prop := addrsUptoRow.holds Try.pinned (OpenSpec.upto addrsSpec)

/-- 'wharfagelaw5.AddrBack', WHERE WHAT IT READS IS OF BULK AT MOST 1048576: true; the input reads as it did. -/
def addrBackUptoRow : OpenClaim := { program := "ytdpkfpbdadloaaa", sum := "3e63da6fb31d30a6182a4c139a676b41943588180890cf0cf72eb269f924aeab", func := "wharfage/wharfagelaw5.AddrBack", spec := "addrBack", apart := false, narrowed := true }
def AddrBackUptoSaid : Prop := addrBackUptoRow.holds Try.pinned (OpenSpec.upto addrBackSpec)

/-- 'wharfagelaw5.AddrNone', WHERE WHAT IT READS IS OF BULK AT MOST 1048576: true; the input reads as it did. -/
def addrNoneUptoRow : OpenClaim := { program := "ytdpkfpbdadloaaa", sum := "3e63da6fb31d30a6182a4c139a676b41943588180890cf0cf72eb269f924aeab", func := "wharfage/wharfagelaw5.AddrNone", spec := "addrNone", apart := false, narrowed := true }
def AddrNoneUptoSaid : Prop := addrNoneUptoRow.holds Try.pinned (OpenSpec.upto addrNoneSpec)

/-- 'wharfagelaw8.Hashes', WHERE WHAT IT READS IS OF BULK AT MOST 1048576: true; the input reads as it did. -/
def hashesUptoRow : OpenClaim := { program := "ytdpkfpbdadloaaa", sum := "3e63da6fb31d30a6182a4c139a676b41943588180890cf0cf72eb269f924aeab", func := "wharfage/wharfagelaw8.Hashes", spec := "hashes", apart := false, narrowed := true }
def HashesUptoSaid : Prop := hashesUptoRow.holds Try.pinned (OpenSpec.upto hashesSpec)

/-- 'wharfagelaw8.HashOne', WHERE WHAT IT READS IS OF BULK AT MOST 1048576: true; the input reads as it did. -/
def hashOneUptoRow : OpenClaim := { program := "ytdpkfpbdadloaaa", sum := "3e63da6fb31d30a6182a4c139a676b41943588180890cf0cf72eb269f924aeab", func := "wharfage/wharfagelaw8.HashOne", spec := "hashOne", apart := false, narrowed := true }
def HashOneUptoSaid : Prop := hashOneUptoRow.holds Try.pinned (OpenSpec.upto hashOneSpec)

/-- 'wharfagelaw8.HashForms', WHERE WHAT IT READS IS OF BULK AT MOST 1048576: true; the input reads as it did. -/
def hashFormsUptoRow : OpenClaim := { program := "ytdpkfpbdadloaaa", sum := "3e63da6fb31d30a6182a4c139a676b41943588180890cf0cf72eb269f924aeab", func := "wharfage/wharfagelaw8.HashForms", spec := "hashForms", apart := false, narrowed := true }
def HashFormsUptoSaid : Prop := hashFormsUptoRow.holds Try.pinned (OpenSpec.upto hashFormsSpec)

/-- 'wharfagelaw8.HashApart', WHERE WHAT IT READS IS OF BULK AT MOST 1048576: true; the input reads as it did. -/
def hashApartUptoRow : OpenClaim := { program := "ytdpkfpbdadloaaa", sum := "3e63da6fb31d30a6182a4c139a676b41943588180890cf0cf72eb269f924aeab", func := "wharfage/wharfagelaw8.HashApart", spec := "hashApart", apart := false, narrowed := true }
def HashApartUptoSaid : Prop := hashApartUptoRow.holds Try.pinned (OpenSpec.upto hashApartSpec)

/-- 'wharfagelaw8.HashSpreads', WHERE WHAT IT READS IS OF BULK AT MOST 1048576: true; the input reads as it did. -/
def hashSpreadsUptoRow : OpenClaim := { program := "ytdpkfpbdadloaaa", sum := "3e63da6fb31d30a6182a4c139a676b41943588180890cf0cf72eb269f924aeab", func := "wharfage/wharfagelaw8.HashSpreads", spec := "hashSpreads", apart := false, narrowed := true }
def HashSpreadsUptoSaid : Prop := hashSpreadsUptoRow.holds Try.pinned (OpenSpec.upto hashSpreadsSpec)

end Rows
end Go.Proofs.Ytdpkfpbdadloaaa
