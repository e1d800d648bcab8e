/-
  No cell of these rows narrows 'for every input' (looked for: loops, veiled, ifaces, maps, wideKeys, modest, calm, conditions, laid).
  DERIVED. THE GIVEN ROWS OF THIS SEAT. 14 by the template 'for every input the law returns true; each argument reads behind the call as it read before'; 0 by the template 'total and deterministic' (their statements: YtnhbieicjlnakaaTotals.lean).
  GIVEN WITH THE SEED: the statements are not yours to turn. If you find one false, say at which input.
  Laid BY PROGRAM, IN A SANDBOX (cutbox-rows.mjs): the forced cells as the released guide's own fill.sh prints them over the translation 90f75aef847042ee… (all of the seat's roots in one cut). By AI agents, Wed Nov 11 2026. No macro, syntax, notation, axiom, sorry.
-/
import Derived.Test.YtnhbieicjlnakaaChecked
import GoSem.Claim
import GoSem.ClaimJoined
import GoSem.ClaimMapViews
import Derived.JoinedTies
import Derived.KernelRfl
namespace Go.Proofs.Ytnhbieicjlnakaa
/- THE CELL 'sum', in the pinned program and in every row, IS THE sha256 OF THE DUMP (.gsa) THAT YtnhbieicjlnakaaProg.lean LOADS. Nothing in Lean hashes anything: it is a label: what it is worth is what the hold of that sum in a sandbox is worth. -/
noncomputable def Try.pinned : Pinned := { name := "ytnhbieicjlnakaa", sum := "90f75aef847042ee8d63084fdb552074e17988e3e08860b48f8c5ce2fdf61ff1", checked := Try.checked }
namespace Rows
def none {H : Type} : Left H := { results := [], args := [] }

/-- 'wharfagelaw2.Ips': WHATEVER THE INPUT: true; the input reads as it did. -/
def ipsSpec : ChangeSpec := { name := "ips", fn := fun _ => fun
  | [d1, d2] => { results := [.lit (.bool true)], args := [d1, d2] }
  | _ => none }
def ipsRow : OpenClaim := { program := "ytnhbieicjlnakaa", sum := "90f75aef847042ee8d63084fdb552074e17988e3e08860b48f8c5ce2fdf61ff1", func := "wharfage/wharfagelaw2.Ips", spec := "ips", apart := false }
def IpsSaid : Prop := ipsRow.holds Try.pinned (OpenSpec.ofChange ipsSpec)

/-- ITS FALSE NEIGHBOUR: 'it returns false'. Refute it at one input. -/
def ipsWrong : ChangeSpec := { name := "ips", fn := fun _ => fun
  | [d1, d2] => { results := [.lit (.bool false)], args := [d1, d2] }
  | _ => none }
def IpsWrongFalsely : Prop := ipsRow.holds Try.pinned (OpenSpec.ofChange ipsWrong)

/-- 'wharfagelaw2.IpBack': WHATEVER THE INPUT: true; the input reads as it did. -/
def ipBackSpec : ChangeSpec := { name := "ipBack", fn := fun _ => fun
  | [d1, d2, d3] => { results := [.lit (.bool true)], args := [d1, d2, d3] }
  | _ => none }
def ipBackRow : OpenClaim := { program := "ytnhbieicjlnakaa", sum := "90f75aef847042ee8d63084fdb552074e17988e3e08860b48f8c5ce2fdf61ff1", func := "wharfage/wharfagelaw2.IpBack", spec := "ipBack", apart := false }
def IpBackSaid : Prop := ipBackRow.holds Try.pinned (OpenSpec.ofChange ipBackSpec)

/-- ITS FALSE NEIGHBOUR: 'it returns false'. Refute it at one input. -/
def ipBackWrong : ChangeSpec := { name := "ipBack", fn := fun _ => fun
  | [d1, d2, d3] => { results := [.lit (.bool false)], args := [d1, d2, d3] }
  | _ => none }
def IpBackWrongFalsely : Prop := ipBackRow.holds Try.pinned (OpenSpec.ofChange ipBackWrong)

/-- 'wharfagelaw2.IpForms': WHATEVER THE INPUT: true; the input reads as it did. -/
def ipFormsSpec : ChangeSpec := { name := "ipForms", fn := fun _ => fun
  | [d1, d2] => { results := [.lit (.bool true)], args := [d1, d2] }
  | _ => none }
def ipFormsRow : OpenClaim := { program := "ytnhbieicjlnakaa", sum := "90f75aef847042ee8d63084fdb552074e17988e3e08860b48f8c5ce2fdf61ff1", func := "wharfage/wharfagelaw2.IpForms", spec := "ipForms", apart := false }
def IpFormsSaid : Prop := ipFormsRow.holds Try.pinned (OpenSpec.ofChange ipFormsSpec)

/-- ITS FALSE NEIGHBOUR: 'it returns false'. Refute it at one input. -/
def ipFormsWrong : ChangeSpec := { name := "ipForms", fn := fun _ => fun
  | [d1, d2] => { results := [.lit (.bool false)], args := [d1, d2] }
  | _ => none }
def IpFormsWrongFalsely : Prop := ipFormsRow.holds Try.pinned (OpenSpec.ofChange ipFormsWrong)

/-- 'wharfagelaw2.IpClasses': WHATEVER THE INPUT: true; the input reads as it did. -/
def ipClassesSpec : ChangeSpec := { name := "ipClasses", fn := fun _ => fun
  | [d1, d2] => { results := [.lit (.bool true)], args := [d1, d2] }
  | _ => none }
def ipClassesRow : OpenClaim := { program := "ytnhbieicjlnakaa", sum := "90f75aef847042ee8d63084fdb552074e17988e3e08860b48f8c5ce2fdf61ff1", func := "wharfage/wharfagelaw2.IpClasses", spec := "ipClasses", apart := false }
def IpClassesSaid : Prop := ipClassesRow.holds Try.pinned (OpenSpec.ofChange ipClassesSpec)

/-- ITS FALSE NEIGHBOUR: 'it returns false'. Refute it at one input. -/
def ipClassesWrong : ChangeSpec := { name := "ipClasses", fn := fun _ => fun
  | [d1, d2] => { results := [.lit (.bool false)], args := [d1, d2] }
  | _ => none }
def IpClassesWrongFalsely : Prop := ipClassesRow.holds Try.pinned (OpenSpec.ofChange ipClassesWrong)

/-- 'wharfagelaw2.IpHeads': WHATEVER THE INPUT: true; the input reads as it did. -/
def ipHeadsSpec : ChangeSpec := { name := "ipHeads", fn := fun _ => fun
  | [d] => { results := [.lit (.bool true)], args := [d] }
  | _ => none }
def ipHeadsRow : OpenClaim := { program := "ytnhbieicjlnakaa", sum := "90f75aef847042ee8d63084fdb552074e17988e3e08860b48f8c5ce2fdf61ff1", func := "wharfage/wharfagelaw2.IpHeads", spec := "ipHeads", apart := false }
def IpHeadsSaid : Prop := ipHeadsRow.holds Try.pinned (OpenSpec.ofChange ipHeadsSpec)

/-- ITS FALSE NEIGHBOUR: 'it returns false'. Refute it at one input. -/
def ipHeadsWrong : ChangeSpec := { name := "ipHeads", fn := fun _ => fun
  | [d] => { results := [.lit (.bool false)], args := [d] }
  | _ => none }
def IpHeadsWrongFalsely : Prop := ipHeadsRow.holds Try.pinned (OpenSpec.ofChange ipHeadsWrong)

/-- 'wharfagelaw2.IpUnlike': WHATEVER THE INPUT: true; the input reads as it did. -/
def ipUnlikeSpec : ChangeSpec := { name := "ipUnlike", fn := fun _ => fun
  | [d1, d2] => { results := [.lit (.bool true)], args := [d1, d2] }
  | _ => none }
def ipUnlikeRow : OpenClaim := { program := "ytnhbieicjlnakaa", sum := "90f75aef847042ee8d63084fdb552074e17988e3e08860b48f8c5ce2fdf61ff1", func := "wharfage/wharfagelaw2.IpUnlike", spec := "ipUnlike", apart := false }
def IpUnlikeSaid : Prop := ipUnlikeRow.holds Try.pinned (OpenSpec.ofChange ipUnlikeSpec)

/-- ITS FALSE NEIGHBOUR: 'it returns false'. Refute it at one input. -/
def ipUnlikeWrong : ChangeSpec := { name := "ipUnlike", fn := fun _ => fun
  | [d1, d2] => { results := [.lit (.bool false)], args := [d1, d2] }
  | _ => none }
def IpUnlikeWrongFalsely : Prop := ipUnlikeRow.holds Try.pinned (OpenSpec.ofChange ipUnlikeWrong)

/-- 'wharfagelaw2.IpCut': WHATEVER THE INPUT: true; the input reads as it did. -/
def ipCutSpec : ChangeSpec := { name := "ipCut", fn := fun _ => fun
  | [d1, d2, d3] => { results := [.lit (.bool true)], args := [d1, d2, d3] }
  | _ => none }
def ipCutRow : OpenClaim := { program := "ytnhbieicjlnakaa", sum := "90f75aef847042ee8d63084fdb552074e17988e3e08860b48f8c5ce2fdf61ff1", func := "wharfage/wharfagelaw2.IpCut", spec := "ipCut", apart := false }
def IpCutSaid : Prop := ipCutRow.holds Try.pinned (OpenSpec.ofChange ipCutSpec)

/-- ITS FALSE NEIGHBOUR: 'it returns false'. Refute it at one input. -/
def ipCutWrong : ChangeSpec := { name := "ipCut", fn := fun _ => fun
  | [d1, d2, d3] => { results := [.lit (.bool false)], args := [d1, d2, d3] }
  | _ => none }
def IpCutWrongFalsely : Prop := ipCutRow.holds Try.pinned (OpenSpec.ofChange ipCutWrong)

/-- 'wharfagelaw9.Maglevs': WHATEVER THE INPUT: true; the input reads as it did. -/
def maglevsSpec : ChangeSpec := { name := "maglevs", fn := fun _ => fun
  | [d1, d2] => { results := [.lit (.bool true)], args := [d1, d2] }
  | _ => none }
def maglevsRow : OpenClaim := { program := "ytnhbieicjlnakaa", sum := "90f75aef847042ee8d63084fdb552074e17988e3e08860b48f8c5ce2fdf61ff1", func := "wharfage/wharfagelaw9.Maglevs", spec := "maglevs", apart := false }
def MaglevsSaid : Prop := maglevsRow.holds Try.pinned (OpenSpec.ofChange maglevsSpec)

/-- ITS FALSE NEIGHBOUR: 'it returns false'. Refute it at one input. -/
def maglevsWrong : ChangeSpec := { name := "maglevs", fn := fun _ => fun
  | [d1, d2] => { results := [.lit (.bool false)], args := [d1, d2] }
  | _ => none }
def MaglevsWrongFalsely : Prop := maglevsRow.holds Try.pinned (OpenSpec.ofChange maglevsWrong)

/-- 'wharfagelaw9.MaglevShares': WHATEVER THE INPUT: true; the input reads as it did. -/
def maglevSharesSpec : ChangeSpec := { name := "maglevShares", fn := fun _ => fun
  | [d] => { results := [.lit (.bool true)], args := [d] }
  | _ => none }
def maglevSharesRow : OpenClaim := { program := "ytnhbieicjlnakaa", sum := "90f75aef847042ee8d63084fdb552074e17988e3e08860b48f8c5ce2fdf61ff1", func := "wharfage/wharfagelaw9.MaglevShares", spec := "maglevShares", apart := false }
def MaglevSharesSaid : Prop := maglevSharesRow.holds Try.pinned (OpenSpec.ofChange maglevSharesSpec)

/-- ITS FALSE NEIGHBOUR: 'it returns false'. Refute it at one input. -/
def maglevSharesWrong : ChangeSpec := { name := "maglevShares", fn := fun _ => fun
  | [d] => { results := [.lit (.bool false)], args := [d] }
  | _ => none }
def MaglevSharesWrongFalsely : Prop := maglevSharesRow.holds Try.pinned (OpenSpec.ofChange maglevSharesWrong)

/-- 'wharfagelaw9.MaglevForms': WHATEVER THE INPUT: true; the input reads as it did. -/
def maglevFormsSpec : ChangeSpec := { name := "maglevForms", fn := fun _ => fun
  | [d1, d2] => { results := [.lit (.bool true)], args := [d1, d2] }
  | _ => none }
def maglevFormsRow : OpenClaim := { program := "ytnhbieicjlnakaa", sum := "90f75aef847042ee8d63084fdb552074e17988e3e08860b48f8c5ce2fdf61ff1", func := "wharfage/wharfagelaw9.MaglevForms", spec := "maglevForms", apart := false }
def MaglevFormsSaid : Prop := maglevFormsRow.holds Try.pinned (OpenSpec.ofChange maglevFormsSpec)

/-- ITS FALSE NEIGHBOUR: 'it returns false'. Refute it at one input. -/
def maglevFormsWrong : ChangeSpec := { name := "maglevForms", fn := fun _ => fun
  | [d1, d2] => { results := [.lit (.bool false)], args := [d1, d2] }
  | _ => none }
def MaglevFormsWrongFalsely : Prop := maglevFormsRow.holds Try.pinned (OpenSpec.ofChange maglevFormsWrong)

/-- 'wharfagelaw9.MaglevPicks': WHATEVER THE INPUT: true; the input reads as it did. -/
def maglevPicksSpec : ChangeSpec := { name := "maglevPicks", fn := fun _ => fun
  | [d1, d2, d3] => { results := [.lit (.bool true)], args := [d1, d2, d3] }
  | _ => none }
def maglevPicksRow : OpenClaim := { program := "ytnhbieicjlnakaa", sum := "90f75aef847042ee8d63084fdb552074e17988e3e08860b48f8c5ce2fdf61ff1", func := "wharfage/wharfagelaw9.MaglevPicks", spec := "maglevPicks", apart := false }
def MaglevPicksSaid : Prop := maglevPicksRow.holds Try.pinned (OpenSpec.ofChange maglevPicksSpec)

/-- ITS FALSE NEIGHBOUR: 'it returns false'. Refute it at one input. -/
def maglevPicksWrong : ChangeSpec := { name := "maglevPicks", fn := fun _ => fun
  | [d1, d2, d3] => { results := [.lit (.bool false)], args := [d1, d2, d3] }
  | _ => none }
def MaglevPicksWrongFalsely : Prop := maglevPicksRow.holds Try.pinned (OpenSpec.ofChange maglevPicksWrong)

/-- 'wharfagelaw9.MaglevOne': WHATEVER THE INPUT: true; the input reads as it did. -/
def maglevOneSpec : ChangeSpec := { name := "maglevOne", fn := fun _ => fun
  | [d1, d2, d3] => { results := [.lit (.bool true)], args := [d1, d2, d3] }
  | _ => none }
def maglevOneRow : OpenClaim := { program := "ytnhbieicjlnakaa", sum := "90f75aef847042ee8d63084fdb552074e17988e3e08860b48f8c5ce2fdf61ff1", func := "wharfage/wharfagelaw9.MaglevOne", spec := "maglevOne", apart := false }
def MaglevOneSaid : Prop := maglevOneRow.holds Try.pinned (OpenSpec.ofChange maglevOneSpec)

/-- ITS FALSE NEIGHBOUR: 'it returns false'. Refute it at one input. -/
def maglevOneWrong : ChangeSpec := { name := "maglevOne", fn := fun _ => fun
  | [d1, d2, d3] => { results := [.lit (.bool false)], args := [d1, d2, d3] }
  | _ => none }
def MaglevOneWrongFalsely : Prop := maglevOneRow.holds Try.pinned (OpenSpec.ofChange maglevOneWrong)

/-- 'wharfagelaw9.MaglevSame': WHATEVER THE INPUT: true; the input reads as it did. -/
def maglevSameSpec : ChangeSpec := { name := "maglevSame", fn := fun _ => fun
  | [d] => { results := [.lit (.bool true)], args := [d] }
  | _ => none }
def maglevSameRow : OpenClaim := { program := "ytnhbieicjlnakaa", sum := "90f75aef847042ee8d63084fdb552074e17988e3e08860b48f8c5ce2fdf61ff1", func := "wharfage/wharfagelaw9.MaglevSame", spec := "maglevSame", apart := false }
def MaglevSameSaid : Prop := maglevSameRow.holds Try.pinned (OpenSpec.ofChange maglevSameSpec)

/-- ITS FALSE NEIGHBOUR: 'it returns false'. Refute it at one input. -/
def maglevSameWrong : ChangeSpec := { name := "maglevSame", fn := fun _ => fun
  | [d] => { results := [.lit (.bool false)], args := [d] }
  | _ => none }
def MaglevSameWrongFalsely : Prop := maglevSameRow.holds Try.pinned (OpenSpec.ofChange maglevSameWrong)

/-- 'wharfagelaw9.MaglevMore': WHATEVER THE INPUT: true; the input reads as it did. -/
def maglevMoreSpec : ChangeSpec := { name := "maglevMore", fn := fun _ => fun
  | [d1, d2, d3] => { results := [.lit (.bool true)], args := [d1, d2, d3] }
  | _ => none }
def maglevMoreRow : OpenClaim := { program := "ytnhbieicjlnakaa", sum := "90f75aef847042ee8d63084fdb552074e17988e3e08860b48f8c5ce2fdf61ff1", func := "wharfage/wharfagelaw9.MaglevMore", spec := "maglevMore", apart := false }
def MaglevMoreSaid : Prop := maglevMoreRow.holds Try.pinned (OpenSpec.ofChange maglevMoreSpec)

/-- ITS FALSE NEIGHBOUR: 'it returns false'. Refute it at one input. -/
def maglevMoreWrong : ChangeSpec := { name := "maglevMore", fn := fun _ => fun
  | [d1, d2, d3] => { results := [.lit (.bool false)], args := [d1, d2, d3] }
  | _ => none }
def MaglevMoreWrongFalsely : Prop := maglevMoreRow.holds Try.pinned (OpenSpec.ofChange maglevMoreWrong)

/- THE SECOND FORM. 'bulk': how many values and letters a reading holds, each counted each time it is reached (what is shared counts as often as it is met; a slice's spare places count too). A statement '..UptoSaid' is the law's where the arguments, and the package variables that the reading takes, are together of bulk at most 1048576: NARROWER than '..Said'. Prove '..Said' where nothing that the law and all that it calls make is longer than what came in: it says more and counts as full. Else prove '..UptoSaid'. A law counts once. -/
mutual
def uptoBulk {H : Type} : DataW H → Nat
  | .lit (.string bytes) => bytes.length + 1
  | .lit _ => 1
  | .nil => 1
  | .ptr d => uptoBulk d + 1
  | .slice elems spare => uptoBulkAll elems + uptoBulkAll spare + 1
  | .agg parts => uptoBulkAll parts + 1
  | .iface _ d => uptoBulk d + 1
  | .map entries => uptoBulkEntries entries + 1
  | .held _ => 1
def uptoBulkAll {H : Type} : List (DataW H) → Nat
  | [] => 0
  | d :: r => uptoBulk d + uptoBulkAll r
def uptoBulkEntries {H : Type} : List (Lit × DataW H) → Nat
  | [] => 0
  | x :: r => uptoBulkEntry x + uptoBulkEntries r
def uptoBulkEntry {H : Type} : Lit × DataW H → Nat
  | (.string bytes, d) => bytes.length + uptoBulk d + 1
  | (_, d) => uptoBulk d + 1
 end
def uptoSmall : (H : Type) → List (DataW H) → Bool := fun _ ds => decide (uptoBulkAll ds ≤ 1048576)
def OpenSpec.upto (s : _root_.Go.ChangeSpec) : _root_.Go.OpenSpec := { _root_.Go.OpenSpec.ofChange s with cond := some uptoSmall }

/-- 'wharfagelaw2.Ips', WHERE WHAT IT READS IS OF BULK AT MOST 1048576: true; the input reads as it did. -/
def ipsUptoRow : OpenClaim := { program := "ytnhbieicjlnakaa", sum := "90f75aef847042ee8d63084fdb552074e17988e3e08860b48f8c5ce2fdf61ff1", func := "wharfage/wharfagelaw2.Ips", spec := "ips", apart := false, narrowed := true }
def IpsUptoSaid : Prop := ipsUptoRow.holds Try.pinned (OpenSpec.upto ipsSpec)

/-- 'wharfagelaw2.IpBack', WHERE WHAT IT READS IS OF BULK AT MOST 1048576: true; the input reads as it did. -/
def ipBackUptoRow : OpenClaim := { program := "ytnhbieicjlnakaa", sum := "90f75aef847042ee8d63084fdb552074e17988e3e08860b48f8c5ce2fdf61ff1", func := "wharfage/wharfagelaw2.IpBack", spec := "ipBack", apart := false, narrowed := true }
def IpBackUptoSaid : Prop := ipBackUptoRow.holds Try.pinned (OpenSpec.upto ipBackSpec)

/-- 'wharfagelaw2.IpForms', WHERE WHAT IT READS IS OF BULK AT MOST 1048576: true; the input reads as it did. -/
def ipFormsUptoRow : OpenClaim := { program := "ytnhbieicjlnakaa", sum := "90f75aef847042ee8d63084fdb552074e17988e3e08860b48f8c5ce2fdf61ff1", func := "wharfage/wharfagelaw2.IpForms", spec := "ipForms", apart := false, narrowed := true }
def IpFormsUptoSaid : Prop := ipFormsUptoRow.holds Try.pinned (OpenSpec.upto ipFormsSpec)

/-- 'wharfagelaw2.IpClasses', WHERE WHAT IT READS IS OF BULK AT MOST 1048576: true; the input reads as it did. -/
def ipClassesUptoRow : OpenClaim := { program := "ytnhbieicjlnakaa", sum := "90f75aef847042ee8d63084fdb552074e17988e3e08860b48f8c5ce2fdf61ff1", func := "wharfage/wharfagelaw2.IpClasses", spec := "ipClasses", apart := false, narrowed := true }
def IpClassesUptoSaid : Prop := ipClassesUptoRow.holds Try.pinned (OpenSpec.upto ipClassesSpec)

/-- 'wharfagelaw2.IpHeads', WHERE WHAT IT READS IS OF BULK AT MOST 1048576: true; the input reads as it did. -/
def ipHeadsUptoRow : OpenClaim := { program := "ytnhbieicjlnakaa", sum := "90f75aef847042ee8d63084fdb552074e17988e3e08860b48f8c5ce2fdf61ff1", func := "wharfage/wharfagelaw2.IpHeads", spec := "ipHeads", apart := false, narrowed := true }
def IpHeadsUptoSaid : Prop := ipHeadsUptoRow.holds Try.pinned (OpenSpec.upto ipHeadsSpec)

/-- 'wharfagelaw2.IpUnlike', WHERE WHAT IT READS IS OF BULK AT MOST 1048576: true; the input reads as it did. -/
def ipUnlikeUptoRow : OpenClaim := { program := "ytnhbieicjlnakaa", sum := "90f75aef847042ee8d63084fdb552074e17988e3e08860b48f8c5ce2fdf61ff1", func := "wharfage/wharfagelaw2.IpUnlike", spec := "ipUnlike", apart := false, narrowed := true }
def IpUnlikeUptoSaid : Prop := ipUnlikeUptoRow.holds Try.pinned (OpenSpec.upto ipUnlikeSpec)

/-- 'wharfagelaw2.IpCut', WHERE WHAT IT READS IS OF BULK AT MOST 1048576: true; the input reads as it did. -/
def ipCutUptoRow : OpenClaim := { program := "ytnhbieicjlnakaa", sum := "90f75aef847042ee8d63084fdb552074e17988e3e08860b48f8c5ce2fdf61ff1", func := "wharfage/wharfagelaw2.IpCut", spec := "ipCut", apart := false, narrowed := true }
def IpCutUptoSaid : Prop := ipCutUptoRow.holds Try.pinned (OpenSpec.upto ipCutSpec)

/-- 'wharfagelaw9.Maglevs', WHERE WHAT IT READS IS OF BULK AT MOST 1048576: true; the input reads as it did. -/
def maglevsUptoRow : OpenClaim := { program := "ytnhbieicjlnakaa", sum := "90f75aef847042ee8d63084fdb552074e17988e3e08860b48f8c5ce2fdf61ff1", func := "wharfage/wharfagelaw9.Maglevs", spec := "maglevs", apart := false, narrowed := true }
def MaglevsUptoSaid : Prop := maglevsUptoRow.holds Try.pinned (OpenSpec.upto maglevsSpec)

/-- 'wharfagelaw9.MaglevShares', WHERE WHAT IT READS IS OF BULK AT MOST 1048576: true; the input reads as it did. -/
def maglevSharesUptoRow : OpenClaim := { program := "ytnhbieicjlnakaa", sum := "90f75aef847042ee8d63084fdb552074e17988e3e08860b48f8c5ce2fdf61ff1", func := "wharfage/wharfagelaw9.MaglevShares", spec := "maglevShares", apart := false, narrowed := true }
def MaglevSharesUptoSaid : Prop := maglevSharesUptoRow.holds Try.pinned (OpenSpec.upto maglevSharesSpec)

/-- 'wharfagelaw9.MaglevForms', WHERE WHAT IT READS IS OF BULK AT MOST 1048576: true; the input reads as it did. -/
def maglevFormsUptoRow : OpenClaim := { program := "ytnhbieicjlnakaa", sum := "90f75aef847042ee8d63084fdb552074e17988e3e08860b48f8c5ce2fdf61ff1", func := "wharfage/wharfagelaw9.MaglevForms", spec := "maglevForms", apart := false, narrowed := true }
def MaglevFormsUptoSaid : Prop := maglevFormsUptoRow.holds Try.pinned (OpenSpec.upto maglevFormsSpec)

/-- 'wharfagelaw9.MaglevPicks', WHERE WHAT IT READS IS OF BULK AT MOST 1048576: true; the input reads as it did. -/
def maglevPicksUptoRow : OpenClaim := { program := "ytnhbieicjlnakaa", sum := "90f75aef847042ee8d63084fdb552074e17988e3e08860b48f8c5ce2fdf61ff1", func := "wharfage/wharfagelaw9.MaglevPicks", spec := "maglevPicks", apart := false, narrowed := true }
def MaglevPicksUptoSaid : Prop := maglevPicksUptoRow.holds Try.pinned (OpenSpec.upto maglevPicksSpec)

/-- 'wharfagelaw9.MaglevOne', WHERE WHAT IT READS IS OF BULK AT MOST 1048576: true; the input reads as it did. -/
def maglevOneUptoRow : OpenClaim := { program := "ytnhbieicjlnakaa", sum := "90f75aef847042ee8d63084fdb552074e17988e3e08860b48f8c5ce2fdf61ff1", func := "wharfage/wharfagelaw9.MaglevOne", spec := "maglevOne", apart := false, narrowed := true }
def MaglevOneUptoSaid : Prop := maglevOneUptoRow.holds Try.pinned (OpenSpec.upto maglevOneSpec)

/-- 'wharfagelaw9.MaglevSame', WHERE WHAT IT READS IS OF BULK AT MOST 1048576: true; the input reads as it did. -/
def maglevSameUptoRow : OpenClaim := { program := "ytnhbieicjlnakaa", sum := "90f75aef847042ee8d63084fdb552074e17988e3e08860b48f8c5ce2fdf61ff1", func := "wharfage/wharfagelaw9.MaglevSame", spec := "maglevSame", apart := false, narrowed := true }
def MaglevSameUptoSaid : Prop := maglevSameUptoRow.holds Try.pinned (OpenSpec.upto maglevSameSpec)

/-- 'wharfagelaw9.MaglevMore', WHERE WHAT IT READS IS OF BULK AT MOST 1048576: true; the input reads as it did. -/
def maglevMoreUptoRow : OpenClaim := { program := "ytnhbieicjlnakaa", sum := "90f75aef847042ee8d63084fdb552074e17988e3e08860b48f8c5ce2fdf61ff1", func := "wharfage/wharfagelaw9.MaglevMore", spec := "maglevMore", apart := false, narrowed := true }
def MaglevMoreUptoSaid : Prop := maglevMoreUptoRow.holds Try.pinned (OpenSpec.upto maglevMoreSpec)

end Rows
end Go.Proofs.Ytnhbieicjlnakaa
