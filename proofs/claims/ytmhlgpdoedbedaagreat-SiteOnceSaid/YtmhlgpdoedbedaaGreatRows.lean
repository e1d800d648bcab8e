/-
  No cell of these rows narrows 'for every input' (looked for: loops, veiled, ifaces, maps, wideKeys, modest, calm, conditions, laid).
  DERIVED. THE GIVEN ROWS OF THIS SEAT. 15 by the template 'for every input the law returns true; each argument reads behind the call as it read before'; 0 by the template 'total and deterministic' (their statements: YtmhlgpdoedbedaaGreatTotals.lean).
  GIVEN WITH THE SEED: the statements are not yours to turn. If you find one false, say at which input.
  Laid BY PROGRAM, IN A SANDBOX (cutbox-rows.mjs): the forced cells as the released guide's own fill.sh prints them over the translation 641c43625800803e… (all of the seat's roots in one cut). By AI agents, Wed Nov 11 2026. No macro, syntax, notation, axiom, sorry.
-/
import Derived.Test.YtmhlgpdoedbedaaGreatChecked
import GoSem.Claim
import GoSem.ClaimJoined
import GoSem.ClaimMapViews
import Derived.JoinedTies
import Derived.KernelRfl
namespace Go.Proofs.YtmhlgpdoedbedaaGreat
/- THE CELL 'sum', in the pinned program and in every row, IS THE sha256 OF THE DUMP (.gsa) THAT YtmhlgpdoedbedaaGreatProg.lean LOADS. Nothing in Lean hashes anything: it is a label: what it is worth is what the hold of that sum in a sandbox is worth. -/
noncomputable def Tryz.pinned : Pinned := { name := "ytmhlgpdoedbedaagreat", sum := "641c43625800803eaf7b8eef7de402a2be72139771938edd8fc17e039e02dd96", checked := Tryz.checked }
namespace Rows
def none {H : Type} : Left H := { results := [], args := [] }

/-- 'wharfagelaw19.Edges': WHATEVER THE INPUT: true; the input reads as it did. -/
def edgesSpec : ChangeSpec := { name := "edges", fn := fun _ => fun
  | [d1, d2, d3, d4, d5] => { results := [.lit (.bool true)], args := [d1, d2, d3, d4, d5] }
  | _ => none }
def edgesRow : OpenClaim := { program := "ytmhlgpdoedbedaagreat", sum := "641c43625800803eaf7b8eef7de402a2be72139771938edd8fc17e039e02dd96", func := "wharfage/wharfagelaw19.Edges", spec := "edges", unfollowed := true, recurses := true, apart := false }
def EdgesSaid : Prop := edgesRow.holds Tryz.pinned (OpenSpec.ofChange edgesSpec)

/-- ITS FALSE NEIGHBOUR: 'it returns false'. Refute it at one input. -/
def edgesWrong : ChangeSpec := { name := "edges", fn := fun _ => fun
  | [d1, d2, d3, d4, d5] => { results := [.lit (.bool false)], args := [d1, d2, d3, d4, d5] }
  | _ => none }
def EdgesWrongFalsely : Prop := edgesRow.holds Tryz.pinned (OpenSpec.ofChange edgesWrong)

/-- 'wharfagelaw19.EdgeStays': WHATEVER THE INPUT: true; the input reads as it did. -/
def edgeStaysSpec : ChangeSpec := { name := "edgeStays", fn := fun _ => fun
  | [d1, d2, d3] => { results := [.lit (.bool true)], args := [d1, d2, d3] }
  | _ => none }
def edgeStaysRow : OpenClaim := { program := "ytmhlgpdoedbedaagreat", sum := "641c43625800803eaf7b8eef7de402a2be72139771938edd8fc17e039e02dd96", func := "wharfage/wharfagelaw19.EdgeStays", spec := "edgeStays", unfollowed := true, recurses := true, apart := false }
def EdgeStaysSaid : Prop := edgeStaysRow.holds Tryz.pinned (OpenSpec.ofChange edgeStaysSpec)

/-- ITS FALSE NEIGHBOUR: 'it returns false'. Refute it at one input. -/
def edgeStaysWrong : ChangeSpec := { name := "edgeStays", fn := fun _ => fun
  | [d1, d2, d3] => { results := [.lit (.bool false)], args := [d1, d2, d3] }
  | _ => none }
def EdgeStaysWrongFalsely : Prop := edgeStaysRow.holds Tryz.pinned (OpenSpec.ofChange edgeStaysWrong)

/-- 'wharfagelaw19.EdgeForms': WHATEVER THE INPUT: true; the input reads as it did. -/
def edgeFormsSpec : ChangeSpec := { name := "edgeForms", fn := fun _ => fun
  | [d1, d2] => { results := [.lit (.bool true)], args := [d1, d2] }
  | _ => none }
def edgeFormsRow : OpenClaim := { program := "ytmhlgpdoedbedaagreat", sum := "641c43625800803eaf7b8eef7de402a2be72139771938edd8fc17e039e02dd96", func := "wharfage/wharfagelaw19.EdgeForms", spec := "edgeForms", unfollowed := true, recurses := true, apart := false }
def EdgeFormsSaid : Prop := edgeFormsRow.holds Tryz.pinned (OpenSpec.ofChange edgeFormsSpec)

/-- ITS FALSE NEIGHBOUR: 'it returns false'. Refute it at one input. -/
def edgeFormsWrong : ChangeSpec := { name := "edgeForms", fn := fun _ => fun
  | [d1, d2] => { results := [.lit (.bool false)], args := [d1, d2] }
  | _ => none }
def EdgeFormsWrongFalsely : Prop := edgeFormsRow.holds Tryz.pinned (OpenSpec.ofChange edgeFormsWrong)

/-- 'wharfagelaw19.EdgeRow': WHATEVER THE INPUT: true; the input reads as it did. -/
def edgeRowSpec : ChangeSpec := { name := "edgeRow", fn := fun _ => fun
  | [d] => { results := [.lit (.bool true)], args := [d] }
  | _ => none }
def edgeRowRow : OpenClaim := { program := "ytmhlgpdoedbedaagreat", sum := "641c43625800803eaf7b8eef7de402a2be72139771938edd8fc17e039e02dd96", func := "wharfage/wharfagelaw19.EdgeRow", spec := "edgeRow", unfollowed := true, recurses := true, apart := false }
def EdgeRowSaid : Prop := edgeRowRow.holds Tryz.pinned (OpenSpec.ofChange edgeRowSpec)

/-- ITS FALSE NEIGHBOUR: 'it returns false'. Refute it at one input. -/
def edgeRowWrong : ChangeSpec := { name := "edgeRow", fn := fun _ => fun
  | [d] => { results := [.lit (.bool false)], args := [d] }
  | _ => none }
def EdgeRowWrongFalsely : Prop := edgeRowRow.holds Tryz.pinned (OpenSpec.ofChange edgeRowWrong)

/-- 'wharfagelaw19.EdgeMoves': WHATEVER THE INPUT: true; the input reads as it did. -/
def edgeMovesSpec : ChangeSpec := { name := "edgeMoves", fn := fun _ => fun
  | [d1, d2] => { results := [.lit (.bool true)], args := [d1, d2] }
  | _ => none }
def edgeMovesRow : OpenClaim := { program := "ytmhlgpdoedbedaagreat", sum := "641c43625800803eaf7b8eef7de402a2be72139771938edd8fc17e039e02dd96", func := "wharfage/wharfagelaw19.EdgeMoves", spec := "edgeMoves", unfollowed := true, recurses := true, apart := false }
def EdgeMovesSaid : Prop := edgeMovesRow.holds Tryz.pinned (OpenSpec.ofChange edgeMovesSpec)

/-- ITS FALSE NEIGHBOUR: 'it returns false'. Refute it at one input. -/
def edgeMovesWrong : ChangeSpec := { name := "edgeMoves", fn := fun _ => fun
  | [d1, d2] => { results := [.lit (.bool false)], args := [d1, d2] }
  | _ => none }
def EdgeMovesWrongFalsely : Prop := edgeMovesRow.holds Tryz.pinned (OpenSpec.ofChange edgeMovesWrong)

/-- 'wharfagelaw19.EdgeAgain': WHATEVER THE INPUT: true; the input reads as it did. -/
def edgeAgainSpec : ChangeSpec := { name := "edgeAgain", fn := fun _ => fun
  | [d1, d2, d3] => { results := [.lit (.bool true)], args := [d1, d2, d3] }
  | _ => none }
def edgeAgainRow : OpenClaim := { program := "ytmhlgpdoedbedaagreat", sum := "641c43625800803eaf7b8eef7de402a2be72139771938edd8fc17e039e02dd96", func := "wharfage/wharfagelaw19.EdgeAgain", spec := "edgeAgain", unfollowed := true, recurses := true, apart := false }
def EdgeAgainSaid : Prop := edgeAgainRow.holds Tryz.pinned (OpenSpec.ofChange edgeAgainSpec)

/-- ITS FALSE NEIGHBOUR: 'it returns false'. Refute it at one input. -/
def edgeAgainWrong : ChangeSpec := { name := "edgeAgain", fn := fun _ => fun
  | [d1, d2, d3] => { results := [.lit (.bool false)], args := [d1, d2, d3] }
  | _ => none }
def EdgeAgainWrongFalsely : Prop := edgeAgainRow.holds Tryz.pinned (OpenSpec.ofChange edgeAgainWrong)

/-- 'wharfagelaw19.EdgePushed': WHATEVER THE INPUT: true; the input reads as it did. -/
def edgePushedSpec : ChangeSpec := { name := "edgePushed", fn := fun _ => fun
  | [d1, d2, d3] => { results := [.lit (.bool true)], args := [d1, d2, d3] }
  | _ => none }
def edgePushedRow : OpenClaim := { program := "ytmhlgpdoedbedaagreat", sum := "641c43625800803eaf7b8eef7de402a2be72139771938edd8fc17e039e02dd96", func := "wharfage/wharfagelaw19.EdgePushed", spec := "edgePushed", unfollowed := true, recurses := true, apart := false }
def EdgePushedSaid : Prop := edgePushedRow.holds Tryz.pinned (OpenSpec.ofChange edgePushedSpec)

/-- ITS FALSE NEIGHBOUR: 'it returns false'. Refute it at one input. -/
def edgePushedWrong : ChangeSpec := { name := "edgePushed", fn := fun _ => fun
  | [d1, d2, d3] => { results := [.lit (.bool false)], args := [d1, d2, d3] }
  | _ => none }
def EdgePushedWrongFalsely : Prop := edgePushedRow.holds Tryz.pinned (OpenSpec.ofChange edgePushedWrong)

/-- 'wharfagelaw20.Sites': WHATEVER THE INPUT: true; the input reads as it did. -/
def sitesSpec : ChangeSpec := { name := "sites", fn := fun _ => fun
  | [d1, d2, d3, d4, d5] => { results := [.lit (.bool true)], args := [d1, d2, d3, d4, d5] }
  | _ => none }
def sitesRow : OpenClaim := { program := "ytmhlgpdoedbedaagreat", sum := "641c43625800803eaf7b8eef7de402a2be72139771938edd8fc17e039e02dd96", func := "wharfage/wharfagelaw20.Sites", spec := "sites", unfollowed := true, recurses := true, apart := false }
def SitesSaid : Prop := sitesRow.holds Tryz.pinned (OpenSpec.ofChange sitesSpec)

/-- ITS FALSE NEIGHBOUR: 'it returns false'. Refute it at one input. -/
def sitesWrong : ChangeSpec := { name := "sites", fn := fun _ => fun
  | [d1, d2, d3, d4, d5] => { results := [.lit (.bool false)], args := [d1, d2, d3, d4, d5] }
  | _ => none }
def SitesWrongFalsely : Prop := sitesRow.holds Tryz.pinned (OpenSpec.ofChange sitesWrong)

/-- 'wharfagelaw20.SiteOnce': WHATEVER THE INPUT: true; the input reads as it did. -/
def siteOnceSpec : ChangeSpec := { name := "siteOnce", fn := fun _ => fun
  | [d1, d2, d3] => { results := [.lit (.bool true)], args := [d1, d2, d3] }
  | _ => none }
def siteOnceRow : OpenClaim := { program := "ytmhlgpdoedbedaagreat", sum := "641c43625800803eaf7b8eef7de402a2be72139771938edd8fc17e039e02dd96", func := "wharfage/wharfagelaw20.SiteOnce", spec := "siteOnce", unfollowed := true, recurses := true, apart := false }
def SiteOnceSaid : Prop := siteOnceRow.holds Tryz.pinned (OpenSpec.ofChange siteOnceSpec)

/-- ITS FALSE NEIGHBOUR: 'it returns false'. Refute it at one input. -/
def siteOnceWrong : ChangeSpec := { name := "siteOnce", fn := fun _ => fun
  | [d1, d2, d3] => { results := [.lit (.bool false)], args := [d1, d2, d3] }
  | _ => none }
def SiteOnceWrongFalsely : Prop := siteOnceRow.holds Tryz.pinned (OpenSpec.ofChange siteOnceWrong)

/-- 'wharfagelaw20.SiteMarkers': WHATEVER THE INPUT: true; the input reads as it did. -/
def siteMarkersSpec : ChangeSpec := { name := "siteMarkers", fn := fun _ => fun
  | [d1, d2] => { results := [.lit (.bool true)], args := [d1, d2] }
  | _ => none }
def siteMarkersRow : OpenClaim := { program := "ytmhlgpdoedbedaagreat", sum := "641c43625800803eaf7b8eef7de402a2be72139771938edd8fc17e039e02dd96", func := "wharfage/wharfagelaw20.SiteMarkers", spec := "siteMarkers", unfollowed := true, recurses := true, apart := false }
def SiteMarkersSaid : Prop := siteMarkersRow.holds Tryz.pinned (OpenSpec.ofChange siteMarkersSpec)

/-- ITS FALSE NEIGHBOUR: 'it returns false'. Refute it at one input. -/
def siteMarkersWrong : ChangeSpec := { name := "siteMarkers", fn := fun _ => fun
  | [d1, d2] => { results := [.lit (.bool false)], args := [d1, d2] }
  | _ => none }
def SiteMarkersWrongFalsely : Prop := siteMarkersRow.holds Tryz.pinned (OpenSpec.ofChange siteMarkersWrong)

/-- 'wharfagelaw20.SiteSpills': WHATEVER THE INPUT: true; the input reads as it did. -/
def siteSpillsSpec : ChangeSpec := { name := "siteSpills", fn := fun _ => fun
  | [d1, d2, d3] => { results := [.lit (.bool true)], args := [d1, d2, d3] }
  | _ => none }
def siteSpillsRow : OpenClaim := { program := "ytmhlgpdoedbedaagreat", sum := "641c43625800803eaf7b8eef7de402a2be72139771938edd8fc17e039e02dd96", func := "wharfage/wharfagelaw20.SiteSpills", spec := "siteSpills", unfollowed := true, recurses := true, apart := false }
def SiteSpillsSaid : Prop := siteSpillsRow.holds Tryz.pinned (OpenSpec.ofChange siteSpillsSpec)

/-- ITS FALSE NEIGHBOUR: 'it returns false'. Refute it at one input. -/
def siteSpillsWrong : ChangeSpec := { name := "siteSpills", fn := fun _ => fun
  | [d1, d2, d3] => { results := [.lit (.bool false)], args := [d1, d2, d3] }
  | _ => none }
def SiteSpillsWrongFalsely : Prop := siteSpillsRow.holds Tryz.pinned (OpenSpec.ofChange siteSpillsWrong)

/-- 'wharfagelaw20.SiteLoads': WHATEVER THE INPUT: true; the input reads as it did. -/
def siteLoadsSpec : ChangeSpec := { name := "siteLoads", fn := fun _ => fun
  | [d1, d2] => { results := [.lit (.bool true)], args := [d1, d2] }
  | _ => none }
def siteLoadsRow : OpenClaim := { program := "ytmhlgpdoedbedaagreat", sum := "641c43625800803eaf7b8eef7de402a2be72139771938edd8fc17e039e02dd96", func := "wharfage/wharfagelaw20.SiteLoads", spec := "siteLoads", unfollowed := true, recurses := true, apart := false }
def SiteLoadsSaid : Prop := siteLoadsRow.holds Tryz.pinned (OpenSpec.ofChange siteLoadsSpec)

/-- ITS FALSE NEIGHBOUR: 'it returns false'. Refute it at one input. -/
def siteLoadsWrong : ChangeSpec := { name := "siteLoads", fn := fun _ => fun
  | [d1, d2] => { results := [.lit (.bool false)], args := [d1, d2] }
  | _ => none }
def SiteLoadsWrongFalsely : Prop := siteLoadsRow.holds Tryz.pinned (OpenSpec.ofChange siteLoadsWrong)

/-- 'wharfagelaw20.SiteForms': WHATEVER THE INPUT: true; the input reads as it did. -/
def siteFormsSpec : ChangeSpec := { name := "siteForms", fn := fun _ => fun
  | [d1, d2] => { results := [.lit (.bool true)], args := [d1, d2] }
  | _ => none }
def siteFormsRow : OpenClaim := { program := "ytmhlgpdoedbedaagreat", sum := "641c43625800803eaf7b8eef7de402a2be72139771938edd8fc17e039e02dd96", func := "wharfage/wharfagelaw20.SiteForms", spec := "siteForms", unfollowed := true, recurses := true, apart := false }
def SiteFormsSaid : Prop := siteFormsRow.holds Tryz.pinned (OpenSpec.ofChange siteFormsSpec)

/-- ITS FALSE NEIGHBOUR: 'it returns false'. Refute it at one input. -/
def siteFormsWrong : ChangeSpec := { name := "siteForms", fn := fun _ => fun
  | [d1, d2] => { results := [.lit (.bool false)], args := [d1, d2] }
  | _ => none }
def SiteFormsWrongFalsely : Prop := siteFormsRow.holds Tryz.pinned (OpenSpec.ofChange siteFormsWrong)

/-- 'wharfagelaw20.SiteAgain': WHATEVER THE INPUT: true; the input reads as it did. -/
def siteAgainSpec : ChangeSpec := { name := "siteAgain", fn := fun _ => fun
  | [d1, d2, d3] => { results := [.lit (.bool true)], args := [d1, d2, d3] }
  | _ => none }
def siteAgainRow : OpenClaim := { program := "ytmhlgpdoedbedaagreat", sum := "641c43625800803eaf7b8eef7de402a2be72139771938edd8fc17e039e02dd96", func := "wharfage/wharfagelaw20.SiteAgain", spec := "siteAgain", unfollowed := true, recurses := true, apart := false }
def SiteAgainSaid : Prop := siteAgainRow.holds Tryz.pinned (OpenSpec.ofChange siteAgainSpec)

/-- ITS FALSE NEIGHBOUR: 'it returns false'. Refute it at one input. -/
def siteAgainWrong : ChangeSpec := { name := "siteAgain", fn := fun _ => fun
  | [d1, d2, d3] => { results := [.lit (.bool false)], args := [d1, d2, d3] }
  | _ => none }
def SiteAgainWrongFalsely : Prop := siteAgainRow.holds Tryz.pinned (OpenSpec.ofChange siteAgainWrong)

/-- 'wharfagelaw20.SiteInside': WHATEVER THE INPUT: true; the input reads as it did. -/
def siteInsideSpec : ChangeSpec := { name := "siteInside", fn := fun _ => fun
  | [d1, d2, d3] => { results := [.lit (.bool true)], args := [d1, d2, d3] }
  | _ => none }
def siteInsideRow : OpenClaim := { program := "ytmhlgpdoedbedaagreat", sum := "641c43625800803eaf7b8eef7de402a2be72139771938edd8fc17e039e02dd96", func := "wharfage/wharfagelaw20.SiteInside", spec := "siteInside", unfollowed := true, recurses := true, apart := false }
def SiteInsideSaid : Prop := siteInsideRow.holds Tryz.pinned (OpenSpec.ofChange siteInsideSpec)

/-- ITS FALSE NEIGHBOUR: 'it returns false'. Refute it at one input. -/
def siteInsideWrong : ChangeSpec := { name := "siteInside", fn := fun _ => fun
  | [d1, d2, d3] => { results := [.lit (.bool false)], args := [d1, d2, d3] }
  | _ => none }
def SiteInsideWrongFalsely : Prop := siteInsideRow.holds Tryz.pinned (OpenSpec.ofChange siteInsideWrong)

/- THE SECOND FORM. 'bulk': how many values and letters a reading holds, each counted each time it is reached (what is shared counts as often as it is met; a slice's spare places count too). A statement '..UptoSaid' is the law's where the arguments, and the package variables that the reading takes, are together of bulk at most 1048576: NARROWER than '..Said'. Prove '..Said' where nothing that the law and all that it calls make is longer than what came in: it says more and counts as full. Else prove '..UptoSaid'. A law counts once. -/
mutual
def uptoBulk {H : Type} : DataW H → Nat
  | .lit (.string bytes) => bytes.length + 1
  | .lit _ => 1
  | .nil => 1
  | .ptr d => uptoBulk d + 1
  | .slice elems spare => uptoBulkAll elems + uptoBulkAll spare + 1
  | .agg parts => uptoBulkAll parts + 1
  | .iface _ d => uptoBulk d + 1
  | .map entries => uptoBulkEntries entries + 1
  | .held _ => 1
def uptoBulkAll {H : Type} : List (DataW H) → Nat
  | [] => 0
  | d :: r => uptoBulk d + uptoBulkAll r
def uptoBulkEntries {H : Type} : List (Lit × DataW H) → Nat
  | [] => 0
  | x :: r => uptoBulkEntry x + uptoBulkEntries r
def uptoBulkEntry {H : Type} : Lit × DataW H → Nat
  | (.string bytes, d) => bytes.length + uptoBulk d + 1
  | (_, d) => uptoBulk d + 1
 end
def uptoSmall : (H : Type) → List (DataW H) → Bool := fun _ ds => decide (uptoBulkAll ds ≤ 1048576)
def OpenSpec.upto (s : _root_.Go.ChangeSpec) : _root_.Go.OpenSpec := { _root_.Go.OpenSpec.ofChange s with cond := some uptoSmall }

/-- 'wharfagelaw19.Edges', WHERE WHAT IT READS IS OF BULK AT MOST 1048576: true; the input reads as it did. -/
def edgesUptoRow : OpenClaim := { program := "ytmhlgpdoedbedaagreat", sum := "641c43625800803eaf7b8eef7de402a2be72139771938edd8fc17e039e02dd96", func := "wharfage/wharfagelaw19.Edges", spec := "edges", unfollowed := true, recurses := true, apart := false, narrowed := true }
def EdgesUptoSaid : Prop := edgesUptoRow.holds Tryz.pinned (OpenSpec.upto edgesSpec)

/-- 'wharfagelaw19.EdgeStays', WHERE WHAT IT READS IS OF BULK AT MOST 1048576: true; the input reads as it did. -/
def edgeStaysUptoRow : OpenClaim := { program := "ytmhlgpdoedbedaagreat", sum := "641c43625800803eaf7b8eef7de402a2be72139771938edd8fc17e039e02dd96", func := "wharfage/wharfagelaw19.EdgeStays", spec := "edgeStays", unfollowed := true, recurses := true, apart := false, narrowed := true }
def EdgeStaysUptoSaid : Prop := edgeStaysUptoRow.holds Tryz.pinned (OpenSpec.upto edgeStaysSpec)

/-- 'wharfagelaw19.EdgeForms', WHERE WHAT IT READS IS OF BULK AT MOST 1048576: true; the input reads as it did. -/
def edgeFormsUptoRow : OpenClaim := { program := "ytmhlgpdoedbedaagreat", sum := "641c43625800803eaf7b8eef7de402a2be72139771938edd8fc17e039e02dd96", func := "wharfage/wharfagelaw19.EdgeForms", spec := "edgeForms", unfollowed := true, recurses := true, apart := false, narrowed := true }
def EdgeFormsUptoSaid : Prop := edgeFormsUptoRow.holds Tryz.pinned (OpenSpec.upto edgeFormsSpec)

/-- 'wharfagelaw19.EdgeRow', WHERE WHAT IT READS IS OF BULK AT MOST 1048576: true; the input reads as it did. -/
def edgeRowUptoRow : OpenClaim := { program := "ytmhlgpdoedbedaagreat", sum := "641c43625800803eaf7b8eef7de402a2be72139771938edd8fc17e039e02dd96", func := "wharfage/wharfagelaw19.EdgeRow", spec := "edgeRow", unfollowed := true, recurses := true, apart := false, narrowed := true }
def EdgeRowUptoSaid : Prop := edgeRowUptoRow.holds Tryz.pinned (OpenSpec.upto edgeRowSpec)

/-- 'wharfagelaw19.EdgeMoves', WHERE WHAT IT READS IS OF BULK AT MOST 1048576: true; the input reads as it did. -/
def edgeMovesUptoRow : OpenClaim := { program := "ytmhlgpdoedbedaagreat", sum := "641c43625800803eaf7b8eef7de402a2be72139771938edd8fc17e039e02dd96", func := "wharfage/wharfagelaw19.EdgeMoves", spec := "edgeMoves", unfollowed := true, recurses := true, apart := false, narrowed := true }
def EdgeMovesUptoSaid : Prop := edgeMovesUptoRow.holds Tryz.pinned (OpenSpec.upto edgeMovesSpec)

/-- 'wharfagelaw19.EdgeAgain', WHERE WHAT IT READS IS OF BULK AT MOST 1048576: true; the input reads as it did. -/
def edgeAgainUptoRow : OpenClaim := { program := "ytmhlgpdoedbedaagreat", sum := "641c43625800803eaf7b8eef7de402a2be72139771938edd8fc17e039e02dd96", func := "wharfage/wharfagelaw19.EdgeAgain", spec := "edgeAgain", unfollowed := true, recurses := true, apart := false, narrowed := true }
def EdgeAgainUptoSaid : Prop := edgeAgainUptoRow.holds Tryz.pinned (OpenSpec.upto edgeAgainSpec)

/-- 'wharfagelaw19.EdgePushed', WHERE WHAT IT READS IS OF BULK AT MOST 1048576: true; the input reads as it did. -/
def edgePushedUptoRow : OpenClaim := { program := "ytmhlgpdoedbedaagreat", sum := "641c43625800803eaf7b8eef7de402a2be72139771938edd8fc17e039e02dd96", func := "wharfage/wharfagelaw19.EdgePushed", spec := "edgePushed", unfollowed := true, recurses := true, apart := false, narrowed := true }
def EdgePushedUptoSaid : Prop := edgePushedUptoRow.holds Tryz.pinned (OpenSpec.upto edgePushedSpec)

/-- 'wharfagelaw20.Sites', WHERE WHAT IT READS IS OF BULK AT MOST 1048576: true; the input reads as it did. -/
def sitesUptoRow : OpenClaim := { program := "ytmhlgpdoedbedaagreat", sum := "641c43625800803eaf7b8eef7de402a2be72139771938edd8fc17e039e02dd96", func := "wharfage/wharfagelaw20.Sites", spec := "sites", unfollowed := true, recurses := true, apart := false, narrowed := true }
def SitesUptoSaid : Prop := sitesUptoRow.holds Tryz.pinned (OpenSpec.upto sitesSpec)

/-- 'wharfagelaw20.SiteOnce', WHERE WHAT IT READS IS OF BULK AT MOST 1048576: true; the input reads as it did. -/
def siteOnceUptoRow : OpenClaim := { program := "ytmhlgpdoedbedaagreat", sum := "641c43625800803eaf7b8eef7de402a2be72139771938edd8fc17e039e02dd96", func := "wharfage/wharfagelaw20.SiteOnce", spec := "siteOnce", unfollowed := true, recurses := true, apart := false, narrowed := true }
def SiteOnceUptoSaid : Prop := siteOnceUptoRow.holds Tryz.pinned (OpenSpec.upto siteOnceSpec)

/-- 'wharfagelaw20.SiteMarkers', WHERE WHAT IT READS IS OF BULK AT MOST 1048576: true; the input reads as it did. -/
def siteMarkersUptoRow : OpenClaim := { program := "ytmhlgpdoedbedaagreat", sum := "641c43625800803eaf7b8eef7de402a2be72139771938edd8fc17e039e02dd96", func := "wharfage/wharfagelaw20.SiteMarkers", spec := "siteMarkers", unfollowed := true, recurses := true, apart := false, narrowed := true }
def SiteMarkersUptoSaid : Prop := siteMarkersUptoRow.holds Tryz.pinned (OpenSpec.upto siteMarkersSpec)

/-- 'wharfagelaw20.SiteSpills', WHERE WHAT IT READS IS OF BULK AT MOST 1048576: true; the input reads as it did. -/
def siteSpillsUptoRow : OpenClaim := { program := "ytmhlgpdoedbedaagreat", sum := "641c43625800803eaf7b8eef7de402a2be72139771938edd8fc17e039e02dd96", func := "wharfage/wharfagelaw20.SiteSpills", spec := "siteSpills", unfollowed := true, recurses := true, apart := false, narrowed := true }
def SiteSpillsUptoSaid : Prop := siteSpillsUptoRow.holds Tryz.pinned (OpenSpec.upto siteSpillsSpec)

/-- 'wharfagelaw20.SiteLoads', WHERE WHAT IT READS IS OF BULK AT MOST 1048576: true; the input reads as it did. -/
def siteLoadsUptoRow : OpenClaim := { program := "ytmhlgpdoedbedaagreat", sum := "641c43625800803eaf7b8eef7de402a2be72139771938edd8fc17e039e02dd96", func := "wharfage/wharfagelaw20.SiteLoads", spec := "siteLoads", unfollowed := true, recurses := true, apart := false, narrowed := true }
def SiteLoadsUptoSaid : Prop := siteLoadsUptoRow.holds Tryz.pinned (OpenSpec.upto siteLoadsSpec)

/-- 'wharfagelaw20.SiteForms', WHERE WHAT IT READS IS OF BULK AT MOST 1048576: true; the input reads as it did. -/
def siteFormsUptoRow : OpenClaim := { program := "ytmhlgpdoedbedaagreat", sum := "641c43625800803eaf7b8eef7de402a2be72139771938edd8fc17e039e02dd96", func := "wharfage/wharfagelaw20.SiteForms", spec := "siteForms", unfollowed := true, recurses := true, apart := false, narrowed := true }
def SiteFormsUptoSaid : Prop := siteFormsUptoRow.holds Tryz.pinned (OpenSpec.upto siteFormsSpec)

/-- 'wharfagelaw20.SiteAgain', WHERE WHAT IT READS IS OF BULK AT MOST 1048576: true; the input reads as it did. -/
def siteAgainUptoRow : OpenClaim := { program := "ytmhlgpdoedbedaagreat", sum := "641c43625800803eaf7b8eef7de402a2be72139771938edd8fc17e039e02dd96", func := "wharfage/wharfagelaw20.SiteAgain", spec := "siteAgain", unfollowed := true, recurses := true, apart := false, narrowed := true }
def SiteAgainUptoSaid : Prop := siteAgainUptoRow.holds Tryz.pinned (OpenSpec.upto siteAgainSpec)

/-- 'wharfagelaw20.SiteInside', WHERE WHAT IT READS IS OF BULK AT MOST 1048576: true; the input reads as it did. -/
def siteInsideUptoRow : OpenClaim := { program := "ytmhlgpdoedbedaagreat", sum := "641c43625800803eaf7b8eef7de402a2be72139771938edd8fc17e039e02dd96", func := "wharfage/wharfagelaw20.SiteInside", spec := "siteInside", unfollowed := true, recurses := true, apart := false, narrowed := true }
def SiteInsideUptoSaid : Prop := siteInsideUptoRow.holds Tryz.pinned (OpenSpec.upto siteInsideSpec)

end Rows
end Go.Proofs.YtmhlgpdoedbedaaGreat
