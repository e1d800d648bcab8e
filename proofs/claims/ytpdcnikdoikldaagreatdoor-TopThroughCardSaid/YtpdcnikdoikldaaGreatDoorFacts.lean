import Derived.Test.YtpdcnikdoikldaaGreatDoorRows
import Derived.JoinedOf
import Derived.ProofKit
import Derived.KernelRfl
import Derived.OpenShut
import Derived.SizedLaws
import Derived.ChangeOld
set_option linter.unusedVariables false
set_option linter.unusedSimpArgs false
namespace Go.Proofs.YtpdcnikdoikldaaGreatDoor.topThrough
open Go Go.RowKit Go.Proofs
theorem joined_of {P :Program} {f:FuncId} {fn:Func} {s:ChangeSpec} {c:OpenClaim} (h0:(c.wf (OpenSpec.ofChange s))=true) (h1:(laidOutB P)=true) (h2:(mapsRowed P)=true) (h3:(fn.params.all (P.readableRec ·))=true) (h4:(namedTie P c.named s.vars)=true) (h5:((c.stops==[]))=true) (h6:((P.stops==[]))=true) (h7:((c.knobs==[]))=true) (h8:((P.stopKnobs==[]))=true) (h9:((c.inPlace==P.inPlace f))=true) (h10:((c.unfollowed==P.unfollowed f))=true) (h11:((c.recurses==P.recurses f))=true) (h12:((c.named==P.varsNamed f))=true) (h13:((c.maps==(fn.params.toList++s.plain.varTypes P).any (P.mapsRec ·)))=true) (h14:((c.ifaces==(fn.params.toList++s.plain.varTypes P).any (P.ifacesRec ·)))=true) (h15:((c.mapsOut==P.mapsAmong fn.resultTypes.toList))=true) (h16:((c.loops==(fn.params.toList++s.plain.varTypes P).any (P.loopsFrom ·)))=true) (h17:((c.wideKeys==(fn.params.toList++s.plain.varTypes P++fn.resultTypes.toList).any (P.wideKeysFrom ·)))=true) (h18:(s.vars.all (P.varReadable ·))=true) (h19:(fn.resultTypes.all (fun t=>P.readableRec t&&decide (t< P.types.size)))=true) (h20:((c.ifacesOut==fn.resultTypes.toList.any (P.ifacesRec ·)))=true) (h21:((c.loopsOut==fn.resultTypes.toList.any (P.loopsFrom ·)))=true) (h22:((c.plainKeys==P.plainKeys))=true) (h23:(c.shortTexts.isNone)=true) (h24:(P.stopsHeard)=true) (h25:(P.mayEnter)=true) (h26:((c.lifted==P.liftsFinal))=true) (h27:((P.make==some c.make))=true) (h28:((c.kinds==(if c.domain.isEmpty then [] else fn.params.toList.map fun t=>match P.underlying t with | some (.int k)=>some k | _=>none)))=true) (h29:((c.pinned==c.pinnedBy))=true) (h30:((c.veiled==(fn.params.toList++s.plain.varTypes P++fn.resultTypes.toList).any (P.veiledRec ·)))=true) (h31:(c.veiledFits P fn.params.toList (fn.params.toList++s.plain.varTypes P++fn.resultTypes.toList))=true):joinedFacts P f fn s c=true:=by
 unfold joinedFacts
 simp only [Bool.and_eq_true]
 exact ⟨⟨⟨⟨⟨⟨⟨⟨⟨⟨⟨⟨⟨⟨⟨⟨⟨⟨⟨⟨⟨⟨⟨⟨⟨⟨⟨⟨⟨⟨⟨h0,h1⟩,h2⟩,h3⟩,h4⟩,h5⟩,h6⟩,h7⟩,h8⟩,h9⟩,h10⟩,h11⟩,h12⟩,h13⟩,h14⟩,h15⟩,h16⟩,h17⟩,h18⟩,h19⟩,h20⟩,h21⟩,h22⟩,h23⟩,h24⟩,h25⟩,h26⟩,h27⟩,h28⟩,h29⟩,h30⟩,h31⟩
theorem j0 :(Rows.topThroughRow.wf (OpenSpec.ofChange Rows.topThroughSpec))=true:=by kernel_rfl
theorem j1 :(laidOutB Tryz.prog)=true:=by kernel_rfl
theorem j2 :(mapsRowed Tryz.prog)=true:=by kernel_rfl
theorem j3 :(Tryz.f6.params.all (Tryz.prog.readableRec ·))=true:=by kernel_rfl
theorem j4 :(namedTie Tryz.prog Rows.topThroughRow.named Rows.topThroughSpec.vars)=true:=by kernel_rfl
theorem j5 :((Rows.topThroughRow.stops==[]))=true:=by kernel_rfl
theorem j6 :((Tryz.prog.stops==[]))=true:=by kernel_rfl
theorem j7 :((Rows.topThroughRow.knobs==[]))=true:=by kernel_rfl
theorem j8 :((Tryz.prog.stopKnobs==[]))=true:=by kernel_rfl
theorem j9 :((Rows.topThroughRow.inPlace==Tryz.prog.inPlace 6))=true:=by kernel_rfl
theorem j10 :((Rows.topThroughRow.unfollowed==Tryz.prog.unfollowed 6))=true:=by kernel_rfl
theorem j11 :((Rows.topThroughRow.recurses==Tryz.prog.recurses 6))=true:=by kernel_rfl
theorem j12 :((Rows.topThroughRow.named==Tryz.prog.varsNamed 6))=true:=by kernel_rfl
theorem j13 :((Rows.topThroughRow.maps==(Tryz.f6.params.toList++Rows.topThroughSpec.plain.varTypes Tryz.prog).any (Tryz.prog.mapsRec ·)))=true:=by kernel_rfl
theorem j14 :((Rows.topThroughRow.ifaces==(Tryz.f6.params.toList++Rows.topThroughSpec.plain.varTypes Tryz.prog).any (Tryz.prog.ifacesRec ·)))=true:=by kernel_rfl
theorem j15 :((Rows.topThroughRow.mapsOut==Tryz.prog.mapsAmong Tryz.f6.resultTypes.toList))=true:=by kernel_rfl
theorem j16 :((Rows.topThroughRow.loops==(Tryz.f6.params.toList++Rows.topThroughSpec.plain.varTypes Tryz.prog).any (Tryz.prog.loopsFrom ·)))=true:=by kernel_rfl
theorem j17 :((Rows.topThroughRow.wideKeys==(Tryz.f6.params.toList++Rows.topThroughSpec.plain.varTypes Tryz.prog++Tryz.f6.resultTypes.toList).any (Tryz.prog.wideKeysFrom ·)))=true:=by kernel_rfl
theorem j18 :(Rows.topThroughSpec.vars.all (Tryz.prog.varReadable ·))=true:=by kernel_rfl
theorem j19 :(Tryz.f6.resultTypes.all (fun t=>Tryz.prog.readableRec t&&decide (t< Tryz.prog.types.size)))=true:=by kernel_rfl
theorem j20 :((Rows.topThroughRow.ifacesOut==Tryz.f6.resultTypes.toList.any (Tryz.prog.ifacesRec ·)))=true:=by kernel_rfl
theorem j21 :((Rows.topThroughRow.loopsOut==Tryz.f6.resultTypes.toList.any (Tryz.prog.loopsFrom ·)))=true:=by kernel_rfl
theorem j22 :((Rows.topThroughRow.plainKeys==Tryz.prog.plainKeys))=true:=by kernel_rfl
theorem j23 :(Rows.topThroughRow.shortTexts.isNone)=true:=by kernel_rfl
theorem j24 :(Tryz.prog.stopsHeard)=true:=by kernel_rfl
theorem j25 :(Tryz.prog.mayEnter)=true:=by kernel_rfl
theorem j26 :((Rows.topThroughRow.lifted==Tryz.prog.liftsFinal))=true:=by kernel_rfl
theorem j27 :((Tryz.prog.make==some Rows.topThroughRow.make))=true:=by kernel_rfl
theorem j28 :((Rows.topThroughRow.kinds==(if Rows.topThroughRow.domain.isEmpty then [] else Tryz.f6.params.toList.map fun t=>match Tryz.prog.underlying t with | some (.int k)=>some k | _=>none)))=true:=by kernel_rfl
theorem j29 :((Rows.topThroughRow.pinned==Rows.topThroughRow.pinnedBy))=true:=by kernel_rfl
theorem j30 :((Rows.topThroughRow.veiled==(Tryz.f6.params.toList++Rows.topThroughSpec.plain.varTypes Tryz.prog++Tryz.f6.resultTypes.toList).any (Tryz.prog.veiledRec ·)))=true:=by kernel_rfl
theorem j31 :(Rows.topThroughRow.veiledFits Tryz.prog Tryz.f6.params.toList (Tryz.f6.params.toList++Rows.topThroughSpec.plain.varTypes Tryz.prog++Tryz.f6.resultTypes.toList))=true:=by kernel_rfl
theorem closed :joinedFacts Tryz.prog 6 Tryz.f6 Rows.topThroughSpec Rows.topThroughRow=true:=joined_of j0 j1 j2 j3 j4 j5 j6 j7 j8 j9 j10 j11 j12 j13 j14 j15 j16 j17 j18 j19 j20 j21 j22 j23 j24 j25 j26 j27 j28 j29 j30 j31
theorem named :Tryz.prog.funcNamed Rows.topThroughRow.func=some 6:=by kernel_rfl
end Go.Proofs.YtpdcnikdoikldaaGreatDoor.topThrough
