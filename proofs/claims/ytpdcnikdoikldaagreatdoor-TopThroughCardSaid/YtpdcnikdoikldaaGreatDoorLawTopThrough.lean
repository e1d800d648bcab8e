import Derived.Test.YtpdcnikdoikldaaGreatDoorTie
import Derived.Test.YtpdcnikdoikldaaGreatDoorFacts
import Derived.Test.YtpdcnikdoikldaaGreatDoorCards
import Derived.LaidMore
import Derived.Lay
import Derived.SevenTiedAt
import Derived.MakeChecks
import Derived.Test.YtpdcnikdoikldaaGreatDoorRows
import Derived.Test.YtpdcnikdoikldaaGreatDoorSvWc
import Derived.Test.YtpdcnikdoikldaaGreatDoorRd
import Derived.Test.YtpdcnikdoikldaaGreatDoorT12
import Derived.Test.YtpdcnikdoikldaaGreatDoorAgg
import Derived.WalkKit
import Derived.ProofKit
import Derived.OpenShut
import Derived.ShutString
import Derived.ChangeOld
import Derived.Below
import Derived.SizedLaws
set_option linter.unusedVariables false
set_option linter.unusedSimpArgs false
namespace Go.Proofs.YtpdcnikdoikldaaGreatDoor.topThrough
open Go Go.ChangeShapes Go.WideShapes Go.ChangeAt Go.RowKit Go.Proofs.YtpdcnikdoikldaaGreatDoor.Agg Go.Proofs.YtpdcnikdoikldaaGreatDoor.Sv
open Go.ChangeMaps (open_string shut_string)
theorem own :ownKnob Tryz.prog.godebug=none:=by kernel_rfl
theorem laidOut :laidOutB Tryz.prog=true:=by kernel_rfl
set_option maxRecDepth 100000 in
theorem lifted (os :Os) (started:os.Started) (H:Type) (enc:TypeId× Value->H):
   ReturnsInHanded {} Tryz.checked os 6 .any (fun w args=>(Rows.topThroughSpec.pre enc Tryz.prog Tryz.f6 Rows.topThroughRow.domain false w args/\laidMetH Tryz.prog Rows.topThroughRow.laid w)/\sizedMet enc Tryz.prog Tryz.f6 (OpenSpec.ofChange Rows.topThroughSpec) false w args) (Rows.topThroughSpec.post enc Tryz.prog Tryz.f6 false true false false):=by
 refine returnsInHanded_of_change_and (C:=Tryz.checked) (X:=fun w _=>laidMetH Tryz.prog Rows.topThroughRow.laid w) (fun _ _ _ hh h=>h.of_heap hh) own started (by kernel_rfl) Tryz.func6
   (ChangeSpec.witness_shaped (enc:=enc) (C:=Tryz.checked) (os:=os) (X:=fun w _=>laidMetH Tryz.prog Rows.topThroughRow.laid w) false (World.laidAll Tryz.prog os Rows.topThroughRow.laid) #[.agg #[.int .i64 0,.slice none 0 0],.slice none 0 0,.int .i64 0,.string ByteArray.empty] 8 (World.laidAll_os _ _ _)
     (World.shaped_of_ZipB (by kernel_rfl) (by kernel_rfl)) (by kernel_rfl) (by kernel_rfl) (by kernel_rfl)
     (by rw [MakeChecks.laidMetH_plain _ _ _ (by kernel_rfl)];exact laidMet_laidAll _ (by kernel_rfl) (by kernel_rfl))) ?_
 intro W base args ds gs before hval0 hW hcnd hsz0 _ _
 have hsz:(DataW.weightsEach Tryz.prog (Tryz.f6.params.toList++Rows.topThroughSpec.plain.varTypes Tryz.prog) (ds++gs)).all (· <=reachBytes)=true:=hsz0
 have hval:∀ (j:Nat) t v,Tryz.f6.params[j]? =some t->args[j]? =some v->Value.okWide Tryz.prog W .any base t v:=hval0
 have hW':=hW
 obtain ⟨p,q,hA0,hV,rfl,hfz,hnd⟩:=hW
 have hA:DataW.TrodAll enc Tryz.prog W 0 (fun _=>true) true Tryz.f6.params.toList args.toList ds p:=hA0
 rw [Tryz.params6] at hA hval hsz
 obtain ⟨v0,vs0,d0,ds0,p0,q0,hargs,rfl,rfl,h0,r0⟩:=trodAll_cons hA
 obtain ⟨v1,vs1,d1,ds1,p1,q1,rfl,rfl,rfl,h1,r1⟩:=trodAll_cons r0
 obtain ⟨v2,vs2,d2,ds2,p2,q2,rfl,rfl,rfl,h2,r2⟩:=trodAll_cons r1
 obtain ⟨v3,vs3,d3,ds3,p3,q3,rfl,rfl,rfl,h3,r3⟩:=trodAll_cons r2
 obtain ⟨rfl,rfl,rfl⟩:=trodAll_nil r3
 obtain rfl:args=#[v0,v1,v2,v3]:=by cases args;simp_all
 obtain ⟨rfl,rfl⟩:=trodVars_none hV
 have k0:=h0
 have lt0:∀ x∈p0,x.block< W.heap.size:=by obtain ⟨m,hm⟩:=k0;exact DataW.trod_lt m _ _ _ hm
 obtain ⟨_,⟨a0,rfl,b0⟩,R0⟩:=Rd.arg Lf.rd_GConfig Tryz.underlying24 (hval 0 24 v0 rfl rfl) h0 hsz (j:=0) rfl rfl
 have k1:=h1
 have lt1:∀ x∈p1,x.block< W.heap.size:=by obtain ⟨m,hm⟩:=k1;exact DataW.trod_lt m _ _ _ hm
 obtain ⟨b1,len1,cap1,rfl⟩:=okWide_slice Tryz.underlying25 (hval 1 25 v1 rfl rfl)
 obtain ⟨_,⟨a1,rfl,w1⟩,R1⟩:=Rd.arg1 (Rd.slice Tryz.underlying25 (by kernel_rfl) Lf.rd_GAct (by decide) (b:=104) (by kernel_rfl) (by decide)) rfl h1 hsz (j:=1) rfl rfl
 cases R1 with
 | cons R1 _=>
 obtain ⟨a2,rfl,rfl,rfl,w2⟩:=open_int Tryz.underlying3 (hval 2 3 v2 rfl rfl) h2
 obtain ⟨a3,rfl,rfl,rfl,y3⟩:=open_string Tryz.underlying9 (hval 3 9 v3 rfl rfl) h3
 have w3:a3.size<=140737488351232:=by
   have z:=sized_string hsz (j:=3) (t:=9) rfl rfl
   rw [Array.length_toList] at z
   exact z
 clear hA0 hval0 hsz0 hsz
 have hk:=Pu.TopThrough a0 a1 a2 a3 b0 w1.1 w1.2 w3
 refine (Con.calls (Lf.c6 true hk) (vs:=[v0,.slice b1 len1 cap1,.int .i64 a2,.string a3]) (w:=W) (.cons R0 (.cons R1 (.cons (.int _ _) (.cons (.str _) (.nil)))))).mono fun e W' ⟨he,bel⟩=> ?_
 subst he
 exact ⟨_,rfl,_,_,_,[],_,[],hW',trodAll_mk1 (shut_bool Tryz.underlying4 _),(trodAll_cons_mk (Below.trod laidOut (by kernel_rfl) (of_decide_eq_true (by kernel_rfl)) k0 bel lt0) (trodAll_cons_mk (Below.trod laidOut (by kernel_rfl) (of_decide_eq_true (by kernel_rfl)) k1 bel lt1) (trodAll_cons_mk (shut_int Tryz.underlying3 w2) (trodAll_cons_mk (shut_string Tryz.underlying9 y3) trodAll_mk0)))),rfl,bel.frame _,fun h=>by cases h⟩
theorem over :Rows.topThroughRow.holds Tryz.pinned (OpenSpec.ofChange Rows.topThroughSpec):=
 OpenClaim.holds_of_wide 6 Tryz.f6 rfl rfl rfl rfl rfl rfl rfl ⟨rfl,rfl,rfl,rfl,rfl⟩ rfl rfl rfl rfl rfl named Tryz.func6 closed
   (of_decide_eq_true (by kernel_rfl)) (by unfold Func.isWrapper;first | (rw [if_pos (by decide +kernel)];kernel_rfl) | (rw [if_neg (by decide +kernel)];exact ⟨rfl,rfl⟩))
   (fun os started H enc _=>lifted os started H enc)
theorem proved :Rows.TopThroughCardSaid:=
 Claim7.holds_tied_plain_at .later [] [.data,.data,.data] true (true, "0729afc62fabe8eeb624760bb9c12764a5e0d454408b96ccfb9f9aaa6bcd8216") true over (fun _ h=>by cases h) (by kernel_rfl) (fun _ h=>by cases h) topThrough_row_tie rfl ⟨rfl,rfl⟩ (by kernel_rfl) rfl
   (fun f fn hf hfn=>by
     obtain rfl:f=6:=Option.some.inj ((show Tryz.prog.funcNamed Rows.topThroughRow.func=some 6 from named).symm.trans hf) |>.symm
     obtain rfl:fn=Tryz.f6:=(Option.some.inj (Tryz.func6.symm.trans hfn)).symm
     refine ⟨by kernel_rfl,fun j t ht=> ?_⟩
     rw [Tryz.params6] at ht
     rcases j with _ | j
     . obtain rfl:=Option.some.inj ht;exact (show Tryz.prog.wantsStandIn 24=false by kernel_rfl)
     rcases j with _ | j
     . obtain rfl:=Option.some.inj ht;exact (show Tryz.prog.wantsStandIn 25=false by kernel_rfl)
     rcases j with _ | j
     . obtain rfl:=Option.some.inj ht;exact (show Tryz.prog.wantsStandIn 3=false by kernel_rfl)
     rcases j with _ | j
     . obtain rfl:=Option.some.inj ht;exact (show Tryz.prog.wantsStandIn 9=false by kernel_rfl)
     simp at ht)
   (by kernel_rfl)
end Go.Proofs.YtpdcnikdoikldaaGreatDoor.topThrough
namespace Go.Proofs.YtpdcnikdoikldaaGreatDoor
theorem topThrough_holds :Rows.TopThroughCardSaid:=topThrough.proved
end Go.Proofs.YtpdcnikdoikldaaGreatDoor
