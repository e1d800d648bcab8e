import Derived.Test.YtpdcnikdoikldaaGreatDoorSvTy
set_option linter.unusedVariables false
set_option linter.unusedSimpArgs false
namespace Go.Proofs.YtpdcnikdoikldaaGreatDoor.Sv
open Go Go.RowKit
theorem Con.calls {P :Program} {f:FuncId} {ds:List D} {b:Bool} (h:Con P f ds [] (.bool b) []) {w:World} {vs:List Value} (hv:Rs (fun b=>b< w.heap.size) w noB Y1h ds vs):
   Calls P f vs.toArray w fun e w'=>e=.returned (.bool b)/\Below w.heap.size w w':=by
 obtain ⟨_,h⟩:=h
 refine (h (fun b=>b< w.heap.size) noB Y1h w vs (fun b hb=>hb.elim id fun h=>h.elim) (fun _ _=>rfl) ⟨fun b k hs=>by simp [Y2h,look] at hs,fun b k pl B hs=>by simp [Y2h,look] at hs,fun b c k l pl pl' B hs=>by simp [Y2h,look] at hs⟩ hv).mono ?_
 rintro e w' ⟨v,im',Qa,rfl,hk,_,_,_,_,_,_,_,hr⟩
 cases hr
 refine ⟨rfl,?_⟩
 have hn:∀ B,¬ Y3z Y1h (Y2h []) B:=by
   rintro B ⟨b,k,pl,h1,h2,h3⟩
   simp [Y1h] at h2
 exact {size:=hk.size,block:=fun b hb=>hk.block b hb (hn b),os:=hk.os,tape:=hk.tape,output:=hk.output}
end Go.Proofs.YtpdcnikdoikldaaGreatDoor.Sv
