import Derived.Test.YtpdcnikdoikldaaGreatDoorT13
set_option linter.unusedVariables false
set_option linter.unusedSimpArgs false
namespace Go.Proofs.YtpdcnikdoikldaaGreatDoor.Pu
open Go Go.RowKit Go.Proofs.YtpdcnikdoikldaaGreatDoor.Sv Go.Proofs.YtpdcnikdoikldaaGreatDoor.Lf
theorem Y1c6 {c :Y7} (hc:BdC c) {qs:List Y1l} (hb:∀ a∈qs,BdC a.Config) (hl:qs.length<=140737488355328) {K:J1× Bool->Option Bool} (h:Y14 c=true->WOk (Yju c qs)->K (Yju c qs,false)=some true):
   ((J25 281474976710656).bind fun v1=>bif (!v1) then some false else (J11 281474976710656 c qs 50).bind fun v2=>bif v2.2 then (J1j 281474976710656 c).bind fun v3=>some (!v3) else K v2)=some true:=by
 have hr:=Y1c4 hc hb hl
 refine stB Y1bv (Yj ?_)
 cases k:Y14 c with
 | false=>
   rw [k] at hr
   refine stB hr (Yq (stB (Y12r (by decide) c) ?_))
   rw [k];rfl
 | true=>
   rw [k] at hr
   exact stB hr (Yn (h k (Y16v k qs)))
theorem Y1c7 {qs :List Y1l} (h:∀ y∈qs,Yjj y):∀ a∈qs,BdC a.Config:=fun a ha=>⟨(h a ha).2.1,fun y hy=>((h a ha).2.2 y hy).1⟩
theorem Y1c8 {c :Y7} (h:Y91 c):BdC c:=⟨h.1,fun y hy=>(h.2 y hy).1⟩
end Go.Proofs.YtpdcnikdoikldaaGreatDoor.Pu
