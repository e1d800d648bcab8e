import Derived.Test.YtpdcnikdoikldaaGreatDoorEM
import Derived.Test.YtpdcnikdoikldaaGreatDoorBd
import Derived.Test.YtpdcnikdoikldaaGreatDoorEP0
set_option linter.unusedVariables false
set_option linter.unusedSimpArgs false
namespace Go.Proofs.YtpdcnikdoikldaaGreatDoor.Pu
open Go Go.RowKit Go.Proofs.YtpdcnikdoikldaaGreatDoor.Sv Go.Proofs.YtpdcnikdoikldaaGreatDoor.Lf
theorem Yp6 (s :ByteArray):(0<=(Y16 s).1.Src/\(Y16 s).1.Src< 4294967296)/\(0<=(Y16 s).1.Dst/\(Y16 s).1.Dst< 4294967296):=by
 have a:=Yg4 s 12
 have b:=Yg4 s 16
 unfold Y16 Ye7
 repeat' split
 all_goals first
   | exact ⟨a,b⟩
   | exact ⟨by decide,by decide⟩
theorem Y12d (p :Int) (b:ByteArray) (src dst:Int) (h:(Y9u p b src dst).2=0):Yg7 (Y9u p b src dst).1=true:=by
 have ho:∀ proto s un g,(okS proto s src dst true un g).2=0->Yg7 (okS proto s src dst true un g).1=true:=by
   intro proto s un g
   unfold okS Yce
   split
   . rename_i q;exact fun _=>q.2.1
   . intro h;simp at h
 unfold Y9u at h ⊢
 split at h
 . rename_i e
   rw [if_pos e]
   split at h
   . unfold Yce at h;simp at h
   . rename_i e2
     rw [if_neg e2];exact ho _ _ _ _ h
 . rename_i e
   rw [if_neg e]
   split at h
   . rename_i e1
     rw [if_pos e1]
     split at h
     . unfold Yce at h;simp at h
     . rename_i e2
       rw [if_neg e2];exact ho _ _ _ _ h
   . unfold Yce at h;simp at h
theorem Ybl {s :ByteArray} (h:(ofF s).2.2=0):Y5o (ofF s).1=true/\0<=(ofF s).2.1.Flags/\(ofF s).2.1.Flags< 64:=by
 have hr:=Yp6 s
 unfold ofF at h ⊢
 split at h
 . rename_i e;exact absurd h e
 rename_i e;rw [if_neg e]
 split at h
 . simp [noF] at h
 rename_i e2;rw [if_neg e2]
 split at h
 . simp [noF] at h
 rename_i e3;rw [if_neg e3]
 have hm:=Y12d _ _ _ _ (Decidable.not_not.1 e3)
 generalize (Y9u (Y16 s).1.Proto (Y16 s).1.Body (Y16 s).1.Src (Y16 s).1.Dst).1=g at*
 unfold Yg7 Yib at hm
 have hp:=of_decide_eq_true hm
 dsimp only
 refine ⟨?_,?_⟩
 . unfold Y5o
   refine decide_eq_true ⟨hr.1,hr.2,?_,hp.1.1,hp.1.2.1⟩
   show (Y16 s).1.Proto=6\/(Y16 s).1.Proto=17
   omega
 . rcases hp.2 with q | q <;> omega
def holds (e :Yp) (f:Y9) (now:Int):Bool:=
 (Y2o e.Flows f now).2&&(decide (0<=(Y2o e.Flows f now).1.To/\(Y2o e.Flows f now).1.To< (e.Config.Sites.length:Int))&&(e.Health.getD (Y2o e.Flows f now).1.To.toNat default).Up)
theorem Yr7 {N :Nat} (hN:140737488355328< N) {c:Y7} (hc:Y14 c=true) (i:Int):J1v N c i (-1)=some (decide (0<=i/\i< (c.Sites.length:Int))):=by
 obtain ⟨s1,s2⟩:=Y1t hc
 have hs:∃ r,J14 N c i=some r/\r.2=decide (0<=i/\i< (c.Sites.length:Int)):=by
   unfold J14 J45
   by_cases a:i< 0
   . exact ⟨_,Ym a rfl,by rw [decide_eq_false (show ¬ (0<=i/\i< (c.Sites.length:Int)) by omega)]⟩
   . by_cases b:i>=(c.Sites.length:Int)
     . refine ⟨(⟨0,false,0,[]⟩,false),Yu a ?_,?_⟩
       . rw [decide_eq_true b];rfl
       . rw [decide_eq_false (show ¬ (0<=i/\i< (c.Sites.length:Int)) by omega)]
     . refine ⟨(c.Sites.getD i.toNat default,true),Yu a ?_,?_⟩
       . rw [decide_eq_false b]
         exact Yn (Yd (by omega) rfl)
       . rw [decide_eq_true (show 0<=i/\i< (c.Sites.length:Int) by omega)]
 obtain ⟨r,r1,r2⟩:=hs
 unfold J1v J1u
 refine stB r1 (stB (Y3h hN c ⟨by omega,fun y hy=>by have:=(s2 y hy).2;omega⟩) ?_)
 rw [hc,r2]
 cases decide (0<=i/\i< (c.Sites.length:Int)) <;> rfl
theorem Ygf {es :List Y0} {f:Y9} {now:Int} (h:(Y2o es f now).2=true):(Y2o es f now).1∈es/\(Y2o es f now).1.Flow=f/\Y4w (Y2o es f now).1 now=false/\Y2o es f now=(es.getD (at_ f es 0).toNat default,true):=by
 unfold Y2o at h ⊢
 split at h
 . cases h
 rename_i e;rw [if_neg e]
 split at h
 . cases h
 rename_i e2;rw [if_neg e2]
 rcases Ygc f es 0 with ⟨q,_⟩ | ⟨i,q1,q2,q3⟩
 . omega
 . rw [q2,show (((0+i:Nat):Int)).toNat=i by omega] at e2 ⊢
   exact ⟨Y3q q1,Ybj.1 q3,by simpa using e2,rfl⟩
inductive Pin (e :Yp) (f:Y9) (now:Int):Y0->Bool->Prop
 | old:holds e f now=true->Pin e f now (Y2o e.Flows f now).1 true
 | new {c:Y3}:holds e f now=false->c∈Y94 e.Config e.Health->Pin e f now ⟨f,c.Id,false,0,0⟩ true
 | none {id:Int}:holds e f now=false->Y94 e.Config e.Health=[]->Pin e f now ⟨f,id,false,0,0⟩ false
structure Fits (e :Yp) (f:Y9) (x:Y0):Prop where
 flow:x.Flow=f
 away:x.Away=false
 to_:0<=x.To/\x.To< 3
 ok:Y31 x=true
theorem Y12f {e :Yp} (h:Y2w e) {f:Y9} (hf:Y5o f=true) {now:Int} {x:Y0} (hp:Pin e f now x true):Fits e f x:=by
 obtain ⟨s1,s2⟩:=Y1t h.conf
 cases hp with
 | old hh=>
   unfold holds at hh
   simp only [Bool.and_eq_true] at hh
   obtain ⟨m1,m2,m3,_⟩:=Ygf hh.1
   have p:=h.pin _ m1
   exact ⟨m2,p.1,p.2,((Y27 _).1 h.cache).1 _ m1⟩
 | new hh hc=>
   obtain ⟨j,h1,h2,h3⟩:=Y9w _ _ _ _ hc
   have hj:(0+j:Nat)< 3:=by omega
   rw [h2]
   refine ⟨rfl,rfl,⟨by show (0:Int)<=((0+j:Nat):Int);omega,by show ((0+j:Nat):Int)< 3;omega⟩,?_⟩
   unfold Y31 Y22
   rw [hf,decide_eq_true (show (0:Int)<=((0+j:Nat):Int)/\((0+j:Nat):Int)< 256 by omega)]
   rfl
def Ygg (e :Yp) (x:Y0) (s:ByteArray):Yw:=⟨167837696+e.Id,167903232+x.To,1,0,0,s⟩
abbrev Y1df:=Yp× Y1c× Int
theorem Yp7 {e :Yp} (h:Y2w e) {f:Y9} {x:Y0} (hx:Fits e f x) {s:ByteArray} (hs:s.size<=512):Y35 (Ygg e x s)=true:=by
 have a:=h.id;have b:=hx.to_
 unfold Y35 Y41 Ygg
 dsimp only
 exact decide_eq_true ⟨by omega,by omega,by omega,by omega,by omega,by omega,hs⟩
theorem Yp8 {s :ByteArray} (h:(ofF s).2.2=0):s.size<=512:=by
 rcases Nat.lt_or_ge 512 s.size with c | c
 . exfalso
   have hz:Y16 s=Ye7:=by unfold Y16;rw [if_pos (.inr c)]
   unfold ofF at h
   rw [hz] at h
   simp [Ye7,noF] at h
 . exact c
end Go.Proofs.YtpdcnikdoikldaaGreatDoor.Pu
namespace Go.Proofs.YtpdcnikdoikldaaGreatDoor.Pu
open Go Go.RowKit Go.Proofs.YtpdcnikdoikldaaGreatDoor.Sv Go.Proofs.YtpdcnikdoikldaaGreatDoor.Lf
theorem tlB (a :ByteArray):(a.toList==a.toList)=true:=by rw [beq_iff_eq]
theorem Yr8 {es :List Y0} {x y:Y0} (h:y∈(Y7t es x).1):y∈es\/y=x:=by
 have hs:y∈rest es x.Flow++[x]:=by
   unfold Y7t at h
   split at h
   . exact List.mem_of_mem_drop h
   . exact h
 rcases List.mem_append.1 hs with h | h
 . exact .inl (List.mem_filter.1 h).1
 . exact .inr (List.mem_singleton.1 h)
theorem Y1dg {e :Yp} (h:Y2w e):BdE e:=by
 obtain ⟨s1,s2⟩:=Y1t h.conf
 have s3:=Y4q h.hs
 have s4:=((Y27 _).1 h.cache).2.2
 exact ⟨⟨by omega,fun y hy=>by have:=(s2 y hy).2;omega⟩,by omega,by omega⟩
end Go.Proofs.YtpdcnikdoikldaaGreatDoor.Pu
namespace Go.Proofs.YtpdcnikdoikldaaGreatDoor.Pu
open Go Go.RowKit Go.Proofs.YtpdcnikdoikldaaGreatDoor.Sv Go.Proofs.YtpdcnikdoikldaaGreatDoor.Lf
end Go.Proofs.YtpdcnikdoikldaaGreatDoor.Pu
namespace Go.Proofs.YtpdcnikdoikldaaGreatDoor.Pu
open Go Go.RowKit Go.Proofs.YtpdcnikdoikldaaGreatDoor.Sv Go.Proofs.YtpdcnikdoikldaaGreatDoor.Lf
end Go.Proofs.YtpdcnikdoikldaaGreatDoor.Pu
namespace Go.Proofs.YtpdcnikdoikldaaGreatDoor.Pu
open Go Go.RowKit Go.Proofs.YtpdcnikdoikldaaGreatDoor.Sv Go.Proofs.YtpdcnikdoikldaaGreatDoor.Lf
end Go.Proofs.YtpdcnikdoikldaaGreatDoor.Pu
