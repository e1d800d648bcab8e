import Derived.Test.YtpdcnikdoikldaaGreatDoorEM
import Derived.Test.YtpdcnikdoikldaaGreatDoorBd
import Derived.Test.YtpdcnikdoikldaaGreatDoorEP0
set_option linter.unusedVariables false
set_option linter.unusedSimpArgs false
namespace Go.Proofs.YtpdcnikdoikldaaGreatDoor.Pu
open Go Go.RowKit Go.Proofs.YtpdcnikdoikldaaGreatDoor.Sv Go.Proofs.YtpdcnikdoikldaaGreatDoor.Lf
theorem Yoa (s :ByteArray):(0≤(Y19 s).1.Src∧(Y19 s).1.Src< 4294967296)∧(0≤(Y19 s).1.Dst∧(Y19 s).1.Dst< 4294967296):=by
 have a:=Yfk s 12
 have b:=Yfk s 16
 unfold Y19 Yc1
 repeat' split
 all_goals first
   | exact ⟨a,b⟩
   | exact ⟨by decide,by decide⟩
theorem Y11j (p :Int) (b:ByteArray) (src dst:Int) (h:(Y3m p b src dst).2=0):Y8e (Y3m p b src dst).1=true:=by
 have ho:∀ proto s un g,(okS proto s src dst true un g).2=0→Y8e (okS proto s src dst true un g).1=true:=by
   intro proto s un g
   unfold okS Y66
   split
   · rename_i q;exact fun _=>q.2.1
   · intro h;simp at h
 unfold Y3m at h ⊢
 split at h
 · rename_i e
   rw [if_pos e]
   split at h
   · unfold Y66 at h;simp at h
   · rename_i e2
     rw [if_neg e2];exact ho _ _ _ _ h
 · rename_i e
   rw [if_neg e]
   split at h
   · rename_i e1
     rw [if_pos e1]
     split at h
     · unfold Y66 at h;simp at h
     · rename_i e2
       rw [if_neg e2];exact ho _ _ _ _ h
   · unfold Y66 at h;simp at h
theorem Yhw {s :ByteArray} (h:(ofF s).2.2=0):Y57 (ofF s).1=true∧0≤(ofF s).2.1.Flags∧(ofF s).2.1.Flags< 64:=by
 have hr:=Yoa s
 unfold ofF at h ⊢
 split at h
 · rename_i e;exact absurd h e
 rename_i e;rw [if_neg e]
 split at h
 · simp [noF] at h
 rename_i e2;rw [if_neg e2]
 split at h
 · simp [noF] at h
 rename_i e3;rw [if_neg e3]
 have hm:=Y11j _ _ _ _ (Decidable.not_not.1 e3)
 generalize (Y3m (Y19 s).1.Proto (Y19 s).1.Body (Y19 s).1.Src (Y19 s).1.Dst).1=g at*
 unfold Y8e Yel at hm
 have hp:=of_decide_eq_true hm
 dsimp only
 refine ⟨?_,?_⟩
 · unfold Y57
   refine decide_eq_true ⟨hr.1,hr.2,?_,hp.1.1,hp.1.2.1⟩
   show (Y19 s).1.Proto=6∨(Y19 s).1.Proto=17
   omega
 · rcases hp.2 with q | q <;> omega
def holds (e :Ys) (f:Ye) (now:Int):Bool:=
 (Y2o e.Flows f now).2&&(decide (0≤(Y2o e.Flows f now).1.To∧(Y2o e.Flows f now).1.To< (e.Config.Sites.length:Int))&&(e.Health.getD (Y2o e.Flows f now).1.To.toNat default).Up)
theorem Yqc {N :Nat} (hN:140737488355328< N) {c:Y7} (hc:Y1a c=true) (i:Int):J1w N c i (-1)=some (decide (0≤i∧i< (c.Sites.length:Int))):=by
 obtain ⟨s1,s2⟩:=Y1s hc
 have hs:∃ r,J14 N c i=some r∧r.2=decide (0≤i∧i< (c.Sites.length:Int)):=by
   unfold J14 J4a
   by_cases a:i< 0
   · exact ⟨_,Yi a rfl,by rw [decide_eq_false (show ¬ (0≤i∧i< (c.Sites.length:Int)) by omega)]⟩
   · by_cases b:i≥(c.Sites.length:Int)
     · refine ⟨(⟨0,false,0,[]⟩,false),Yo a ?_,?_⟩
       · rw [decide_eq_true b];rfl
       · rw [decide_eq_false (show ¬ (0≤i∧i< (c.Sites.length:Int)) by omega)]
     · refine ⟨(c.Sites.getD i.toNat default,true),Yo a ?_,?_⟩
       · rw [decide_eq_false b]
         exact Yj (Y8 (by omega) rfl)
       · rw [decide_eq_true (show 0≤i∧i< (c.Sites.length:Int) by omega)]
 obtain ⟨r,r1,r2⟩:=hs
 unfold J1w J1v
 refine stB r1 (stB (Y2x hN c ⟨by omega,fun y hy=>by have:=(s2 y hy).2;omega⟩) ?_)
 rw [hc,r2]
 cases decide (0≤i∧i< (c.Sites.length:Int)) <;> rfl
theorem Yfw {es :List Y0} {f:Ye} {now:Int} (h:(Y2o es f now).2=true):(Y2o es f now).1∈es∧(Y2o es f now).1.Flow=f∧Y4n (Y2o es f now).1 now=false∧Y2o es f now=(es.getD (at_ f es 0).toNat default,true):=by
 unfold Y2o at h ⊢
 split at h
 · cases h
 rename_i e;rw [if_neg e]
 split at h
 · cases h
 rename_i e2;rw [if_neg e2]
 rcases Yfs f es 0 with ⟨q,_⟩ | ⟨i,q1,q2,q3⟩
 · omega
 · rw [q2,show (((0+i:Nat):Int)).toNat=i by omega] at e2 ⊢
   exact ⟨Y3f q1,Yb5.1 q3,by simpa using e2,rfl⟩
inductive Pin (e :Ys) (f:Ye) (now:Int):Y0→Bool→Prop
 | old:holds e f now=true→Pin e f now (Y2o e.Flows f now).1 true
 | new {c:Y3}:holds e f now=false→c∈Y8q e.Config e.Health→Pin e f now ⟨f,c.Id,false,0,0⟩ true
 | none {id:Int}:holds e f now=false→Y8q e.Config e.Health=[]→Pin e f now ⟨f,id,false,0,0⟩ false
structure Fits (e :Ys) (f:Ye) (x:Y0):Prop where
 flow:x.Flow=f
 away:x.Away=false
 to_:0≤x.To∧x.To< 3
 ok:Y2y x=true
theorem Y11l {e :Ys} (h:Y2t e) {f:Ye} (hf:Y57 f=true) {now:Int} {x:Y0} (hp:Pin e f now x true):Fits e f x:=by
 obtain ⟨s1,s2⟩:=Y1s h.conf
 cases hp with
 | old hh=>
   unfold holds at hh
   simp only [Bool.and_eq_true] at hh
   obtain ⟨m1,m2,m3,_⟩:=Yfw hh.1
   have p:=h.pin _ m1
   exact ⟨m2,p.1,p.2,((Y20 _).1 h.cache).1 _ m1⟩
 | new hh hc=>
   obtain ⟨j,h1,h2,h3⟩:=Y9j _ _ _ _ hc
   have hj:(0+j:Nat)< 3:=by omega
   rw [h2]
   refine ⟨rfl,rfl,⟨by show (0:Int)≤((0+j:Nat):Int);omega,by show ((0+j:Nat):Int)< 3;omega⟩,?_⟩
   unfold Y2y Y28
   rw [hf,decide_eq_true (show (0:Int)≤((0+j:Nat):Int)∧((0+j:Nat):Int)< 256 by omega)]
   rfl
def Yt7 (e :Ys) (x:Y0) (s:ByteArray):Y15:=⟨167837696+e.Id,167903232+x.To,1,0,0,s⟩
abbrev Y1cl:=Ys× Y1g× Int
theorem Y11m {e :Ys} (h:Y2t e) {f:Ye} {x:Y0} (hx:Fits e f x) {s:ByteArray} (hs:s.size≤512):Y5m (Yt7 e x s)=true:=by
 have a:=h.id;have b:=hx.to_
 unfold Y5m Y3w Yt7
 dsimp only
 exact decide_eq_true ⟨by omega,by omega,by omega,by omega,by omega,by omega,hs⟩
theorem Y11n {s :ByteArray} (h:(ofF s).2.2=0):s.size≤512:=by
 rcases Nat.lt_or_ge 512 s.size with c | c
 · exfalso
   have hz:Y19 s=Yc1:=by unfold Y19;rw [if_pos (.inr c)]
   unfold ofF at h
   rw [hz] at h
   simp [Yc1,noF] at h
 · exact c
end Go.Proofs.YtpdcnikdoikldaaGreatDoor.Pu
namespace Go.Proofs.YtpdcnikdoikldaaGreatDoor.Pu
open Go Go.RowKit Go.Proofs.YtpdcnikdoikldaaGreatDoor.Sv Go.Proofs.YtpdcnikdoikldaaGreatDoor.Lf
theorem tlB (a :ByteArray):(a.toList==a.toList)=true:=by rw [beq_iff_eq]
theorem beqI (a :Int):(a==a)=true:=by rw [beq_iff_eq]
theorem Yt8 (a :Bool):(a==a)=true:=by cases a <;> rfl
theorem Yiw (N :Nat) (T:List Y23) (hT:T.length≤100):∀ (d fuel i:Nat),T.length=i+d→d< fuel→J4e N fuel T T (i:Int)=some true:=by
 intro d
 induction d with
 | zero=>
   intro fuel i hi hf
   obtain ⟨fuel,rfl⟩:∃ f,fuel=f+1:=⟨fuel - 1,by omega⟩
   rw [J4e]
   exact Yo (by omega) rfl
 | succ d ih=>
   intro fuel i hi hf
   obtain ⟨fuel,rfl⟩:∃ f,fuel=f+1:=⟨fuel - 1,by omega⟩
   rw [J4e,w64 (n:=(i:Int)+1) (by omega) (by omega)]
   refine Yi (by omega) (Y8 (by omega) (Y8 (by omega) ?_))
   simp only [beqI,Yt8,Bool.and_true,Bool.not_true,cond_false]
   exact ih fuel (i+1) (by omega) (by omega)
theorem Yob {N :Nat} (hN:1000≤N) {T:List Y23} (hT:T.length≤100):J8t N T T=some true:=by
 unfold J8t
 exact Y13 rfl (Yiw N T hT T.length N 0 (by omega) (by omega))
theorem Yfx (N :Nat) (T:List Y5) (hT:T.length≤100):∀ (d fuel i:Nat),T.length=i+d→d< fuel→J4f N fuel T T (i:Int)=some true:=by
 intro d
 induction d with
 | zero=>
   intro fuel i hi hf
   obtain ⟨fuel,rfl⟩:∃ f,fuel=f+1:=⟨fuel - 1,by omega⟩
   rw [J4f]
   exact Yo (by omega) rfl
 | succ d ih=>
   intro fuel i hi hf
   obtain ⟨fuel,rfl⟩:∃ f,fuel=f+1:=⟨fuel - 1,by omega⟩
   rw [J4f,w64 (n:=(i:Int)+1) (by omega) (by omega)]
   refine Yi (by omega) (Y8 (by omega) (Y8 (by omega) ?_))
   simp only [beqI,Yt8,Bool.and_true,Bool.not_true,cond_false]
   exact ih fuel (i+1) (by omega) (by omega)
theorem Yhx (N :Nat) (T:List Y0) (hT:T.length≤100):∀ (d fuel i:Nat),T.length=i+d→d< fuel→J4g N fuel T T (i:Int)=some true:=by
 intro d
 induction d with
 | zero=>
   intro fuel i hi hf
   obtain ⟨fuel,rfl⟩:∃ f,fuel=f+1:=⟨fuel - 1,by omega⟩
   rw [J4g]
   exact Yo (by omega) rfl
 | succ d ih=>
   intro fuel i hi hf
   obtain ⟨fuel,rfl⟩:∃ f,fuel=f+1:=⟨fuel - 1,by omega⟩
   rw [J4g,w64 (n:=(i:Int)+1) (by omega) (by omega)]
   refine Yi (by omega) (Y8 (by omega) (Y8 (by omega) ?_))
   simp only [beqI,Yt8,Bool.and_true,Bool.not_true,cond_false]
   exact ih fuel (i+1) (by omega) (by omega)
theorem Yix {N :Nat} (hN:1000≤N) (v:Int) (T:List Yg) (hT:T.length≤100) (hb:∀ y∈T,y.Backs.length≤100):∀ (d fuel i:Nat),T.length=i+d→d< fuel→J1l N fuel v T v T (i:Int)=some true:=by
 intro d
 induction d with
 | zero=>
   intro fuel i hi hf
   obtain ⟨fuel,rfl⟩:∃ f,fuel=f+1:=⟨fuel - 1,by omega⟩
   rw [J1l]
   exact Yo (by omega) rfl
 | succ d ih=>
   intro fuel i hi hf
   obtain ⟨fuel,rfl⟩:∃ f,fuel=f+1:=⟨fuel - 1,by omega⟩
   have hil:i< T.length:=by omega
   rw [J1l,Int.toNat_natCast]
   unfold J4h
   rw [w64 (n:=(i:Int)+1) (by omega) (by omega)]
   refine Yi (by omega) (Y8 (by omega) (Y8 (by omega) (Y13 rfl ?_)))
   rw [Yt8]
   refine Yc (Y13 rfl (stB (Yob hN (hb _ (Y3f hil))) (Yc ?_)))
   exact ih fuel (i+1) (by omega) (by omega)
theorem Yp5 {N :Nat} (hN:1000≤N) {e:Ys} (h:Y2t e):J8u N e e=some true:=by
 obtain ⟨s1,s2⟩:=Y1s h.conf
 have s3:=Y47 h.hs
 have s4:=((Y20 _).1 h.cache).2.2
 have c1:J8v N e.Config e.Config=some true:=by
   unfold J8v J8w
   refine Y13 rfl ?_
   rw [show ((e.Config.Sites.length:Int) != (e.Config.Sites.length:Int))=false by simp]
   exact Yj (Yix hN _ _ (by omega) (fun y hy=>by have:=(s2 y hy).2;omega) e.Config.Sites.length N 0 (by omega) (by omega))
 have c2:J8x N e.Health e.Health=some true:=by
   unfold J8x
   exact Y13 rfl (Yfx N _ (by omega) e.Health.length N 0 (by omega) (by omega))
 have c3:J8y N e.Flows e.Flows=some true:=by
   unfold J8y
   exact Y13 rfl (Yhx N _ (by omega) e.Flows.length N 0 (by omega) (by omega))
 unfold J8u J4i
 exact Ym rfl (stB c1 (Yk (stB c2 (Yk (stB c3 rfl)))))
theorem Yqd {es :List Y0} {x y:Y0} (h:y∈(Y7r es x).1):y∈es∨y=x:=by
 have hs:y∈rest es x.Flow++[x]:=by
   unfold Y7r at h
   split at h
   · exact List.mem_of_mem_drop h
   · exact h
 rcases List.mem_append.1 hs with h | h
 · exact .inl (List.mem_filter.1 h).1
 · exact .inr (List.mem_singleton.1 h)
theorem Y1cm {e :Ys} (h:Y2t e):BdE e:=by
 obtain ⟨s1,s2⟩:=Y1s h.conf
 have s3:=Y47 h.hs
 have s4:=((Y20 _).1 h.cache).2.2
 exact ⟨⟨by omega,fun y hy=>by have:=(s2 y hy).2;omega⟩,by omega,by omega⟩
end Go.Proofs.YtpdcnikdoikldaaGreatDoor.Pu
namespace Go.Proofs.YtpdcnikdoikldaaGreatDoor.Pu
open Go Go.RowKit Go.Proofs.YtpdcnikdoikldaaGreatDoor.Sv Go.Proofs.YtpdcnikdoikldaaGreatDoor.Lf
end Go.Proofs.YtpdcnikdoikldaaGreatDoor.Pu
namespace Go.Proofs.YtpdcnikdoikldaaGreatDoor.Pu
open Go Go.RowKit Go.Proofs.YtpdcnikdoikldaaGreatDoor.Sv Go.Proofs.YtpdcnikdoikldaaGreatDoor.Lf
end Go.Proofs.YtpdcnikdoikldaaGreatDoor.Pu
namespace Go.Proofs.YtpdcnikdoikldaaGreatDoor.Pu
open Go Go.RowKit Go.Proofs.YtpdcnikdoikldaaGreatDoor.Sv Go.Proofs.YtpdcnikdoikldaaGreatDoor.Lf
end Go.Proofs.YtpdcnikdoikldaaGreatDoor.Pu
