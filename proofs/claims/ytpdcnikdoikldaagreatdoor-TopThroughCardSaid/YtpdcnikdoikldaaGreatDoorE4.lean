import Derived.Test.YtpdcnikdoikldaaGreatDoorEM
import Derived.Test.YtpdcnikdoikldaaGreatDoorBd
import Derived.Test.YtpdcnikdoikldaaGreatDoorEP0
set_option linter.unusedVariables false
set_option linter.unusedSimpArgs false
namespace Go.Proofs.YtpdcnikdoikldaaGreatDoor.Pu
open Go Go.RowKit Go.Proofs.YtpdcnikdoikldaaGreatDoor.Sv Go.Proofs.YtpdcnikdoikldaaGreatDoor.Lf
theorem Yqb (s :ByteArray):(0<=(Y1b s).1.Src/\(Y1b s).1.Src< 4294967296)/\(0<=(Y1b s).1.Dst/\(Y1b s).1.Dst< 4294967296):=by
 have a:=Ygu s 12
 have b:=Ygu s 16
 unfold Y1b Yey
 repeat' split
 all_goals first
   | exact ⟨a,b⟩
   | exact ⟨by decide,by decide⟩
theorem Y14d (p :Int) (b:ByteArray) (src dst:Int) (h:(Y8k p b src dst).2=0):Y5z (Y8k p b src dst).1=true:=by
 have ho:∀ proto s un g,(okS proto s src dst true un g).2=0->Y5z (okS proto s src dst true un g).1=true:=by
   intro proto s un g
   unfold okS Yd5
   split
   . rename_i q;exact fun _=>q.2.1
   . intro h;simp at h
 unfold Y8k at h ⊢
 split at h
 . rename_i e
   rw [if_pos e]
   split at h
   . unfold Yd5 at h;simp at h
   . rename_i e2
     rw [if_neg e2];exact ho _ _ _ _ h
 . rename_i e
   rw [if_neg e]
   split at h
   . rename_i e1
     rw [if_pos e1]
     split at h
     . unfold Yd5 at h;simp at h
     . rename_i e2
       rw [if_neg e2];exact ho _ _ _ _ h
   . unfold Yd5 at h;simp at h
theorem Y8z {s :ByteArray} (h:(ofF s).2.2=0):Y47 (ofF s).1=true/\0<=(ofF s).2.1.Flags/\(ofF s).2.1.Flags< 64:=by
 have hr:=Yqb s
 unfold ofF at h ⊢
 split at h
 . rename_i e;exact absurd h e
 rename_i e;rw [if_neg e]
 split at h
 . simp [noF] at h
 rename_i e2;rw [if_neg e2]
 split at h
 . simp [noF] at h
 rename_i e3;rw [if_neg e3]
 have hm:=Y14d _ _ _ _ (Decidable.not_not.1 e3)
 generalize (Y8k (Y1b s).1.Proto (Y1b s).1.Body (Y1b s).1.Src (Y1b s).1.Dst).1=g at*
 unfold Y5z Y9n at hm
 have hp:=of_decide_eq_true hm
 dsimp only
 refine ⟨?_,?_⟩
 . unfold Y47
   refine decide_eq_true ⟨hr.1,hr.2,?_,hp.1.1,hp.1.2.1⟩
   show (Y1b s).1.Proto=6\/(Y1b s).1.Proto=17
   omega
 . rcases hp.2 with q | q <;> omega
def holds (e :Yq) (f:Y9) (now:Int):Bool:=
 (Y2n e.Flows f now).2&&(decide (0<=(Y2n e.Flows f now).1.To/\(Y2n e.Flows f now).1.To< (e.Config.Sites.length:Int))&&(e.Health.getD (Y2n e.Flows f now).1.To.toNat default).Up)
theorem Ysn {N :Nat} (hN:140737488355328< N) {c:Y7} (hc:Y19 c=true) (i:Int):J1z N c i (-1)=some (decide (0<=i/\i< (c.Sites.length:Int))):=by
 obtain ⟨s1,s2⟩:=Y1x hc
 have hs:∃ r,J17 N c i=some r/\r.2=decide (0<=i/\i< (c.Sites.length:Int)):=by
   unfold J17 J47
   by_cases a:i< 0
   . exact ⟨_,Yj a rfl,by rw [decide_eq_false (show ¬ (0<=i/\i< (c.Sites.length:Int)) by omega)]⟩
   . by_cases b:i>=(c.Sites.length:Int)
     . refine ⟨(⟨0,false,0,[]⟩,false),Yt a ?_,?_⟩
       . rw [decide_eq_true b];rfl
       . rw [decide_eq_false (show ¬ (0<=i/\i< (c.Sites.length:Int)) by omega)]
     . refine ⟨(c.Sites.getD i.toNat default,true),Yt a ?_,?_⟩
       . rw [decide_eq_false b]
         exact Yk (Yb (by omega) rfl)
       . rw [decide_eq_true (show 0<=i/\i< (c.Sites.length:Int) by omega)]
 obtain ⟨r,r1,r2⟩:=hs
 unfold J1z J1y
 refine stB r1 (stB (Y31 hN c ⟨by omega,fun y hy=>by have:=(s2 y hy).2;omega⟩) ?_)
 rw [hc,r2]
 cases decide (0<=i/\i< (c.Sites.length:Int)) <;> rfl
theorem Yh7 {es :List Y0} {f:Y9} {now:Int} (h:(Y2n es f now).2=true):(Y2n es f now).1∈es/\(Y2n es f now).1.Flow=f/\Y59 (Y2n es f now).1 now=false/\Y2n es f now=(es.getD (at_ f es 0).toNat default,true):=by
 unfold Y2n at h ⊢
 split at h
 . cases h
 rename_i e;rw [if_neg e]
 split at h
 . cases h
 rename_i e2;rw [if_neg e2]
 rcases Yh4 f es 0 with ⟨q,_⟩ | ⟨i,q1,q2,q3⟩
 . omega
 . rw [q2,show (((0+i:Nat):Int)).toNat=i by omega] at e2 ⊢
   exact ⟨Y3t q1,Yc9.1 q3,by simpa using e2,rfl⟩
inductive Pin (e :Yq) (f:Y9) (now:Int):Y0->Bool->Prop
 | old:holds e f now=true->Pin e f now (Y2n e.Flows f now).1 true
 | new {c:Y3}:holds e f now=false->c∈Y9p e.Config e.Health->Pin e f now ⟨f,c.Id,false,0,0⟩ true
 | none {id:Int}:holds e f now=false->Y9p e.Config e.Health=[]->Pin e f now ⟨f,id,false,0,0⟩ false
structure Fits (e :Yq) (f:Y9) (x:Y0):Prop where
 flow:x.Flow=f
 away:x.Away=false
 to_:0<=x.To/\x.To< 3
 ok:Y32 x=true
theorem Y14f {e :Yq} (h:Y2u e) {f:Y9} (hf:Y47 f=true) {now:Int} {x:Y0} (hp:Pin e f now x true):Fits e f x:=by
 obtain ⟨s1,s2⟩:=Y1x h.conf
 cases hp with
 | old hh=>
   unfold holds at hh
   simp only [Bool.and_eq_true] at hh
   obtain ⟨m1,m2,m3,_⟩:=Yh7 hh.1
   have p:=h.pin _ m1
   exact ⟨m2,p.1,p.2,((Y28 _).1 h.cache).1 _ m1⟩
 | new hh hc=>
   obtain ⟨j,h1,h2,h3⟩:=Yah _ _ _ _ hc
   have hj:(0+j:Nat)< 3:=by omega
   rw [h2]
   refine ⟨rfl,rfl,⟨by show (0:Int)<=((0+j:Nat):Int);omega,by show ((0+j:Nat):Int)< 3;omega⟩,?_⟩
   unfold Y32 Y20
   rw [hf,decide_eq_true (show (0:Int)<=((0+j:Nat):Int)/\((0+j:Nat):Int)< 256 by omega)]
   rfl
def Yai (e :Yq) (x:Y0) (s:ByteArray):Yv:=⟨167837696+e.Id,167903232+x.To,1,0,0,s⟩
abbrev Y1fx:=Yq× Y1e× Int
theorem Yqc {e :Yq} (h:Y2u e) {f:Y9} {x:Y0} (hx:Fits e f x) {s:ByteArray} (hs:s.size<=512):Y3h (Yai e x s)=true:=by
 have a:=h.id;have b:=hx.to_
 unfold Y3h Y3w Yai
 dsimp only
 exact decide_eq_true ⟨by omega,by omega,by omega,by omega,by omega,by omega,hs⟩
theorem Yqd {s :ByteArray} (h:(ofF s).2.2=0):s.size<=512:=by
 rcases Nat.lt_or_ge 512 s.size with c | c
 . exfalso
   have hz:Y1b s=Yey:=by unfold Y1b;rw [if_pos (.inr c)]
   unfold ofF at h
   rw [hz] at h
   simp [Yey,noF] at h
 . exact c
end Go.Proofs.YtpdcnikdoikldaaGreatDoor.Pu
namespace Go.Proofs.YtpdcnikdoikldaaGreatDoor.Pu
open Go Go.RowKit Go.Proofs.YtpdcnikdoikldaaGreatDoor.Sv Go.Proofs.YtpdcnikdoikldaaGreatDoor.Lf
theorem tlB (a :ByteArray):(a.toList==a.toList)=true:=by rw [beq_iff_eq]
theorem Yso {es :List Y0} {x y:Y0} (h:y∈(Y86 es x).1):y∈es\/y=x:=by
 have hs:y∈rest es x.Flow++[x]:=by
   unfold Y86 at h
   split at h
   . exact List.mem_of_mem_drop h
   . exact h
 rcases List.mem_append.1 hs with h | h
 . exact .inl (List.mem_filter.1 h).1
 . exact .inr (List.mem_singleton.1 h)
theorem Y1fy {e :Yq} (h:Y2u e):BdE e:=by
 obtain ⟨s1,s2⟩:=Y1x h.conf
 have s3:=Y50 h.hs
 have s4:=((Y28 _).1 h.cache).2.2
 exact ⟨⟨by omega,fun y hy=>by have:=(s2 y hy).2;omega⟩,by omega,by omega⟩
end Go.Proofs.YtpdcnikdoikldaaGreatDoor.Pu
namespace Go.Proofs.YtpdcnikdoikldaaGreatDoor.Pu
open Go Go.RowKit Go.Proofs.YtpdcnikdoikldaaGreatDoor.Sv Go.Proofs.YtpdcnikdoikldaaGreatDoor.Lf
end Go.Proofs.YtpdcnikdoikldaaGreatDoor.Pu
namespace Go.Proofs.YtpdcnikdoikldaaGreatDoor.Pu
open Go Go.RowKit Go.Proofs.YtpdcnikdoikldaaGreatDoor.Sv Go.Proofs.YtpdcnikdoikldaaGreatDoor.Lf
end Go.Proofs.YtpdcnikdoikldaaGreatDoor.Pu
namespace Go.Proofs.YtpdcnikdoikldaaGreatDoor.Pu
open Go Go.RowKit Go.Proofs.YtpdcnikdoikldaaGreatDoor.Sv Go.Proofs.YtpdcnikdoikldaaGreatDoor.Lf
def Ydc (i :Int):Y9:=⟨i % 65536,167772161,6,7,80⟩
def Ykh (body :ByteArray):ByteArray:=body.extract 0 (min 60 body.size)
def Yki (i flags :Int) (body:ByteArray):ByteArray:=Yft (Ydc i) (flags % 64) (Ykh body)
theorem Ylh (body :ByteArray):(Ykh body).size<=60:=by unfold Ykh;rw [ByteArray.size_extract];omega
theorem Yqe (i flags :Int) (body:ByteArray):okP (Ydc i) (flags % 64) (Ykh body):=by
 have hb:=Ylh body
 refine ⟨?_,?_⟩
 . unfold Y47 Ydc;dsimp only;exact decide_eq_true ⟨by omega,by omega,by omega,by omega,by omega⟩
 . unfold Y5z Y9n Y52 Ydc;dsimp only;exact decide_eq_true ⟨⟨by omega,by omega,by omega⟩,.inl ⟨rfl,by omega,by omega,by omega⟩⟩
theorem Y1e5 (i flags :Int) (body:ByteArray):ofF (Yki i flags body)=(Ydc i,Y52 (Ydc i) (flags % 64) (Ykh body),0):=Y17z (Yqe i flags body) rfl
theorem Y14g (i flags :Int) (body:ByteArray):(Yki i flags body).size<=100:=by
 have:=Yzo (Yqe i flags body);have:=Ylh body
 unfold Yki;omega
theorem Y18i (n :Nat):(if decide (60< (n:Int)) then (60:Int) else (n:Int))=((min 60 n:Nat):Int):=by
 by_cases c:60< n
 . rw [if_pos (decide_eq_true (by omega)),Nat.min_eq_left (by omega)];rfl
 . rw [if_neg (by rw [decide_eq_true_eq];omega),Nat.min_eq_right (by omega)]
end Go.Proofs.YtpdcnikdoikldaaGreatDoor.Pu
