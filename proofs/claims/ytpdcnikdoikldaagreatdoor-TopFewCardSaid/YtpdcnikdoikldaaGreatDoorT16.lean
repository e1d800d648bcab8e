import Derived.Test.YtpdcnikdoikldaaGreatDoorT15
set_option linter.unusedVariables false
set_option linter.unusedSimpArgs false
namespace Go.Proofs.YtpdcnikdoikldaaGreatDoor.Pu
open Go Go.RowKit Go.Proofs.YtpdcnikdoikldaaGreatDoor.Sv Go.Proofs.YtpdcnikdoikldaaGreatDoor.Lf
inductive Ypr (j :Int):List Y1->Nat->Prop
 | mk {b:Int} {ev:List Y1} {m:Nat}:Y4g ⟨2,j,b⟩ ev->m<=1->Ypr j ev m
inductive Ygp (j :Int):List Y1->Nat->Prop
 | quiet {ev:List Y1}:Y4g ⟨1,j,0⟩ ev->Ygp j ev 0
 | sent {e1 e2:List Y1} {m:Nat}:Y6k ⟨1,j,0⟩ e1->Ypr j e2 m->Ygp j (e1++e2) m
inductive Yjx (j :Int):List Y1->Nat->Prop
 | two {ev:List Y1} {m:Nat}:Ygp j ev m->Yjx j ev m
 | away {k:Int} {e1 e2:List Y1} {m:Nat}:Y6k ⟨1,j,0⟩ e1->k≠j->Ygp k e2 m->Yjx j (e1++e2) m
inductive Yps (i :Int):List Y1->Nat->Prop
 | quiet {ev:List Y1}:Y4g ⟨0,0,i⟩ ev->Yps i ev 0
 | sent {j:Int} {e1 e2:List Y1} {m:Nat}:Y6k ⟨0,0,i⟩ e1->Yjx j e2 m->Yps i (e1++e2) m
def Y89 (n :Nat) (w:J1) (W:List Y1->Nat->Prop):Prop:=∃ ev m f sent,W ev m/\Y2y n w=⟨f,⟨[]⟩,w.trace_++ev,w.got_++sent⟩/\sent.length=m
theorem Y4g.len {t :J2} {l:List Y1} (h:Y4g t l):l.length<=1:=by cases h <;> first | exact Nat.zero_le _ | exact Nat.le_refl 1
theorem Y6k.len {t :J2} {l:List Y1} (h:Y6k t l):l.length<=2:=by
 cases h
 . exact (show (1:Nat)<=2 by decide)
 . exact Nat.le_refl 2
theorem Yer {n :Nat} {w:J1} (h:w.net_.row_=[]) {W:List Y1->Nat->Prop} (hW:W [] 0):Y89 n w W:=
 ⟨[],0,w.fabric_,[],hW,by rw [Y8o h,List.append_nil,List.append_nil,<- h],rfl⟩
theorem Ygq {w :J1} {x:ByteArray} (h:w.net_.row_=[x]) (hw:WOk w):WOk (Y7w w ⟨[]⟩):=Yky hw
theorem endB {n :Nat} {w:J1} (hw:WOk w) {o:Yw} (hnet:w.net_.row_=[Y13 o]) (ht:w.trace_.length+2<=4096) (h:Y35 o=true) (hz:o.Body.size<=324) {j b:Int} (hj:j=0\/j=1\/j=2) (hb:b=0\/b=1\/b=2\/b=3) (hd:o.Dst=167968768+256*j+b):
   Y89 (n+1) w (Ypr j):=by
 have hl:=Yz4 (w:=Y7w w ⟨[]⟩) (Ygq hnet hw) ht h hz hj hb hd
 have key:Y4g ⟨2,j,b⟩ (Y10 w.fabric_ 2 j b (Y13 o)).1.Events/\(Y10 w.fabric_ 2 j b (Y13 o)).1.Sent.length<=1:=by
   generalize Y13 o=t
   cases hu:upF w.fabric_ 2 j b with
   | false=>
     rw [Yiu hu]
     exact ⟨Y28 ⟨2,j,b⟩ zF (k:=9) (by decide),Nat.zero_le 1⟩
   | true=>
     rw [Yuj hu]
     obtain ⟨q1,q2⟩:=Yl3 j b t
     dsimp only
     cases ((Y3m j b t).1.toList==ByteArray.empty.toList) with
     | true=>exact ⟨q2,by rw [Bool.not_true,cond_false,q1];exact Nat.zero_le _⟩
     | false=>exact ⟨q2,Nat.le_refl 1⟩
 exact ⟨_,_,_,_,.mk key.1 (Nat.le_trans (List.length_take_le' ..) key.2),by rw [Yl0 hnet,hl];exact Y8o rfl,rfl⟩
theorem Yl5 {w :J1} (hw:WOk w) {o:Yw} (hnet:w.net_.row_=[Y13 o]) (ht:w.trace_.length+2<=4096) (h:Y35 o=true) (hz:o.Body.size<=324) {j:Int} (hj:j=0\/j=1\/j=2) (hd:o.Dst=167903232+j):
   ∃ w' ev,(∀ n,Y2y (n+1) w=Y2y n w')/\WOk w'/\w'.trace_=w.trace_++ev/\w'.got_=w.got_/\
     ((w'.net_.row_=[]/\Y4g ⟨1,j,0⟩ ev)\/∃ o',w'.net_.row_=[Y13 o']/\Y35 o'=true/\o'.Body.size<=324/\Y6k ⟨1,j,0⟩ ev/\
       ((∃ b,(b=0\/b=1\/b=2\/b=3)/\o'.Dst=167968768+256*j+b)\/(o.Tier≠2/\∃ k,(k=0\/k=1\/k=2)/\k≠j/\o'.Dst=167903232+k/\o'.Tier=2))):=by
 have hl:=Yz3 (w:=Y7w w ⟨[]⟩) (Ygq hnet hw) rfl ht h hz hj hd
 have hb:=Yim (.inr (.inl ⟨rfl,hj,rfl⟩):Has 1 j 0)
 have hwl:WOk (Y6z (Y7w w ⟨[]⟩) (Y13 o)):=Ypg (Ygq hnet hw) _
 refine ⟨Y6z (Y7w w ⟨[]⟩) (Y13 o),(Y10 w.fabric_ 1 j 0 (Y13 o)).1.Events,fun n=>Yl0 hnet,hwl,by rw [hl];rfl,by rw [hl];rfl,?_⟩
 rw [hl]
 have key:∀ t,Yl t=(o,0)->(((Y10 w.fabric_ 1 j 0 t).1.Sent=[]/\Y4g ⟨1,j,0⟩ (Y10 w.fabric_ 1 j 0 t).1.Events)\/∃ o',(Y10 w.fabric_ 1 j 0 t).1.Sent=[Y13 o']/\Y35 o'=true/\o'.Body.size<=324/\Y6k ⟨1,j,0⟩ (Y10 w.fabric_ 1 j 0 t).1.Events/\
       ((∃ b,(b=0\/b=1\/b=2\/b=3)/\o'.Dst=167968768+256*j+b)\/(o.Tier≠2/\∃ k,(k=0\/k=1\/k=2)/\k≠j/\o'.Dst=167903232+k/\o'.Tier=2))):=by
   intro t hpop
   cases hu:upF w.fabric_ 1 j 0 with
   | false=>
     rw [Yiu hu]
     exact .inl ⟨rfl,Y28 ⟨1,j,0⟩ zF (k:=9) (by decide)⟩
   | true=>
   rw [Yui hu]
   dsimp only
   have q:=hw.fab.sAt hj
   have htn:tN (sAt w.fabric_.sites_ j).it_=⟨1,j,0⟩:=by unfold tN;rw [q.2]
   rcases Yeq q.1 hw.fab.now t with ⟨a,b⟩ | ⟨e,i,a,a2,a3,a4,a5,a6,a7,a8,a9,b⟩
   . rw [htn] at b
     exact .inl ⟨a,b⟩
   . rw [htn] at b
     refine .inr ⟨_,a,a2,a3,b,?_⟩
     unfold Y6x
     rw [q.2]
     cases hw2:e.Away with
     | false=>
       have:=a4.here hw2
       exact .inl ⟨e.To,by omega,rfl⟩
     | true=>
       have hk:=a4.away hw2
       rw [q.2] at hk
       refine .inr ⟨fun z=> ?_,e.To,by omega,hk.2,rfl,rfl⟩
       have:=a6 (by rw [hpop];exact z)
       rw [hw2] at this
       cases this
 exact key _ (Y126 h hz)
theorem Y89.step {n :Nat} {w w':J1} {ev:List Y1} (h1:Y2y (n+1) w=Y2y n w') (h2:w'.trace_=w.trace_++ev) (h3:w'.got_=w.got_) {W W':List Y1->Nat->Prop} (h:Y89 n w' W) (hW:∀ e m,W e m->W' (ev++e) m):Y89 (n+1) w W':=by
 obtain ⟨e,m,f,sent,k1,k2,k3⟩:=h
 exact ⟨ev++e,m,f,sent,hW e m k1,by rw [h1,k2,h2,h3,List.append_assoc],k3⟩
theorem end2 {n :Nat} {w:J1} (hw:WOk w) {o:Yw} (hnet:w.net_.row_=[Y13 o]) (ht:w.trace_.length+4<=4096) (h:Y35 o=true) (hz:o.Body.size<=324) {j:Int} (hj:j=0\/j=1\/j=2) (hd:o.Dst=167903232+j) (h2:o.Tier=2):
   Y89 (n+2) w (Ygp j):=by
 obtain ⟨w',ev,k1,k2,k3,k4,k5⟩:=Yl5 hw hnet (by omega) h hz hj hd
 rcases k5 with ⟨a,b⟩ | ⟨o',a1,a2,a3,a4,a5⟩
 . exact Y89.step (k1 (n+1)) k3 k4 (Yer (W:=fun e m=>e=[]/\m=0) a ⟨rfl,rfl⟩) fun e m q=>by
     obtain ⟨rfl,rfl⟩:=q
     rw [List.append_nil]
     exact .quiet b
 . rcases a5 with ⟨b,b1,b2⟩ | ⟨b,_⟩
   . have:=a4.len
     exact Y89.step (k1 (n+1)) k3 k4 (endB k2 a1 (by rw [k3,List.length_append];omega) a2 a3 hj b1 b2) fun e m q=>.sent a4 q
   . exact absurd h2 b
theorem end1 {n :Nat} {w:J1} (hw:WOk w) {o:Yw} (hnet:w.net_.row_=[Y13 o]) (ht:w.trace_.length+6<=4096) (h:Y35 o=true) (hz:o.Body.size<=324) {j:Int} (hj:j=0\/j=1\/j=2) (hd:o.Dst=167903232+j):
   Y89 (n+3) w (Yjx j):=by
 obtain ⟨w',ev,k1,k2,k3,k4,k5⟩:=Yl5 hw hnet (by omega) h hz hj hd
 rcases k5 with ⟨a,b⟩ | ⟨o',a1,a2,a3,a4,a5⟩
 . exact Y89.step (k1 (n+2)) k3 k4 (Yer (W:=fun e m=>e=[]/\m=0) a ⟨rfl,rfl⟩) fun e m q=>by
     obtain ⟨rfl,rfl⟩:=q
     rw [List.append_nil]
     exact .two (.quiet b)
 . have:=a4.len
   rcases a5 with ⟨b,b1,b2⟩ | ⟨_,k,b1,b2,b3,b4⟩
   . exact Y89.step (k1 (n+2)) k3 k4 (endB k2 a1 (by rw [k3,List.length_append];omega) a2 a3 hj b1 b2) fun e m q=>.two (.sent a4 q)
   . exact Y89.step (k1 (n+2)) k3 k4 (end2 k2 a1 (by rw [k3,List.length_append];omega) a2 a3 b1 b3 b4) fun e m q=>.away a4 b2 q
theorem Y16y {w :J1} (hw:WOk w) (hnet:w.net_.row_=[]) (ht:w.trace_.length+8<=4096) {i:Int} (hi:i=0\/i=1) (t:ByteArray):
   ∃ ev,(Y3k w (Y10 w.fabric_ 0 0 i t).2 0 0 i (Y10 w.fabric_ 0 0 i t).1).trace_=w.trace_++ev/\(Y3k w (Y10 w.fabric_ 0 0 i t).2 0 0 i (Y10 w.fabric_ 0 0 i t).1).got_=w.got_/\(Y3k w (Y10 w.fabric_ 0 0 i t).2 0 0 i (Y10 w.fabric_ 0 0 i t).1).net_.row_.length<=1/\
     ∀ n,Y89 (n+3) (Y3k w (Y10 w.fabric_ 0 0 i t).2 0 0 i (Y10 w.fabric_ 0 0 i t).1) (fun e m=>Yps i (ev++e) m):=by
 have hb:=Yim (.inl ⟨rfl,rfl,hi⟩:Has 0 0 i)
 have hsm:=Y73 w.fabric_ 0 0 i t
 have hev:=hsm.ev
 have hok:=Yam hw (Ygk hw.fab hb t) 0 0 i hsm
 have hone:=Yjw hw.fab hb (by decide) t
 rw [Ycu hnet _ (r:=0) (by decide) 0 i hone (by omega)] at hok ⊢
 have key:((Y10 w.fabric_ 0 0 i t).1.Sent=[]/\Y4g ⟨0,0,i⟩ (Y10 w.fabric_ 0 0 i t).1.Events)\/∃ o j,(j=0\/j=1\/j=2)/\(Y10 w.fabric_ 0 0 i t).1.Sent=[Y13 o]/\Y35 o=true/\o.Body.size<=324/\o.Dst=167903232+j/\Y6k ⟨0,0,i⟩ (Y10 w.fabric_ 0 0 i t).1.Events:=by
   unfold Y10
   cases hu:upF w.fabric_ 0 0 i with
   | false=>exact .inl ⟨rfl,Y28 _ _ (by decide)⟩
   | true=>
     rw [Bool.not_true,cond_false,if_pos rfl]
     have q:=hw.fab.eAt hi
     have htn:tE (eAt w.fabric_.edges_ i).it_=⟨0,0,i⟩:=by unfold tE;rw [q.2]
     rcases Yl2 q.1 hw.fab.now t with ⟨a,b⟩ | ⟨x,a1,a2,a3,a4,a5,b⟩
     . exact .inl ⟨a,htn ▸ b⟩
     . exact .inr ⟨_,x.To,by omega,a1,a2,a3,rfl,htn ▸ b⟩
 refine ⟨_,rfl,rfl,?_,fun n=> ?_⟩
 . show (Y10 w.fabric_ 0 0 i t).1.Sent.length<=1
   rcases hone with h | ⟨x,h⟩ <;> rw [h]
   . exact Nat.zero_le _
   . exact Nat.le_refl 1
 . rcases key with ⟨a,b⟩ | ⟨o,j,a1,a2,a3,a4,a5,a6⟩
   . refine Yer a ?_
     rw [List.append_nil]
     exact .quiet b
   . obtain ⟨e,m,f,sent,k1,k2,k3⟩:=end1 (n:=n) hok a2 (by show (w.trace_++_).length+6<=4096;rw [List.length_append];omega) a3 a4 a1 a5
     exact ⟨e,m,f,sent,.sent a6 k1,k2,k3⟩
def Y52 (l :List Y1):Nat:=(l.filter fun e=>e.Kind==0).length
def Y4c (l :List Y1):Nat:=(l.filter fun e=>e.Kind==0&&e.Role==1).length
theorem Ya3 (a b :List Y1):Y52 (a++b)=Y52 a+Y52 b:=by unfold Y52;rw [List.filter_append,List.length_append]
theorem Ya4 (a b :List Y1):Y4c (a++b)=Y4c a+Y4c b:=by unfold Y4c;rw [List.filter_append,List.length_append]
theorem Y4g.cnt {t :J2} {l:List Y1} (h:Y4g t l):Y52 l=0/\Y4c l=0:=by
 cases h with
 | nil=>exact ⟨rfl,rfl⟩
 | one a b=>
   rename_i k to f
   have hk:(k==0)=false:=beq_eq_false_iff_ne.2 a
   unfold Y52 Y4c
   rw [List.filter_cons_of_neg (p:=fun e:Y1=>e.Kind==0) (by show ¬ (k==0)=true;rw [hk];decide),List.filter_cons_of_neg (p:=fun e:Y1=>e.Kind==0&&e.Role==1) (by show ¬ ((k==0)&&(t.Role==1))=true;rw [hk];exact Bool.false_ne_true)]
   exact ⟨rfl,rfl⟩
theorem Y6k.cnt {t :J2} {l:List Y1} (h:Y6k t l):Y52 l=1/\Y4c l=(if t.Role=1 then 1 else 0):=by
 have hs:∀ (to:Int) (f:Y9),Y4c [evT t 0 to f]=(if t.Role=1 then 1 else 0):=by
   intro to f
   unfold Y4c
   by_cases c:t.Role=1
   . rw [if_pos c,List.filter_cons_of_pos (by show (((0:Int)==0)&&(t.Role==1))=true;rw [c];rfl)]
     rfl
   . rw [if_neg c,List.filter_cons_of_neg (by show ¬ (((0:Int)==0)&&(t.Role==1))=true;rw [beq_eq_false_iff_ne.2 c];decide)]
     rfl
 cases h with
 | emit=>exact ⟨rfl,hs _ _⟩
 | evict=>exact ⟨rfl,hs _ _⟩
theorem Ypr.cnt {j :Int} {l:List Y1} {m:Nat} (h:Ypr j l m):Y52 l=0/\Y4c l=0/\m<=1:=by
 cases h with | mk a b=>exact ⟨a.cnt.1,a.cnt.2,b⟩
theorem Ygp.cnt {j :Int} {l:List Y1} {m:Nat} (h:Ygp j l m):Y52 l<=1/\Y4c l<=1/\m<=1:=by
 cases h with
 | quiet a=>have:=a.cnt;omega
 | sent a b=>
   have h1:=a.cnt;have h2:=b.cnt
   rw [if_pos rfl] at h1
   rw [Ya3,Ya4]
   omega
theorem Yjx.cnt {j :Int} {l:List Y1} {m:Nat} (h:Yjx j l m):Y52 l<=2/\Y4c l<=2/\m<=1:=by
 cases h with
 | two a=>have:=a.cnt;omega
 | away a _ b=>
   have h1:=a.cnt;have h2:=b.cnt
   rw [if_pos rfl] at h1
   rw [Ya3,Ya4]
   omega
theorem Yps.cnt {i :Int} {l:List Y1} {m:Nat} (h:Yps i l m):Y52 l<=3/\Y4c l<=2/\m<=1:=by
 cases h with
 | quiet a=>have:=a.cnt;omega
 | sent a b=>
   have h1:=a.cnt;have h2:=b.cnt
   rw [if_neg (show ¬ (0:Int)=1 by decide)] at h1
   rw [Ya3,Ya4]
   omega
theorem Y13a {w :J1} (hw:WOk w) (hnet:w.net_.row_=[]) (g:Int) (hg:(w.got_.length:Int)<=g+1) (hg0:0<=g/\g<=5000) (sn:Int) (hsn:sn<=1) (l:List Y1) (hl:l.length<=5000):∀ (d fuel i a b:Nat),l.length=i+d->d< fuel->a+Y52 (l.drop i)<=3->b+Y4c (l.drop i)<=2->
   J1n 281474976710656 fuel w g sn l (a:Int) (b:Int) (i:Int)=some true:=by
 intro d
 induction d with
 | zero=>
   intro fuel i a b hi hf ha hb
   obtain ⟨fuel,rfl⟩:∃ f,fuel=f+1:=⟨fuel - 1,by omega⟩
   rw [J1n]
   unfold J2e
   refine Yu (by omega) (Ym hsn (Ym (by omega) (Ym (by omega) (stB (gotV hw) ?_))))
   rw [w64 (n:=g+1) (by omega) (by omega)]
   refine Ym hg (stB (netV hw) ?_)
   rw [hnet]
   rfl
 | succ d ih=>
   intro fuel i a b hi hf ha hb
   obtain ⟨fuel,rfl⟩:∃ f,fuel=f+1:=⟨fuel - 1,by omega⟩
   have hil:i< l.length:=by omega
   rw [Y2t hil] at ha hb
   rw [J1n,Int.toNat_natCast]
   unfold J4t
   rw [w64 (n:=(i:Int)+1) (by omega) (by omega),w64 (n:=(a:Int)+1) (by omega) (by omega),w64 (n:=(b:Int)+1) (by omega) (by omega)]
   refine Ym (by omega) (Yd (by omega) ?_)
   by_cases c:(l.getD i default).Kind=0
   . have hc:((l.getD i default).Kind==0)=true:=beq_iff_eq.2 c
     unfold Y52 at ha
     rw [List.filter_cons_of_pos (p:=fun e:Y1=>e.Kind==0) hc,List.length_cons] at ha
     refine Ys c (Yd (by omega) ?_)
     by_cases r:(l.getD i default).Role=1
     . unfold Y4c at hb
       rw [List.filter_cons_of_pos (p:=fun e:Y1=>e.Kind==0&&e.Role==1) (by show (_&&_)=true;rw [hc,beq_iff_eq.2 r];rfl),List.length_cons] at hb
       exact Ys r (ih fuel (i+1) (a+1) (b+1) (by omega) (by omega) (by unfold Y52;omega) (by unfold Y4c;omega))
     . unfold Y4c at hb
       rw [List.filter_cons_of_neg (p:=fun e:Y1=>e.Kind==0&&e.Role==1) (by show ¬ (_&&_)=true;rw [hc,beq_eq_false_iff_ne.2 r];decide)] at hb
       exact Yo r (ih fuel (i+1) (a+1) b (by omega) (by omega) (by unfold Y52;omega) (by unfold Y4c;omega))
   . have hc:((l.getD i default).Kind==0)=false:=beq_eq_false_iff_ne.2 c
     unfold Y52 at ha
     unfold Y4c at hb
     rw [List.filter_cons_of_neg (p:=fun e:Y1=>e.Kind==0) (by rw [hc];decide)] at ha
     rw [List.filter_cons_of_neg (p:=fun e:Y1=>e.Kind==0&&e.Role==1) (by show ¬ (_&&_)=true;rw [hc];exact Bool.false_ne_true)] at hb
     exact Yo c (ih fuel (i+1) a b (by omega) (by omega) (by unfold Y52;omega) (by unfold Y4c;omega))
theorem Y1ca {w :J1} (hw:WOk w) (hnet:w.net_.row_=[]) (ht:w.trace_.length+8<=4096) (r s i:Int) (t:ByteArray):
   (doW w (inj r s i t)).2.net_.row_.length<=1/\∃ ev m,(∃ f sent,Y2y 200 (doW w (inj r s i t)).2=⟨f,⟨[]⟩,w.trace_++ev,w.got_++sent⟩/\sent.length=m)/\Y52 ev<=3/\Y4c ev<=2/\m<=1:=by
 have hno:w.net_.row_.length<=1/\∃ ev m,(∃ f sent,Y2y 200 w=⟨f,⟨[]⟩,w.trace_++ev,w.got_++sent⟩/\sent.length=m)/\Y52 ev<=3/\Y4c ev<=2/\m<=1:=by
   refine ⟨by rw [hnet];exact Nat.zero_le _,[],0,⟨w.fabric_,[],?_,rfl⟩,by decide,by decide,by decide⟩
   rw [Y8o hnet,List.append_nil,List.append_nil,<- hnet]
 unfold doW
 cases (!(Yb1 (inj r s i t))) with
 | true=>exact hno
 | false=>
 rw [cond_false,if_pos rfl]
 unfold Y4z
 show (bif Y3l r s i then _ else _:Int× J1).2.net_.row_.length<=1/\_
 cases hb:Y3l r s i with
 | false=>exact hno
 | true=>
 rcases Y5e hb with ⟨rfl,rfl,k⟩ | ⟨rfl,k,rfl⟩ | ⟨rfl,k1,k2⟩
 . obtain ⟨ev,a1,a2,a3,a4⟩:=Y16y hw hnet ht k t
   obtain ⟨e,m,f,sent,b1,b2,b3⟩:=a4 197
   rw [a1,a2,List.append_assoc] at b2
   exact ⟨a3,ev++e,m,⟨f,sent,b2,b3⟩,b1.cnt.1,b1.cnt.2.1,b1.cnt.2.2⟩
 . have hsm:=Y73 w.fabric_ 1 s 0 t
   have hev:=hsm.ev
   have hok:=Yam hw (Ygk hw.fab hb t) 1 s 0 hsm
   have hone:=Yjw hw.fab hb (by decide) t
   have hcl:=Ycu hnet (Y10 w.fabric_ 1 s 0 t).2 (r:=1) (by decide) s 0 hone (by omega)
   show (Y3k w (Y10 w.fabric_ 1 s 0 t).2 1 s 0 (Y10 w.fabric_ 1 s 0 t).1).net_.row_.length<=1/\∃ ev m,(∃ f sent,Y2y 200 (Y3k w (Y10 w.fabric_ 1 s 0 t).2 1 s 0 (Y10 w.fabric_ 1 s 0 t).1)=_/\_)/\_
   rw [hcl] at hok ⊢
   have key:((Y10 w.fabric_ 1 s 0 t).1.Sent=[]/\Y4g ⟨1,s,0⟩ (Y10 w.fabric_ 1 s 0 t).1.Events)\/∃ o,(Y10 w.fabric_ 1 s 0 t).1.Sent=[Y13 o]/\Y35 o=true/\o.Body.size<=324/\Y6k ⟨1,s,0⟩ (Y10 w.fabric_ 1 s 0 t).1.Events/\
       ((∃ b,(b=0\/b=1\/b=2\/b=3)/\o.Dst=167968768+256*s+b)\/(∃ k,(k=0\/k=1\/k=2)/\o.Dst=167903232+k/\o.Tier=2)):=by
     unfold Y10
     cases hu:upF w.fabric_ 1 s 0 with
     | false=>exact .inl ⟨rfl,Y28 _ _ (by decide)⟩
     | true=>
       rw [Bool.not_true,cond_false,if_neg (by decide),if_pos rfl]
       have q:=hw.fab.sAt k
       have htn:tN (sAt w.fabric_.sites_ s).it_=⟨1,s,0⟩:=by unfold tN;rw [q.2]
       rcases Yeq q.1 hw.fab.now t with ⟨a,b⟩ | ⟨e,i,a,a2,a3,a4,a5,a6,a7,a8,a9,b⟩
       . exact .inl ⟨a,htn ▸ b⟩
       . refine .inr ⟨_,a,a2,a3,htn ▸ b,?_⟩
         unfold Y6x
         rw [q.2]
         cases hw2:e.Away with
         | false=>have:=a4.here hw2;exact .inl ⟨e.To,by omega,rfl⟩
         | true=>have hk:=a4.away hw2;exact .inr ⟨e.To,by omega,rfl,rfl⟩
   refine ⟨?_,?_⟩
   . show (Y10 w.fabric_ 1 s 0 t).1.Sent.length<=1
     rcases hone with h | ⟨x,h⟩ <;> rw [h]
     . exact Nat.zero_le _
     . exact Nat.le_refl 1
   rcases key with ⟨a,b⟩ | ⟨o,a1,a2,a3,a4,a5⟩
   . refine ⟨(Y10 w.fabric_ 1 s 0 t).1.Events,0,⟨(Y10 w.fabric_ 1 s 0 t).2,[],?_,rfl⟩,by rw [b.cnt.1];decide,by rw [b.cnt.2];decide,by decide⟩
     rw [Y8o a,a,List.append_nil]
   . have hln:=a4.len
     have hc:=a4.cnt
     rw [if_pos rfl] at hc
     have htr:(w.trace_++(Y10 w.fabric_ 1 s 0 t).1.Events).length+4<=4096:=by rw [List.length_append];omega
     rcases a5 with ⟨b,b1,b2⟩ | ⟨q,b1,b2,b3⟩
     . obtain ⟨e,m,f,sent,c1,c2,c3⟩:=endB (n:=199) hok a1 (show (w.trace_++_).length+2<=4096 by omega) a2 a3 k b1 b2
       have hc2:=c1.cnt
       refine ⟨_,m,⟨f,sent,by rw [c2];dsimp only;rw [List.append_assoc],c3⟩,?_,?_,hc2.2.2⟩
       . rw [Ya3];omega
       . rw [Ya4];omega
     . obtain ⟨e,m,f,sent,c1,c2,c3⟩:=end2 (n:=198) hok a1 htr a2 a3 b1 b2 b3
       have hc2:=c1.cnt
       refine ⟨_,m,⟨f,sent,by rw [c2];dsimp only;rw [List.append_assoc],c3⟩,?_,?_,hc2.2.2⟩
       . rw [Ya3];omega
       . rw [Ya4];omega
 . have hsm:=Y73 w.fabric_ 2 s i t
   have hev:=hsm.ev
   have hfw:=hsm.few
   show (Y3k w (Y10 w.fabric_ 2 s i t).2 2 s i (Y10 w.fabric_ 2 s i t).1).net_.row_.length<=1/\∃ ev m,(∃ f sent,Y2y 200 (Y3k w (Y10 w.fabric_ 2 s i t).2 2 s i (Y10 w.fabric_ 2 s i t).1)=_/\_)/\_
   rw [Yiv w _ s i (by omega)]
   have key:Y52 (Y10 w.fabric_ 2 s i t).1.Events=0/\Y4c (Y10 w.fabric_ 2 s i t).1.Events=0/\(Y10 w.fabric_ 2 s i t).1.Sent.length<=1:=by
     unfold Y10
     cases hu:upF w.fabric_ 2 s i with
     | false=>exact ⟨(Y28 _ _ (by decide)).cnt.1,(Y28 _ _ (by decide)).cnt.2,Nat.zero_le _⟩
     | true=>
       rw [Bool.not_true,cond_false,if_neg (by decide),if_neg (by decide)]
       obtain ⟨q1,q2⟩:=Yl3 s i t
       dsimp only
       cases ((Y3m s i t).1.toList==ByteArray.empty.toList) with
       | true=>exact ⟨q2.cnt.1,q2.cnt.2,by rw [Bool.not_true,cond_false,q1];exact Nat.zero_le _⟩
       | false=>exact ⟨q2.cnt.1,q2.cnt.2,Nat.le_refl 1⟩
   refine ⟨by rw [hnet];exact Nat.zero_le _,(Y10 w.fabric_ 2 s i t).1.Events,_,⟨(Y10 w.fabric_ 2 s i t).2,(Y10 w.fabric_ 2 s i t).1.Sent.take (4096 - w.got_.length),?_,rfl⟩,?_,?_,Nat.le_trans (List.length_take_le' ..) key.2.2⟩
   . have hz:∀ (f:J0) (a:List Y1) (b:List ByteArray),Y2y 200 ⟨f,w.net_,a,b⟩=⟨f,⟨[]⟩,a,b⟩:=by
       intro f a b
       rw [Y8o (w:=⟨f,w.net_,a,b⟩) hnet,<- hnet]
     exact hz _ _ _
   . rw [key.1];decide
   . rw [key.2.1];decide
theorem TopFew (c :Y7) (qs:List Y1l) (r s i:Int) (t:ByteArray) (hb:Y91 c) (hl:qs.length<=140737488355328) (hq:∀ y∈qs,Yjj y) (ht:t.size<=140737488351232):Ja8 281474976710656 c qs r s i t=some true:=by
 unfold Ja8
 refine Y1c6 (Y1c8 hb) (Y1c7 hq) hl fun hc hw0=> ?_
 have hw:=Yky hw0
 refine stB (Yuf hw0) (stB (Yz0 hw) (stB (gotV hw) ?_))
 have hnet:(Yis (Yju c qs)).net_.row_=[]:=rfl
 generalize Yis (Yju c qs)=w at*
 dsimp only
 unfold J6t
 by_cases k1:(w.trace_.length:Int) > 4076
 . exact Ym k1 rfl
 refine Yu k1 ?_
 by_cases k2:(w.got_.length:Int) > 4076
 . rw [decide_eq_true k2];rfl
 rw [decide_eq_false k2]
 obtain ⟨a1,ev,m,⟨f,sent,b1,b2⟩,c1,c2,c3⟩:=Y1ca hw hnet (by omega) r s i t
 have hok:=Yeo hw (inj r s i t)
 have hdr:=Ykz 200 hok
 refine Yn (stB (Ylq hw (a:=inj r s i t) bd0) (stB (netV hok) (stB (Y138 hok) (stB (Yz0 hdr) ?_))))
 dsimp only
 have hln:=hdr.tr
 rw [b1] at hln hdr ⊢
 have hgl:=hdr.gt
 refine Y13a hdr rfl (w.got_.length:Int) ?_ (by omega) _ (by omega) _ (Nat.le_trans hln (by decide)) ev.length 281474976710656 w.trace_.length 0 0 (by rw [List.length_append]) (by rw [List.length_append] at hln;omega) ?_ ?_
 . show ((w.got_++sent).length:Int)<=_
   rw [List.length_append]
   omega
 . rw [List.drop_left];omega
 . rw [List.drop_left];omega
end Go.Proofs.YtpdcnikdoikldaaGreatDoor.Pu
