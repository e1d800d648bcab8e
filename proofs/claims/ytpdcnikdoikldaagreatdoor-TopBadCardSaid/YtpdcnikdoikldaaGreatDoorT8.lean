import Derived.Test.YtpdcnikdoikldaaGreatDoorT1
set_option linter.unusedVariables false
set_option linter.unusedSimpArgs false
namespace Go.Proofs.YtpdcnikdoikldaaGreatDoor.Pu
open Go Go.RowKit Go.Proofs.YtpdcnikdoikldaaGreatDoor.Sv Go.Proofs.YtpdcnikdoikldaaGreatDoor.Lf
def tB (site id :Int):J3:=⟨2,site,id⟩
def Y5z (site id :Int) (s:ByteArray):ByteArray× Y1g:=
 bif ((Yz s).2 != 0)||(((Yz s).1.Dst != 167968768+256*site+id)||(((Yz s).1.Src != 167903232+site)||(((Yz s).1.Tier != 3)||(((Yz s).1.Marker != 0)||((Yz s).1.Origin != 0))))) then (ByteArray.empty,Y5b (tB site id) 8 zF)
 else bif (ofF (Yz s).1.Body).2.2 != 0 then (ByteArray.empty,Y5b (tB site id) (Yc5 (ofF (Yz s).1.Body).2.2) (ofF (Yz s).1.Body).1)
 else ((Yz s).1.Body,⟨[],[evT (tB site id) 1 id (ofF (Yz s).1.Body).1]⟩)
theorem Ypc {site id :Int} (h:0≤site∧site< 3) (hi:0≤id∧id< 4) (s:ByteArray):J98 281474976710656 site id s=some ((Y5z site id s).1,(Y5z site id s).2,0):=by
 have e1:=Y2w 281474976710656 2 site id
 have e2:=Y2w 281474976710656 1 site 0
 rw [Yjx h hi] at e1
 rw [Y5q h] at e2
 have ht:∀ a b c d e f,J1n 281474976710656 id 2 site id a b c d e f true=some (ByteArray.empty,Y5b (tB site id) 8 zF,0):=fun _ _ _ _ _ _=>rfl
 unfold J98 Y5z
 refine stB e1 (Y13 rfl (stB e2 (stB (Yo5 (by decide) s) ?_)))
 dsimp only
 generalize Yz s=p
 cases c1:(p.2 != 0) with
 | true=>exact ht p.1.Src p.1.Dst p.1.Tier p.1.Marker p.1.Origin p.1.Body
 | false=>
 cases c2:(p.1.Dst != 167968768+256*site+id) with
 | true=>exact ht p.1.Src p.1.Dst p.1.Tier p.1.Marker p.1.Origin p.1.Body
 | false=>
 cases c3:(p.1.Src != 167903232+site) with
 | true=>exact ht p.1.Src p.1.Dst p.1.Tier p.1.Marker p.1.Origin p.1.Body
 | false=>
 cases c4:(p.1.Tier != 3) with
 | true=>exact ht p.1.Src p.1.Dst p.1.Tier p.1.Marker p.1.Origin p.1.Body
 | false=>
 cases c5:(p.1.Marker != 0) with
 | true=>exact ht p.1.Src p.1.Dst p.1.Tier p.1.Marker p.1.Origin p.1.Body
 | false=>
 cases c6:(p.1.Origin != 0) with
 | true=>exact ht p.1.Src p.1.Dst p.1.Tier p.1.Marker p.1.Origin p.1.Body
 | false=>
 unfold J1n
 refine Yj (Yj (Yj (Yj (Yj (Yj (stB (Ysy (by decide) p.1.Body) ?_))))))
 rw [Bool.false_or,Bool.false_or,Bool.false_or,Bool.false_or,Bool.false_or,cond_false]
 cases ((ofF p.1.Body).2.2 != 0) with
 | true=>exact Yk (stB (Yc6 _ _) (stB rfl rfl))
 | false=>exact Yj (stB rfl rfl)
theorem Y122 (n :Yb) (h:Y1y n) {now:Int} (hn:Y28 now=true) (o:Y15):J8g 281474976710656 ⟨n,tN n,now⟩ o=some ((Y8s n o now).2,⟨(Y8s n o now).1,tN n,now⟩,n.Health):=by
 unfold J8g Y8s
 refine stB (Yy0 (by decide) o.Body) (stB (Y2w ..) ?_)
 have hk:=@Yqj o.Body
 generalize Y3h o.Body=g at*
 have h1:J49 281474976710656 n.Id n.Config.Version n.Config.Sites n.Health n.Seen n.Flows n.Serial (tN n).Role (tN n).Site (tN n).Node now g.1.Site g.1.Serial g.1.Load g.1.Cap true=some (Y5b (tN n) 8 zF,⟨n,tN n,now⟩,n.Health):=rfl
 by_cases c:g.2=0
 · have hr:=hk c
   obtain ⟨p1,_⟩:=Yam hr
   rw [Y5q p1]
   refine Y13 c ?_
   rw [show (g.2 != 0)=false by rw [c];rfl,Bool.false_or]
   by_cases e:o.Src=167903232+g.1.Site
   · rw [show (o.Src==167903232+g.1.Site)=true from beq_iff_eq.2 e]
     refine Y13 e ?_
     dsimp only
     cases (g.1.Site==n.Id) with
     | true=>exact h1
     | false=>
       unfold J49
       refine Yj (stB (Yp8 (by decide) h.view hr hn) ?_)
       dsimp only
       cases (Y6l n.Seen g.1 now).2 with
       | true=>exact Yc (stB rfl rfl)
       | false=>rfl
   · rw [show (o.Src==167903232+g.1.Site)=false from beq_eq_false_iff_ne.2 e]
     exact Y1c e h1
 · rw [show (g.2 != 0)=true from bne_iff_ne.2 c]
   exact Yk h1
theorem Yoi (n :Yb) (o:Y15) (now:Int):(Y8s n o now).1.Health=n.Health:=by
 unfold Y8s
 cases (((Y3h o.Body).2 != 0)||(!(o.Src==167903232+(Y3h o.Body).1.Site)||((Y3h o.Body).1.Site==n.Id))) with
 | true=>rfl
 | false=>cases (Y6l n.Seen (Y3h o.Body).1 now).2 <;> rfl
theorem Yy3 (n :Yb) (h:Y1y n) {now:Int} (hn:Y28 now=true) (s:ByteArray):J99 281474976710656 ⟨n,tN n,now⟩ s=some ((Y4i n now s).2,⟨(Y4i n now s).1,tN n,now⟩,n.Health):=by
 have hid:=h.id
 have hpm:=@Yoh s
 have hra:=Yqg s
 unfold J99 Y4i
 refine stB (Yo5 (by decide) s) (stB (Y2w ..) ?_)
 dsimp only
 rw [Y5q hid]
 generalize Yz s=p at*
 have h1:J6c 281474976710656 n.Id n.Config.Version n.Config.Sites n.Health n.Seen n.Flows n.Serial (tN n).Role (tN n).Site (tN n).Node now s p.1.Src p.1.Dst p.1.Tier p.1.Marker p.1.Origin p.1.Body true=some (Y5b (tN n) 8 zF,⟨n,tN n,now⟩,n.Health):=rfl
 by_cases c:p.2=0
 case neg=>
   rw [show (p.2 != 0)=true from bne_iff_ne.2 c]
   exact Yk h1
 obtain ⟨hm,hs,hz⟩:=hpm c
 refine Y13 c ?_
 rw [show (p.2 != 0)=false by rw [c];rfl,Bool.false_or]
 dsimp only
 cases hd:(p.1.Dst != 167903232+n.Id) with
 | true=>exact h1
 | false=>
 unfold J6c
 refine Yj ?_
 cases ht:(p.1.Tier==4) with
 | true=>
   rw [cond_true,cond_false,cond_true]
   have hh:=Yoi n p.1 now
   refine stB (Y122 n h hn p.1) ?_
   dsimp only
   rw [← hh]
 | false=>
 refine Yj (stB (Yxx (N:=281474976710656) (by decide) ⟨n,tN n,now⟩ p.1 hra.1) ?_)
 rw [cond_false,cond_false]
 have hiz:=Yp9 (id:=n.Id) (Y7f hm).2.2.2.2.2.2
 show (bif !(Y1z n.Id p.1).2 then _ else _)=_
 generalize Y1z n.Id p.1=g at*
 cases hg:g.2 with
 | false=>rfl
 | true=>
 refine Yc (stB (Ysy (by decide) g.1) ?_)
 rw [Bool.not_true,cond_false]
 have hof:=@Yhw g.1
 generalize ofF g.1=w at*
 by_cases k:w.2.2=0
 case neg=>
   rw [show (w.2.2 != 0)=true from bne_iff_ne.2 k]
   exact Yk (stB (Yc6 _ _) (stB rfl rfl))
 obtain ⟨f1,f2⟩:=hof k
 refine Y13 k ?_
 rw [show (w.2.2 != 0)=false by rw [k];rfl,cond_false]
 refine stB (Yxy ⟨n,tN n,now⟩ h hn f1 (p.1.Tier==2)) ?_
 have hfit:=fun q=>Yjw (now:=now) (spill:=(p.1.Tier==2)) h f1 q
 show (bif !(Y6r n now w.1 (p.1.Tier==2)).2 then _ else _)=_
 generalize Y6r n now w.1 (p.1.Tier==2)=e at*
 cases he:e.2 with
 | false=>exact Y14 (stB rfl rfl)
 | true=>
 have hx:=hfit he
 refine Yc (stB (Y11r _ ⟨n,tN n,now⟩ h hx s g.1) ?_)
 rw [Bool.not_true,cond_false]
 exact stB (Yof (tN n) (Yxz h hx (by omega) hiz) h.cache hx.ok ⟨f2.1,f2.2⟩ hn) rfl
theorem Y9n {n :Yb} (h:Y1y n) {now:Int} (hn:Y28 now=true) (s:ByteArray):J4l 281474976710656 n now s=some ((Y4i n now s).1,(Y4i n now s).2,0):=by
 have hm:=Yc9 (N:=281474976710656) (by decide) n (Yhy h)
 rw [(Y3y n).2 h] at hm
 have ht:=Y51 281474976710656 now
 rw [hn] at ht
 have hh:=(Yez n now s).2.2.1
 unfold J4l J9a
 refine stB hm (Yc (stB ht (Yc (stB (Yoc (by decide) h) (stB (Yy3 n h hn s) ?_)))))
 dsimp only
 rw [← hh]
def eAt (es :Y1k× Y1k) (i:Int):Y1k:=if i=0 then es.1 else es.2
def eSet (es :Y1k× Y1k) (i:Int) (x:Y1k):Y1k× Y1k:=if i=0 then (x,es.2) else (es.1,x)
abbrev NS:=Y1f× Y1f× Y1f
def sAt (ss :NS) (i:Int):Y1f:=if i=0 then ss.1 else if i=1 then ss.2.1 else ss.2.2
def sSet (ss :NS) (i:Int) (x:Y1f):NS:=if i=0 then (x,ss.2.1,ss.2.2) else if i=1 then (ss.1,x,ss.2.2) else (ss.1,ss.2.1,x)
def fbAt (b :FB) (i:Int):Bool:=if i=0 then b.1.up_ else if i=1 then b.2.1.up_ else if i=2 then b.2.2.1.up_ else b.2.2.2.up_
def bAt (b :FB× FB× FB) (s i:Int):Bool:=fbAt (if s=0 then b.1 else if s=1 then b.2.1 else b.2.2) i
def Y3q (role site id :Int):Bool:=(Y5w role site id).2==0
def Has (r s i :Int):Prop:=(r=0∧s=0∧(i=0∨i=1))∨(r=1∧(s=0∨s=1∨s=2)∧i=0)∨(r=2∧(s=0∨s=1∨s=2)∧(i=0∨i=1∨i=2∨i=3))
theorem Y6c {r s i :Int} (h:Y3q r s i=true):Has r s i:=by
 unfold Y3q Y5w at h
 unfold Has
 split at h
 · omega
 · split at h
   · omega
   · split at h
     · omega
     · cases h
theorem Yy4 {r s i :Int} (h:Has r s i):Y3q r s i=true:=by
 unfold Y3q Y5w
 unfold Has at h
 rcases h with h | h | h
 · rw [if_pos (by omega)];rfl
 · rw [if_neg (by omega),if_pos (by omega)];rfl
 · rw [if_neg (by omega),if_neg (by omega),if_pos (by omega)];rfl
theorem Yb8 (f :J0) (r s i:Int):Jr 281474976710656 f r s i=some (Y3q r s i,f):=by
 unfold Jr J6d
 refine stB (Y2w ..) ?_
 cases h:Y3q r s i with
 | false=>
   unfold Y3q at h
   rw [h];rfl
 | true=>
   have k:=Y6c h
   unfold Y3q at h
   rw [h]
   refine Yk ?_
   by_cases c:r=0
   · refine Y13 c ?_
     rw [decide_eq_true (show i< 2 by unfold Has at k;omega)]
   · exact Y1c c rfl
def upF (f :J0) (r s i:Int):Bool:=if r=0 then (eAt f.edges_ i).up_ else if r=1 then (sAt f.sites_ s).up_ else bAt f.backs_ s i
theorem Ytf (f :J0) {r s i:Int} (h:Y3q r s i=true):J5c 281474976710656 f r s i=some (upF f r s i,f):=by
 rcases Y6c h with ⟨rfl,rfl,rfl | rfl⟩ | ⟨rfl,rfl | rfl | rfl,rfl⟩ | ⟨rfl,rfl | rfl | rfl,rfl | rfl | rfl | rfl⟩ <;> rfl
structure Y1t (f :J0):Prop where
 e0:Y2t f.edges_.1.it_
 e1:Y2t f.edges_.2.it_
 i0:f.edges_.1.it_.Id=0
 i1:f.edges_.2.it_.Id=1
 s0:Y1y f.sites_.1.it_
 s1:Y1y f.sites_.2.1.it_
 s2:Y1y f.sites_.2.2.it_
 j0:f.sites_.1.it_.Id=0
 j1:f.sites_.2.1.it_.Id=1
 j2:f.sites_.2.2.it_.Id=2
 now:Y28 f.now_=true
 conf:Y1a f.conf_=true
def setE (f :J0) (i:Int) (x:Ys):J0:=⟨eSet f.edges_ i ⟨x,(eAt f.edges_ i).up_⟩,f.sites_,f.backs_,f.now_,f.conf_⟩
def setS (f :J0) (i:Int) (x:Yb):J0:=⟨f.edges_,sSet f.sites_ i ⟨x,(sAt f.sites_ i).up_⟩,f.backs_,f.now_,f.conf_⟩
theorem Y1t.eAt {f :J0} (h:Y1t f) {i:Int} (hi:i=0∨i=1):Y2t (eAt f.edges_ i).it_∧(eAt f.edges_ i).it_.Id=i:=by
 rcases hi with rfl | rfl
 · exact ⟨h.e0,h.i0⟩
 · exact ⟨h.e1,h.i1⟩
theorem Y1t.sAt {f :J0} (h:Y1t f) {i:Int} (hi:i=0∨i=1∨i=2):Y1y (sAt f.sites_ i).it_∧(sAt f.sites_ i).it_.Id=i:=by
 rcases hi with rfl | rfl | rfl
 · exact ⟨h.s0,h.j0⟩
 · exact ⟨h.s1,h.j1⟩
 · exact ⟨h.s2,h.j2⟩
theorem Y1t.setE {f :J0} (h:Y1t f) {i:Int} (hi:i=0∨i=1) {x:Ys} (hx:Y2t x) (hd:x.Id=i):Y1t (setE f i x):=by
 rcases hi with rfl | rfl
 · exact ⟨hx,h.e1,hd,h.i1,h.s0,h.s1,h.s2,h.j0,h.j1,h.j2,h.now,h.conf⟩
 · exact ⟨h.e0,hx,h.i0,hd,h.s0,h.s1,h.s2,h.j0,h.j1,h.j2,h.now,h.conf⟩
theorem Y1t.setS {f :J0} (h:Y1t f) {i:Int} (hi:i=0∨i=1∨i=2) {x:Yb} (hx:Y1y x) (hd:x.Id=i):Y1t (setS f i x):=by
 rcases hi with rfl | rfl | rfl
 · exact ⟨h.e0,h.e1,h.i0,h.i1,hx,h.s1,h.s2,hd,h.j1,h.j2,h.now,h.conf⟩
 · exact ⟨h.e0,h.e1,h.i0,h.i1,h.s0,hx,h.s2,h.j0,hd,h.j2,h.now,h.conf⟩
 · exact ⟨h.e0,h.e1,h.i0,h.i1,h.s0,h.s1,hx,h.j0,h.j1,hd,h.now,h.conf⟩
def Y60 (f :J0) (r s i:Int) (t:ByteArray):Y1g× J0:=
 bif !(upF f r s i) then (Y5b ⟨r,s,i⟩ 9 zF,f)
 else if r=0 then ((Y5c (eAt f.edges_ i).it_ f.now_ t).2,setE f i (Y5c (eAt f.edges_ i).it_ f.now_ t).1)
 else if r=1 then ((Y4i (sAt f.sites_ s).it_ f.now_ t).2,setS f s (Y4i (sAt f.sites_ s).it_ f.now_ t).1)
 else (bif !((Y5z s i t).1.toList==ByteArray.empty.toList) then ⟨[(Y5z s i t).1],(Y5z s i t).2.Events⟩ else (Y5z s i t).2,f)
theorem Ytg (f :J0) {r s i:Int} (h:Y3q r s i=false) (t:ByteArray):J4m 281474976710656 f r s i t=some (⟨[],[]⟩,2401,f):=by
 have h1:=Yb8 f r s i
 rw [h] at h1
 unfold J4m
 exact stB h1 (Y14 rfl)
theorem Yth {f :J0} (hf:Y1t f) {r s i:Int} (h:Y3q r s i=true) (t:ByteArray):J4m 281474976710656 f r s i t=some ((Y60 f r s i t).1,0,(Y60 f r s i t).2):=by
 have h1:=Yb8 f r s i
 rw [h] at h1
 have h2:=Ytf f h
 unfold J4m Y60
 refine stB h1 (Yc (stB h2 ?_))
 cases hu:upF f r s i with
 | false=>exact Y14 (stB rfl rfl)
 | true=>
 refine Yc ?_
 rw [Bool.not_true,cond_false]
 rcases Y6c h with ⟨rfl,rfl,rfl | rfl⟩ | ⟨rfl,rfl | rfl | rfl,rfl⟩ | ⟨rfl,k1,k2⟩
 · exact Ym rfl (Ym rfl (stB (Yf0 hf.e0 hf.now t) rfl))
 · exact Ym rfl (Yl (by decide) (Y8 rfl (stB (Yf0 hf.e1 hf.now t) rfl)))
 · exact Yl (by decide) (Ym rfl (Ym rfl (stB (Y9n hf.s0 hf.now t) rfl)))
 · exact Yl (by decide) (Ym rfl (Yl (by decide) (Ym rfl (stB (Y9n hf.s1 hf.now t) rfl))))
 · exact Yl (by decide) (Ym rfl (Yl (by decide) (Yl (by decide) (Y8 rfl (stB (Y9n hf.s2 hf.now t) rfl)))))
 · refine Yl (by decide) (Yl (by decide) (stB (Ypc (site:=s) (id:=i) (by omega) (by omega) t) ?_))
   rw [if_neg (by decide),if_neg (by decide)]
   dsimp only
   cases ((Y5z s i t).1.toList==ByteArray.empty.toList) <;> rfl
theorem Y124 {f :J0} (hf:Y1t f) {r s i:Int} (h:Y3q r s i=true) (t:ByteArray):Y1t (Y60 f r s i t).2:=by
 unfold Y60
 cases hu:upF f r s i with
 | false=>exact hf
 | true=>
 rw [Bool.not_true,cond_false]
 rcases Y6c h with ⟨rfl,rfl,k⟩ | ⟨rfl,k,rfl⟩ | ⟨rfl,k1,k2⟩
 · rw [if_pos rfl]
   have q:=hf.eAt k
   exact hf.setE k (Y121 q.1 hf.now t) ((Ypb _ _ _).1.trans q.2)
 · rw [if_neg (by decide),if_pos rfl]
   have q:=hf.sAt k
   exact hf.setS k (Y11u q.1 hf.now t) ((Yez _ _ _).1.trans q.2)
 · rw [if_neg (by decide),if_neg (by decide)]
   exact hf
end Go.Proofs.YtpdcnikdoikldaaGreatDoor.Pu
namespace Go.Proofs.YtpdcnikdoikldaaGreatDoor.Pu
open Go Go.RowKit Go.Proofs.YtpdcnikdoikldaaGreatDoor.Sv Go.Proofs.YtpdcnikdoikldaaGreatDoor.Lf
structure Y8v (o :Y1g):Prop where
 sent:∀ x∈o.Sent,0< x.size∧x.size≤512
 few:o.Sent.length≤2
 ev:o.Events.length≤2
theorem Y4h (t :J3) (k:Int) (f:Ye):Y8v (Y5b t k f):=⟨(fun x hx=>by cases hx),show 0≤2 by decide,show 1≤2 by decide⟩
theorem Yoj (t :J3) (o:Y15) (fl:List Y0) (x:Y0) (flags now:Int):Y8v (Y80 t o fl x flags now).2:=by
 unfold Y80
 split
 · exact ⟨(fun x hx=>by cases hx),show 0≤2 by decide,show 1≤2 by decide⟩
 · rename_i c
   refine ⟨fun y hy=> ?_,show 1≤2 by decide,?_⟩
   · obtain rfl:=List.mem_singleton.1 hy
     rw [Yht]
     omega
   · dsimp only
     cases (Y7r fl (Y7s x flags now)).2.2.1 <;> first | exact (show (1:Nat)≤2 by decide) | exact (show (2:Nat)≤2 by decide)
theorem Y125 (e :Ys) (now:Int) (s:ByteArray):Y8v (Y5c e now s).2:=by
 unfold Y5c
 cases ((ofF s).2.2 != 0) with
 | true=>exact Y4h ..
 | false=>
   cases (!(Y5r e now (ofF s).1).2) with
   | true=>exact Y4h ..
   | false=>exact Yoj ..
theorem Y126 (n :Yb) (now:Int) (s:ByteArray):Y8v (Y4i n now s).2:=by
 unfold Y4i Y8s
 cases (((Yz s).2 != 0)||((Yz s).1.Dst != 167903232+n.Id)) with
 | true=>exact Y4h ..
 | false=>
 cases ((Yz s).1.Tier==4) with
 | true=>
   rw [cond_false,cond_true]
   cases (((Y3h (Yz s).1.Body).2 != 0)||(!((Yz s).1.Src==167903232+(Y3h (Yz s).1.Body).1.Site)||((Y3h (Yz s).1.Body).1.Site==n.Id))) with
   | true=>exact Y4h ..
   | false=>
     cases (Y6l n.Seen (Y3h (Yz s).1.Body).1 now).2 with
     | true=>exact ⟨(fun x hx=>by cases hx),show 0≤2 by decide,show 1≤2 by decide⟩
     | false=>exact ⟨(fun x hx=>by cases hx),show 0≤2 by decide,show 0≤2 by decide⟩
 | false=>
 cases (!(Y1z n.Id (Yz s).1).2) with
 | true=>exact Y4h ..
 | false=>
 cases ((ofF (Y1z n.Id (Yz s).1).1).2.2 != 0) with
 | true=>exact Y4h ..
 | false=>
 cases (!(Y6r n now (ofF (Y1z n.Id (Yz s).1).1).1 ((Yz s).1.Tier==2)).2) with
 | true=>exact Y4h ..
 | false=>exact Yoj ..
theorem Yy5 (s :ByteArray):(Yz s).1.Body.size≤512:=by
 by_cases c:(Yz s).2=0
 · exact (Y7f (Yoh c).1).2.2.2.2.2.2
 · unfold Yz at c ⊢
   split
   · decide
   · rename_i e
     rw [if_neg e] at c
     split
     · rename_i e2;rw [if_pos e2] at c;exact absurd rfl c
     · decide
theorem Y127 (site id :Int) (s:ByteArray):(Y5z site id s).1.size≤512∧Y8v (Y5z site id s).2:=by
 unfold Y5z
 cases (((Yz s).2 != 0)||(((Yz s).1.Dst != 167968768+256*site+id)||(((Yz s).1.Src != 167903232+site)||(((Yz s).1.Tier != 3)||(((Yz s).1.Marker != 0)||((Yz s).1.Origin != 0)))))) with
 | true=>exact ⟨by show ByteArray.empty.size≤512;decide,Y4h ..⟩
 | false=>
 cases ((ofF (Yz s).1.Body).2.2 != 0) with
 | true=>exact ⟨by show ByteArray.empty.size≤512;decide,Y4h ..⟩
 | false=>exact ⟨Yy5 s,(fun x hx=>by cases hx),show 0≤2 by decide,show 1≤2 by decide⟩
theorem Yok (f :J0) (r s i:Int) (t:ByteArray):Y8v (Y60 f r s i t).1:=by
 unfold Y60
 cases (!(upF f r s i)) with
 | true=>exact Y4h ..
 | false=>
 rw [cond_false]
 split
 · exact Y125 ..
 · split
   · exact Y126 ..
   · obtain ⟨h1,h2⟩:=Y127 s i t
     dsimp only
     cases h:((Y5z s i t).1.toList==ByteArray.empty.toList) with
     | true=>exact h2
     | false=>
       refine ⟨fun x hx=> ?_,show 1≤2 by decide,h2.ev⟩
       obtain rfl:=List.mem_singleton.1 hx
       refine ⟨?_,h1⟩
       rw [Y8n] at h
       have hne:=of_decide_eq_false h
       rcases Nat.eq_zero_or_pos (Y5z s i t).1.size with z | z
       · exact absurd (Yfj (List.eq_nil_of_length_eq_zero z)) hne
       · exact z
structure WOk (w :J1):Prop where
 fab:Y1t w.fabric_
 net:w.net_.row_.length≤32
 pk:∀ x∈w.net_.row_,0< x.size∧x.size≤512
 tr:w.trace_.length≤4096
 gt:w.got_.length≤4096
theorem Yg0 (r s n :Int):∀ (sent net:List ByteArray) (tr:List Y1),net.length≤32→tr.length≤4096→(Y7t (net,tr) r s n sent).1.length≤32∧(Y7t (net,tr) r s n sent).2.length≤4096
 | [],net,tr,h1,h2=>⟨h1,h2⟩
 | x :: xs,net,tr,h1,h2=>by
   rw [Y7t]
   dsimp only
   split
   · exact Yg0 r s n xs _ _ (by rw [List.length_append,List.length_singleton];omega) h2
   · exact Yg0 r s n xs _ _ h1 (by rw [List.length_append,List.length_take];omega)
theorem Yg1 (r s n :Int):∀ (sent net:List ByteArray) (tr:List Y1) (y:ByteArray),y∈(Y7t (net,tr) r s n sent).1→y∈net∨y∈sent
 | [],net,tr,y,h=>.inl h
 | x :: xs,net,tr,y,h=>by
   rw [Y7t] at h
   dsimp only at h
   split at h
   · rcases Yg1 r s n xs _ _ y h with q | q
     · rcases List.mem_append.1 q with q | q
       · exact .inl q
       · exact .inr (by rw [List.mem_singleton.1 q];exact List.mem_cons_self)
     · exact .inr (List.mem_cons_of_mem _ q)
   · rcases Yg1 r s n xs _ _ y h with q | q
     · exact .inl q
     · exact .inr (List.mem_cons_of_mem _ q)
def Y8w (tr ev :List Y1):List Y1:=tr++ev.take (4096 - tr.length)
theorem Ye1 {tr :List Y1} (ev:List Y1) (h:tr.length≤4096):(Y8w tr ev).length≤4096:=by
 unfold Y8w
 rw [List.length_append,List.length_take]
 omega
theorem Yti {tr ev :List Y1} (h:tr.length+ev.length≤4096):Y8w tr ev=tr++ev:=by
 unfold Y8w
 rw [List.take_of_length_le (by omega)]
def Y6d (w :J1) (f:J0) (r s i:Int) (o:Y1g):J1:=
 if r=2 then ⟨f,w.net_,Y8w w.trace_ o.Events,w.got_++o.Sent.take (4096 - w.got_.length)⟩
 else ⟨f,⟨(Y7t (w.net_.row_,Y8w w.trace_ o.Events) r s i o.Sent).1⟩,(Y7t (w.net_.row_,Y8w w.trace_ o.Events) r s i o.Sent).2,w.got_⟩
theorem Yk2 {w :J1} (hw:WOk w) (f:J0) (r s i:Int) {o:Y1g} (ho:Y8v o):J29 281474976710656 ⟨f,w.net_,w.trace_,w.got_⟩ ⟨r,s,i⟩ o=some (Y6d w f r s i o):=by
 obtain ⟨fa,⟨row⟩,tr,gt⟩:=w
 obtain ⟨sent,ev⟩:=o
 have h1:=hw.tr;have h2:=hw.gt;have h3:=ho.few;have h4:=ho.ev
 unfold Y6d
 by_cases c:r=2
 · subst c
   rw [if_pos rfl]
   exact Yy2 f row gt sent tr ev s i (Nat.le_trans h3 (by decide)) h1 h2 (Nat.le_trans h4 (by decide))
 · rw [if_neg c]
   exact Y11x f row gt sent tr ev r s i c ho.sent (Nat.le_trans h3 (by decide)) h1 (Nat.le_trans h4 (by decide))
theorem Yk3 {w :J1} (hw:WOk w) {f:J0} (hf:Y1t f) (r s i:Int) {o:Y1g} (ho:Y8v o):WOk (Y6d w f r s i o):=by
 unfold Y6d
 have h1:=Ye1 o.Events hw.tr
 split
 · refine ⟨hf,hw.net,hw.pk,h1,?_⟩
   have:=hw.gt
   show (w.got_++o.Sent.take (4096 - w.got_.length)).length≤4096
   rw [List.length_append,List.length_take]
   omega
 · have h2:=Yg0 r s i o.Sent _ _ hw.net h1
   refine ⟨hf,h2.1,fun x hx=> ?_,h2.2,hw.gt⟩
   exact (Yg1 r s i o.Sent _ _ x hx).elim (hw.pk x) (ho.sent x)
def Y5s (w :J1) (r s i:Int) (t:ByteArray):Int× J1:=
 bif Y3q r s i then (0,Y6d w (Y60 w.fabric_ r s i t).2 r s i (Y60 w.fabric_ r s i t).1) else (2401,w)
theorem Yk4 {w :J1} (hw:WOk w) (r s i:Int) (t:ByteArray):J4n 281474976710656 w ⟨r,s,i⟩ t=some (Y5s w r s i t):=by
 unfold J4n Y5s
 cases h:Y3q r s i with
 | false=>exact stB (Ytg _ h t) (Y1c (show ¬ (2401:Int)=0 by decide) rfl)
 | true=>exact stB (Yth hw.fab h t) (Y13 rfl (stB (Yk2 hw _ r s i (Yok ..)) rfl))
theorem Ye2 {w :J1} (hw:WOk w) (r s i:Int) (t:ByteArray):WOk (Y5s w r s i t).2:=by
 unfold Y5s
 cases h:Y3q r s i with
 | false=>exact hw
 | true=>exact Yk3 hw (Y124 hw.fab h t) r s i (Yok ..)
def Y49 (row :List ByteArray) (n:Nat):List ByteArray:=row.take n++row.drop (n+1)
theorem Yy6 {row :List ByteArray} (hl:row.length≤1000) {n:Nat} (hn:n< row.length):J9b 281474976710656 row (n:Int) ((n:Int)+1)=some (Y49 row n,Y49 row n):=by
 have hk:(Int.toNat ((n:Int) - (0:Int)))+(Int.toNat (((row.length:Nat):Int) - ((n:Int)+1)))=row.length - 1:=by omega
 have h1:(row.drop (Int.toNat ((n:Int)+1))).take (Int.toNat (((row.length:Nat):Int) - ((n:Int)+1)))=row.drop (n+1):=by
   rw [show Int.toNat ((n:Int)+1)=n+1 by omega,List.take_of_length_le (by rw [List.length_drop];omega)]
 have h2:row.take (Int.toNat ((n:Int) - (0:Int)))=row.take n:=by rw [show Int.toNat ((n:Int) - (0:Int))=n by omega]
 have hc:(Y49 row n).length=row.length - 1:=by unfold Y49;rw [List.length_append,List.length_take,List.length_drop];omega
 unfold J9b
 rw [h1,h2,hk,show row.take n++row.drop (n+1)=Y49 row n from rfl]
 have h3:(((Y49 row n++row.drop (row.length - 1)).take (Int.toNat (((row.length - 1:Nat):Int)))++List.replicate (Int.toNat ((row.length:Int) - (((row.length - 1:Nat):Int)))) ByteArray.empty++(Y49 row n++row.drop (row.length - 1)).drop (Int.toNat (((row.length - 1:Nat):Int))+Int.toNat ((row.length:Int) - (((row.length - 1:Nat):Int))))).drop 0).take (row.length - 1)=Y49 row n:=by
   rw [List.drop_zero,Int.toNat_natCast,← hc,List.take_left,List.append_assoc,List.take_left]
 refine Y8 ⟨by omega,by omega,by omega,by omega,by omega,by omega⟩ (Yl (by omega) (Y8 ⟨by omega,by omega,by omega,by omega,by omega⟩ (Y8 ⟨by omega,by omega,by omega,by omega,by omega⟩ (Y8 (by omega) (Y8 ⟨by omega,by omega⟩ (Yx ?_))))))
 have hv:(((Int.toNat ((n:Int) - (0:Int))):Int)+(Int.toNat (((row.length:Nat):Int) - ((n:Int)+1)):Int))=((row.length - 1:Nat):Int):=by omega
 have hq:((Y49 row n++row.drop (row.length - 1)).length)=row.length:=by rw [List.length_append,List.length_drop,hc];omega
 try rw [hv]
 refine Y8 ⟨by omega,by omega,by omega,by omega,by omega⟩ (Y8 ?_ (Y8 ?_ (Y8 ?_ ?_)))
 · rw [hq];omega
 · rw [h3,hc]
 · rw [h3,hc];omega
 · rw [h3]
def Y61 (row :List ByteArray) (i:Int):ByteArray× Int× J6:=if 0≤i∧i< (row.length:Int) then (row.getD i.toNat default,0,⟨Y49 row i.toNat⟩) else (ByteArray.empty,2202,⟨row⟩)
theorem Yk5 (row :List ByteArray) (i:Int):J6e 281474976710656 ⟨row⟩ i=some (decide (0≤i∧i< (row.length:Int)),⟨row⟩):=by
 unfold J6e J9c
 by_cases c:i≥0
 · refine Yi c ?_
   by_cases d:i< (row.length:Int)
   · rw [decide_eq_true d,decide_eq_true ⟨c,d⟩]
   · rw [decide_eq_false d,decide_eq_false (fun q=>d q.2)]
 · refine Yo c ?_
   rw [decide_eq_false (fun q=>c q.1)]
theorem Yi1 {row :List ByteArray} (hl:row.length≤1000) (i:Int):J6f 281474976710656 ⟨row⟩ i=some (Y61 row i):=by
 have h:=Yk5 row i
 unfold J6f Y61
 by_cases c:0≤i∧i< (row.length:Int)
 · rw [decide_eq_true c] at h
   rw [if_pos c]
   obtain ⟨n,rfl⟩:=Int.eq_ofNat_of_zero_le c.1
   have hn:n< row.length:=by omega
   have hd:=Yy6 hl hn
   have hc:(Y49 row n).length=row.length - 1:=by unfold Y49;rw [List.length_append,List.length_take,List.length_drop];omega
   refine stB h (Yc (Y8 c ?_))
   rw [w64 (n:=(n:Int)+1) (by omega) (by omega)]
   refine stB hd (Y8 (show (0:Int)< (row.length:Int) by omega) (Y8 ?_ rfl))
   show ((row.length:Nat):Int) - 1=(((Y49 row n).length:Nat):Int)
   omega
 · rw [decide_eq_false c] at h
   rw [if_neg c]
   exact stB h (Y14 rfl)
theorem Yy7 {row :List ByteArray} (hl:row.length≤1000) (s:ByteArray):J4k 281474976710656 ⟨row⟩ s=some (Y8u row s):=by
 unfold J4k Y8u
 by_cases c:row.length< 32
 · rw [if_pos c]
   refine Yi (show ((row.length:Nat):Int)< 32 by omega) (Y8 (Y2z (by decide) (show row.length+1≤100000 by omega)) (Y8 ?_ rfl))
   show ((row.length:Nat):Int)+1=(((row++[s]).length:Nat):Int)
   rw [List.length_append]
   rfl
 · rw [if_neg c]
   exact Yo (show ¬ ((row.length:Nat):Int)< 32 by omega) rfl
def Y62 (row :List ByteArray) (i:Int):Int× J6:=if 0≤i∧i< (row.length:Int) then Y8u row (row.getD i.toNat default) else (2202,⟨row⟩)
theorem Ytj {row :List ByteArray} (hl:row.length≤1000) (i:Int):J9d 281474976710656 ⟨row⟩ i=some (Y62 row i):=by
 have h:=Yk5 row i
 unfold J9d Y62
 by_cases c:0≤i∧i< (row.length:Int)
 · rw [decide_eq_true c] at h
   rw [if_pos c]
   exact stB h (Yc (Y8 c (stB (Yy7 hl _) rfl)))
 · rw [decide_eq_false c] at h
   rw [if_neg c]
   exact stB h (Y14 rfl)
theorem Yqk {row :List ByteArray} {n:Nat} {x:ByteArray} (h:x∈Y49 row n):x∈row:=by
 unfold Y49 at h
 rcases List.mem_append.1 h with h | h
 · exact List.mem_of_mem_take h
 · exact List.mem_of_mem_drop h
theorem Yql (row :List ByteArray) (n:Nat):(Y49 row n).length≤row.length:=by
 unfold Y49
 rw [List.length_append,List.length_take,List.length_drop]
 omega
def Yi2 (w :J1):J1:=⟨w.fabric_,w.net_,Y8w w.trace_ [⟨8,0,0,0,0,⟨0,0,0,0,0⟩⟩],w.got_⟩
theorem Yk6 {w :J1} (hw:WOk w):WOk (Yi2 w):=⟨hw.fab,hw.net,hw.pk,Ye1 _ hw.tr,hw.gt⟩
def Ykr (w :J1) (s:ByteArray):J1:=
 bif !(Y2f (Y19 s).1.Dst).2.2.2 then Yi2 w
 else bif (Y5s w (Y2f (Y19 s).1.Dst).1 (Y2f (Y19 s).1.Dst).2.1 (Y2f (Y19 s).1.Dst).2.2.1 s).1 != 0 then Yi2 (Y5s w (Y2f (Y19 s).1.Dst).1 (Y2f (Y19 s).1.Dst).2.1 (Y2f (Y19 s).1.Dst).2.2.1 s).2
 else (Y5s w (Y2f (Y19 s).1.Dst).1 (Y2f (Y19 s).1.Dst).2.1 (Y2f (Y19 s).1.Dst).2.2.1 s).2
theorem Y128 {w :J1} (hw:WOk w) (s:ByteArray):WOk (Ykr w s):=by
 unfold Ykr
 cases (!(Y2f (Y19 s).1.Dst).2.2.2) with
 | true=>exact Yk6 hw
 | false=>
   have h:=Ye2 hw (Y2f (Y19 s).1.Dst).1 (Y2f (Y19 s).1.Dst).2.1 (Y2f (Y19 s).1.Dst).2.2.1 s
   rw [cond_false]
   cases ((Y5s w (Y2f (Y19 s).1.Dst).1 (Y2f (Y19 s).1.Dst).2.1 (Y2f (Y19 s).1.Dst).2.2.1 s).1 != 0) with
   | true=>exact Yk6 h
   | false=>exact h
def Yol (w :J1) (n:Nat):J1:=⟨w.fabric_,⟨Y49 w.net_.row_ n⟩,w.trace_,w.got_⟩
theorem Yqm {w :J1} (hw:WOk w) (n:Nat):WOk (Yol w n):=⟨hw.fab,Nat.le_trans (Yql _ _) hw.net,fun x hx=>hw.pk x (Yqk hx),hw.tr,hw.gt⟩
def Y9o (w :J1) (i:Int):Int× J1:=
 if 0≤i∧i< (w.net_.row_.length:Int) then (0,Ykr (Yol w i.toNat) (w.net_.row_.getD i.toNat default)) else (2202,w)
theorem Ypd {w :J1} (hw:WOk w) (i:Int):WOk (Y9o w i).2:=by
 unfold Y9o
 split
 · exact Y128 (Yqm hw _) _
 · exact hw
theorem Ype {w :J1} (hw:WOk w) (i:Int):J9e 281474976710656 w i=some (Y9o w i):=by
 have hn:=Yi1 (row:=w.net_.row_) (Nat.le_trans hw.net (by decide)) i
 unfold Y61 at hn
 unfold J9e Y9o
 by_cases c:0≤i∧i< (w.net_.row_.length:Int)
 · rw [if_pos c] at hn ⊢
   have ho:=Yqm hw i.toNat
   have hs:=Yoa (w.net_.row_.getD i.toNat default)
   have hwho:=Yc4 281474976710656 (Y19 (w.net_.row_.getD i.toNat default)).1.Dst (by unfold RA;omega)
   have hst:∀ u:J1,WOk u→J4o 281474976710656 u true=some (0,Yi2 u):=by
     intro u hu
     unfold J4o J9f
     exact Yk (stB (Y88 _ _ hu.tr (by decide)) rfl)
   refine stB hn (Y13 rfl (stB (Yx6 (by decide) _) (stB hwho ?_)))
   show (bif !(Y2f (Y19 (w.net_.row_.getD i.toNat default)).1.Dst).2.2.2 then J4o 281474976710656 (Yol w i.toNat) true else (J4n 281474976710656 (Yol w i.toNat) ⟨_,_,_⟩ (w.net_.row_.getD i.toNat default)).bind _)=_
   unfold Ykr
   generalize w.net_.row_.getD i.toNat default=s at*
   cases (!(Y2f (Y19 s).1.Dst).2.2.2) with
   | true=>exact hst _ ho
   | false=>
     refine Yj (stB (Yk4 ho _ _ _ s) ?_)
     have hu:=Ye2 ho (Y2f (Y19 s).1.Dst).1 (Y2f (Y19 s).1.Dst).2.1 (Y2f (Y19 s).1.Dst).2.2.1 s
     rw [cond_false]
     generalize Y5s (Yol w i.toNat) (Y2f (Y19 s).1.Dst).1 (Y2f (Y19 s).1.Dst).2.1 (Y2f (Y19 s).1.Dst).2.2.1 s=u at*
     cases (u.1 != 0) with
     | true=>exact hst _ hu
     | false=>rfl
 · rw [if_neg c] at hn ⊢
   exact stB hn (Y1c (show ¬ (2202:Int)=0 by decide) rfl)
end Go.Proofs.YtpdcnikdoikldaaGreatDoor.Pu
namespace Go.Proofs.YtpdcnikdoikldaaGreatDoor.Pu
open Go Go.RowKit Go.Proofs.YtpdcnikdoikldaaGreatDoor.Sv Go.Proofs.YtpdcnikdoikldaaGreatDoor.Lf
theorem Ye3 {es :List Y0} (h:Y37 es=true) (p:Y0→Bool):Y37 (es.filter p)=true:=by
 obtain ⟨h1,h2,h3⟩:=(Y20 _).1 h
 refine (Y20 _).2 ⟨fun e he=>h1 e (List.mem_filter.1 he).1,List.Pairwise.sublist (List.filter_sublist) h2,?_⟩
 exact Nat.le_trans (List.length_filter_le ..) h3
theorem Y129 (now :Int) (es:List Y0) (hb:es.length≤1000):∀ (d fuel i:Nat) (a b:List Y0),es.length=i+d→d< fuel→a.length≤i→b.length≤i→
   J38 281474976710656 fuel now a b es (es.length:Int) (i:Int)=some (a++(es.drop i).filter (fun e=>Y4n e now),b++(es.drop i).filter (fun e=> !Y4n e now)):=by
 intro d
 induction d with
 | zero=>
   intro fuel i a b hi hf ha hb'
   obtain ⟨fuel,rfl⟩:∃ f,fuel=f+1:=⟨fuel - 1,by omega⟩
   rw [J38,List.drop_of_length_le (by omega),List.filter_nil,List.filter_nil,List.append_nil,List.append_nil]
   exact Yo (by omega) rfl
 | succ d ih=>
   intro fuel i a b hi hf ha hb'
   obtain ⟨fuel,rfl⟩:∃ f,fuel=f+1:=⟨fuel - 1,by omega⟩
   have hil:i< es.length:=by omega
   rw [J38,Y2r hil,Int.toNat_natCast]
   unfold J9g Jba
   rw [w64 (n:=(i:Int)+1) (by omega) (by omega)]
   have hr:=Yxl 281474976710656 (es.getD i default) now
   refine Yi (by omega) (Y8 (by omega) (stB (x:=Y4n (es.getD i default) now) (stB hr rfl) ?_))
   cases h:Y4n (es.getD i default) now with
   | true=>
     refine Yk (Y8 ⟨by omega,by omega⟩ ?_)
     refine (ih fuel (i+1) (a++[es.getD i default]) b (by omega) (by omega) (by rw [List.length_append,List.length_singleton];omega) (by omega)).trans ?_
     rw [List.filter_cons_of_pos (p:=fun e=>Y4n e now) h,List.filter_cons_of_neg (p:=fun e=> !Y4n e now) (by rw [h];decide),List.append_assoc]
     rfl
   | false=>
     refine Yj (Y8 ⟨by omega,by omega⟩ ?_)
     refine (ih fuel (i+1) a (b++[es.getD i default]) (by omega) (by omega) (by omega) (by rw [List.length_append,List.length_singleton];omega)).trans ?_
     rw [List.filter_cons_of_neg (p:=fun e=>Y4n e now) (by rw [h];decide),List.filter_cons_of_pos (p:=fun e=> !Y4n e now) (by rw [h];rfl),List.append_assoc]
     rfl
def Ye4 (t :J3) (es:List Y0) (now:Int):List Y0× List Y1:=(es.filter fun e=> !Y4n e now,(es.filter fun e=>Y4n e now).map fun e=>evT t 12 e.To e.Flow)
theorem Ytk (r s n :Int) (left ran:List Y0) (hb:ran.length≤1000):∀ (d fuel i:Nat) (a:List Y1),ran.length=i+d→d< fuel→a.length≤i→
   J4p 281474976710656 fuel r s n left a ran (ran.length:Int) (i:Int)=some (left,a++(ran.drop i).map fun e=>evT ⟨r,s,n⟩ 12 e.To e.Flow):=by
 intro d
 induction d with
 | zero=>
   intro fuel i a hi hf ha
   obtain ⟨fuel,rfl⟩:∃ f,fuel=f+1:=⟨fuel - 1,by omega⟩
   rw [J4p,List.drop_of_length_le (by omega),List.map_nil,List.append_nil]
   exact Yo (by omega) rfl
 | succ d ih=>
   intro fuel i a hi hf ha
   obtain ⟨fuel,rfl⟩:∃ f,fuel=f+1:=⟨fuel - 1,by omega⟩
   have hil:i< ran.length:=by omega
   rw [J4p,Y2r hil,Int.toNat_natCast,w64 (n:=(i:Int)+1) (by omega) (by omega),List.map_cons]
   refine Yi (by omega) (Y8 (by omega) (stB rfl (Y8 ⟨by omega,by omega⟩ ?_)))
   refine (ih fuel (i+1) (a++[evT ⟨r,s,n⟩ 12 (ran.getD i default).To (ran.getD i default).Flow]) (by omega) (by omega) (by rw [List.length_append,List.length_singleton];omega)).trans ?_
   rw [List.append_assoc]
   rfl
theorem Y9p (t :J3) {es:List Y0} (h:Y37 es=true) {now:Int} (hn:Y28 now=true):J2b 281474976710656 t es now=some (Ye4 t es now):=by
 have hl:=((Y20 _).1 h).2.2
 have h1:=Y129 now es (by omega) es.length 281474976710656 0 [] [] (by omega) (by omega) (by simp) (by simp)
 rw [List.nil_append,List.nil_append,List.drop_zero] at h1
 have hl2:(es.filter fun e=>Y4n e now).length≤8:=Nat.le_trans (List.length_filter_le ..) hl
 have h2:=Ytk t.Role t.Site t.Node (es.filter fun e=> !Y4n e now) (es.filter fun e=>Y4n e now) (by omega) (es.filter fun e=>Y4n e now).length 281474976710656 0 [] (by omega) (by omega) (by simp)
 rw [List.nil_append,List.drop_zero] at h2
 have hm:=Yb6 (N:=281474976710656) (by decide) es (by omega)
 rw [h] at hm
 have ht:=Y51 281474976710656 now
 rw [hn] at ht
 unfold J2b Jbb J9h Jbc
 exact stB (stB hm (Yc (stB ht (Yj (stB h1 rfl))))) h2
def Yy8 (e :Ys) (fl:List Y0):Ys:=⟨e.Id,e.Config,e.Health,fl⟩
def Yy9 (n :Yb) (fl:List Y0):Yb:=⟨n.Id,n.Config,n.Health,n.Seen,fl,n.Serial⟩
abbrev swE (f :J0) (i:Int):=Ye4 ⟨0,0,i⟩ (eAt f.edges_ i).it_.Flows f.now_
abbrev swS (f :J0) (i:Int):=Ye4 ⟨1,i,0⟩ (sAt f.sites_ i).it_.Flows f.now_
abbrev Ycf:=J0× List Y1
def Y2q (r :Ycf) (i:Int):Ycf:=bif (eAt r.1.edges_ i).up_ then (setE r.1 i (Yy8 (eAt r.1.edges_ i).it_ (swE r.1 i).1),r.2++(swE r.1 i).2) else r
def Y3z (r :Ycf) (i:Int):Ycf:=bif (sAt r.1.sites_ i).up_ then (setS r.1 i (Yy9 (sAt r.1.sites_ i).it_ (swS r.1 i).1),r.2++(swS r.1 i).2) else r
theorem Ytl {e :Ys} (h:Y2t e) (p:Y0→Bool):Y2t (Yy8 e (e.Flows.filter p)):=
 ⟨fun x hx=>h.pin x (List.mem_filter.1 hx).1,h.id,h.conf,h.hs,Ye3 h.cache p⟩
theorem Ytm {n :Yb} (h:Y1y n) (p:Y0→Bool):Y1y (Yy9 n (n.Flows.filter p)):=
 ⟨fun x hx=>h.away x (List.mem_filter.1 hx).1,fun x hx=>h.here x (List.mem_filter.1 hx).1,h.serial,h.conf,h.id,h.hs,h.view,Ye3 h.cache p⟩
theorem Y7u (t :J3) {es:List Y0} (h:Y37 es=true) (now:Int):(Ye4 t es now).2.length≤8:=by
 unfold Ye4
 rw [List.length_map]
 exact Nat.le_trans (List.length_filter_le ..) ((Y20 _).1 h).2.2
theorem Yom {r :Ycf} (h:Y1t r.1) {i:Int} (hi:i=0∨i=1):Y1t (Y2q r i).1∧(Y2q r i).2.length≤r.2.length+8:=by
 have q:=h.eAt hi
 unfold Y2q
 cases (eAt r.1.edges_ i).up_ with
 | true=>
   refine ⟨h.setE hi (Ytl q.1 _) q.2,?_⟩
   rw [cond_true,List.length_append]
   have:(swE r.1 i).2.length≤8:=Y7u ⟨0,0,i⟩ q.1.cache r.1.now_
   omega
 | false=>exact ⟨h,Nat.le_add_right ..⟩
theorem Yg2 {r :Ycf} (h:Y1t r.1) {i:Int} (hi:i=0∨i=1∨i=2):Y1t (Y3z r i).1∧(Y3z r i).2.length≤r.2.length+8:=by
 have q:=h.sAt hi
 unfold Y3z
 cases (sAt r.1.sites_ i).up_ with
 | true=>
   refine ⟨h.setS hi (Ytm q.1 _) q.2,?_⟩
   rw [cond_true,List.length_append]
   have:(swS r.1 i).2.length≤8:=Y7u ⟨1,i,0⟩ q.1.cache r.1.now_
   omega
 | false=>exact ⟨h,Nat.le_add_right ..⟩
theorem Y15p {f :J0} (h:Y1t f) (told acc:List Y1) (ha:acc.length≤1000) (k:Nat):∃ told',Js 281474976710656 (k+1) f told acc 2 0=Js 281474976710656 k (Y2q (f,acc) 0).1 told' (Y2q (f,acc) 0).2 2 1:=by
 obtain ⟨⟨⟨a0,u0⟩,⟨a1,u1⟩⟩,⟨⟨n0,v0⟩,⟨n1,v1⟩,⟨n2,v2⟩⟩,b,now,c⟩:=f
 have hs:=Y9p ⟨0,0,0⟩ h.e0.cache h.now
 have hl:=Y7u ⟨0,0,0⟩ h.e0.cache now
 rw [Js]
 unfold Y2q J39 Jbd
 cases u0 with
 | true=>exact ⟨_,Yi (by decide) (Ym rfl (Yk (stB (stB hs (Y8 (Y2z (by decide) (Nat.le_trans (Nat.add_le_add ha hl) (by decide))) rfl)) rfl)))⟩
 | false=>exact ⟨_,Yi (by decide) (Ym rfl (Yj rfl))⟩
theorem Y15q {f :J0} (h:Y1t f) (told acc:List Y1) (ha:acc.length≤1000) (k:Nat):∃ told',Js 281474976710656 (k+1) f told acc 2 1=Js 281474976710656 k (Y2q (f,acc) 1).1 told' (Y2q (f,acc) 1).2 2 2:=by
 obtain ⟨⟨⟨a0,u0⟩,⟨a1,u1⟩⟩,⟨⟨n0,v0⟩,⟨n1,v1⟩,⟨n2,v2⟩⟩,b,now,c⟩:=f
 have hs:=Y9p ⟨0,0,1⟩ h.e1.cache h.now
 have hl:=Y7u ⟨0,0,1⟩ h.e1.cache now
 rw [Js]
 unfold Y2q J39 Jbe
 cases u1 with
 | true=>exact ⟨_,Yi (by decide) (Yl (by decide) (Y8 rfl (Yk (stB (stB hs (Y8 (Y2z (by decide) (Nat.le_trans (Nat.add_le_add ha hl) (by decide))) rfl)) rfl))))⟩
 | false=>exact ⟨_,Yi (by decide) (Yl (by decide) (Y8 rfl (Yj rfl)))⟩
theorem Y15r {f :J0} (h:Y1t f) (told acc:List Y1) (ha:acc.length≤1000) (k:Nat):∃ told',Je 281474976710656 (k+1) f told acc 3 0=Je 281474976710656 k (Y3z (f,acc) 0).1 told' (Y3z (f,acc) 0).2 3 1:=by
 obtain ⟨⟨⟨a0,u0⟩,⟨a1,u1⟩⟩,⟨⟨n0,v0⟩,⟨n1,v1⟩,⟨n2,v2⟩⟩,b,now,c⟩:=f
 have hs:=Y9p ⟨1,0,0⟩ h.s0.cache h.now
 have hl:=Y7u ⟨1,0,0⟩ h.s0.cache now
 rw [Je]
 unfold Y3z J19 Jbf
 cases v0 with
 | true=>exact ⟨_,Yi (by decide) (Ym rfl (Yk (stB (stB hs (Y8 (Y2z (by decide) (Nat.le_trans (Nat.add_le_add ha hl) (by decide))) rfl)) rfl)))⟩
 | false=>exact ⟨_,Yi (by decide) (Ym rfl (Yj rfl))⟩
theorem Y15s {f :J0} (h:Y1t f) (told acc:List Y1) (ha:acc.length≤1000) (k:Nat):∃ told',Je 281474976710656 (k+1) f told acc 3 1=Je 281474976710656 k (Y3z (f,acc) 1).1 told' (Y3z (f,acc) 1).2 3 2:=by
 obtain ⟨⟨⟨a0,u0⟩,⟨a1,u1⟩⟩,⟨⟨n0,v0⟩,⟨n1,v1⟩,⟨n2,v2⟩⟩,b,now,c⟩:=f
 have hs:=Y9p ⟨1,1,0⟩ h.s1.cache h.now
 have hl:=Y7u ⟨1,1,0⟩ h.s1.cache now
 rw [Je]
 unfold Y3z J19 Jbg
 cases v1 with
 | true=>exact ⟨_,Yi (by decide) (Yl (by decide) (Ym rfl (Yk (stB (stB hs (Y8 (Y2z (by decide) (Nat.le_trans (Nat.add_le_add ha hl) (by decide))) rfl)) rfl))))⟩
 | false=>exact ⟨_,Yi (by decide) (Yl (by decide) (Ym rfl (Yj rfl)))⟩
theorem Y15t {f :J0} (h:Y1t f) (told acc:List Y1) (ha:acc.length≤1000) (k:Nat):∃ told',Je 281474976710656 (k+1) f told acc 3 2=Je 281474976710656 k (Y3z (f,acc) 2).1 told' (Y3z (f,acc) 2).2 3 3:=by
 obtain ⟨⟨⟨a0,u0⟩,⟨a1,u1⟩⟩,⟨⟨n0,v0⟩,⟨n1,v1⟩,⟨n2,v2⟩⟩,b,now,c⟩:=f
 have hs:=Y9p ⟨1,2,0⟩ h.s2.cache h.now
 have hl:=Y7u ⟨1,2,0⟩ h.s2.cache now
 rw [Je]
 unfold Y3z J19 Jbh
 cases v2 with
 | true=>exact ⟨_,Yi (by decide) (Yl (by decide) (Yl (by decide) (Y8 rfl (Yk (stB (stB hs (Y8 (Y2z (by decide) (Nat.le_trans (Nat.add_le_add ha hl) (by decide))) rfl)) rfl)))))⟩
 | false=>exact ⟨_,Yi (by decide) (Yl (by decide) (Yl (by decide) (Y8 rfl (Yj rfl))))⟩
def Y4q (f :J0):J0:=⟨f.edges_,f.sites_,f.backs_,if 1048576< f.now_+1 then 1048576 else f.now_+1,f.conf_⟩
def Ya9 (f :J0):Ycf:=Y3z (Y3z (Y3z (Y2q (Y2q (Y4q f,[]) 0) 1) 0) 1) 2
theorem Yya {f :J0} (h:Y1t f):Y1t (Y4q f):=by
 refine ⟨h.e0,h.e1,h.i0,h.i1,h.s0,h.s1,h.s2,h.j0,h.j1,h.j2,?_,h.conf⟩
 have:=of_decide_eq_true h.now
 show Y28 (if 1048576< f.now_+1 then 1048576 else f.now_+1)=true
 unfold Y28
 split
 · rfl
 · exact decide_eq_true ⟨by omega,by omega⟩
theorem Yon {f :J0} (h:Y1t f):J9i 281474976710656 f=some ((Ya9 f).2,0,(Ya9 f).1)∧Y1t (Ya9 f).1∧(Ya9 f).2.length≤40:=by
 have h0:=Yya h
 obtain ⟨a1,a2⟩:=Yom (r:=(Y4q f,[])) h0 (i:=0) (.inl rfl)
 obtain ⟨b1,b2⟩:=Yom a1 (i:=1) (.inr rfl)
 obtain ⟨c1,c2⟩:=Yg2 b1 (i:=0) (.inl rfl)
 obtain ⟨d1,d2⟩:=Yg2 c1 (i:=1) (.inr (.inl rfl))
 obtain ⟨e1,e2⟩:=Yg2 d1 (i:=2) (.inr (.inr rfl))
 have z:(Y4q f,([]:List Y1)).2.length=0:=rfl
 refine ⟨?_,e1,show (Y3z _ 2).2.length≤40 by omega⟩
 obtain ⟨t1,p1⟩:=Y15p h0 [] [] (by simp) 281474976710655
 obtain ⟨t2,p2⟩:=Y15q a1 t1 (Y2q (Y4q f,[]) 0).2 (by omega) 281474976710654
 obtain ⟨t3,p3⟩:=Y15r b1 t2 (Y2q (Y2q (Y4q f,[]) 0) 1).2 (by omega) 281474976710655
 obtain ⟨t4,p4⟩:=Y15s c1 t3 (Y3z (Y2q (Y2q (Y4q f,[]) 0) 1) 0).2 (by omega) 281474976710654
 obtain ⟨t5,p5⟩:=Y15t d1 t4 (Y3z (Y3z (Y2q (Y2q (Y4q f,[]) 0) 1) 0) 1).2 (by omega) 281474976710653
 have hn:=of_decide_eq_true h.now
 have hv:(if decide (1048576< IntKind.i64.wrap (f.now_+1)) then (1048576:Int) else IntKind.i64.wrap (f.now_+1))=(if 1048576< f.now_+1 then 1048576 else f.now_+1):=by
   rw [w64 (n:=f.now_+1) (by omega) (by omega)]
   by_cases c:1048576< f.now_+1
   · rw [if_pos c,if_pos (decide_eq_true c)]
   · rw [if_neg c,if_neg (by simpa using c)]
 unfold J9i Jbi Jbj
 refine Yx ?_
 rw [hv]
 have q2:Js 281474976710656 281474976710656 (Y4q f) [] [] 2 0=some ((Y2q (Y2q (Y4q f,[]) 0) 1).1,t2,[],(Y2q (Y2q (Y4q f,[]) 0) 1).2,[]):=by
   refine (p1.trans p2).trans ?_
   rw [show (281474976710654:Nat)=281474976710653+1 from rfl,Js]
   exact Yo (by decide) rfl
 have q5:Je 281474976710656 281474976710656 (Y2q (Y2q (Y4q f,[]) 0) 1).1 t2 (Y2q (Y2q (Y4q f,[]) 0) 1).2 3 0=some ((Ya9 f).1,t5,[],(Ya9 f).2,[]):=by
   refine (p3.trans p4).trans (p5.trans ?_)
   rw [show (281474976710653:Nat)=281474976710652+1 from rfl,Je]
   exact Yo (by decide) rfl
 exact stB q2 (stB q5 rfl)
end Go.Proofs.YtpdcnikdoikldaaGreatDoor.Pu
namespace Go.Proofs.YtpdcnikdoikldaaGreatDoor.Pu
open Go Go.RowKit Go.Proofs.YtpdcnikdoikldaaGreatDoor.Sv Go.Proofs.YtpdcnikdoikldaaGreatDoor.Lf
def Ye5 (h :Y5) (good:Bool):Y5:=bif good==h.Up then ⟨h.Up,0⟩ else if h.Count+1=3 then ⟨!h.Up,0⟩ else ⟨h.Up,h.Count+1⟩
theorem Yyb {h :Y5} (hh:hOk h=true) (good:Bool):Jv 281474976710656 h good=some (Ye5 h good,0):=by
 have hm:=Yq9 281474976710656 h
 rw [hh] at hm
 have hc:=of_decide_eq_true hh
 have ht:J3a 281474976710656 h=some 3:=by unfold J3a;cases h.Up <;> rfl
 unfold Jv Ye5
 refine stB hm (Yc ?_)
 cases (good==h.Up) with
 | true=>rfl
 | false=>
   refine Yj (stB ht ?_)
   rw [w64 (n:=h.Count+1) (by omega) (by omega),cond_false]
   by_cases c:h.Count+1=3
   · rw [if_pos c];exact Ym c rfl
   · rw [if_neg c];exact Yl c rfl
theorem Yyc {h :Y5} (hh:hOk h=true) (good:Bool):hOk (Ye5 h good)=true:=by
 have hc:=of_decide_eq_true hh
 unfold Ye5
 cases (good==h.Up) with
 | true=>rfl
 | false=>
   rw [cond_false]
   split
   · rfl
   · exact decide_eq_true ⟨show 0≤h.Count+1 by omega,show h.Count+1< 3 by omega⟩
def Yoo (hs :List Y5) (to:Int) (good:Bool):List Y5:=hs.set to.toNat (Ye5 (hs.getD to.toNat default) good)
theorem Yqn {hs :List Y5} {n:Int} (h:Y5n hs n=true) {to:Int} (ht:0≤to∧to< n) (good:Bool):Y5n (Yoo hs to good) n=true:=by
 have hl:=Y47 h
 unfold Y5n at h ⊢
 rw [Bool.and_eq_true,List.all_eq_true,beq_iff_eq] at h ⊢
 refine ⟨fun x hx=> ?_,?_⟩
 · rcases List.mem_or_eq_of_mem_set hx with q | rfl
   · exact h.1 x q
   · exact Yyc (h.1 _ (Y3f (by omega))) good
 · unfold Yoo;rw [List.length_set];exact h.2
theorem Y9q {hs :List Y5} {n:Int} (h:Y5n hs n=true) (to:Int) (good:Bool) (f:J0) (K:List Y5→J0):
   (bif decide (to< 0) then some (2401,f) else bif decide (to≥(hs.length:Int)) then some (2401,f) else
     if 0≤to∧to< ((hs.length:Nat):Int) then (Jv 281474976710656 (hs.getD to.toNat default) good).bind fun v1=>if 0≤to∧to< ((hs.length:Nat):Int) then some (0,K (hs.set to.toNat v1.1)) else none else none)=
   some (if 0≤to∧to< n then ((0:Int),K (Yoo hs to good)) else (2401,f)):=by
 have hl:=Y47 h
 by_cases a:to< 0
 · refine Yi a ?_
   rw [if_neg (by omega)]
 refine Yo a ?_
 by_cases b:to≥(hs.length:Int)
 · refine Yi b ?_
   rw [if_neg (by omega)]
 refine Yo b ?_
 have hh:hOk (hs.getD to.toNat default)=true:=by
   unfold Y5n at h
   rw [Bool.and_eq_true,List.all_eq_true] at h
   exact h.1 _ (Y3f (by omega))
 refine Y8 (by omega) (stB (Yyb hh good) (Y8 (by omega) ?_))
 rw [if_pos (show 0≤to∧to< n by omega)]
 rfl
def Yop (e :Ys) (hs:List Y5):Ys:=⟨e.Id,e.Config,hs,e.Flows⟩
def Yi3 (n :Yb) (hs:List Y5):Yb:=⟨n.Id,n.Config,hs,n.Seen,n.Flows,n.Serial⟩
def Yb9 (f :J0) (r s i to:Int) (good:Bool):Int× J0:=
 if r=2 then (2400,f)
 else bif Y3q r s i&&upF f r s i then
   (if r=0 then (if 0≤to∧to< 3 then (0,setE f i (Yop (eAt f.edges_ i).it_ (Yoo (eAt f.edges_ i).it_.Health to good))) else (2401,f))
    else (if 0≤to∧to< 4 then (0,setS f s (Yi3 (sAt f.sites_ s).it_ (Yoo (sAt f.sites_ s).it_.Health to good))) else (2401,f)))
 else (2401,f)
theorem Yyd {f :J0} (hf:Y1t f) (r s i to:Int) (good:Bool):J9j 281474976710656 f r s i to good=some (Yb9 f r s i to good):=by
 have hno:∀ a b c d e,J6g 281474976710656 f a b c d e true=some (2401,f):=fun _ _ _ _ _=>rfl
 unfold J9j Yb9
 by_cases c:r=2
 · rw [if_pos c];exact Ym c rfl
 rw [if_neg c]
 refine Yl c (stB (Yb8 f r s i) ?_)
 cases h:Y3q r s i with
 | false=>exact hno r s i to good
 | true=>
 refine Yc (stB (Ytf f h) ?_)
 rw [Bool.true_and]
 cases hu:upF f r s i with
 | false=>exact hno r s i to good
 | true=>
 unfold J6g
 rw [cond_true]
 rcases Y6c h with ⟨rfl,rfl,rfl | rfl⟩ | ⟨rfl,rfl | rfl | rfl,rfl⟩ | ⟨rfl,k1,k2⟩
 · exact Yj (Ym rfl (Ym rfl (Ym rfl (Y9q hf.e0.hs to good f fun hs=>setE f 0 (Yop f.edges_.1.it_ hs)))))
 · exact Yj (Ym rfl (Ym rfl (Yl (by decide) (Y8 rfl (Y9q hf.e1.hs to good f fun hs=>setE f 1 (Yop f.edges_.2.it_ hs))))))
 · exact Yj (Ym rfl (Yl (by decide) (Y9q hf.s0.hs to good f fun hs=>setS f 0 (Yi3 f.sites_.1.it_ hs))))
 · exact Yj (Yl (by decide) (Ym rfl (Yl (by decide) (Y9q hf.s1.hs to good f fun hs=>setS f 1 (Yi3 f.sites_.2.1.it_ hs)))))
 · exact Yj (Yl (by decide) (Yl (by decide) (Y8 rfl (Yl (by decide) (Y9q hf.s2.hs to good f fun hs=>setS f 2 (Yi3 f.sites_.2.2.it_ hs))))))
 · exact absurd rfl c
theorem Yye {f :J0} (hf:Y1t f) (r s i to:Int) (good:Bool):Y1t (Yb9 f r s i to good).2:=by
 unfold Yb9
 split
 · exact hf
 rename_i c
 cases h:Y3q r s i with
 | false=>exact hf
 | true=>
 rw [Bool.true_and]
 cases hu:upF f r s i with
 | false=>exact hf
 | true=>
 rw [cond_true]
 rcases Y6c h with ⟨rfl,rfl,k⟩ | ⟨rfl,k,rfl⟩ | ⟨rfl,k1,k2⟩
 · rw [if_pos rfl]
   have q:=hf.eAt k
   split
   · rename_i b;exact hf.setE k ⟨q.1.pin,q.1.id,q.1.conf,Yqn q.1.hs b good,q.1.cache⟩ q.2
   · exact hf
 · rw [if_neg (by decide)]
   have q:=hf.sAt k
   split
   · rename_i b;exact hf.setS k ⟨q.1.away,q.1.here,q.1.serial,q.1.conf,q.1.id,Yqn q.1.hs b good,q.1.view,q.1.cache⟩ q.2
   · exact hf
 · exact absurd rfl c
def Y7g (i j :Int) (b:ByteArray):Y15:=⟨167903232+i,167903232+j,4,0,0,b⟩
theorem Y12a {i j :Int} (hi:0≤i∧i< 3) (hj:0≤j∧j< 3) {b:ByteArray} (hb:b.size≤512):Y5m (Y7g i j b)=true:=by
 unfold Y5m Y3w Y7g
 dsimp only
 exact decide_eq_true ⟨by omega,by omega,by omega,by omega,by omega,by omega,hb⟩
def Yba (i :Int) (b:ByteArray):List ByteArray:=
 if i=0 then [Y3x (Y7g 0 1 b),Y3x (Y7g 0 2 b)] else if i=1 then [Y3x (Y7g 1 0 b),Y3x (Y7g 1 2 b)] else [Y3x (Y7g 2 0 b),Y3x (Y7g 2 1 b)]
theorem Y7v (f :J0) {i j:Int} (hi:0≤i∧i< 3) (hj:0≤j∧j< 3) (hne:j≠i) {b:ByteArray} (hb:b.size≤324) (k:Nat) (z:Int) (acc:List ByteArray) (ha:acc.length≤100):
   Jn 281474976710656 (k+1) f i (167903232+i) z 4 0 0 b acc 3 j=Jn 281474976710656 k f i (167903232+i) (167903232+j) 4 0 0 b (acc++[Y3x (Y7g i j b)]) 3 (j+1):=by
 have e:=Y2w 281474976710656 1 j 0
 rw [Y5q hj] at e
 have hm:=Y12a hi hj (b:=b) (by omega)
 have hr:=Yqf hm
 have hpush:=Yit (N:=281474976710656) (by decide) (Y7g i j b) hr.1 hr.2
 unfold Y6k at hpush
 rw [if_pos hm,if_neg (show ¬ 324< (Y7g i j b).Body.size from by show ¬ 324< b.size;omega)] at hpush
 rw [Jn]
 unfold J6h
 rw [w64 (n:=j+1) (by omega) (by omega)]
 exact Yi (by omega) (Y1c hne (stB e (stB hpush (Y8 (Y2z (by decide) (by omega)) rfl))))
theorem Yg3 (f :J0) {i:Int} (hi:0≤i∧i< 3) (b:ByteArray) (k:Nat) (y z:Int) (acc:List ByteArray):
   Jn 281474976710656 (k+1) f i y z 4 0 0 b acc 3 i=Jn 281474976710656 k f i y z 4 0 0 b acc 3 (i+1):=by
 rw [Jn]
 unfold J6h
 rw [w64 (n:=i+1) (by omega) (by omega)]
 exact Yi (by omega) (Y13 rfl rfl)
theorem Yj2 (f :J0) (i y z:Int) (b:ByteArray) (k:Nat) (acc:List ByteArray):Jn 281474976710656 (k+1) f i y z 4 0 0 b acc 3 3=some (⟨acc,[]⟩,0,f):=by
 rw [Jn]
 exact Yo (by decide) rfl
theorem Y15u (f :J0) {i:Int} (hi:i=0∨i=1∨i=2) {b:ByteArray} (hb:b.size≤324):Jn 281474976710656 281474976710656 f i (167903232+i) 0 4 0 0 b [] 3 0=some (⟨Yba i b,[]⟩,0,f):=by
 rcases hi with rfl | rfl | rfl
 · refine (Yg3 f (i:=0) (by decide) b 281474976710655 _ _ []).trans ?_
   refine (Y7v f (i:=0) (j:=1) (by decide) (by decide) (by decide) hb 281474976710654 _ [] (by decide)).trans ?_
   refine (Y7v f (i:=0) (j:=2) (by decide) (by decide) (by decide) hb 281474976710653 _ ([]++[Y3x (Y7g 0 1 b)]) (by show 1≤100;decide)).trans ?_
   exact Yj2 f _ _ _ b 281474976710652 _
 · refine (Y7v f (i:=1) (j:=0) (by decide) (by decide) (by decide) hb 281474976710655 _ [] (by decide)).trans ?_
   refine (Yg3 f (i:=1) (by decide) b 281474976710654 _ _ _).trans ?_
   refine (Y7v f (i:=1) (j:=2) (by decide) (by decide) (by decide) hb 281474976710653 _ ([]++[Y3x (Y7g 1 0 b)]) (by show 1≤100;decide)).trans ?_
   exact Yj2 f _ _ _ b 281474976710652 _
 · refine (Y7v f (i:=2) (j:=0) (by decide) (by decide) (by decide) hb 281474976710655 _ [] (by decide)).trans ?_
   refine (Y7v f (i:=2) (j:=1) (by decide) (by decide) (by decide) hb 281474976710654 _ ([]++[Y3x (Y7g 2 0 b)]) (by show 1≤100;decide)).trans ?_
   refine (Yg3 f (i:=2) (by decide) b 281474976710653 _ _ _).trans ?_
   exact Yj2 f _ _ _ b 281474976710652 _
theorem Y12b {n :Yb} (h:Y1y n):0≤Ya8 n∧Ya8 n≤8:=by
 have:=((Y20 _).1 h.cache).2.2
 have h2:=List.length_filter_le (fun x:Y0=> !x.Away) n.Flows
 unfold Ya8
 omega
theorem Y1b4 {n :Yb} (h:Y1y n):0≤(Y2p n.Config n.Id).Cap∧(Y2p n.Config n.Id).Cap≤8:=by
 cases q:Y67 n.Config n.Id with
 | true=>exact (Ye0 ((Y5o h.conf n.Id).2 q)).2.2.1
 | false=>unfold Y2p;rw [q,if_neg Bool.false_ne_true];decide
theorem Yqo {n :Yb} (h:Y1y n):Y48 (Y6m n).2=true∧Y1y (Y6m n).1:=by
 have a:=Y12b h;have b:=Y1b4 h;have c:=h.serial;have d:=h.id
 refine ⟨?_,h.away,h.here,?_,h.conf,h.id,h.hs,h.view,h.cache⟩
 · unfold Y48 Y6m
   rw [decide_eq_true (show 0≤n.Id∧n.Id< 3 from d),decide_eq_true (show 0≤n.Serial∧n.Serial< 65536 from c),decide_eq_true (show 0≤Ya8 n∧Ya8 n< 256 by omega),decide_eq_true (show 0≤(Y2p n.Config n.Id).Cap∧(Y2p n.Config n.Id).Cap< 256 by omega)]
   rfl
 · show 0≤(n.Serial+1) % 65536∧(n.Serial+1) % 65536< 65536
   omega
def Y5t (f :J0) (i:Int):Y1g× Int× J0:=
 bif Y3q 1 i 0&&upF f 1 i 0 then (⟨Yba i (Ycc (Y6m (sAt f.sites_ i).it_).2),[]⟩,0,setS f i (Y6m (sAt f.sites_ i).it_).1) else (⟨[],[]⟩,2401,f)
theorem Y15v {f :J0} (hf:Y1t f) (i:Int):J9k 281474976710656 f i=some (Y5t f i):=by
 have hno:J6i 281474976710656 f i true=some (⟨[],[]⟩,2401,f):=rfl
 unfold J9k Y5t
 refine stB (Yb8 f 1 i 0) ?_
 cases h:Y3q 1 i 0 with
 | false=>exact hno
 | true=>
 refine Yc (stB (Ytf f h) ?_)
 rw [Bool.true_and]
 cases hu:upF f 1 i 0 with
 | false=>exact hno
 | true=>
 have k:i=0∨i=1∨i=2:=by have:=Y6c h;unfold Has at this;omega
 have q:=hf.sAt k
 have hrep:=Ykb (Yhy q.1)
 rw [if_pos ((Y3y _).2 q.1)] at hrep
 have t:=Yqo q.1
 have hput:=Yk0 (N:=281474976710656) (by decide) (Y6m (sAt f.sites_ i).it_).2
 rw [if_pos t.1] at hput
 have hall:=Y15u (setS f i (Y6m (sAt f.sites_ i).it_).1) k (b:=Ycc (Y6m (sAt f.sites_ i).it_).2) (by rw [Yjz];decide)
 have e:=Y2w 281474976710656 1 i 0
 rw [Y5q (by omega)] at e
 unfold J6i
 rcases k with rfl | rfl | rfl
 · exact Yj (Ym rfl (stB hrep (stB hput (stB e hall))))
 · exact Yj (Yl (by decide) (Ym rfl (stB hrep (stB hput (stB e hall)))))
 · exact Yj (Yl (by decide) (Yl (by decide) (Y8 rfl (stB hrep (stB hput (stB e hall))))))
theorem Yqp {f :J0} (hf:Y1t f) (i:Int):Y1t (Y5t f i).2.2:=by
 unfold Y5t
 cases h:Y3q 1 i 0 with
 | false=>exact hf
 | true=>
 rw [Bool.true_and]
 cases hu:upF f 1 i 0 with
 | false=>exact hf
 | true=>
 have k:i=0∨i=1∨i=2:=by have:=Y6c h;unfold Has at this;omega
 have q:=hf.sAt k
 exact hf.setS k (Yqo q.1).2 q.2
theorem Yqq (f :J0) (i:Int):Y8v (Y5t f i).1:=by
 have hp:∀ o:Y15,o.Body.size=6→0< (Y3x o).size∧(Y3x o).size≤512:=fun o h=>by rw [Yht];omega
 unfold Y5t
 cases (Y3q 1 i 0&&upF f 1 i 0) with
 | false=>exact ⟨(fun x hx=>by cases hx),show 0≤2 by decide,show 0≤2 by decide⟩
 | true=>
   have hb:=Yjz (Y6m (sAt f.sites_ i).it_).2
   refine ⟨fun x hx=> ?_,?_,show 0≤2 by decide⟩
   · rw [cond_true] at hx
     unfold Yba at hx
     dsimp only at hx
     split at hx
     · simp only [List.mem_cons,List.not_mem_nil,or_false] at hx
       rcases hx with rfl | rfl <;> exact hp _ hb
     · split at hx
       · simp only [List.mem_cons,List.not_mem_nil,or_false] at hx
         rcases hx with rfl | rfl <;> exact hp _ hb
       · simp only [List.mem_cons,List.not_mem_nil,or_false] at hx
         rcases hx with rfl | rfl <;> exact hp _ hb
   · show (Yba i (Ycc (Y6m (sAt f.sites_ i).it_).2)).length≤2
     unfold Yba
     split
     · exact Nat.le_refl 2
     · split <;> exact Nat.le_refl 2
def Ytn (b :FB) (i:Int) (u:Bool):FB:=if i=0 then (⟨u⟩,b.2.1,b.2.2.1,b.2.2.2) else if i=1 then (b.1,⟨u⟩,b.2.2.1,b.2.2.2) else if i=2 then (b.1,b.2.1,⟨u⟩,b.2.2.2) else (b.1,b.2.1,b.2.2.1,⟨u⟩)
def bSet (b :FB× FB× FB) (s i:Int) (u:Bool):FB× FB× FB:=if s=0 then (Ytn b.1 i u,b.2.1,b.2.2) else if s=1 then (b.1,Ytn b.2.1 i u,b.2.2) else (b.1,b.2.1,Ytn b.2.2 i u)
def Yj3 (f :J0) (r s i:Int) (u:Bool):Int× J0:=
 bif Y3q r s i then
   (0,if r=0 then ⟨eSet f.edges_ i ⟨bif u&& !(eAt f.edges_ i).up_ then fe f.conf_ i else (eAt f.edges_ i).it_,u⟩,f.sites_,f.backs_,f.now_,f.conf_⟩
   else if r=1 then ⟨f.edges_,sSet f.sites_ s ⟨bif u&& !(sAt f.sites_ s).up_ then fs f.conf_ s else (sAt f.sites_ s).it_,u⟩,f.backs_,f.now_,f.conf_⟩
   else ⟨f.edges_,f.sites_,bSet f.backs_ s i u,f.now_,f.conf_⟩)
 else (2401,f)
theorem Y15w {f :J0} (hf:Y1t f) (r s i:Int) (u:Bool):Y1t (Yj3 f r s i u).2:=by
 unfold Yj3
 cases h:Y3q r s i with
 | false=>exact hf
 | true=>
 rw [cond_true]
 rcases Y6c h with ⟨rfl,rfl,rfl | rfl⟩ | ⟨rfl,rfl | rfl | rfl,rfl⟩ | ⟨rfl,k1,k2⟩
 · have he:Y2t (bif u&& !f.edges_.1.up_ then fe f.conf_ 0 else f.edges_.1.it_)∧(bif u&& !f.edges_.1.up_ then fe f.conf_ 0 else f.edges_.1.it_).Id=0:=by
     cases (u&& !f.edges_.1.up_) with
     | true=>exact ⟨Yi0 hf.conf (by decide),rfl⟩
     | false=>exact ⟨hf.e0,hf.i0⟩
   exact ⟨he.1,hf.e1,he.2,hf.i1,hf.s0,hf.s1,hf.s2,hf.j0,hf.j1,hf.j2,hf.now,hf.conf⟩
 · have he:Y2t (bif u&& !f.edges_.2.up_ then fe f.conf_ 1 else f.edges_.2.it_)∧(bif u&& !f.edges_.2.up_ then fe f.conf_ 1 else f.edges_.2.it_).Id=1:=by
     cases (u&& !f.edges_.2.up_) with
     | true=>exact ⟨Yi0 hf.conf (by decide),rfl⟩
     | false=>exact ⟨hf.e1,hf.i1⟩
   exact ⟨hf.e0,he.1,hf.i0,he.2,hf.s0,hf.s1,hf.s2,hf.j0,hf.j1,hf.j2,hf.now,hf.conf⟩
 · have he:Y1y (bif u&& !f.sites_.1.up_ then fs f.conf_ 0 else f.sites_.1.it_)∧(bif u&& !f.sites_.1.up_ then fs f.conf_ 0 else f.sites_.1.it_).Id=0:=by
     cases (u&& !f.sites_.1.up_) with
     | true=>exact ⟨(Y3y _).1 (Yce hf.conf (by decide)),rfl⟩
     | false=>exact ⟨hf.s0,hf.j0⟩
   exact ⟨hf.e0,hf.e1,hf.i0,hf.i1,he.1,hf.s1,hf.s2,he.2,hf.j1,hf.j2,hf.now,hf.conf⟩
 · have he:Y1y (bif u&& !f.sites_.2.1.up_ then fs f.conf_ 1 else f.sites_.2.1.it_)∧(bif u&& !f.sites_.2.1.up_ then fs f.conf_ 1 else f.sites_.2.1.it_).Id=1:=by
     cases (u&& !f.sites_.2.1.up_) with
     | true=>exact ⟨(Y3y _).1 (Yce hf.conf (by decide)),rfl⟩
     | false=>exact ⟨hf.s1,hf.j1⟩
   exact ⟨hf.e0,hf.e1,hf.i0,hf.i1,hf.s0,he.1,hf.s2,hf.j0,he.2,hf.j2,hf.now,hf.conf⟩
 · have he:Y1y (bif u&& !f.sites_.2.2.up_ then fs f.conf_ 2 else f.sites_.2.2.it_)∧(bif u&& !f.sites_.2.2.up_ then fs f.conf_ 2 else f.sites_.2.2.it_).Id=2:=by
     cases (u&& !f.sites_.2.2.up_) with
     | true=>exact ⟨(Y3y _).1 (Yce hf.conf (by decide)),rfl⟩
     | false=>exact ⟨hf.s2,hf.j2⟩
   exact ⟨hf.e0,hf.e1,hf.i0,hf.i1,hf.s0,hf.s1,he.1,hf.j0,hf.j1,he.2,hf.now,hf.conf⟩
 · rw [if_neg (by decide),if_neg (by decide)]
   exact ⟨hf.e0,hf.e1,hf.i0,hf.i1,hf.s0,hf.s1,hf.s2,hf.j0,hf.j1,hf.j2,hf.now,hf.conf⟩
theorem Y15x {f :J0} (hf:Y1t f) (r s i:Int) (u:Bool):Jl 281474976710656 f r s i u=some (Yj3 f r s i u):=by
 unfold Jl Yj3
 refine stB (Yb8 f r s i) ?_
 cases h:Y3q r s i with
 | false=>rfl
 | true=>
 refine Yc ?_
 have hc:=hf.conf
 obtain ⟨⟨⟨a0,u0⟩,⟨a1,u1⟩⟩,⟨⟨n0,v0⟩,⟨n1,v1⟩,⟨n2,v2⟩⟩,b,now,c⟩:=f
 rw [cond_true]
 rcases Y6c h with ⟨rfl,rfl,rfl | rfl⟩ | ⟨rfl,rfl | rfl | rfl,rfl⟩ | ⟨rfl,k1,k2⟩
 · have:=Y8t (i:=0) hc (by decide)
   refine Ym rfl (Ym rfl ?_)
   unfold J61 J62 J31
   cases u <;> cases u0 <;> first | rfl | exact stB (Yk (Yk (stB (stB this rfl) rfl))) rfl
 · have:=Y8t (i:=1) hc (by decide)
   refine Ym rfl (Yl (by decide) (Y8 rfl ?_))
   unfold J63 J64 J31
   cases u <;> cases u1 <;> first | rfl | exact stB (Yk (Yk (stB (stB this rfl) rfl))) rfl
 · have:=Y5y (i:=0) hc (by decide)
   refine Yl (by decide) (Ym rfl (Ym rfl ?_))
   unfold J65 J66 J17
   cases u <;> cases v0 <;> first | rfl | exact stB (Yk (Yk (stB (stB this rfl) rfl))) rfl
 · have:=Y5y (i:=1) hc (by decide)
   refine Yl (by decide) (Ym rfl (Yl (by decide) (Ym rfl ?_)))
   unfold J67 J68 J17
   cases u <;> cases v1 <;> first | rfl | exact stB (Yk (Yk (stB (stB this rfl) rfl))) rfl
 · have:=Y5y (i:=2) hc (by decide)
   refine Yl (by decide) (Ym rfl (Yl (by decide) (Yl (by decide) (Y8 rfl ?_))))
   unfold J69 J6a J17
   cases u <;> cases v2 <;> first | rfl | exact stB (Yk (Yk (stB (stB this rfl) rfl))) rfl
 · refine Yl (by decide) (Yl (by decide) ?_)
   rcases k1 with rfl | rfl | rfl <;> rcases k2 with rfl | rfl | rfl | rfl <;> rfl
def Y1b5 (e :Ys) (c:Y7):Ys:=⟨e.Id,c,e.Health,e.Flows⟩
def Y1b6 (n :Yb) (c:Y7):Yb:=⟨n.Id,c,n.Health,n.Seen,n.Flows,n.Serial⟩
def Ycg (c :Y7) (f:J0) (i:Int):J0:=bif (eAt f.edges_ i).up_ then setE f i (Y1b5 (eAt f.edges_ i).it_ c) else f
def Y7w (c :Y7) (f:J0) (i:Int):J0:=bif (sAt f.sites_ i).up_ then setS f i (Y1b6 (sAt f.sites_ i).it_ c) else f
theorem Yqr {c :Y7} (hc:Y1a c=true) {f:J0} (h:Y1t f) {i:Int} (hi:i=0∨i=1):Y1t (Ycg c f i):=by
 have q:=h.eAt hi
 unfold Ycg
 cases (eAt f.edges_ i).up_ with
 | true=>exact h.setE hi ⟨q.1.pin,q.1.id,hc,q.1.hs,q.1.cache⟩ q.2
 | false=>exact h
theorem Yj4 {c :Y7} (hc:Y1a c=true) {f:J0} (h:Y1t f) {i:Int} (hi:i=0∨i=1∨i=2):Y1t (Y7w c f i):=by
 have q:=h.sAt hi
 unfold Y7w
 cases (sAt f.sites_ i).up_ with
 | true=>exact h.setS hi ⟨q.1.away,q.1.here,q.1.serial,hc,q.1.id,q.1.hs,q.1.view,q.1.cache⟩ q.2
 | false=>exact h
def Yto (f :J0) (c:Y7):J0:=⟨f.edges_,f.sites_,f.backs_,f.now_,c⟩
def cfgF (f :J0) (c:Y7):J0:=Y7w c (Y7w c (Y7w c (Ycg c (Ycg c (Yto f c) 0) 1) 0) 1) 2
theorem Y15y {f :J0} (h:Y1t f) {c:Y7} (hc:Y1a c=true):Y1t (cfgF f c):=
 Yj4 hc (Yj4 hc (Yj4 hc (Yqr hc (Yqr hc (f:=Yto f c) ⟨h.e0,h.e1,h.i0,h.i1,h.s0,h.s1,h.s2,h.j0,h.j1,h.j2,h.now,hc⟩ (.inl rfl)) (.inr rfl)) (.inl rfl)) (.inr (.inl rfl))) (.inr (.inr rfl))
theorem Y1b8 {c :Y7} (hc:Y1a c=true) (f:J0):J9l 281474976710656 f c.Version c.Sites=some (Ycg c (Ycg c f 0) 1):=by
 have hcp:=Ycd hc
 obtain ⟨⟨⟨a0,u0⟩,⟨a1,u1⟩⟩,ss,b,now,d⟩:=f
 have s0:∀ k,Jw 281474976710656 (k+1) ⟨(⟨a0,u0⟩,⟨a1,u1⟩),ss,b,now,d⟩ c.Version c.Sites 2 0=Jw 281474976710656 k (Ycg c ⟨(⟨a0,u0⟩,⟨a1,u1⟩),ss,b,now,d⟩ 0) c.Version c.Sites 2 1:=by
   intro k
   rw [Jw]
   unfold J3b Jbk
   cases u0 with
   | true=>exact Yi (by decide) (Ym rfl (Yk (stB (stB hcp rfl) rfl)))
   | false=>exact Yi (by decide) (Ym rfl (Yj rfl))
 have s1:∀ (y:Y1k) k,Jw 281474976710656 (k+1) ⟨(y,⟨a1,u1⟩),ss,b,now,d⟩ c.Version c.Sites 2 1=Jw 281474976710656 k (Ycg c ⟨(y,⟨a1,u1⟩),ss,b,now,d⟩ 1) c.Version c.Sites 2 2:=by
   intro y k
   rw [Jw]
   unfold J3b Jbl
   cases u1 with
   | true=>exact Yi (by decide) (Yl (by decide) (Y8 rfl (Yk (stB (stB hcp rfl) rfl))))
   | false=>exact Yi (by decide) (Yl (by decide) (Y8 rfl (Yj rfl)))
 have hz:∃ y,Ycg c ⟨(⟨a0,u0⟩,⟨a1,u1⟩),ss,b,now,d⟩ 0=⟨(y,⟨a1,u1⟩),ss,b,now,d⟩:=by cases u0 <;> exact ⟨_,rfl⟩
 obtain ⟨y,hy⟩:=hz
 unfold J9l
 refine (s0 281474976710655).trans ?_
 rw [hy]
 refine (s1 y 281474976710654).trans ?_
 rw [show (281474976710654:Nat)=281474976710653+1 from rfl,Jw]
 exact Yo (by decide) rfl
theorem Y1b9 {c :Y7} (hc:Y1a c=true) (f:J0):J9m 281474976710656 f c.Version c.Sites=some (Y7w c (Y7w c (Y7w c f 0) 1) 2):=by
 have hcp:=Ycd hc
 obtain ⟨es,⟨⟨n0,v0⟩,⟨n1,v1⟩,⟨n2,v2⟩⟩,b,now,d⟩:=f
 have s0:∀ (y z:Y1f) k,Jf 281474976710656 (k+1) ⟨es,(⟨n0,v0⟩,y,z),b,now,d⟩ c.Version c.Sites 3 0=Jf 281474976710656 k (Y7w c ⟨es,(⟨n0,v0⟩,y,z),b,now,d⟩ 0) c.Version c.Sites 3 1:=by
   intro y z k
   rw [Jf]
   unfold J1a Jbm
   cases v0 with
   | true=>exact Yi (by decide) (Ym rfl (Yk (stB (stB hcp rfl) rfl)))
   | false=>exact Yi (by decide) (Ym rfl (Yj rfl))
 have s1:∀ (y z:Y1f) k,Jf 281474976710656 (k+1) ⟨es,(y,⟨n1,v1⟩,z),b,now,d⟩ c.Version c.Sites 3 1=Jf 281474976710656 k (Y7w c ⟨es,(y,⟨n1,v1⟩,z),b,now,d⟩ 1) c.Version c.Sites 3 2:=by
   intro y z k
   rw [Jf]
   unfold J1a Jbn
   cases v1 with
   | true=>exact Yi (by decide) (Yl (by decide) (Ym rfl (Yk (stB (stB hcp rfl) rfl))))
   | false=>exact Yi (by decide) (Yl (by decide) (Ym rfl (Yj rfl)))
 have s2:∀ (y z:Y1f) k,Jf 281474976710656 (k+1) ⟨es,(y,z,⟨n2,v2⟩),b,now,d⟩ c.Version c.Sites 3 2=Jf 281474976710656 k (Y7w c ⟨es,(y,z,⟨n2,v2⟩),b,now,d⟩ 2) c.Version c.Sites 3 3:=by
   intro y z k
   rw [Jf]
   unfold J1a Jbo
   cases v2 with
   | true=>exact Yi (by decide) (Yl (by decide) (Yl (by decide) (Y8 rfl (Yk (stB (stB hcp rfl) rfl)))))
   | false=>exact Yi (by decide) (Yl (by decide) (Yl (by decide) (Y8 rfl (Yj rfl))))
 have hz:∃ y,Y7w c ⟨es,(⟨n0,v0⟩,⟨n1,v1⟩,⟨n2,v2⟩),b,now,d⟩ 0=⟨es,(y,⟨n1,v1⟩,⟨n2,v2⟩),b,now,d⟩:=by cases v0 <;> exact ⟨_,rfl⟩
 obtain ⟨y,hy⟩:=hz
 have hz:∃ z,Y7w c ⟨es,(y,⟨n1,v1⟩,⟨n2,v2⟩),b,now,d⟩ 1=⟨es,(y,z,⟨n2,v2⟩),b,now,d⟩:=by cases v1 <;> exact ⟨_,rfl⟩
 obtain ⟨z,hz⟩:=hz
 unfold J9m
 refine (s0 _ _ 281474976710655).trans ?_
 rw [hy]
 refine (s1 y _ 281474976710654).trans ?_
 rw [hz]
 refine (s2 y z 281474976710653).trans ?_
 rw [show (281474976710653:Nat)=281474976710652+1 from rfl,Jf]
 exact Yo (by decide) rfl
def Yeq (old c :Y7):Y7:=if c.Version > old.Version then c else old
def Yer (f :J0) (c:Y7):Bool× Int× J0:=
 bif Y1a c then (decide (c.Version > f.conf_.Version),0,cfgF f (Yeq f.conf_ c)) else (false,2400,f)
theorem Yoq {old c :Y7} (h:Y1a old=true) (hc:Y1a c=true):Y1a (Yeq old c)=true:=by
 unfold Yeq
 split
 · exact hc
 · exact h
theorem Y12c {f :J0} (hf:Y1t f) {c:Y7} (hb:BdC c):J9n 281474976710656 f c=some (Yer f c):=by
 have h1:=Y2x (N:=281474976710656) (by decide) f.conf_ (Yj1 hf.conf)
 rw [hf.conf] at h1
 have h2:=Y2x (N:=281474976710656) (by decide) c hb
 unfold J9n Yer
 cases hc:Y1a c with
 | false=>
   rw [hc] at h2
   refine stB (x:=(⟨0,[]⟩,false,1000)) ?_ (Y1c (show ¬ (1000:Int)=0 by decide) rfl)
   unfold J6j J6k
   exact stB h1 (Yc (stB h2 rfl))
 | true=>
   rw [hc] at h2
   have hn:=Yoq hf.conf hc
   have hnext:J6j 281474976710656 f.conf_ c=some (Yeq f.conf_ c,decide (c.Version > f.conf_.Version),0):=by
     unfold J6j J6k Yeq
     refine stB h1 (Yc (stB h2 (Yj ?_)))
     by_cases a:c.Version > f.conf_.Version
     · rw [if_pos a,decide_eq_true a];exact Yk (stB (Ycd hc) rfl)
     · rw [if_neg a,decide_eq_false a];exact Yj (stB (Ycd hf.conf) rfl)
   exact stB hnext (Y13 rfl (stB (Y1b8 hn (Yto f (Yeq f.conf_ c))) (stB (Y1b9 hn _) rfl)))
theorem Y12d {f :J0} (hf:Y1t f) (c:Y7):Y1t (Yer f c).2.2:=by
 unfold Yer
 cases hc:Y1a c with
 | false=>exact hf
 | true=>exact Y15y hf (Yoq hf.conf hc)
end Go.Proofs.YtpdcnikdoikldaaGreatDoor.Pu
