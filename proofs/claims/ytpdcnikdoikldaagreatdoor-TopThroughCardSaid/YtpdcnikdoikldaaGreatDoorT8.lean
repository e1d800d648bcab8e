import Derived.Test.YtpdcnikdoikldaaGreatDoorT1
set_option linter.unusedVariables false
set_option linter.unusedSimpArgs false
namespace Go.Proofs.YtpdcnikdoikldaaGreatDoor.Pu
open Go Go.RowKit Go.Proofs.YtpdcnikdoikldaaGreatDoor.Sv Go.Proofs.YtpdcnikdoikldaaGreatDoor.Lf
def tB (site id :Int):J2:=⟨2,site,id⟩
def Y4f (site id :Int) (s:ByteArray):ByteArray× Y1e:=
 bif ((Yp s).2 != 0)||(((Yp s).1.Dst != 167968768+256*site+id)||(((Yp s).1.Src != 167903232+site)||(((Yp s).1.Tier != 3)||(((Yp s).1.Marker != 0)||((Yp s).1.Origin != 0))))) then (ByteArray.empty,Y45 (tB site id) 8 zF)
 else bif (ofF (Yp s).1.Body).2.2 != 0 then (ByteArray.empty,Y45 (tB site id) (Yf1 (ofF (Yp s).1.Body).2.2) (ofF (Yp s).1.Body).1)
 else ((Yp s).1.Body,⟨[],[evT (tB site id) 1 id (ofF (Yp s).1.Body).1]⟩)
theorem Yrn {site id :Int} (h:0<=site/\site< 3) (hi:0<=id/\id< 4) (s:ByteArray):J90 281474976710656 site id s=some ((Y4f site id s).1,(Y4f site id s).2,0):=by
 have e1:=Y30 281474976710656 2 site id
 have e2:=Y30 281474976710656 1 site 0
 rw [Ylm h hi] at e1
 rw [Y6f h] at e2
 have ht:∀ a b c d e f,J1p 281474976710656 id 2 site id a b c d e f true=some (ByteArray.empty,Y45 (tB site id) 8 zF,0):=fun _ _ _ _ _ _=>rfl
 unfold J90 Y4f
 refine stB e1 (Y1p rfl (stB e2 (stB (Yq5 (by decide) s) ?_)))
 dsimp only
 generalize Yp s=p
 cases c1:(p.2 != 0) with
 | true=>exact ht p.1.Src p.1.Dst p.1.Tier p.1.Marker p.1.Origin p.1.Body
 | false=>
 cases c2:(p.1.Dst != 167968768+256*site+id) with
 | true=>exact ht p.1.Src p.1.Dst p.1.Tier p.1.Marker p.1.Origin p.1.Body
 | false=>
 cases c3:(p.1.Src != 167903232+site) with
 | true=>exact ht p.1.Src p.1.Dst p.1.Tier p.1.Marker p.1.Origin p.1.Body
 | false=>
 cases c4:(p.1.Tier != 3) with
 | true=>exact ht p.1.Src p.1.Dst p.1.Tier p.1.Marker p.1.Origin p.1.Body
 | false=>
 cases c5:(p.1.Marker != 0) with
 | true=>exact ht p.1.Src p.1.Dst p.1.Tier p.1.Marker p.1.Origin p.1.Body
 | false=>
 cases c6:(p.1.Origin != 0) with
 | true=>exact ht p.1.Src p.1.Dst p.1.Tier p.1.Marker p.1.Origin p.1.Body
 | false=>
 unfold J1p
 refine Yk (Yk (Yk (Yk (Yk (Yk (stB (Yvc (by decide) p.1.Body) ?_))))))
 rw [Bool.false_or,Bool.false_or,Bool.false_or,Bool.false_or,Bool.false_or,cond_false]
 cases ((ofF p.1.Body).2.2 != 0) with
 | true=>exact Ym (stB (Yda _ _) (stB rfl rfl))
 | false=>exact Yk (stB rfl rfl)
theorem Y14u (n :Ya) (h:Y1y n) {now:Int} (hn:Y20 now=true) (o:Yv):J8d 281474976710656 ⟨n,tN n,now⟩ o=some ((Y8t n o now).2,⟨(Y8t n o now).1,tN n,now⟩,n.Health):=by
 unfold J8d Y8t
 refine stB (Y10c (by decide) o.Body) (stB (Y30 ..) ?_)
 have hk:=@Ysu o.Body
 generalize Y2y o.Body=g at*
 have h1:J46 281474976710656 n.Id n.Config.Version n.Config.Sites n.Health n.Seen n.Flows n.Serial (tN n).Role (tN n).Site (tN n).Node now g.1.Site g.1.Serial g.1.Load g.1.Cap true=some (Y45 (tN n) 8 zF,⟨n,tN n,now⟩,n.Health):=rfl
 by_cases c:g.2=0
 . have hr:=hk c
   obtain ⟨p1,_⟩:=Ybq hr
   rw [Y6f p1]
   refine Y1p c ?_
   rw [show (g.2 != 0)=false by rw [c];rfl,Bool.false_or]
   by_cases e:o.Src=167903232+g.1.Site
   . rw [show (o.Src==167903232+g.1.Site)=true from beq_iff_eq.2 e]
     refine Y1p e ?_
     dsimp only
     cases (g.1.Site==n.Id) with
     | true=>exact h1
     | false=>
       unfold J46
       refine Yk (stB (Yrk (by decide) h.view hr hn) ?_)
       dsimp only
       cases (Y6n n.Seen g.1 now).2 with
       | true=>exact Yi (stB rfl rfl)
       | false=>rfl
   . rw [show (o.Src==167903232+g.1.Site)=false from beq_eq_false_iff_ne.2 e]
     exact Y25 e h1
 . rw [show (g.2 != 0)=true from bne_iff_ne.2 c]
   exact Ym h1
theorem Yqn (n :Ya) (o:Yv) (now:Int):(Y8t n o now).1.Health=n.Health:=by
 unfold Y8t
 cases (((Y2y o.Body).2 != 0)||(!(o.Src==167903232+(Y2y o.Body).1.Site)||((Y2y o.Body).1.Site==n.Id))) with
 | true=>rfl
 | false=>cases (Y6n n.Seen (Y2y o.Body).1 now).2 <;> rfl
theorem Y10h (n :Ya) (h:Y1y n) {now:Int} (hn:Y20 now=true) (s:ByteArray):J91 281474976710656 ⟨n,tN n,now⟩ s=some ((Y2o n now s).2,⟨(Y2o n now s).1,tN n,now⟩,n.Health):=by
 have hid:=h.id
 have hpm:=@Yh9 s
 have hra:=Ysr s
 unfold J91 Y2o
 refine stB (Yq5 (by decide) s) (stB (Y30 ..) ?_)
 dsimp only
 rw [Y6f hid]
 generalize Yp s=p at*
 have h1:J65 281474976710656 n.Id n.Config.Version n.Config.Sites n.Health n.Seen n.Flows n.Serial (tN n).Role (tN n).Site (tN n).Node now s p.1.Src p.1.Dst p.1.Tier p.1.Marker p.1.Origin p.1.Body true=some (Y45 (tN n) 8 zF,⟨n,tN n,now⟩,n.Health):=rfl
 by_cases c:p.2=0
 case neg=>
   rw [show (p.2 != 0)=true from bne_iff_ne.2 c]
   exact Ym h1
 obtain ⟨hm,hs,hz⟩:=hpm c
 refine Y1p c ?_
 rw [show (p.2 != 0)=false by rw [c];rfl,Bool.false_or]
 dsimp only
 cases hd:(p.1.Dst != 167903232+n.Id) with
 | true=>exact h1
 | false=>
 unfold J65
 refine Yk ?_
 cases ht:(p.1.Tier==4) with
 | true=>
   rw [cond_true,cond_false,cond_true]
   have hh:=Yqn n p.1 now
   refine stB (Y14u n h hn p.1) ?_
   dsimp only
   rw [<- hh]
 | false=>
 refine Yk (stB (Y10a (N:=281474976710656) (by decide) ⟨n,tN n,now⟩ p.1 hra.1) ?_)
 rw [cond_false,cond_false]
 have hiz:=Yg9 (id:=n.Id) (Y5k hm).2.2.2.2.2.2
 show (bif !(Y1c n.Id p.1).2 then _ else _)=_
 generalize Y1c n.Id p.1=g at*
 cases hg:g.2 with
 | false=>rfl
 | true=>
 refine Yi (stB (Yvc (by decide) g.1) ?_)
 rw [Bool.not_true,cond_false]
 have hof:=@Y8z g.1
 generalize ofF g.1=w at*
 by_cases k:w.2.2=0
 case neg=>
   rw [show (w.2.2 != 0)=true from bne_iff_ne.2 k]
   exact Ym (stB (Yda _ _) (stB rfl rfl))
 obtain ⟨f1,f2⟩:=hof k
 refine Y1p k ?_
 rw [show (w.2.2 != 0)=false by rw [k];rfl,cond_false]
 refine stB (Y10b ⟨n,tN n,now⟩ h hn f1 (p.1.Tier==2)) ?_
 have hfit:=fun q=>Ybb (now:=now) (spill:=(p.1.Tier==2)) h f1 q
 show (bif !(Y3i n now w.1 (p.1.Tier==2)).2 then _ else _)=_
 generalize Y3i n now w.1 (p.1.Tier==2)=e at*
 cases he:e.2 with
 | false=>exact Y1k (stB rfl rfl)
 | true=>
 have hx:=hfit he
 refine Yi (stB (Y14j _ ⟨n,tN n,now⟩ h hx s g.1) ?_)
 rw [Bool.not_true,cond_false]
 exact stB (Yqi (tN n) (Yf6 h hx (by omega) hiz) h.cache hx.ok ⟨f2.1,f2.2⟩ hn) rfl
theorem Yan {n :Ya} (h:Y1y n) {now:Int} (hn:Y20 now=true) (s:ByteArray):J4d 281474976710656 n now s=some ((Y2o n now s).1,(Y2o n now s).2,0):=by
 have hm:=Yde (N:=281474976710656) (by decide) n (Yj6 h)
 rw [(Y4e n).2 h] at hm
 have ht:=Y5u 281474976710656 now
 rw [hn] at ht
 have hh:=(Yga n now s).2.2.1
 unfold J4d J92
 refine stB hm (Yi (stB ht (Yi (stB (Yqf (by decide) h) (stB (Y10h n h hn s) ?_)))))
 dsimp only
 rw [<- hh]
def eAt (es :Y1l× Y1l) (i:Int):Y1l:=if i=0 then es.1 else es.2
def eSet (es :Y1l× Y1l) (i:Int) (x:Y1l):Y1l× Y1l:=if i=0 then (x,es.2) else (es.1,x)
abbrev NS:=Y1g× Y1g× Y1g
def sAt (ss :NS) (i:Int):Y1g:=if i=0 then ss.1 else if i=1 then ss.2.1 else ss.2.2
def sSet (ss :NS) (i:Int) (x:Y1g):NS:=if i=0 then (x,ss.2.1,ss.2.2) else if i=1 then (ss.1,x,ss.2.2) else (ss.1,ss.2.1,x)
def fbAt (b :FB) (i:Int):Bool:=if i=0 then b.1.up_ else if i=1 then b.2.1.up_ else if i=2 then b.2.2.1.up_ else b.2.2.2.up_
def bAt (b :FB× FB× FB) (s i:Int):Bool:=fbAt (if s=0 then b.1 else if s=1 then b.2.1 else b.2.2) i
def Y41 (role site id :Int):Bool:=(Y6j role site id).2==0
def Has (r s i :Int):Prop:=(r=0/\s=0/\(i=0\/i=1))\/(r=1/\(s=0\/s=1\/s=2)/\i=0)\/(r=2/\(s=0\/s=1\/s=2)/\(i=0\/i=1\/i=2\/i=3))
theorem Y6g {r s i :Int} (h:Y41 r s i=true):Has r s i:=by
 unfold Y41 Y6j at h
 unfold Has
 split at h
 . omega
 . split at h
   . omega
   . split at h
     . omega
     . cases h
theorem Yjb {r s i :Int} (h:Has r s i):Y41 r s i=true:=by
 unfold Y41 Y6j
 unfold Has at h
 rcases h with h | h | h
 . rw [if_pos (by omega)];rfl
 . rw [if_neg (by omega),if_pos (by omega)];rfl
 . rw [if_neg (by omega),if_neg (by omega),if_pos (by omega)];rfl
theorem Yf9 (f :J0) (r s i:Int):Js 281474976710656 f r s i=some (Y41 r s i,f):=by
 unfold Js J66
 refine stB (Y30 ..) ?_
 cases h:Y41 r s i with
 | false=>
   unfold Y41 at h
   rw [h];rfl
 | true=>
   have k:=Y6g h
   unfold Y41 at h
   rw [h]
   refine Ym ?_
   by_cases c:r=0
   . refine Y1p c ?_
     rw [decide_eq_true (show i< 2 by unfold Has at k;omega)]
   . exact Y25 c rfl
def upF (f :J0) (r s i:Int):Bool:=if r=0 then (eAt f.edges_ i).up_ else if r=1 then (sAt f.sites_ s).up_ else bAt f.backs_ s i
theorem Yvs (f :J0) {r s i:Int} (h:Y41 r s i=true):J56 281474976710656 f r s i=some (upF f r s i,f):=by
 rcases Y6g h with ⟨rfl,rfl,rfl | rfl⟩ | ⟨rfl,rfl | rfl | rfl,rfl⟩ | ⟨rfl,rfl | rfl | rfl,rfl | rfl | rfl | rfl⟩ <;> rfl
structure Y1q (f :J0):Prop where
 e0:Y2u f.edges_.1.it_
 e1:Y2u f.edges_.2.it_
 i0:f.edges_.1.it_.Id=0
 i1:f.edges_.2.it_.Id=1
 s0:Y1y f.sites_.1.it_
 s1:Y1y f.sites_.2.1.it_
 s2:Y1y f.sites_.2.2.it_
 j0:f.sites_.1.it_.Id=0
 j1:f.sites_.2.1.it_.Id=1
 j2:f.sites_.2.2.it_.Id=2
 now:Y20 f.now_=true
 conf:Y19 f.conf_=true
def setE (f :J0) (i:Int) (x:Yq):J0:=⟨eSet f.edges_ i ⟨x,(eAt f.edges_ i).up_⟩,f.sites_,f.backs_,f.now_,f.conf_⟩
def setS (f :J0) (i:Int) (x:Ya):J0:=⟨f.edges_,sSet f.sites_ i ⟨x,(sAt f.sites_ i).up_⟩,f.backs_,f.now_,f.conf_⟩
theorem Y1q.eAt {f :J0} (h:Y1q f) {i:Int} (hi:i=0\/i=1):Y2u (eAt f.edges_ i).it_/\(eAt f.edges_ i).it_.Id=i:=by
 rcases hi with rfl | rfl
 . exact ⟨h.e0,h.i0⟩
 . exact ⟨h.e1,h.i1⟩
theorem Y1q.sAt {f :J0} (h:Y1q f) {i:Int} (hi:i=0\/i=1\/i=2):Y1y (sAt f.sites_ i).it_/\(sAt f.sites_ i).it_.Id=i:=by
 rcases hi with rfl | rfl | rfl
 . exact ⟨h.s0,h.j0⟩
 . exact ⟨h.s1,h.j1⟩
 . exact ⟨h.s2,h.j2⟩
theorem Y1q.setE {f :J0} (h:Y1q f) {i:Int} (hi:i=0\/i=1) {x:Yq} (hx:Y2u x) (hd:x.Id=i):Y1q (setE f i x):=by
 rcases hi with rfl | rfl
 . exact ⟨hx,h.e1,hd,h.i1,h.s0,h.s1,h.s2,h.j0,h.j1,h.j2,h.now,h.conf⟩
 . exact ⟨h.e0,hx,h.i0,hd,h.s0,h.s1,h.s2,h.j0,h.j1,h.j2,h.now,h.conf⟩
theorem Y1q.setS {f :J0} (h:Y1q f) {i:Int} (hi:i=0\/i=1\/i=2) {x:Ya} (hx:Y1y x) (hd:x.Id=i):Y1q (setS f i x):=by
 rcases hi with rfl | rfl | rfl
 . exact ⟨h.e0,h.e1,h.i0,h.i1,hx,h.s1,h.s2,hd,h.j1,h.j2,h.now,h.conf⟩
 . exact ⟨h.e0,h.e1,h.i0,h.i1,h.s0,hx,h.s2,h.j0,hd,h.j2,h.now,h.conf⟩
 . exact ⟨h.e0,h.e1,h.i0,h.i1,h.s0,h.s1,hx,h.j0,h.j1,hd,h.now,h.conf⟩
def Y2s (f :J0) (r s i:Int) (t:ByteArray):Y1e× J0:=
 bif !(upF f r s i) then (Y45 ⟨r,s,i⟩ 9 zF,f)
 else if r=0 then ((Y34 (eAt f.edges_ i).it_ f.now_ t).2,setE f i (Y34 (eAt f.edges_ i).it_ f.now_ t).1)
 else if r=1 then ((Y2o (sAt f.sites_ s).it_ f.now_ t).2,setS f s (Y2o (sAt f.sites_ s).it_ f.now_ t).1)
 else (bif !((Y4f s i t).1.toList==ByteArray.empty.toList) then ⟨[(Y4f s i t).1],(Y4f s i t).2.Events⟩ else (Y4f s i t).2,f)
theorem Yvt (f :J0) {r s i:Int} (h:Y41 r s i=false) (t:ByteArray):J4e 281474976710656 f r s i t=some (⟨[],[]⟩,2401,f):=by
 have h1:=Yf9 f r s i
 rw [h] at h1
 unfold J4e
 exact stB h1 (Y1k rfl)
theorem Yvu {f :J0} (hf:Y1q f) {r s i:Int} (h:Y41 r s i=true) (t:ByteArray):J4e 281474976710656 f r s i t=some ((Y2s f r s i t).1,0,(Y2s f r s i t).2):=by
 have h1:=Yf9 f r s i
 rw [h] at h1
 have h2:=Yvs f h
 unfold J4e Y2s
 refine stB h1 (Yi (stB h2 ?_))
 cases hu:upF f r s i with
 | false=>exact Y1k (stB rfl rfl)
 | true=>
 refine Yi ?_
 rw [Bool.not_true,cond_false]
 rcases Y6g h with ⟨rfl,rfl,rfl | rfl⟩ | ⟨rfl,rfl | rfl | rfl,rfl⟩ | ⟨rfl,k1,k2⟩
 . exact Yr rfl (Yr rfl (stB (Ygb hf.e0 hf.now t) rfl))
 . exact Yr rfl (Yo (by decide) (Yb rfl (stB (Ygb hf.e1 hf.now t) rfl)))
 . exact Yo (by decide) (Yr rfl (Yr rfl (stB (Yan hf.s0 hf.now t) rfl)))
 . exact Yo (by decide) (Yr rfl (Yo (by decide) (Yr rfl (stB (Yan hf.s1 hf.now t) rfl))))
 . exact Yo (by decide) (Yr rfl (Yo (by decide) (Yo (by decide) (Yb rfl (stB (Yan hf.s2 hf.now t) rfl)))))
 . refine Yo (by decide) (Yo (by decide) (stB (Yrn (site:=s) (id:=i) (by omega) (by omega) t) ?_))
   rw [if_neg (by decide),if_neg (by decide)]
   dsimp only
   cases ((Y4f s i t).1.toList==ByteArray.empty.toList) <;> rfl
theorem Y14v {f :J0} (hf:Y1q f) {r s i:Int} (h:Y41 r s i=true) (t:ByteArray):Y1q (Y2s f r s i t).2:=by
 unfold Y2s
 cases hu:upF f r s i with
 | false=>exact hf
 | true=>
 rw [Bool.not_true,cond_false]
 rcases Y6g h with ⟨rfl,rfl,k⟩ | ⟨rfl,k,rfl⟩ | ⟨rfl,k1,k2⟩
 . rw [if_pos rfl]
   have q:=hf.eAt k
   exact hf.setE k (Y14t q.1 hf.now t) ((Yrm _ _ _).1.trans q.2)
 . rw [if_neg (by decide),if_pos rfl]
   have q:=hf.sAt k
   exact hf.setS k (Y14m q.1 hf.now t) ((Yga _ _ _).1.trans q.2)
 . rw [if_neg (by decide),if_neg (by decide)]
   exact hf
end Go.Proofs.YtpdcnikdoikldaaGreatDoor.Pu
namespace Go.Proofs.YtpdcnikdoikldaaGreatDoor.Pu
open Go Go.RowKit Go.Proofs.YtpdcnikdoikldaaGreatDoor.Sv Go.Proofs.YtpdcnikdoikldaaGreatDoor.Lf
structure Y9s (o :Y1e):Prop where
 sent:∀ x∈o.Sent,0< x.size/\x.size<=512
 few:o.Sent.length<=2
 ev:o.Events.length<=2
theorem Y51 (t :J2) (k:Int) (f:Y9):Y9s (Y45 t k f):=⟨(fun x hx=>by cases hx),show 0<=2 by decide,show 1<=2 by decide⟩
theorem Yqo (t :J2) (o:Yv) (fl:List Y0) (x:Y0) (flags now:Int):Y9s (Y53 t o fl x flags now).2:=by
 unfold Y53
 split
 . exact ⟨(fun x hx=>by cases hx),show 0<=2 by decide,show 1<=2 by decide⟩
 . rename_i c
   refine ⟨fun y hy=> ?_,show 1<=2 by decide,?_⟩
   . obtain rfl:=List.mem_singleton.1 hy
     rw [Y6k]
     omega
   . dsimp only
     cases (Y86 fl (Y87 x flags now)).2.2.1 <;> first | exact (show (1:Nat)<=2 by decide) | exact (show (2:Nat)<=2 by decide)
theorem Y14w (e :Yq) (now:Int) (s:ByteArray):Y9s (Y34 e now s).2:=by
 unfold Y34
 cases ((ofF s).2.2 != 0) with
 | true=>exact Y51 ..
 | false=>
   cases (!(Y5o e now (ofF s).1).2) with
   | true=>exact Y51 ..
   | false=>exact Yqo ..
theorem Y14x (n :Ya) (now:Int) (s:ByteArray):Y9s (Y2o n now s).2:=by
 unfold Y2o Y8t
 cases (((Yp s).2 != 0)||((Yp s).1.Dst != 167903232+n.Id)) with
 | true=>exact Y51 ..
 | false=>
 cases ((Yp s).1.Tier==4) with
 | true=>
   rw [cond_false,cond_true]
   cases (((Y2y (Yp s).1.Body).2 != 0)||(!((Yp s).1.Src==167903232+(Y2y (Yp s).1.Body).1.Site)||((Y2y (Yp s).1.Body).1.Site==n.Id))) with
   | true=>exact Y51 ..
   | false=>
     cases (Y6n n.Seen (Y2y (Yp s).1.Body).1 now).2 with
     | true=>exact ⟨(fun x hx=>by cases hx),show 0<=2 by decide,show 1<=2 by decide⟩
     | false=>exact ⟨(fun x hx=>by cases hx),show 0<=2 by decide,show 0<=2 by decide⟩
 | false=>
 cases (!(Y1c n.Id (Yp s).1).2) with
 | true=>exact Y51 ..
 | false=>
 cases ((ofF (Y1c n.Id (Yp s).1).1).2.2 != 0) with
 | true=>exact Y51 ..
 | false=>
 cases (!(Y3i n now (ofF (Y1c n.Id (Yp s).1).1).1 ((Yp s).1.Tier==2)).2) with
 | true=>exact Y51 ..
 | false=>exact Yqo ..
theorem Y10i (s :ByteArray):(Yp s).1.Body.size<=512:=by
 by_cases c:(Yp s).2=0
 . exact (Y5k (Yh9 c).1).2.2.2.2.2.2
 . unfold Yp at c ⊢
   split
   . decide
   . rename_i e
     rw [if_neg e] at c
     split
     . rename_i e2;rw [if_pos e2] at c;exact absurd rfl c
     . decide
theorem Y14y (site id :Int) (s:ByteArray):(Y4f site id s).1.size<=512/\Y9s (Y4f site id s).2:=by
 unfold Y4f
 cases (((Yp s).2 != 0)||(((Yp s).1.Dst != 167968768+256*site+id)||(((Yp s).1.Src != 167903232+site)||(((Yp s).1.Tier != 3)||(((Yp s).1.Marker != 0)||((Yp s).1.Origin != 0)))))) with
 | true=>exact ⟨by show ByteArray.empty.size<=512;decide,Y51 ..⟩
 | false=>
 cases ((ofF (Yp s).1.Body).2.2 != 0) with
 | true=>exact ⟨by show ByteArray.empty.size<=512;decide,Y51 ..⟩
 | false=>exact ⟨Y10i s,(fun x hx=>by cases hx),show 0<=2 by decide,show 1<=2 by decide⟩
theorem Yao (f :J0) (r s i:Int) (t:ByteArray):Y9s (Y2s f r s i t).1:=by
 unfold Y2s
 cases (!(upF f r s i)) with
 | true=>exact Y51 ..
 | false=>
 rw [cond_false]
 split
 . exact Y14w ..
 . split
   . exact Y14x ..
   . obtain ⟨h1,h2⟩:=Y14y s i t
     dsimp only
     cases h:((Y4f s i t).1.toList==ByteArray.empty.toList) with
     | true=>exact h2
     | false=>
       refine ⟨fun x hx=> ?_,show 1<=2 by decide,h2.ev⟩
       obtain rfl:=List.mem_singleton.1 hx
       refine ⟨?_,h1⟩
       rw [Y80] at h
       have hne:=of_decide_eq_false h
       rcases Nat.eq_zero_or_pos (Y4f s i t).1.size with z | z
       . exact absurd (Yd1 (List.eq_nil_of_length_eq_zero z)) hne
       . exact z
structure WOk (w :J1):Prop where
 fab:Y1q w.fabric_
 net:w.net_.row_.length<=32
 pk:∀ x∈w.net_.row_,0< x.size/\x.size<=512
 tr:w.trace_.length<=4096
 gt:w.got_.length<=4096
theorem Yhb (r s n :Int):∀ (sent net:List ByteArray) (tr:List Y1),net.length<=32->tr.length<=4096->(Y8m (net,tr) r s n sent).1.length<=32/\(Y8m (net,tr) r s n sent).2.length<=4096
 | [],net,tr,h1,h2=>⟨h1,h2⟩
 | x :: xs,net,tr,h1,h2=>by
   rw [Y8m]
   dsimp only
   split
   . exact Yhb r s n xs _ _ (by rw [List.length_append,List.length_singleton];omega) h2
   . exact Yhb r s n xs _ _ h1 (by rw [List.length_append,List.length_take];omega)
theorem Yhc (r s n :Int):∀ (sent net:List ByteArray) (tr:List Y1) (y:ByteArray),y∈(Y8m (net,tr) r s n sent).1->y∈net\/y∈sent
 | [],net,tr,y,h=>.inl h
 | x :: xs,net,tr,y,h=>by
   rw [Y8m] at h
   dsimp only at h
   split at h
   . rcases Yhc r s n xs _ _ y h with q | q
     . rcases List.mem_append.1 q with q | q
       . exact .inl q
       . exact .inr (by rw [List.mem_singleton.1 q];exact List.mem_cons_self)
     . exact .inr (List.mem_cons_of_mem _ q)
   . rcases Yhc r s n xs _ _ y h with q | q
     . exact .inl q
     . exact .inr (List.mem_cons_of_mem _ q)
def Y9t (tr ev :List Y1):List Y1:=tr++ev.take (4096 - tr.length)
theorem Yfa {tr :List Y1} (ev:List Y1) (h:tr.length<=4096):(Y9t tr ev).length<=4096:=by
 unfold Y9t
 rw [List.length_append,List.length_take]
 omega
theorem Yjc {tr ev :List Y1} (h:tr.length+ev.length<=4096):Y9t tr ev=tr++ev:=by
 unfold Y9t
 rw [List.take_of_length_le (by omega)]
def Y5q (w :J1) (f:J0) (r s i:Int) (o:Y1e):J1:=
 if r=2 then ⟨f,w.net_,Y9t w.trace_ o.Events,w.got_++o.Sent.take (4096 - w.got_.length)⟩
 else ⟨f,⟨(Y8m (w.net_.row_,Y9t w.trace_ o.Events) r s i o.Sent).1⟩,(Y8m (w.net_.row_,Y9t w.trace_ o.Events) r s i o.Sent).2,w.got_⟩
theorem Ylq {w :J1} (hw:WOk w) (f:J0) (r s i:Int) {o:Y1e} (ho:Y9s o):J2c 281474976710656 ⟨f,w.net_,w.trace_,w.got_⟩ ⟨r,s,i⟩ o=some (Y5q w f r s i o):=by
 obtain ⟨fa,⟨row⟩,tr,gt⟩:=w
 obtain ⟨sent,ev⟩:=o
 have h1:=hw.tr;have h2:=hw.gt;have h3:=ho.few;have h4:=ho.ev
 unfold Y5q
 by_cases c:r=2
 . subst c
   rw [if_pos rfl]
   exact Y10g f row gt sent tr ev s i (Nat.le_trans h3 (by decide)) h1 h2 (Nat.le_trans h4 (by decide))
 . rw [if_neg c]
   exact Y14p f row gt sent tr ev r s i c ho.sent (Nat.le_trans h3 (by decide)) h1 (Nat.le_trans h4 (by decide))
theorem Ylr {w :J1} (hw:WOk w) {f:J0} (hf:Y1q f) (r s i:Int) {o:Y1e} (ho:Y9s o):WOk (Y5q w f r s i o):=by
 unfold Y5q
 have h1:=Yfa o.Events hw.tr
 split
 . refine ⟨hf,hw.net,hw.pk,h1,?_⟩
   have:=hw.gt
   show (w.got_++o.Sent.take (4096 - w.got_.length)).length<=4096
   rw [List.length_append,List.length_take]
   omega
 . have h2:=Yhb r s i o.Sent _ _ hw.net h1
   refine ⟨hf,h2.1,fun x hx=> ?_,h2.2,hw.gt⟩
   exact (Yhc r s i o.Sent _ _ x hx).elim (hw.pk x) (ho.sent x)
def Y5c (w :J1) (r s i:Int) (t:ByteArray):Int× J1:=
 bif Y41 r s i then (0,Y5q w (Y2s w.fabric_ r s i t).2 r s i (Y2s w.fabric_ r s i t).1) else (2401,w)
theorem Yls {w :J1} (hw:WOk w) (r s i:Int) (t:ByteArray):J4f 281474976710656 w ⟨r,s,i⟩ t=some (Y5c w r s i t):=by
 unfold J4f Y5c
 cases h:Y41 r s i with
 | false=>exact stB (Yvt _ h t) (Y25 (show ¬ (2401:Int)=0 by decide) rfl)
 | true=>exact stB (Yvu hw.fab h t) (Y1p rfl (stB (Ylq hw _ r s i (Yao ..)) rfl))
theorem Yfb {w :J1} (hw:WOk w) (r s i:Int) (t:ByteArray):WOk (Y5c w r s i t).2:=by
 unfold Y5c
 cases h:Y41 r s i with
 | false=>exact hw
 | true=>exact Ylr hw (Y14v hw.fab h t) r s i (Yao ..)
def Y4p (row :List ByteArray) (n:Nat):List ByteArray:=row.take n++row.drop (n+1)
theorem Y10j {row :List ByteArray} (hl:row.length<=1000) {n:Nat} (hn:n< row.length):J93 281474976710656 row (n:Int) ((n:Int)+1)=some (Y4p row n,Y4p row n):=by
 have hk:(Int.toNat ((n:Int) - (0:Int)))+(Int.toNat (((row.length:Nat):Int) - ((n:Int)+1)))=row.length - 1:=by omega
 have h1:(row.drop (Int.toNat ((n:Int)+1))).take (Int.toNat (((row.length:Nat):Int) - ((n:Int)+1)))=row.drop (n+1):=by
   rw [show Int.toNat ((n:Int)+1)=n+1 by omega,List.take_of_length_le (by rw [List.length_drop];omega)]
 have h2:row.take (Int.toNat ((n:Int) - (0:Int)))=row.take n:=by rw [show Int.toNat ((n:Int) - (0:Int))=n by omega]
 have hc:(Y4p row n).length=row.length - 1:=by unfold Y4p;rw [List.length_append,List.length_take,List.length_drop];omega
 unfold J93
 rw [h1,h2,hk,show row.take n++row.drop (n+1)=Y4p row n from rfl]
 have h3:(((Y4p row n++row.drop (row.length - 1)).take (Int.toNat (((row.length - 1:Nat):Int)))++List.replicate (Int.toNat ((row.length:Int) - (((row.length - 1:Nat):Int)))) ByteArray.empty++(Y4p row n++row.drop (row.length - 1)).drop (Int.toNat (((row.length - 1:Nat):Int))+Int.toNat ((row.length:Int) - (((row.length - 1:Nat):Int))))).drop 0).take (row.length - 1)=Y4p row n:=by
   rw [List.drop_zero,Int.toNat_natCast,<- hc,List.take_left,List.append_assoc,List.take_left]
 refine Yb ⟨by omega,by omega,by omega,by omega,by omega,by omega⟩ (Yo (by omega) (Yb ⟨by omega,by omega,by omega,by omega,by omega⟩ (Yb ⟨by omega,by omega,by omega,by omega,by omega⟩ (Yb (by omega) (Yb ⟨by omega,by omega⟩ (Y15 ?_))))))
 have hv:(((Int.toNat ((n:Int) - (0:Int))):Int)+(Int.toNat (((row.length:Nat):Int) - ((n:Int)+1)):Int))=((row.length - 1:Nat):Int):=by omega
 have hq:((Y4p row n++row.drop (row.length - 1)).length)=row.length:=by rw [List.length_append,List.length_drop,hc];omega
 try rw [hv]
 refine Yb ⟨by omega,by omega,by omega,by omega,by omega⟩ (Yb ?_ (Yb ?_ (Yb ?_ ?_)))
 . rw [hq];omega
 . rw [h3,hc]
 . rw [h3,hc];omega
 . rw [h3]
def Y5d (row :List ByteArray) (i:Int):ByteArray× Int× J6:=if 0<=i/\i< (row.length:Int) then (row.getD i.toNat default,0,⟨Y4p row i.toNat⟩) else (ByteArray.empty,2202,⟨row⟩)
theorem Ylt (row :List ByteArray) (i:Int):J67 281474976710656 ⟨row⟩ i=some (decide (0<=i/\i< (row.length:Int)),⟨row⟩):=by
 unfold J67 J94
 by_cases c:i>=0
 . refine Yj c ?_
   by_cases d:i< (row.length:Int)
   . rw [decide_eq_true d,decide_eq_true ⟨c,d⟩]
   . rw [decide_eq_false d,decide_eq_false (fun q=>d q.2)]
 . refine Yt c ?_
   rw [decide_eq_false (fun q=>c q.1)]
theorem Yjd {row :List ByteArray} (hl:row.length<=1000) (i:Int):J68 281474976710656 ⟨row⟩ i=some (Y5d row i):=by
 have h:=Ylt row i
 unfold J68 Y5d
 by_cases c:0<=i/\i< (row.length:Int)
 . rw [decide_eq_true c] at h
   rw [if_pos c]
   obtain ⟨n,rfl⟩:=Int.eq_ofNat_of_zero_le c.1
   have hn:n< row.length:=by omega
   have hd:=Y10j hl hn
   have hc:(Y4p row n).length=row.length - 1:=by unfold Y4p;rw [List.length_append,List.length_take,List.length_drop];omega
   refine stB h (Yi (Yb c ?_))
   rw [w64 (n:=(n:Int)+1) (by omega) (by omega)]
   refine stB hd (Yb (show (0:Int)< (row.length:Int) by omega) (Yb ?_ rfl))
   show ((row.length:Nat):Int) - 1=(((Y4p row n).length:Nat):Int)
   omega
 . rw [decide_eq_false c] at h
   rw [if_neg c]
   exact stB h (Y1k rfl)
theorem Y10k {row :List ByteArray} (hl:row.length<=1000) (s:ByteArray):J4b 281474976710656 ⟨row⟩ s=some (Y9r row s):=by
 unfold J4b Y9r
 by_cases c:row.length< 32
 . rw [if_pos c]
   refine Yj (show ((row.length:Nat):Int)< 32 by omega) (Yb (Y33 (by decide) (show row.length+1<=100000 by omega)) (Yb ?_ rfl))
   show ((row.length:Nat):Int)+1=(((row++[s]).length:Nat):Int)
   rw [List.length_append]
   rfl
 . rw [if_neg c]
   exact Yt (show ¬ ((row.length:Nat):Int)< 32 by omega) rfl
def Y6p (row :List ByteArray) (i:Int):Int× J6:=if 0<=i/\i< (row.length:Int) then Y9r row (row.getD i.toNat default) else (2202,⟨row⟩)
theorem Yvv {row :List ByteArray} (hl:row.length<=1000) (i:Int):J95 281474976710656 ⟨row⟩ i=some (Y6p row i):=by
 have h:=Ylt row i
 unfold J95 Y6p
 by_cases c:0<=i/\i< (row.length:Int)
 . rw [decide_eq_true c] at h
   rw [if_pos c]
   exact stB h (Yi (Yb c (stB (Y10k hl _) rfl)))
 . rw [decide_eq_false c] at h
   rw [if_neg c]
   exact stB h (Y1k rfl)
theorem Ysv {row :List ByteArray} {n:Nat} {x:ByteArray} (h:x∈Y4p row n):x∈row:=by
 unfold Y4p at h
 rcases List.mem_append.1 h with h | h
 . exact List.mem_of_mem_take h
 . exact List.mem_of_mem_drop h
theorem Ysw (row :List ByteArray) (n:Nat):(Y4p row n).length<=row.length:=by
 unfold Y4p
 rw [List.length_append,List.length_take,List.length_drop]
 omega
def Yje (w :J1):J1:=⟨w.fabric_,w.net_,Y9t w.trace_ [⟨8,0,0,0,0,⟨0,0,0,0,0⟩⟩],w.got_⟩
theorem Ylu {w :J1} (hw:WOk w):WOk (Yje w):=⟨hw.fab,hw.net,hw.pk,Yfa _ hw.tr,hw.gt⟩
def Y6q (w :J1) (s:ByteArray):J1:=
 bif !(Y22 (Y1b s).1.Dst).2.2.2 then Yje w
 else bif (Y5c w (Y22 (Y1b s).1.Dst).1 (Y22 (Y1b s).1.Dst).2.1 (Y22 (Y1b s).1.Dst).2.2.1 s).1 != 0 then Yje (Y5c w (Y22 (Y1b s).1.Dst).1 (Y22 (Y1b s).1.Dst).2.1 (Y22 (Y1b s).1.Dst).2.2.1 s).2
 else (Y5c w (Y22 (Y1b s).1.Dst).1 (Y22 (Y1b s).1.Dst).2.1 (Y22 (Y1b s).1.Dst).2.2.1 s).2
theorem Yhd {w :J1} (hw:WOk w) (s:ByteArray):WOk (Y6q w s):=by
 unfold Y6q
 cases (!(Y22 (Y1b s).1.Dst).2.2.2) with
 | true=>exact Ylu hw
 | false=>
   have h:=Yfb hw (Y22 (Y1b s).1.Dst).1 (Y22 (Y1b s).1.Dst).2.1 (Y22 (Y1b s).1.Dst).2.2.1 s
   rw [cond_false]
   cases ((Y5c w (Y22 (Y1b s).1.Dst).1 (Y22 (Y1b s).1.Dst).2.1 (Y22 (Y1b s).1.Dst).2.2.1 s).1 != 0) with
   | true=>exact Ylu h
   | false=>exact h
def Yqp (w :J1) (n:Nat):J1:=⟨w.fabric_,⟨Y4p w.net_.row_ n⟩,w.trace_,w.got_⟩
theorem Ysx {w :J1} (hw:WOk w) (n:Nat):WOk (Yqp w n):=⟨hw.fab,Nat.le_trans (Ysw _ _) hw.net,fun x hx=>hw.pk x (Ysv hx),hw.tr,hw.gt⟩
def Y7c (w :J1) (i:Int):Int× J1:=
 if 0<=i/\i< (w.net_.row_.length:Int) then (0,Y6q (Yqp w i.toNat) (w.net_.row_.getD i.toNat default)) else (2202,w)
theorem Yro {w :J1} (hw:WOk w) (i:Int):WOk (Y7c w i).2:=by
 unfold Y7c
 split
 . exact Yhd (Ysx hw _) _
 . exact hw
theorem Yrp {w :J1} (hw:WOk w) (i:Int):J96 281474976710656 w i=some (Y7c w i):=by
 have hn:=Yjd (row:=w.net_.row_) (Nat.le_trans hw.net (by decide)) i
 unfold Y5d at hn
 unfold J96 Y7c
 by_cases c:0<=i/\i< (w.net_.row_.length:Int)
 . rw [if_pos c] at hn ⊢
   have ho:=Ysx hw i.toNat
   have hs:=Yqb (w.net_.row_.getD i.toNat default)
   have hwho:=Yd8 281474976710656 (Y1b (w.net_.row_.getD i.toNat default)).1.Dst (by unfold RA;omega)
   have hst:∀ u:J1,WOk u->J4g 281474976710656 u true=some (0,Yje u):=by
     intro u hu
     unfold J4g J97
     exact Ym (stB (Y94 _ _ hu.tr (by decide)) rfl)
   refine stB hn (Y1p rfl (stB (Yzg (by decide) _) (stB hwho ?_)))
   show (bif !(Y22 (Y1b (w.net_.row_.getD i.toNat default)).1.Dst).2.2.2 then J4g 281474976710656 (Yqp w i.toNat) true else (J4f 281474976710656 (Yqp w i.toNat) ⟨_,_,_⟩ (w.net_.row_.getD i.toNat default)).bind _)=_
   unfold Y6q
   generalize w.net_.row_.getD i.toNat default=s at*
   cases (!(Y22 (Y1b s).1.Dst).2.2.2) with
   | true=>exact hst _ ho
   | false=>
     refine Yk (stB (Yls ho _ _ _ s) ?_)
     have hu:=Yfb ho (Y22 (Y1b s).1.Dst).1 (Y22 (Y1b s).1.Dst).2.1 (Y22 (Y1b s).1.Dst).2.2.1 s
     rw [cond_false]
     generalize Y5c (Yqp w i.toNat) (Y22 (Y1b s).1.Dst).1 (Y22 (Y1b s).1.Dst).2.1 (Y22 (Y1b s).1.Dst).2.2.1 s=u at*
     cases (u.1 != 0) with
     | true=>exact hst _ hu
     | false=>rfl
 . rw [if_neg c] at hn ⊢
   exact stB hn (Y25 (show ¬ (2202:Int)=0 by decide) rfl)
end Go.Proofs.YtpdcnikdoikldaaGreatDoor.Pu
namespace Go.Proofs.YtpdcnikdoikldaaGreatDoor.Pu
open Go Go.RowKit Go.Proofs.YtpdcnikdoikldaaGreatDoor.Sv Go.Proofs.YtpdcnikdoikldaaGreatDoor.Lf
theorem Yfc {es :List Y0} (h:Y3c es=true) (p:Y0->Bool):Y3c (es.filter p)=true:=by
 obtain ⟨h1,h2,h3⟩:=(Y28 _).1 h
 refine (Y28 _).2 ⟨fun e he=>h1 e (List.mem_filter.1 he).1,List.Pairwise.sublist (List.filter_sublist) h2,?_⟩
 exact Nat.le_trans (List.length_filter_le ..) h3
theorem Y14z (now :Int) (es:List Y0) (hb:es.length<=1000):∀ (d fuel i:Nat) (a b:List Y0),es.length=i+d->d< fuel->a.length<=i->b.length<=i->
   J37 281474976710656 fuel now a b es (es.length:Int) (i:Int)=some (a++(es.drop i).filter (fun e=>Y59 e now),b++(es.drop i).filter (fun e=> !Y59 e now)):=by
 intro d
 induction d with
 | zero=>
   intro fuel i a b hi hf ha hb'
   obtain ⟨fuel,rfl⟩:∃ f,fuel=f+1:=⟨fuel - 1,by omega⟩
   rw [J37,List.drop_of_length_le (by omega),List.filter_nil,List.filter_nil,List.append_nil,List.append_nil]
   exact Yt (by omega) rfl
 | succ d ih=>
   intro fuel i a b hi hf ha hb'
   obtain ⟨fuel,rfl⟩:∃ f,fuel=f+1:=⟨fuel - 1,by omega⟩
   have hil:i< es.length:=by omega
   rw [J37,Y2w hil,Int.toNat_natCast]
   unfold J98 Jb7
   rw [w64 (n:=(i:Int)+1) (by omega) (by omega)]
   have hr:=Yzy 281474976710656 (es.getD i default) now
   refine Yj (by omega) (Yb (by omega) (stB (x:=Y59 (es.getD i default) now) (stB hr rfl) ?_))
   cases h:Y59 (es.getD i default) now with
   | true=>
     refine Ym (Yb ⟨by omega,by omega⟩ ?_)
     refine (ih fuel (i+1) (a++[es.getD i default]) b (by omega) (by omega) (by rw [List.length_append,List.length_singleton];omega) (by omega)).trans ?_
     rw [List.filter_cons_of_pos (p:=fun e=>Y59 e now) h,List.filter_cons_of_neg (p:=fun e=> !Y59 e now) (by rw [h];decide),List.append_assoc]
     rfl
   | false=>
     refine Yk (Yb ⟨by omega,by omega⟩ ?_)
     refine (ih fuel (i+1) a (b++[es.getD i default]) (by omega) (by omega) (by omega) (by rw [List.length_append,List.length_singleton];omega)).trans ?_
     rw [List.filter_cons_of_neg (p:=fun e=>Y59 e now) (by rw [h];decide),List.filter_cons_of_pos (p:=fun e=> !Y59 e now) (by rw [h];rfl),List.append_assoc]
     rfl
def Yfd (t :J2) (es:List Y0) (now:Int):List Y0× List Y1:=(es.filter fun e=> !Y59 e now,(es.filter fun e=>Y59 e now).map fun e=>evT t 12 e.To e.Flow)
theorem Yvw (r s n :Int) (left ran:List Y0) (hb:ran.length<=1000):∀ (d fuel i:Nat) (a:List Y1),ran.length=i+d->d< fuel->a.length<=i->
   J4h 281474976710656 fuel r s n left a ran (ran.length:Int) (i:Int)=some (left,a++(ran.drop i).map fun e=>evT ⟨r,s,n⟩ 12 e.To e.Flow):=by
 intro d
 induction d with
 | zero=>
   intro fuel i a hi hf ha
   obtain ⟨fuel,rfl⟩:∃ f,fuel=f+1:=⟨fuel - 1,by omega⟩
   rw [J4h,List.drop_of_length_le (by omega),List.map_nil,List.append_nil]
   exact Yt (by omega) rfl
 | succ d ih=>
   intro fuel i a hi hf ha
   obtain ⟨fuel,rfl⟩:∃ f,fuel=f+1:=⟨fuel - 1,by omega⟩
   have hil:i< ran.length:=by omega
   rw [J4h,Y2w hil,Int.toNat_natCast,w64 (n:=(i:Int)+1) (by omega) (by omega),List.map_cons]
   refine Yj (by omega) (Yb (by omega) (stB rfl (Yb ⟨by omega,by omega⟩ ?_)))
   refine (ih fuel (i+1) (a++[evT ⟨r,s,n⟩ 12 (ran.getD i default).To (ran.getD i default).Flow]) (by omega) (by omega) (by rw [List.length_append,List.length_singleton];omega)).trans ?_
   rw [List.append_assoc]
   rfl
theorem Yap (t :J2) {es:List Y0} (h:Y3c es=true) {now:Int} (hn:Y20 now=true):J2e 281474976710656 t es now=some (Yfd t es now):=by
 have hl:=((Y28 _).1 h).2.2
 have h1:=Y14z now es (by omega) es.length 281474976710656 0 [] [] (by omega) (by omega) (by simp) (by simp)
 rw [List.nil_append,List.nil_append,List.drop_zero] at h1
 have hl2:(es.filter fun e=>Y59 e now).length<=8:=Nat.le_trans (List.length_filter_le ..) hl
 have h2:=Yvw t.Role t.Site t.Node (es.filter fun e=> !Y59 e now) (es.filter fun e=>Y59 e now) (by omega) (es.filter fun e=>Y59 e now).length 281474976710656 0 [] (by omega) (by omega) (by simp)
 rw [List.nil_append,List.drop_zero] at h2
 have hm:=Yca (N:=281474976710656) (by decide) es (by omega)
 rw [h] at hm
 have ht:=Y5u 281474976710656 now
 rw [hn] at ht
 unfold J2e Jb8 J99 Jb9
 exact stB (stB hm (Yi (stB ht (Yk (stB h1 rfl))))) h2
def Y10l (e :Yq) (fl:List Y0):Yq:=⟨e.Id,e.Config,e.Health,fl⟩
def Y10m (n :Ya) (fl:List Y0):Ya:=⟨n.Id,n.Config,n.Health,n.Seen,fl,n.Serial⟩
abbrev swE (f :J0) (i:Int):=Yfd ⟨0,0,i⟩ (eAt f.edges_ i).it_.Flows f.now_
abbrev swS (f :J0) (i:Int):=Yfd ⟨1,i,0⟩ (sAt f.sites_ i).it_.Flows f.now_
abbrev Ydk:=J0× List Y1
def Y2v (r :Ydk) (i:Int):Ydk:=bif (eAt r.1.edges_ i).up_ then (setE r.1 i (Y10l (eAt r.1.edges_ i).it_ (swE r.1 i).1),r.2++(swE r.1 i).2) else r
def Y4g (r :Ydk) (i:Int):Ydk:=bif (sAt r.1.sites_ i).up_ then (setS r.1 i (Y10m (sAt r.1.sites_ i).it_ (swS r.1 i).1),r.2++(swS r.1 i).2) else r
theorem Yvx {e :Yq} (h:Y2u e) (p:Y0->Bool):Y2u (Y10l e (e.Flows.filter p)):=
 ⟨fun x hx=>h.pin x (List.mem_filter.1 hx).1,h.id,h.conf,h.hs,Yfc h.cache p⟩
theorem Yvy {n :Ya} (h:Y1y n) (p:Y0->Bool):Y1y (Y10m n (n.Flows.filter p)):=
 ⟨fun x hx=>h.away x (List.mem_filter.1 hx).1,fun x hx=>h.here x (List.mem_filter.1 hx).1,h.serial,h.conf,h.id,h.hs,h.view,Yfc h.cache p⟩
theorem Y8n (t :J2) {es:List Y0} (h:Y3c es=true) (now:Int):(Yfd t es now).2.length<=8:=by
 unfold Yfd
 rw [List.length_map]
 exact Nat.le_trans (List.length_filter_le ..) ((Y28 _).1 h).2.2
theorem Yqq {r :Ydk} (h:Y1q r.1) {i:Int} (hi:i=0\/i=1):Y1q (Y2v r i).1/\(Y2v r i).2.length<=r.2.length+8:=by
 have q:=h.eAt hi
 unfold Y2v
 cases (eAt r.1.edges_ i).up_ with
 | true=>
   refine ⟨h.setE hi (Yvx q.1 _) q.2,?_⟩
   rw [cond_true,List.length_append]
   have:(swE r.1 i).2.length<=8:=Y8n ⟨0,0,i⟩ q.1.cache r.1.now_
   omega
 | false=>exact ⟨h,Nat.le_add_right ..⟩
theorem Yhe {r :Ydk} (h:Y1q r.1) {i:Int} (hi:i=0\/i=1\/i=2):Y1q (Y4g r i).1/\(Y4g r i).2.length<=r.2.length+8:=by
 have q:=h.sAt hi
 unfold Y4g
 cases (sAt r.1.sites_ i).up_ with
 | true=>
   refine ⟨h.setS hi (Yvy q.1 _) q.2,?_⟩
   rw [cond_true,List.length_append]
   have:(swS r.1 i).2.length<=8:=Y8n ⟨1,i,0⟩ q.1.cache r.1.now_
   omega
 | false=>exact ⟨h,Nat.le_add_right ..⟩
theorem Y18t {f :J0} (h:Y1q f) (told acc:List Y1) (ha:acc.length<=1000) (k:Nat):∃ told',Jt 281474976710656 (k+1) f told acc 2 0=Jt 281474976710656 k (Y2v (f,acc) 0).1 told' (Y2v (f,acc) 0).2 2 1:=by
 obtain ⟨⟨⟨a0,u0⟩,⟨a1,u1⟩⟩,⟨⟨n0,v0⟩,⟨n1,v1⟩,⟨n2,v2⟩⟩,b,now,c⟩:=f
 have hs:=Yap ⟨0,0,0⟩ h.e0.cache h.now
 have hl:=Y8n ⟨0,0,0⟩ h.e0.cache now
 rw [Jt]
 unfold Y2v J38 Jba
 cases u0 with
 | true=>exact ⟨_,Yj (by decide) (Yr rfl (Ym (stB (stB hs (Yb (Y33 (by decide) (Nat.le_trans (Nat.add_le_add ha hl) (by decide))) rfl)) rfl)))⟩
 | false=>exact ⟨_,Yj (by decide) (Yr rfl (Yk rfl))⟩
theorem Y18u {f :J0} (h:Y1q f) (told acc:List Y1) (ha:acc.length<=1000) (k:Nat):∃ told',Jt 281474976710656 (k+1) f told acc 2 1=Jt 281474976710656 k (Y2v (f,acc) 1).1 told' (Y2v (f,acc) 1).2 2 2:=by
 obtain ⟨⟨⟨a0,u0⟩,⟨a1,u1⟩⟩,⟨⟨n0,v0⟩,⟨n1,v1⟩,⟨n2,v2⟩⟩,b,now,c⟩:=f
 have hs:=Yap ⟨0,0,1⟩ h.e1.cache h.now
 have hl:=Y8n ⟨0,0,1⟩ h.e1.cache now
 rw [Jt]
 unfold Y2v J38 Jbb
 cases u1 with
 | true=>exact ⟨_,Yj (by decide) (Yo (by decide) (Yb rfl (Ym (stB (stB hs (Yb (Y33 (by decide) (Nat.le_trans (Nat.add_le_add ha hl) (by decide))) rfl)) rfl))))⟩
 | false=>exact ⟨_,Yj (by decide) (Yo (by decide) (Yb rfl (Yk rfl)))⟩
theorem Y18v {f :J0} (h:Y1q f) (told acc:List Y1) (ha:acc.length<=1000) (k:Nat):∃ told',Jd 281474976710656 (k+1) f told acc 3 0=Jd 281474976710656 k (Y4g (f,acc) 0).1 told' (Y4g (f,acc) 0).2 3 1:=by
 obtain ⟨⟨⟨a0,u0⟩,⟨a1,u1⟩⟩,⟨⟨n0,v0⟩,⟨n1,v1⟩,⟨n2,v2⟩⟩,b,now,c⟩:=f
 have hs:=Yap ⟨1,0,0⟩ h.s0.cache h.now
 have hl:=Y8n ⟨1,0,0⟩ h.s0.cache now
 rw [Jd]
 unfold Y4g J1c Jbc
 cases v0 with
 | true=>exact ⟨_,Yj (by decide) (Yr rfl (Ym (stB (stB hs (Yb (Y33 (by decide) (Nat.le_trans (Nat.add_le_add ha hl) (by decide))) rfl)) rfl)))⟩
 | false=>exact ⟨_,Yj (by decide) (Yr rfl (Yk rfl))⟩
theorem Y18w {f :J0} (h:Y1q f) (told acc:List Y1) (ha:acc.length<=1000) (k:Nat):∃ told',Jd 281474976710656 (k+1) f told acc 3 1=Jd 281474976710656 k (Y4g (f,acc) 1).1 told' (Y4g (f,acc) 1).2 3 2:=by
 obtain ⟨⟨⟨a0,u0⟩,⟨a1,u1⟩⟩,⟨⟨n0,v0⟩,⟨n1,v1⟩,⟨n2,v2⟩⟩,b,now,c⟩:=f
 have hs:=Yap ⟨1,1,0⟩ h.s1.cache h.now
 have hl:=Y8n ⟨1,1,0⟩ h.s1.cache now
 rw [Jd]
 unfold Y4g J1c Jbd
 cases v1 with
 | true=>exact ⟨_,Yj (by decide) (Yo (by decide) (Yr rfl (Ym (stB (stB hs (Yb (Y33 (by decide) (Nat.le_trans (Nat.add_le_add ha hl) (by decide))) rfl)) rfl))))⟩
 | false=>exact ⟨_,Yj (by decide) (Yo (by decide) (Yr rfl (Yk rfl)))⟩
theorem Y18x {f :J0} (h:Y1q f) (told acc:List Y1) (ha:acc.length<=1000) (k:Nat):∃ told',Jd 281474976710656 (k+1) f told acc 3 2=Jd 281474976710656 k (Y4g (f,acc) 2).1 told' (Y4g (f,acc) 2).2 3 3:=by
 obtain ⟨⟨⟨a0,u0⟩,⟨a1,u1⟩⟩,⟨⟨n0,v0⟩,⟨n1,v1⟩,⟨n2,v2⟩⟩,b,now,c⟩:=f
 have hs:=Yap ⟨1,2,0⟩ h.s2.cache h.now
 have hl:=Y8n ⟨1,2,0⟩ h.s2.cache now
 rw [Jd]
 unfold Y4g J1c Jbe
 cases v2 with
 | true=>exact ⟨_,Yj (by decide) (Yo (by decide) (Yo (by decide) (Yb rfl (Ym (stB (stB hs (Yb (Y33 (by decide) (Nat.le_trans (Nat.add_le_add ha hl) (by decide))) rfl)) rfl)))))⟩
 | false=>exact ⟨_,Yj (by decide) (Yo (by decide) (Yo (by decide) (Yb rfl (Yk rfl))))⟩
def Y5e (f :J0):J0:=⟨f.edges_,f.sites_,f.backs_,if 1048576< f.now_+1 then 1048576 else f.now_+1,f.conf_⟩
def Ybd (f :J0):Ydk:=Y4g (Y4g (Y4g (Y2v (Y2v (Y5e f,[]) 0) 1) 0) 1) 2
theorem Y10n {f :J0} (h:Y1q f):Y1q (Y5e f):=by
 refine ⟨h.e0,h.e1,h.i0,h.i1,h.s0,h.s1,h.s2,h.j0,h.j1,h.j2,?_,h.conf⟩
 have:=of_decide_eq_true h.now
 show Y20 (if 1048576< f.now_+1 then 1048576 else f.now_+1)=true
 unfold Y20
 split
 . rfl
 . exact decide_eq_true ⟨by omega,by omega⟩
theorem Yqr {f :J0} (h:Y1q f):J9a 281474976710656 f=some ((Ybd f).2,0,(Ybd f).1)/\Y1q (Ybd f).1/\(Ybd f).2.length<=40:=by
 have h0:=Y10n h
 obtain ⟨a1,a2⟩:=Yqq (r:=(Y5e f,[])) h0 (i:=0) (.inl rfl)
 obtain ⟨b1,b2⟩:=Yqq a1 (i:=1) (.inr rfl)
 obtain ⟨c1,c2⟩:=Yhe b1 (i:=0) (.inl rfl)
 obtain ⟨d1,d2⟩:=Yhe c1 (i:=1) (.inr (.inl rfl))
 obtain ⟨e1,e2⟩:=Yhe d1 (i:=2) (.inr (.inr rfl))
 have z:(Y5e f,([]:List Y1)).2.length=0:=rfl
 refine ⟨?_,e1,show (Y4g _ 2).2.length<=40 by omega⟩
 obtain ⟨t1,p1⟩:=Y18t h0 [] [] (by simp) 281474976710655
 obtain ⟨t2,p2⟩:=Y18u a1 t1 (Y2v (Y5e f,[]) 0).2 (by omega) 281474976710654
 obtain ⟨t3,p3⟩:=Y18v b1 t2 (Y2v (Y2v (Y5e f,[]) 0) 1).2 (by omega) 281474976710655
 obtain ⟨t4,p4⟩:=Y18w c1 t3 (Y4g (Y2v (Y2v (Y5e f,[]) 0) 1) 0).2 (by omega) 281474976710654
 obtain ⟨t5,p5⟩:=Y18x d1 t4 (Y4g (Y4g (Y2v (Y2v (Y5e f,[]) 0) 1) 0) 1).2 (by omega) 281474976710653
 have hn:=of_decide_eq_true h.now
 have hv:(if decide (1048576< IntKind.i64.wrap (f.now_+1)) then (1048576:Int) else IntKind.i64.wrap (f.now_+1))=(if 1048576< f.now_+1 then 1048576 else f.now_+1):=by
   rw [w64 (n:=f.now_+1) (by omega) (by omega)]
   by_cases c:1048576< f.now_+1
   . rw [if_pos c,if_pos (decide_eq_true c)]
   . rw [if_neg c,if_neg (by simpa using c)]
 unfold J9a Jbf Jbg
 refine Y15 ?_
 rw [hv]
 have q2:Jt 281474976710656 281474976710656 (Y5e f) [] [] 2 0=some ((Y2v (Y2v (Y5e f,[]) 0) 1).1,t2,[],(Y2v (Y2v (Y5e f,[]) 0) 1).2,[]):=by
   refine (p1.trans p2).trans ?_
   rw [show (281474976710654:Nat)=281474976710653+1 from rfl,Jt]
   exact Yt (by decide) rfl
 have q5:Jd 281474976710656 281474976710656 (Y2v (Y2v (Y5e f,[]) 0) 1).1 t2 (Y2v (Y2v (Y5e f,[]) 0) 1).2 3 0=some ((Ybd f).1,t5,[],(Ybd f).2,[]):=by
   refine (p3.trans p4).trans (p5.trans ?_)
   rw [show (281474976710653:Nat)=281474976710652+1 from rfl,Jd]
   exact Yt (by decide) rfl
 exact stB q2 (stB q5 rfl)
end Go.Proofs.YtpdcnikdoikldaaGreatDoor.Pu
namespace Go.Proofs.YtpdcnikdoikldaaGreatDoor.Pu
open Go Go.RowKit Go.Proofs.YtpdcnikdoikldaaGreatDoor.Sv Go.Proofs.YtpdcnikdoikldaaGreatDoor.Lf
def Yfe (h :Y5) (good:Bool):Y5:=bif good==h.Up then ⟨h.Up,0⟩ else if h.Count+1=3 then ⟨!h.Up,0⟩ else ⟨h.Up,h.Count+1⟩
theorem Y10o {h :Y5} (hh:hOk h=true) (good:Bool):Jw 281474976710656 h good=some (Yfe h good,0):=by
 have hm:=Ysk 281474976710656 h
 rw [hh] at hm
 have hc:=of_decide_eq_true hh
 have ht:J39 281474976710656 h=some 3:=by unfold J39;cases h.Up <;> rfl
 unfold Jw Yfe
 refine stB hm (Yi ?_)
 cases (good==h.Up) with
 | true=>rfl
 | false=>
   refine Yk (stB ht ?_)
   rw [w64 (n:=h.Count+1) (by omega) (by omega),cond_false]
   by_cases c:h.Count+1=3
   . rw [if_pos c];exact Yr c rfl
   . rw [if_neg c];exact Yo c rfl
theorem Y10p {h :Y5} (hh:hOk h=true) (good:Bool):hOk (Yfe h good)=true:=by
 have hc:=of_decide_eq_true hh
 unfold Yfe
 cases (good==h.Up) with
 | true=>rfl
 | false=>
   rw [cond_false]
   split
   . rfl
   . exact decide_eq_true ⟨show 0<=h.Count+1 by omega,show h.Count+1< 3 by omega⟩
def Yqs (hs :List Y5) (to:Int) (good:Bool):List Y5:=hs.set to.toNat (Yfe (hs.getD to.toNat default) good)
theorem Ysy {hs :List Y5} {n:Int} (h:Y6c hs n=true) {to:Int} (ht:0<=to/\to< n) (good:Bool):Y6c (Yqs hs to good) n=true:=by
 have hl:=Y50 h
 unfold Y6c at h ⊢
 rw [Bool.and_eq_true,List.all_eq_true,beq_iff_eq] at h ⊢
 refine ⟨fun x hx=> ?_,?_⟩
 . rcases List.mem_or_eq_of_mem_set hx with q | rfl
   . exact h.1 x q
   . exact Y10p (h.1 _ (Y3t (by omega))) good
 . unfold Yqs;rw [List.length_set];exact h.2
theorem Yaq {hs :List Y5} {n:Int} (h:Y6c hs n=true) (to:Int) (good:Bool) (f:J0) (K:List Y5->J0):
   (bif decide (to< 0) then some (2401,f) else bif decide (to>=(hs.length:Int)) then some (2401,f) else
     if 0<=to/\to< ((hs.length:Nat):Int) then (Jw 281474976710656 (hs.getD to.toNat default) good).bind fun v1=>if 0<=to/\to< ((hs.length:Nat):Int) then some (0,K (hs.set to.toNat v1.1)) else none else none)=
   some (if 0<=to/\to< n then ((0:Int),K (Yqs hs to good)) else (2401,f)):=by
 have hl:=Y50 h
 by_cases a:to< 0
 . refine Yj a ?_
   rw [if_neg (by omega)]
 refine Yt a ?_
 by_cases b:to>=(hs.length:Int)
 . refine Yj b ?_
   rw [if_neg (by omega)]
 refine Yt b ?_
 have hh:hOk (hs.getD to.toNat default)=true:=by
   unfold Y6c at h
   rw [Bool.and_eq_true,List.all_eq_true] at h
   exact h.1 _ (Y3t (by omega))
 refine Yb (by omega) (stB (Y10o hh good) (Yb (by omega) ?_))
 rw [if_pos (show 0<=to/\to< n by omega)]
 rfl
def Yqt (e :Yq) (hs:List Y5):Yq:=⟨e.Id,e.Config,hs,e.Flows⟩
def Yjf (n :Ya) (hs:List Y5):Ya:=⟨n.Id,n.Config,hs,n.Seen,n.Flows,n.Serial⟩
def Ycd (f :J0) (r s i to:Int) (good:Bool):Int× J0:=
 if r=2 then (2400,f)
 else bif Y41 r s i&&upF f r s i then
   (if r=0 then (if 0<=to/\to< 3 then (0,setE f i (Yqt (eAt f.edges_ i).it_ (Yqs (eAt f.edges_ i).it_.Health to good))) else (2401,f))
    else (if 0<=to/\to< 4 then (0,setS f s (Yjf (sAt f.sites_ s).it_ (Yqs (sAt f.sites_ s).it_.Health to good))) else (2401,f)))
 else (2401,f)
theorem Y10q {f :J0} (hf:Y1q f) (r s i to:Int) (good:Bool):J9b 281474976710656 f r s i to good=some (Ycd f r s i to good):=by
 have hno:∀ a b c d e,J69 281474976710656 f a b c d e true=some (2401,f):=fun _ _ _ _ _=>rfl
 unfold J9b Ycd
 by_cases c:r=2
 . rw [if_pos c];exact Yr c rfl
 rw [if_neg c]
 refine Yo c (stB (Yf9 f r s i) ?_)
 cases h:Y41 r s i with
 | false=>exact hno r s i to good
 | true=>
 refine Yi (stB (Yvs f h) ?_)
 rw [Bool.true_and]
 cases hu:upF f r s i with
 | false=>exact hno r s i to good
 | true=>
 unfold J69
 rw [cond_true]
 rcases Y6g h with ⟨rfl,rfl,rfl | rfl⟩ | ⟨rfl,rfl | rfl | rfl,rfl⟩ | ⟨rfl,k1,k2⟩
 . exact Yk (Yr rfl (Yr rfl (Yr rfl (Yaq hf.e0.hs to good f fun hs=>setE f 0 (Yqt f.edges_.1.it_ hs)))))
 . exact Yk (Yr rfl (Yr rfl (Yo (by decide) (Yb rfl (Yaq hf.e1.hs to good f fun hs=>setE f 1 (Yqt f.edges_.2.it_ hs))))))
 . exact Yk (Yr rfl (Yo (by decide) (Yaq hf.s0.hs to good f fun hs=>setS f 0 (Yjf f.sites_.1.it_ hs))))
 . exact Yk (Yo (by decide) (Yr rfl (Yo (by decide) (Yaq hf.s1.hs to good f fun hs=>setS f 1 (Yjf f.sites_.2.1.it_ hs)))))
 . exact Yk (Yo (by decide) (Yo (by decide) (Yb rfl (Yo (by decide) (Yaq hf.s2.hs to good f fun hs=>setS f 2 (Yjf f.sites_.2.2.it_ hs))))))
 . exact absurd rfl c
theorem Y10r {f :J0} (hf:Y1q f) (r s i to:Int) (good:Bool):Y1q (Ycd f r s i to good).2:=by
 unfold Ycd
 split
 . exact hf
 rename_i c
 cases h:Y41 r s i with
 | false=>exact hf
 | true=>
 rw [Bool.true_and]
 cases hu:upF f r s i with
 | false=>exact hf
 | true=>
 rw [cond_true]
 rcases Y6g h with ⟨rfl,rfl,k⟩ | ⟨rfl,k,rfl⟩ | ⟨rfl,k1,k2⟩
 . rw [if_pos rfl]
   have q:=hf.eAt k
   split
   . rename_i b;exact hf.setE k ⟨q.1.pin,q.1.id,q.1.conf,Ysy q.1.hs b good,q.1.cache⟩ q.2
   . exact hf
 . rw [if_neg (by decide)]
   have q:=hf.sAt k
   split
   . rename_i b;exact hf.setS k ⟨q.1.away,q.1.here,q.1.serial,q.1.conf,q.1.id,Ysy q.1.hs b good,q.1.view,q.1.cache⟩ q.2
   . exact hf
 . exact absurd rfl c
def Y88 (i j :Int) (b:ByteArray):Yv:=⟨167903232+i,167903232+j,4,0,0,b⟩
theorem Y150 {i j :Int} (hi:0<=i/\i< 3) (hj:0<=j/\j< 3) {b:ByteArray} (hb:b.size<=512):Y3h (Y88 i j b)=true:=by
 unfold Y3h Y3w Y88
 dsimp only
 exact decide_eq_true ⟨by omega,by omega,by omega,by omega,by omega,by omega,hb⟩
def Yce (i :Int) (b:ByteArray):List ByteArray:=
 if i=0 then [Y17 (Y88 0 1 b),Y17 (Y88 0 2 b)] else if i=1 then [Y17 (Y88 1 0 b),Y17 (Y88 1 2 b)] else [Y17 (Y88 2 0 b),Y17 (Y88 2 1 b)]
theorem Y8o (f :J0) {i j:Int} (hi:0<=i/\i< 3) (hj:0<=j/\j< 3) (hne:j≠i) {b:ByteArray} (hb:b.size<=324) (k:Nat) (z:Int) (acc:List ByteArray) (ha:acc.length<=100):
   Jn 281474976710656 (k+1) f i (167903232+i) z 4 0 0 b acc 3 j=Jn 281474976710656 k f i (167903232+i) (167903232+j) 4 0 0 b (acc++[Y17 (Y88 i j b)]) 3 (j+1):=by
 have e:=Y30 281474976710656 1 j 0
 rw [Y6f hj] at e
 have hm:=Y150 hi hj (b:=b) (by omega)
 have hr:=Ysq hm
 have hpush:=Yke (N:=281474976710656) (by decide) (Y88 i j b) hr.1 hr.2
 unfold Y75 at hpush
 rw [if_pos hm,if_neg (show ¬ 324< (Y88 i j b).Body.size from by show ¬ 324< b.size;omega)] at hpush
 rw [Jn]
 unfold J6a
 rw [w64 (n:=j+1) (by omega) (by omega)]
 exact Yj (by omega) (Y25 hne (stB e (stB hpush (Yb (Y33 (by decide) (by omega)) rfl))))
theorem Yhf (f :J0) {i:Int} (hi:0<=i/\i< 3) (b:ByteArray) (k:Nat) (y z:Int) (acc:List ByteArray):
   Jn 281474976710656 (k+1) f i y z 4 0 0 b acc 3 i=Jn 281474976710656 k f i y z 4 0 0 b acc 3 (i+1):=by
 rw [Jn]
 unfold J6a
 rw [w64 (n:=i+1) (by omega) (by omega)]
 exact Yj (by omega) (Y1p rfl rfl)
theorem Ykm (f :J0) (i y z:Int) (b:ByteArray) (k:Nat) (acc:List ByteArray):Jn 281474976710656 (k+1) f i y z 4 0 0 b acc 3 3=some (⟨acc,[]⟩,0,f):=by
 rw [Jn]
 exact Yt (by decide) rfl
theorem Y18y (f :J0) {i:Int} (hi:i=0\/i=1\/i=2) {b:ByteArray} (hb:b.size<=324):Jn 281474976710656 281474976710656 f i (167903232+i) 0 4 0 0 b [] 3 0=some (⟨Yce i b,[]⟩,0,f):=by
 rcases hi with rfl | rfl | rfl
 . refine (Yhf f (i:=0) (by decide) b 281474976710655 _ _ []).trans ?_
   refine (Y8o f (i:=0) (j:=1) (by decide) (by decide) (by decide) hb 281474976710654 _ [] (by decide)).trans ?_
   refine (Y8o f (i:=0) (j:=2) (by decide) (by decide) (by decide) hb 281474976710653 _ ([]++[Y17 (Y88 0 1 b)]) (by show 1<=100;decide)).trans ?_
   exact Ykm f _ _ _ b 281474976710652 _
 . refine (Y8o f (i:=1) (j:=0) (by decide) (by decide) (by decide) hb 281474976710655 _ [] (by decide)).trans ?_
   refine (Yhf f (i:=1) (by decide) b 281474976710654 _ _ _).trans ?_
   refine (Y8o f (i:=1) (j:=2) (by decide) (by decide) (by decide) hb 281474976710653 _ ([]++[Y17 (Y88 1 0 b)]) (by show 1<=100;decide)).trans ?_
   exact Ykm f _ _ _ b 281474976710652 _
 . refine (Y8o f (i:=2) (j:=0) (by decide) (by decide) (by decide) hb 281474976710655 _ [] (by decide)).trans ?_
   refine (Y8o f (i:=2) (j:=1) (by decide) (by decide) (by decide) hb 281474976710654 _ ([]++[Y17 (Y88 2 0 b)]) (by show 1<=100;decide)).trans ?_
   refine (Yhf f (i:=2) (by decide) b 281474976710653 _ _ _).trans ?_
   exact Ykm f _ _ _ b 281474976710652 _
theorem Y151 {n :Ya} (h:Y1y n):0<=Yba n/\Yba n<=8:=by
 have:=((Y28 _).1 h.cache).2.2
 have h2:=List.length_filter_le (fun x:Y0=> !x.Away) n.Flows
 unfold Yba
 omega
theorem Y1ed {n :Ya} (h:Y1y n):0<=(Y2t n.Config n.Id).Cap/\(Y2t n.Config n.Id).Cap<=8:=by
 cases q:Y6u n.Config n.Id with
 | true=>exact (Yf8 ((Y6d h.conf n.Id).2 q)).2.2.1
 | false=>unfold Y2t;rw [q,if_neg Bool.false_ne_true];decide
theorem Ysz {n :Ya} (h:Y1y n):Y4o (Y76 n).2=true/\Y1y (Y76 n).1:=by
 have a:=Y151 h;have b:=Y1ed h;have c:=h.serial;have d:=h.id
 refine ⟨?_,h.away,h.here,?_,h.conf,h.id,h.hs,h.view,h.cache⟩
 . unfold Y4o Y76
   rw [decide_eq_true (show 0<=n.Id/\n.Id< 3 from d),decide_eq_true (show 0<=n.Serial/\n.Serial< 65536 from c),decide_eq_true (show 0<=Yba n/\Yba n< 256 by omega),decide_eq_true (show 0<=(Y2t n.Config n.Id).Cap/\(Y2t n.Config n.Id).Cap< 256 by omega)]
   rfl
 . show 0<=(n.Serial+1) % 65536/\(n.Serial+1) % 65536< 65536
   omega
def Y6h (f :J0) (i:Int):Y1e× Int× J0:=
 bif Y41 1 i 0&&upF f 1 i 0 then (⟨Yce i (Ydh (Y76 (sAt f.sites_ i).it_).2),[]⟩,0,setS f i (Y76 (sAt f.sites_ i).it_).1) else (⟨[],[]⟩,2401,f)
theorem Y18z {f :J0} (hf:Y1q f) (i:Int):J9c 281474976710656 f i=some (Y6h f i):=by
 have hno:J6b 281474976710656 f i true=some (⟨[],[]⟩,2401,f):=rfl
 unfold J9c Y6h
 refine stB (Yf9 f 1 i 0) ?_
 cases h:Y41 1 i 0 with
 | false=>exact hno
 | true=>
 refine Yi (stB (Yvs f h) ?_)
 rw [Bool.true_and]
 cases hu:upF f 1 i 0 with
 | false=>exact hno
 | true=>
 have k:i=0\/i=1\/i=2:=by have:=Y6g h;unfold Has at this;omega
 have q:=hf.sAt k
 have hrep:=Ym4 (Yj6 q.1)
 rw [if_pos ((Y4e _).2 q.1)] at hrep
 have t:=Ysz q.1
 have hput:=Ylp (N:=281474976710656) (by decide) (Y76 (sAt f.sites_ i).it_).2
 rw [if_pos t.1] at hput
 have hall:=Y18y (setS f i (Y76 (sAt f.sites_ i).it_).1) k (b:=Ydh (Y76 (sAt f.sites_ i).it_).2) (by rw [Ylo];decide)
 have e:=Y30 281474976710656 1 i 0
 rw [Y6f (by omega)] at e
 unfold J6b
 rcases k with rfl | rfl | rfl
 . exact Yk (Yr rfl (stB hrep (stB hput (stB e hall))))
 . exact Yk (Yo (by decide) (Yr rfl (stB hrep (stB hput (stB e hall)))))
 . exact Yk (Yo (by decide) (Yo (by decide) (Yb rfl (stB hrep (stB hput (stB e hall))))))
theorem Yt0 {f :J0} (hf:Y1q f) (i:Int):Y1q (Y6h f i).2.2:=by
 unfold Y6h
 cases h:Y41 1 i 0 with
 | false=>exact hf
 | true=>
 rw [Bool.true_and]
 cases hu:upF f 1 i 0 with
 | false=>exact hf
 | true=>
 have k:i=0\/i=1\/i=2:=by have:=Y6g h;unfold Has at this;omega
 have q:=hf.sAt k
 exact hf.setS k (Ysz q.1).2 q.2
theorem Yt1 (f :J0) (i:Int):Y9s (Y6h f i).1:=by
 have hp:∀ o:Yv,o.Body.size=6->0< (Y17 o).size/\(Y17 o).size<=512:=fun o h=>by rw [Y6k];omega
 unfold Y6h
 cases (Y41 1 i 0&&upF f 1 i 0) with
 | false=>exact ⟨(fun x hx=>by cases hx),show 0<=2 by decide,show 0<=2 by decide⟩
 | true=>
   have hb:=Ylo (Y76 (sAt f.sites_ i).it_).2
   refine ⟨fun x hx=> ?_,?_,show 0<=2 by decide⟩
   . rw [cond_true] at hx
     unfold Yce at hx
     dsimp only at hx
     split at hx
     . simp only [List.mem_cons,List.not_mem_nil,or_false] at hx
       rcases hx with rfl | rfl <;> exact hp _ hb
     . split at hx
       . simp only [List.mem_cons,List.not_mem_nil,or_false] at hx
         rcases hx with rfl | rfl <;> exact hp _ hb
       . simp only [List.mem_cons,List.not_mem_nil,or_false] at hx
         rcases hx with rfl | rfl <;> exact hp _ hb
   . show (Yce i (Ydh (Y76 (sAt f.sites_ i).it_).2)).length<=2
     unfold Yce
     split
     . exact Nat.le_refl 2
     . split <;> exact Nat.le_refl 2
def Yvz (b :FB) (i:Int) (u:Bool):FB:=if i=0 then (⟨u⟩,b.2.1,b.2.2.1,b.2.2.2) else if i=1 then (b.1,⟨u⟩,b.2.2.1,b.2.2.2) else if i=2 then (b.1,b.2.1,⟨u⟩,b.2.2.2) else (b.1,b.2.1,b.2.2.1,⟨u⟩)
def bSet (b :FB× FB× FB) (s i:Int) (u:Bool):FB× FB× FB:=if s=0 then (Yvz b.1 i u,b.2.1,b.2.2) else if s=1 then (b.1,Yvz b.2.1 i u,b.2.2) else (b.1,b.2.1,Yvz b.2.2 i u)
def Ykn (f :J0) (r s i:Int) (u:Bool):Int× J0:=
 bif Y41 r s i then
   (0,if r=0 then ⟨eSet f.edges_ i ⟨bif u&& !(eAt f.edges_ i).up_ then fe f.conf_ i else (eAt f.edges_ i).it_,u⟩,f.sites_,f.backs_,f.now_,f.conf_⟩
   else if r=1 then ⟨f.edges_,sSet f.sites_ s ⟨bif u&& !(sAt f.sites_ s).up_ then fs f.conf_ s else (sAt f.sites_ s).it_,u⟩,f.backs_,f.now_,f.conf_⟩
   else ⟨f.edges_,f.sites_,bSet f.backs_ s i u,f.now_,f.conf_⟩)
 else (2401,f)
theorem Y190 {f :J0} (hf:Y1q f) (r s i:Int) (u:Bool):Y1q (Ykn f r s i u).2:=by
 unfold Ykn
 cases h:Y41 r s i with
 | false=>exact hf
 | true=>
 rw [cond_true]
 rcases Y6g h with ⟨rfl,rfl,rfl | rfl⟩ | ⟨rfl,rfl | rfl | rfl,rfl⟩ | ⟨rfl,k1,k2⟩
 . have he:Y2u (bif u&& !f.edges_.1.up_ then fe f.conf_ 0 else f.edges_.1.it_)/\(bif u&& !f.edges_.1.up_ then fe f.conf_ 0 else f.edges_.1.it_).Id=0:=by
     cases (u&& !f.edges_.1.up_) with
     | true=>exact ⟨Yja hf.conf (by decide),rfl⟩
     | false=>exact ⟨hf.e0,hf.i0⟩
   exact ⟨he.1,hf.e1,he.2,hf.i1,hf.s0,hf.s1,hf.s2,hf.j0,hf.j1,hf.j2,hf.now,hf.conf⟩
 . have he:Y2u (bif u&& !f.edges_.2.up_ then fe f.conf_ 1 else f.edges_.2.it_)/\(bif u&& !f.edges_.2.up_ then fe f.conf_ 1 else f.edges_.2.it_).Id=1:=by
     cases (u&& !f.edges_.2.up_) with
     | true=>exact ⟨Yja hf.conf (by decide),rfl⟩
     | false=>exact ⟨hf.e1,hf.i1⟩
   exact ⟨hf.e0,he.1,hf.i0,he.2,hf.s0,hf.s1,hf.s2,hf.j0,hf.j1,hf.j2,hf.now,hf.conf⟩
 . have he:Y1y (bif u&& !f.sites_.1.up_ then fs f.conf_ 0 else f.sites_.1.it_)/\(bif u&& !f.sites_.1.up_ then fs f.conf_ 0 else f.sites_.1.it_).Id=0:=by
     cases (u&& !f.sites_.1.up_) with
     | true=>exact ⟨(Y4e _).1 (Ydj hf.conf (by decide)),rfl⟩
     | false=>exact ⟨hf.s0,hf.j0⟩
   exact ⟨hf.e0,hf.e1,hf.i0,hf.i1,he.1,hf.s1,hf.s2,he.2,hf.j1,hf.j2,hf.now,hf.conf⟩
 . have he:Y1y (bif u&& !f.sites_.2.1.up_ then fs f.conf_ 1 else f.sites_.2.1.it_)/\(bif u&& !f.sites_.2.1.up_ then fs f.conf_ 1 else f.sites_.2.1.it_).Id=1:=by
     cases (u&& !f.sites_.2.1.up_) with
     | true=>exact ⟨(Y4e _).1 (Ydj hf.conf (by decide)),rfl⟩
     | false=>exact ⟨hf.s1,hf.j1⟩
   exact ⟨hf.e0,hf.e1,hf.i0,hf.i1,hf.s0,he.1,hf.s2,hf.j0,he.2,hf.j2,hf.now,hf.conf⟩
 . have he:Y1y (bif u&& !f.sites_.2.2.up_ then fs f.conf_ 2 else f.sites_.2.2.it_)/\(bif u&& !f.sites_.2.2.up_ then fs f.conf_ 2 else f.sites_.2.2.it_).Id=2:=by
     cases (u&& !f.sites_.2.2.up_) with
     | true=>exact ⟨(Y4e _).1 (Ydj hf.conf (by decide)),rfl⟩
     | false=>exact ⟨hf.s2,hf.j2⟩
   exact ⟨hf.e0,hf.e1,hf.i0,hf.i1,hf.s0,hf.s1,he.1,hf.j0,hf.j1,he.2,hf.now,hf.conf⟩
 . rw [if_neg (by decide),if_neg (by decide)]
   exact ⟨hf.e0,hf.e1,hf.i0,hf.i1,hf.s0,hf.s1,hf.s2,hf.j0,hf.j1,hf.j2,hf.now,hf.conf⟩
theorem Y191 {f :J0} (hf:Y1q f) (r s i:Int) (u:Bool):Jk 281474976710656 f r s i u=some (Ykn f r s i u):=by
 unfold Jk Ykn
 refine stB (Yf9 f r s i) ?_
 cases h:Y41 r s i with
 | false=>rfl
 | true=>
 refine Yi ?_
 have hc:=hf.conf
 obtain ⟨⟨⟨a0,u0⟩,⟨a1,u1⟩⟩,⟨⟨n0,v0⟩,⟨n1,v1⟩,⟨n2,v2⟩⟩,b,now,c⟩:=f
 rw [cond_true]
 rcases Y6g h with ⟨rfl,rfl,rfl | rfl⟩ | ⟨rfl,rfl | rfl | rfl,rfl⟩ | ⟨rfl,k1,k2⟩
 . have:=Y9q (i:=0) hc (by decide)
   refine Yr rfl (Yr rfl ?_)
   unfold J5u J5v J30
   cases u <;> cases u0 <;> first | rfl | exact stB (Ym (Ym (stB (stB this rfl) rfl))) rfl
 . have:=Y9q (i:=1) hc (by decide)
   refine Yr rfl (Yo (by decide) (Yb rfl ?_))
   unfold J5w J5x J30
   cases u <;> cases u1 <;> first | rfl | exact stB (Ym (Ym (stB (stB this rfl) rfl))) rfl
 . have:=Y6o (i:=0) hc (by decide)
   refine Yo (by decide) (Yr rfl (Yr rfl ?_))
   unfold J5y J5z J1a
   cases u <;> cases v0 <;> first | rfl | exact stB (Ym (Ym (stB (stB this rfl) rfl))) rfl
 . have:=Y6o (i:=1) hc (by decide)
   refine Yo (by decide) (Yr rfl (Yo (by decide) (Yr rfl ?_)))
   unfold J60 J61 J1a
   cases u <;> cases v1 <;> first | rfl | exact stB (Ym (Ym (stB (stB this rfl) rfl))) rfl
 . have:=Y6o (i:=2) hc (by decide)
   refine Yo (by decide) (Yr rfl (Yo (by decide) (Yo (by decide) (Yb rfl ?_))))
   unfold J62 J63 J1a
   cases u <;> cases v2 <;> first | rfl | exact stB (Ym (Ym (stB (stB this rfl) rfl))) rfl
 . refine Yo (by decide) (Yo (by decide) ?_)
   rcases k1 with rfl | rfl | rfl <;> rcases k2 with rfl | rfl | rfl | rfl <;> rfl
def Y1ee (e :Yq) (c:Y7):Yq:=⟨e.Id,c,e.Health,e.Flows⟩
def Y1ef (n :Ya) (c:Y7):Ya:=⟨n.Id,c,n.Health,n.Seen,n.Flows,n.Serial⟩
def Ydl (c :Y7) (f:J0) (i:Int):J0:=bif (eAt f.edges_ i).up_ then setE f i (Y1ee (eAt f.edges_ i).it_ c) else f
def Y8p (c :Y7) (f:J0) (i:Int):J0:=bif (sAt f.sites_ i).up_ then setS f i (Y1ef (sAt f.sites_ i).it_ c) else f
theorem Yt2 {c :Y7} (hc:Y19 c=true) {f:J0} (h:Y1q f) {i:Int} (hi:i=0\/i=1):Y1q (Ydl c f i):=by
 have q:=h.eAt hi
 unfold Ydl
 cases (eAt f.edges_ i).up_ with
 | true=>exact h.setE hi ⟨q.1.pin,q.1.id,hc,q.1.hs,q.1.cache⟩ q.2
 | false=>exact h
theorem Yko {c :Y7} (hc:Y19 c=true) {f:J0} (h:Y1q f) {i:Int} (hi:i=0\/i=1\/i=2):Y1q (Y8p c f i):=by
 have q:=h.sAt hi
 unfold Y8p
 cases (sAt f.sites_ i).up_ with
 | true=>exact h.setS hi ⟨q.1.away,q.1.here,q.1.serial,hc,q.1.id,q.1.hs,q.1.view,q.1.cache⟩ q.2
 | false=>exact h
def Yw0 (f :J0) (c:Y7):J0:=⟨f.edges_,f.sites_,f.backs_,f.now_,c⟩
def cfgF (f :J0) (c:Y7):J0:=Y8p c (Y8p c (Y8p c (Ydl c (Ydl c (Yw0 f c) 0) 1) 0) 1) 2
theorem Y192 {f :J0} (h:Y1q f) {c:Y7} (hc:Y19 c=true):Y1q (cfgF f c):=
 Yko hc (Yko hc (Yko hc (Yt2 hc (Yt2 hc (f:=Yw0 f c) ⟨h.e0,h.e1,h.i0,h.i1,h.s0,h.s1,h.s2,h.j0,h.j1,h.j2,h.now,hc⟩ (.inl rfl)) (.inr rfl)) (.inl rfl)) (.inr (.inl rfl))) (.inr (.inr rfl))
theorem Y1eh {c :Y7} (hc:Y19 c=true) (f:J0):J9d 281474976710656 f c.Version c.Sites=some (Ydl c (Ydl c f 0) 1):=by
 have hcp:=Ydi hc
 obtain ⟨⟨⟨a0,u0⟩,⟨a1,u1⟩⟩,ss,b,now,d⟩:=f
 have s0:∀ k,Jx 281474976710656 (k+1) ⟨(⟨a0,u0⟩,⟨a1,u1⟩),ss,b,now,d⟩ c.Version c.Sites 2 0=Jx 281474976710656 k (Ydl c ⟨(⟨a0,u0⟩,⟨a1,u1⟩),ss,b,now,d⟩ 0) c.Version c.Sites 2 1:=by
   intro k
   rw [Jx]
   unfold J3a Jbh
   cases u0 with
   | true=>exact Yj (by decide) (Yr rfl (Ym (stB (stB hcp rfl) rfl)))
   | false=>exact Yj (by decide) (Yr rfl (Yk rfl))
 have s1:∀ (y:Y1l) k,Jx 281474976710656 (k+1) ⟨(y,⟨a1,u1⟩),ss,b,now,d⟩ c.Version c.Sites 2 1=Jx 281474976710656 k (Ydl c ⟨(y,⟨a1,u1⟩),ss,b,now,d⟩ 1) c.Version c.Sites 2 2:=by
   intro y k
   rw [Jx]
   unfold J3a Jbi
   cases u1 with
   | true=>exact Yj (by decide) (Yo (by decide) (Yb rfl (Ym (stB (stB hcp rfl) rfl))))
   | false=>exact Yj (by decide) (Yo (by decide) (Yb rfl (Yk rfl)))
 have hz:∃ y,Ydl c ⟨(⟨a0,u0⟩,⟨a1,u1⟩),ss,b,now,d⟩ 0=⟨(y,⟨a1,u1⟩),ss,b,now,d⟩:=by cases u0 <;> exact ⟨_,rfl⟩
 obtain ⟨y,hy⟩:=hz
 unfold J9d
 refine (s0 281474976710655).trans ?_
 rw [hy]
 refine (s1 y 281474976710654).trans ?_
 rw [show (281474976710654:Nat)=281474976710653+1 from rfl,Jx]
 exact Yt (by decide) rfl
theorem Y1ei {c :Y7} (hc:Y19 c=true) (f:J0):J9e 281474976710656 f c.Version c.Sites=some (Y8p c (Y8p c (Y8p c f 0) 1) 2):=by
 have hcp:=Ydi hc
 obtain ⟨es,⟨⟨n0,v0⟩,⟨n1,v1⟩,⟨n2,v2⟩⟩,b,now,d⟩:=f
 have s0:∀ (y z:Y1g) k,Je 281474976710656 (k+1) ⟨es,(⟨n0,v0⟩,y,z),b,now,d⟩ c.Version c.Sites 3 0=Je 281474976710656 k (Y8p c ⟨es,(⟨n0,v0⟩,y,z),b,now,d⟩ 0) c.Version c.Sites 3 1:=by
   intro y z k
   rw [Je]
   unfold J1d Jbj
   cases v0 with
   | true=>exact Yj (by decide) (Yr rfl (Ym (stB (stB hcp rfl) rfl)))
   | false=>exact Yj (by decide) (Yr rfl (Yk rfl))
 have s1:∀ (y z:Y1g) k,Je 281474976710656 (k+1) ⟨es,(y,⟨n1,v1⟩,z),b,now,d⟩ c.Version c.Sites 3 1=Je 281474976710656 k (Y8p c ⟨es,(y,⟨n1,v1⟩,z),b,now,d⟩ 1) c.Version c.Sites 3 2:=by
   intro y z k
   rw [Je]
   unfold J1d Jbk
   cases v1 with
   | true=>exact Yj (by decide) (Yo (by decide) (Yr rfl (Ym (stB (stB hcp rfl) rfl))))
   | false=>exact Yj (by decide) (Yo (by decide) (Yr rfl (Yk rfl)))
 have s2:∀ (y z:Y1g) k,Je 281474976710656 (k+1) ⟨es,(y,z,⟨n2,v2⟩),b,now,d⟩ c.Version c.Sites 3 2=Je 281474976710656 k (Y8p c ⟨es,(y,z,⟨n2,v2⟩),b,now,d⟩ 2) c.Version c.Sites 3 3:=by
   intro y z k
   rw [Je]
   unfold J1d Jbl
   cases v2 with
   | true=>exact Yj (by decide) (Yo (by decide) (Yo (by decide) (Yb rfl (Ym (stB (stB hcp rfl) rfl)))))
   | false=>exact Yj (by decide) (Yo (by decide) (Yo (by decide) (Yb rfl (Yk rfl))))
 have hz:∃ y,Y8p c ⟨es,(⟨n0,v0⟩,⟨n1,v1⟩,⟨n2,v2⟩),b,now,d⟩ 0=⟨es,(y,⟨n1,v1⟩,⟨n2,v2⟩),b,now,d⟩:=by cases v0 <;> exact ⟨_,rfl⟩
 obtain ⟨y,hy⟩:=hz
 have hz:∃ z,Y8p c ⟨es,(y,⟨n1,v1⟩,⟨n2,v2⟩),b,now,d⟩ 1=⟨es,(y,z,⟨n2,v2⟩),b,now,d⟩:=by cases v1 <;> exact ⟨_,rfl⟩
 obtain ⟨z,hz⟩:=hz
 unfold J9e
 refine (s0 _ _ 281474976710655).trans ?_
 rw [hy]
 refine (s1 y _ 281474976710654).trans ?_
 rw [hz]
 refine (s2 y z 281474976710653).trans ?_
 rw [show (281474976710653:Nat)=281474976710652+1 from rfl,Je]
 exact Yt (by decide) rfl
def Yfx (old c :Y7):Y7:=if c.Version > old.Version then c else old
def Yfy (f :J0) (c:Y7):Bool× Int× J0:=
 bif Y19 c then (decide (c.Version > f.conf_.Version),0,cfgF f (Yfx f.conf_ c)) else (false,2400,f)
theorem Yqu {old c :Y7} (h:Y19 old=true) (hc:Y19 c=true):Y19 (Yfx old c)=true:=by
 unfold Yfx
 split
 . exact hc
 . exact h
theorem Y152 {f :J0} (hf:Y1q f) {c:Y7} (hb:BdC c):J9f 281474976710656 f c=some (Yfy f c):=by
 have h1:=Y31 (N:=281474976710656) (by decide) f.conf_ (Ykl hf.conf)
 rw [hf.conf] at h1
 have h2:=Y31 (N:=281474976710656) (by decide) c hb
 unfold J9f Yfy
 cases hc:Y19 c with
 | false=>
   rw [hc] at h2
   refine stB (x:=(⟨0,[]⟩,false,1000)) ?_ (Y25 (show ¬ (1000:Int)=0 by decide) rfl)
   unfold J6c J6d
   exact stB h1 (Yi (stB h2 rfl))
 | true=>
   rw [hc] at h2
   have hn:=Yqu hf.conf hc
   have hnext:J6c 281474976710656 f.conf_ c=some (Yfx f.conf_ c,decide (c.Version > f.conf_.Version),0):=by
     unfold J6c J6d Yfx
     refine stB h1 (Yi (stB h2 (Yk ?_)))
     by_cases a:c.Version > f.conf_.Version
     . rw [if_pos a,decide_eq_true a];exact Ym (stB (Ydi hc) rfl)
     . rw [if_neg a,decide_eq_false a];exact Yk (stB (Ydi hf.conf) rfl)
   exact stB hnext (Y1p rfl (stB (Y1eh hn (Yw0 f (Yfx f.conf_ c))) (stB (Y1ei hn _) rfl)))
theorem Y153 {f :J0} (hf:Y1q f) (c:Y7):Y1q (Yfy f c).2.2:=by
 unfold Yfy
 cases hc:Y19 c with
 | false=>exact hf
 | true=>exact Y192 hf (Yqu hf.conf hc)
end Go.Proofs.YtpdcnikdoikldaaGreatDoor.Pu
