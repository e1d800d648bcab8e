import Derived.Test.YtpdcnikdoikldaaGreatDoorT1
set_option linter.unusedVariables false
set_option linter.unusedSimpArgs false
namespace Go.Proofs.YtpdcnikdoikldaaGreatDoor.Pu
open Go Go.RowKit Go.Proofs.YtpdcnikdoikldaaGreatDoor.Sv Go.Proofs.YtpdcnikdoikldaaGreatDoor.Lf
def tB (site id :Int):J2:=⟨2,site,id⟩
def Y3m (site id :Int) (s:ByteArray):ByteArray× Y1c:=
 bif ((Yl s).2 != 0)||(((Yl s).1.Dst != 167968768+256*site+id)||(((Yl s).1.Src != 167903232+site)||(((Yl s).1.Tier != 3)||(((Yl s).1.Marker != 0)||((Yl s).1.Origin != 0))))) then (ByteArray.empty,Y4o (tB site id) 8 zF)
 else bif (ofF (Yl s).1.Body).2.2 != 0 then (ByteArray.empty,Y4o (tB site id) (Ye8 (ofF (Yl s).1.Body).2.2) (ofF (Yl s).1.Body).1)
 else ((Yl s).1.Body,⟨[],[evT (tB site id) 1 id (ofF (Yl s).1.Body).1]⟩)
theorem Yqb {site id :Int} (h:0<=site/\site< 3) (hi:0<=id/\id< 4) (s:ByteArray):J8p 281474976710656 site id s=some ((Y3m site id s).1,(Y3m site id s).2,0):=by
 have e1:=Y30 281474976710656 2 site id
 have e2:=Y30 281474976710656 1 site 0
 rw [Ykp h hi] at e1
 rw [Y68 h] at e2
 have ht:∀ a b c d e f,J1k 281474976710656 id 2 site id a b c d e f true=some (ByteArray.empty,Y4o (tB site id) 8 zF,0):=fun _ _ _ _ _ _=>rfl
 unfold J8p Y3m
 refine stB e1 (Y1z rfl (stB e2 (stB (Yp1 (by decide) s) ?_)))
 dsimp only
 generalize Yl s=p
 cases c1:(p.2 != 0) with
 | true=>exact ht p.1.Src p.1.Dst p.1.Tier p.1.Marker p.1.Origin p.1.Body
 | false=>
 cases c2:(p.1.Dst != 167968768+256*site+id) with
 | true=>exact ht p.1.Src p.1.Dst p.1.Tier p.1.Marker p.1.Origin p.1.Body
 | false=>
 cases c3:(p.1.Src != 167903232+site) with
 | true=>exact ht p.1.Src p.1.Dst p.1.Tier p.1.Marker p.1.Origin p.1.Body
 | false=>
 cases c4:(p.1.Tier != 3) with
 | true=>exact ht p.1.Src p.1.Dst p.1.Tier p.1.Marker p.1.Origin p.1.Body
 | false=>
 cases c5:(p.1.Marker != 0) with
 | true=>exact ht p.1.Src p.1.Dst p.1.Tier p.1.Marker p.1.Origin p.1.Body
 | false=>
 cases c6:(p.1.Origin != 0) with
 | true=>exact ht p.1.Src p.1.Dst p.1.Tier p.1.Marker p.1.Origin p.1.Body
 | false=>
 unfold J1k
 refine Yn (Yn (Yn (Yn (Yn (Yn (stB (Ytt (by decide) p.1.Body) ?_))))))
 rw [Bool.false_or,Bool.false_or,Bool.false_or,Bool.false_or,Bool.false_or,cond_false]
 cases ((ofF p.1.Body).2.2 != 0) with
 | true=>exact Yq (stB (Yci _ _) (stB rfl rfl))
 | false=>exact Yn (stB rfl rfl)
theorem Y12u (n :Ya) (h:Y1x n) {now:Int} (hn:Y22 now=true) (o:Yw):J85 281474976710656 ⟨n,tN n,now⟩ o=some ((Y8d n o now).2,⟨(Y8d n o now).1,tN n,now⟩,n.Health):=by
 unfold J85 Y8d
 refine stB (Yyk (by decide) o.Body) (stB (Y30 ..) ?_)
 have hk:=@Yre o.Body
 generalize Y2x o.Body=g at*
 have h1:J44 281474976710656 n.Id n.Config.Version n.Config.Sites n.Health n.Seen n.Flows n.Serial (tN n).Role (tN n).Site (tN n).Node now g.1.Site g.1.Serial g.1.Load g.1.Cap true=some (Y4o (tN n) 8 zF,⟨n,tN n,now⟩,n.Health):=rfl
 by_cases c:g.2=0
 . have hr:=hk c
   obtain ⟨p1,_⟩:=Yb0 hr
   rw [Y68 p1]
   refine Y1z c ?_
   rw [show (g.2 != 0)=false by rw [c];rfl,Bool.false_or]
   by_cases e:o.Src=167903232+g.1.Site
   . rw [show (o.Src==167903232+g.1.Site)=true from beq_iff_eq.2 e]
     refine Y1z e ?_
     dsimp only
     cases (g.1.Site==n.Id) with
     | true=>exact h1
     | false=>
       unfold J44
       refine Yn (stB (Yq8 (by decide) h.view hr hn) ?_)
       dsimp only
       cases (Y6d n.Seen g.1 now).2 with
       | true=>exact Yj (stB rfl rfl)
       | false=>rfl
   . rw [show (o.Src==167903232+g.1.Site)=false from beq_eq_false_iff_ne.2 e]
     exact Y2h e h1
 . rw [show (g.2 != 0)=true from bne_iff_ne.2 c]
   exact Yq h1
theorem Ype (n :Ya) (o:Yw) (now:Int):(Y8d n o now).1.Health=n.Health:=by
 unfold Y8d
 cases (((Y2x o.Body).2 != 0)||(!(o.Src==167903232+(Y2x o.Body).1.Site)||((Y2x o.Body).1.Site==n.Id))) with
 | true=>rfl
 | false=>cases (Y6d n.Seen (Y2x o.Body).1 now).2 <;> rfl
theorem Yyn (n :Ya) (h:Y1x n) {now:Int} (hn:Y22 now=true) (s:ByteArray):J8q 281474976710656 ⟨n,tN n,now⟩ s=some ((Y3j n now s).2,⟨(Y3j n now s).1,tN n,now⟩,n.Health):=by
 have hid:=h.id
 have hpm:=@Ygi s
 have hra:=Yrb s
 unfold J8q Y3j
 refine stB (Yp1 (by decide) s) (stB (Y30 ..) ?_)
 dsimp only
 rw [Y68 hid]
 generalize Yl s=p at*
 have h1:J62 281474976710656 n.Id n.Config.Version n.Config.Sites n.Health n.Seen n.Flows n.Serial (tN n).Role (tN n).Site (tN n).Node now s p.1.Src p.1.Dst p.1.Tier p.1.Marker p.1.Origin p.1.Body true=some (Y4o (tN n) 8 zF,⟨n,tN n,now⟩,n.Health):=rfl
 by_cases c:p.2=0
 case neg=>
   rw [show (p.2 != 0)=true from bne_iff_ne.2 c]
   exact Yq h1
 obtain ⟨hm,hs,hz⟩:=hpm c
 refine Y1z c ?_
 rw [show (p.2 != 0)=false by rw [c];rfl,Bool.false_or]
 dsimp only
 cases hd:(p.1.Dst != 167903232+n.Id) with
 | true=>exact h1
 | false=>
 unfold J62
 refine Yn ?_
 cases ht:(p.1.Tier==4) with
 | true=>
   rw [cond_true,cond_false,cond_true]
   have hh:=Ype n p.1 now
   refine stB (Y12u n h hn p.1) ?_
   dsimp only
   rw [<- hh]
 | false=>
 refine Yn (stB (Yyi (N:=281474976710656) (by decide) ⟨n,tN n,now⟩ p.1 hra.1) ?_)
 rw [cond_false,cond_false]
 have hiz:=Yfj (id:=n.Id) (Y5a hm).2.2.2.2.2.2
 show (bif !(Y1w n.Id p.1).2 then _ else _)=_
 generalize Y1w n.Id p.1=g at*
 cases hg:g.2 with
 | false=>rfl
 | true=>
 refine Yj (stB (Ytt (by decide) g.1) ?_)
 rw [Bool.not_true,cond_false]
 have hof:=@Ybl g.1
 generalize ofF g.1=w at*
 by_cases k:w.2.2=0
 case neg=>
   rw [show (w.2.2 != 0)=true from bne_iff_ne.2 k]
   exact Yq (stB (Yci _ _) (stB rfl rfl))
 obtain ⟨f1,f2⟩:=hof k
 refine Y1z k ?_
 rw [show (w.2.2 != 0)=false by rw [k];rfl,cond_false]
 refine stB (Yyj ⟨n,tN n,now⟩ h hn f1 (p.1.Tier==2)) ?_
 have hfit:=fun q=>Yee (now:=now) (spill:=(p.1.Tier==2)) h f1 q
 show (bif !(Y4r n now w.1 (p.1.Tier==2)).2 then _ else _)=_
 generalize Y4r n now w.1 (p.1.Tier==2)=e at*
 cases he:e.2 with
 | false=>exact Y1u (stB rfl rfl)
 | true=>
 have hx:=hfit he
 refine Yj (stB (Y12i _ ⟨n,tN n,now⟩ h hx s g.1) ?_)
 rw [Bool.not_true,cond_false]
 exact stB (Ypc (tN n) (Ykq h hx (by omega) hiz) h.cache hx.ok ⟨f2.1,f2.2⟩ hn) rfl
theorem Ya0 {n :Ya} (h:Y1x n) {now:Int} (hn:Y22 now=true) (s:ByteArray):J4c 281474976710656 n now s=some ((Y3j n now s).1,(Y3j n now s).2,0):=by
 have hm:=Ycl (N:=281474976710656) (by decide) n (Yij h)
 rw [(Y42 n).2 h] at hm
 have ht:=Y5j 281474976710656 now
 rw [hn] at ht
 have hh:=(Yfk n now s).2.2.1
 unfold J4c J8r
 refine stB hm (Yj (stB ht (Yj (stB (Yp9 (by decide) h) (stB (Yyn n h hn s) ?_)))))
 dsimp only
 rw [<- hh]
def eAt (es :Y1i× Y1i) (i:Int):Y1i:=if i=0 then es.1 else es.2
def eSet (es :Y1i× Y1i) (i:Int) (x:Y1i):Y1i× Y1i:=if i=0 then (x,es.2) else (es.1,x)
abbrev NS:=Y1e× Y1e× Y1e
def sAt (ss :NS) (i:Int):Y1e:=if i=0 then ss.1 else if i=1 then ss.2.1 else ss.2.2
def sSet (ss :NS) (i:Int) (x:Y1e):NS:=if i=0 then (x,ss.2.1,ss.2.2) else if i=1 then (ss.1,x,ss.2.2) else (ss.1,ss.2.1,x)
def fbAt (b :FB) (i:Int):Bool:=if i=0 then b.1.up_ else if i=1 then b.2.1.up_ else if i=2 then b.2.2.1.up_ else b.2.2.2.up_
def bAt (b :FB× FB× FB) (s i:Int):Bool:=fbAt (if s=0 then b.1 else if s=1 then b.2.1 else b.2.2) i
def Y3l (role site id :Int):Bool:=(Y6b role site id).2==0
def Has (r s i :Int):Prop:=(r=0/\s=0/\(i=0\/i=1))\/(r=1/\(s=0\/s=1\/s=2)/\i=0)\/(r=2/\(s=0\/s=1\/s=2)/\(i=0\/i=1\/i=2\/i=3))
theorem Y5e {r s i :Int} (h:Y3l r s i=true):Has r s i:=by
 unfold Y3l Y6b at h
 unfold Has
 split at h
 . omega
 . split at h
   . omega
   . split at h
     . omega
     . cases h
theorem Yim {r s i :Int} (h:Has r s i):Y3l r s i=true:=by
 unfold Y3l Y6b
 unfold Has at h
 rcases h with h | h | h
 . rw [if_pos (by omega)];rfl
 . rw [if_neg (by omega),if_pos (by omega)];rfl
 . rw [if_neg (by omega),if_neg (by omega),if_pos (by omega)];rfl
theorem Yei (f :J0) (r s i:Int):Jq 281474976710656 f r s i=some (Y3l r s i,f):=by
 unfold Jq J63
 refine stB (Y30 ..) ?_
 cases h:Y3l r s i with
 | false=>
   unfold Y3l at h
   rw [h];rfl
 | true=>
   have k:=Y5e h
   unfold Y3l at h
   rw [h]
   refine Yq ?_
   by_cases c:r=0
   . refine Y1z c ?_
     rw [decide_eq_true (show i< 2 by unfold Has at k;omega)]
   . exact Y2h c rfl
def upF (f :J0) (r s i:Int):Bool:=if r=0 then (eAt f.edges_ i).up_ else if r=1 then (sAt f.sites_ s).up_ else bAt f.backs_ s i
theorem Yu6 (f :J0) {r s i:Int} (h:Y3l r s i=true):J51 281474976710656 f r s i=some (upF f r s i,f):=by
 rcases Y5e h with ⟨rfl,rfl,rfl | rfl⟩ | ⟨rfl,rfl | rfl | rfl,rfl⟩ | ⟨rfl,rfl | rfl | rfl,rfl | rfl | rfl | rfl⟩ <;> rfl
structure Y1n (f :J0):Prop where
 e0:Y2w f.edges_.1.it_
 e1:Y2w f.edges_.2.it_
 i0:f.edges_.1.it_.Id=0
 i1:f.edges_.2.it_.Id=1
 s0:Y1x f.sites_.1.it_
 s1:Y1x f.sites_.2.1.it_
 s2:Y1x f.sites_.2.2.it_
 j0:f.sites_.1.it_.Id=0
 j1:f.sites_.2.1.it_.Id=1
 j2:f.sites_.2.2.it_.Id=2
 now:Y22 f.now_=true
 conf:Y14 f.conf_=true
def setE (f :J0) (i:Int) (x:Yp):J0:=⟨eSet f.edges_ i ⟨x,(eAt f.edges_ i).up_⟩,f.sites_,f.backs_,f.now_,f.conf_⟩
def setS (f :J0) (i:Int) (x:Ya):J0:=⟨f.edges_,sSet f.sites_ i ⟨x,(sAt f.sites_ i).up_⟩,f.backs_,f.now_,f.conf_⟩
theorem Y1n.eAt {f :J0} (h:Y1n f) {i:Int} (hi:i=0\/i=1):Y2w (eAt f.edges_ i).it_/\(eAt f.edges_ i).it_.Id=i:=by
 rcases hi with rfl | rfl
 . exact ⟨h.e0,h.i0⟩
 . exact ⟨h.e1,h.i1⟩
theorem Y1n.sAt {f :J0} (h:Y1n f) {i:Int} (hi:i=0\/i=1\/i=2):Y1x (sAt f.sites_ i).it_/\(sAt f.sites_ i).it_.Id=i:=by
 rcases hi with rfl | rfl | rfl
 . exact ⟨h.s0,h.j0⟩
 . exact ⟨h.s1,h.j1⟩
 . exact ⟨h.s2,h.j2⟩
theorem Y1n.setE {f :J0} (h:Y1n f) {i:Int} (hi:i=0\/i=1) {x:Yp} (hx:Y2w x) (hd:x.Id=i):Y1n (setE f i x):=by
 rcases hi with rfl | rfl
 . exact ⟨hx,h.e1,hd,h.i1,h.s0,h.s1,h.s2,h.j0,h.j1,h.j2,h.now,h.conf⟩
 . exact ⟨h.e0,hx,h.i0,hd,h.s0,h.s1,h.s2,h.j0,h.j1,h.j2,h.now,h.conf⟩
theorem Y1n.setS {f :J0} (h:Y1n f) {i:Int} (hi:i=0\/i=1\/i=2) {x:Ya} (hx:Y1x x) (hd:x.Id=i):Y1n (setS f i x):=by
 rcases hi with rfl | rfl | rfl
 . exact ⟨h.e0,h.e1,h.i0,h.i1,hx,h.s1,h.s2,hd,h.j1,h.j2,h.now,h.conf⟩
 . exact ⟨h.e0,h.e1,h.i0,h.i1,h.s0,hx,h.s2,h.j0,hd,h.j2,h.now,h.conf⟩
 . exact ⟨h.e0,h.e1,h.i0,h.i1,h.s0,h.s1,hx,h.j0,h.j1,hd,h.now,h.conf⟩
def Y10 (f :J0) (r s i:Int) (t:ByteArray):Y1c× J0:=
 bif !(upF f r s i) then (Y4o ⟨r,s,i⟩ 9 zF,f)
 else if r=0 then ((Y4e (eAt f.edges_ i).it_ f.now_ t).2,setE f i (Y4e (eAt f.edges_ i).it_ f.now_ t).1)
 else if r=1 then ((Y3j (sAt f.sites_ s).it_ f.now_ t).2,setS f s (Y3j (sAt f.sites_ s).it_ f.now_ t).1)
 else (bif !((Y3m s i t).1.toList==ByteArray.empty.toList) then ⟨[(Y3m s i t).1],(Y3m s i t).2.Events⟩ else (Y3m s i t).2,f)
theorem Yu7 (f :J0) {r s i:Int} (h:Y3l r s i=false) (t:ByteArray):J4d 281474976710656 f r s i t=some (⟨[],[]⟩,2401,f):=by
 have h1:=Yei f r s i
 rw [h] at h1
 unfold J4d
 exact stB h1 (Y1u rfl)
theorem Yu8 {f :J0} (hf:Y1n f) {r s i:Int} (h:Y3l r s i=true) (t:ByteArray):J4d 281474976710656 f r s i t=some ((Y10 f r s i t).1,0,(Y10 f r s i t).2):=by
 have h1:=Yei f r s i
 rw [h] at h1
 have h2:=Yu6 f h
 unfold J4d Y10
 refine stB h1 (Yj (stB h2 ?_))
 cases hu:upF f r s i with
 | false=>exact Y1u (stB rfl rfl)
 | true=>
 refine Yj ?_
 rw [Bool.not_true,cond_false]
 rcases Y5e h with ⟨rfl,rfl,rfl | rfl⟩ | ⟨rfl,rfl | rfl | rfl,rfl⟩ | ⟨rfl,k1,k2⟩
 . exact Ys rfl (Ys rfl (stB (Yfl hf.e0 hf.now t) rfl))
 . exact Ys rfl (Yo (by decide) (Yd rfl (stB (Yfl hf.e1 hf.now t) rfl)))
 . exact Yo (by decide) (Ys rfl (Ys rfl (stB (Ya0 hf.s0 hf.now t) rfl)))
 . exact Yo (by decide) (Ys rfl (Yo (by decide) (Ys rfl (stB (Ya0 hf.s1 hf.now t) rfl))))
 . exact Yo (by decide) (Ys rfl (Yo (by decide) (Yo (by decide) (Yd rfl (stB (Ya0 hf.s2 hf.now t) rfl)))))
 . refine Yo (by decide) (Yo (by decide) (stB (Yqb (site:=s) (id:=i) (by omega) (by omega) t) ?_))
   rw [if_neg (by decide),if_neg (by decide)]
   dsimp only
   cases ((Y3m s i t).1.toList==ByteArray.empty.toList) <;> rfl
theorem Ygk {f :J0} (hf:Y1n f) {r s i:Int} (h:Y3l r s i=true) (t:ByteArray):Y1n (Y10 f r s i t).2:=by
 unfold Y10
 cases hu:upF f r s i with
 | false=>exact hf
 | true=>
 rw [Bool.not_true,cond_false]
 rcases Y5e h with ⟨rfl,rfl,k⟩ | ⟨rfl,k,rfl⟩ | ⟨rfl,k1,k2⟩
 . rw [if_pos rfl]
   have q:=hf.eAt k
   exact hf.setE k (Y12t q.1 hf.now t) ((Yqa _ _ _).1.trans q.2)
 . rw [if_neg (by decide),if_pos rfl]
   have q:=hf.sAt k
   exact hf.setS k (Y12l q.1 hf.now t) ((Yfk _ _ _).1.trans q.2)
 . rw [if_neg (by decide),if_neg (by decide)]
   exact hf
end Go.Proofs.YtpdcnikdoikldaaGreatDoor.Pu
namespace Go.Proofs.YtpdcnikdoikldaaGreatDoor.Pu
open Go Go.RowKit Go.Proofs.YtpdcnikdoikldaaGreatDoor.Sv Go.Proofs.YtpdcnikdoikldaaGreatDoor.Lf
structure Y98 (o :Y1c):Prop where
 sent:∀ x∈o.Sent,0< x.size/\x.size<=512
 few:o.Sent.length<=2
 ev:o.Events.length<=2
theorem Y4s (t :J2) (k:Int) (f:Y9):Y98 (Y4o t k f):=⟨(fun x hx=>by cases hx),show 0<=2 by decide,show 1<=2 by decide⟩
theorem Ypf (t :J2) (o:Yw) (fl:List Y0) (x:Y0) (flags now:Int):Y98 (Y5u t o fl x flags now).2:=by
 unfold Y5u
 split
 . exact ⟨(fun x hx=>by cases hx),show 0<=2 by decide,show 1<=2 by decide⟩
 . rename_i c
   refine ⟨fun y hy=> ?_,show 1<=2 by decide,?_⟩
   . obtain rfl:=List.mem_singleton.1 hy
     rw [Y93]
     omega
   . dsimp only
     cases (Y7t fl (Y7u x flags now)).2.2.1 <;> first | exact (show (1:Nat)<=2 by decide) | exact (show (2:Nat)<=2 by decide)
theorem Y12v (e :Yp) (now:Int) (s:ByteArray):Y98 (Y4e e now s).2:=by
 unfold Y4e
 cases ((ofF s).2.2 != 0) with
 | true=>exact Y4s ..
 | false=>
   cases (!(Y5p e now (ofF s).1).2) with
   | true=>exact Y4s ..
   | false=>exact Ypf ..
theorem Y12w (n :Ya) (now:Int) (s:ByteArray):Y98 (Y3j n now s).2:=by
 unfold Y3j Y8d
 cases (((Yl s).2 != 0)||((Yl s).1.Dst != 167903232+n.Id)) with
 | true=>exact Y4s ..
 | false=>
 cases ((Yl s).1.Tier==4) with
 | true=>
   rw [cond_false,cond_true]
   cases (((Y2x (Yl s).1.Body).2 != 0)||(!((Yl s).1.Src==167903232+(Y2x (Yl s).1.Body).1.Site)||((Y2x (Yl s).1.Body).1.Site==n.Id))) with
   | true=>exact Y4s ..
   | false=>
     cases (Y6d n.Seen (Y2x (Yl s).1.Body).1 now).2 with
     | true=>exact ⟨(fun x hx=>by cases hx),show 0<=2 by decide,show 1<=2 by decide⟩
     | false=>exact ⟨(fun x hx=>by cases hx),show 0<=2 by decide,show 0<=2 by decide⟩
 | false=>
 cases (!(Y1w n.Id (Yl s).1).2) with
 | true=>exact Y4s ..
 | false=>
 cases ((ofF (Y1w n.Id (Yl s).1).1).2.2 != 0) with
 | true=>exact Y4s ..
 | false=>
 cases (!(Y4r n now (ofF (Y1w n.Id (Yl s).1).1).1 ((Yl s).1.Tier==2)).2) with
 | true=>exact Y4s ..
 | false=>exact Ypf ..
theorem Yyo (s :ByteArray):(Yl s).1.Body.size<=512:=by
 by_cases c:(Yl s).2=0
 . exact (Y5a (Ygi c).1).2.2.2.2.2.2
 . unfold Yl at c ⊢
   split
   . decide
   . rename_i e
     rw [if_neg e] at c
     split
     . rename_i e2;rw [if_pos e2] at c;exact absurd rfl c
     . decide
theorem Y12x (site id :Int) (s:ByteArray):(Y3m site id s).1.size<=512/\Y98 (Y3m site id s).2:=by
 unfold Y3m
 cases (((Yl s).2 != 0)||(((Yl s).1.Dst != 167968768+256*site+id)||(((Yl s).1.Src != 167903232+site)||(((Yl s).1.Tier != 3)||(((Yl s).1.Marker != 0)||((Yl s).1.Origin != 0)))))) with
 | true=>exact ⟨by show ByteArray.empty.size<=512;decide,Y4s ..⟩
 | false=>
 cases ((ofF (Yl s).1.Body).2.2 != 0) with
 | true=>exact ⟨by show ByteArray.empty.size<=512;decide,Y4s ..⟩
 | false=>exact ⟨Yyo s,(fun x hx=>by cases hx),show 0<=2 by decide,show 1<=2 by decide⟩
theorem Y73 (f :J0) (r s i:Int) (t:ByteArray):Y98 (Y10 f r s i t).1:=by
 unfold Y10
 cases (!(upF f r s i)) with
 | true=>exact Y4s ..
 | false=>
 rw [cond_false]
 split
 . exact Y12v ..
 . split
   . exact Y12w ..
   . obtain ⟨h1,h2⟩:=Y12x s i t
     dsimp only
     cases h:((Y3m s i t).1.toList==ByteArray.empty.toList) with
     | true=>exact h2
     | false=>
       refine ⟨fun x hx=> ?_,show 1<=2 by decide,h2.ev⟩
       obtain rfl:=List.mem_singleton.1 hx
       refine ⟨?_,h1⟩
       rw [Y92] at h
       have hne:=of_decide_eq_false h
       rcases Nat.eq_zero_or_pos (Y3m s i t).1.size with z | z
       . exact absurd (Ycb (List.eq_nil_of_length_eq_zero z)) hne
       . exact z
structure WOk (w :J1):Prop where
 fab:Y1n w.fabric_
 net:w.net_.row_.length<=32
 pk:∀ x∈w.net_.row_,0< x.size/\x.size<=512
 tr:w.trace_.length<=4096
 gt:w.got_.length<=4096
theorem Ygl (r s n :Int):∀ (sent net:List ByteArray) (tr:List Y1),net.length<=32->tr.length<=4096->(Y85 (net,tr) r s n sent).1.length<=32/\(Y85 (net,tr) r s n sent).2.length<=4096
 | [],net,tr,h1,h2=>⟨h1,h2⟩
 | x :: xs,net,tr,h1,h2=>by
   rw [Y85]
   dsimp only
   split
   . exact Ygl r s n xs _ _ (by rw [List.length_append,List.length_singleton];omega) h2
   . exact Ygl r s n xs _ _ h1 (by rw [List.length_append,List.length_take];omega)
theorem Ygm (r s n :Int):∀ (sent net:List ByteArray) (tr:List Y1) (y:ByteArray),y∈(Y85 (net,tr) r s n sent).1->y∈net\/y∈sent
 | [],net,tr,y,h=>.inl h
 | x :: xs,net,tr,y,h=>by
   rw [Y85] at h
   dsimp only at h
   split at h
   . rcases Ygm r s n xs _ _ y h with q | q
     . rcases List.mem_append.1 q with q | q
       . exact .inl q
       . exact .inr (by rw [List.mem_singleton.1 q];exact List.mem_cons_self)
     . exact .inr (List.mem_cons_of_mem _ q)
   . rcases Ygm r s n xs _ _ y h with q | q
     . exact .inl q
     . exact .inr (List.mem_cons_of_mem _ q)
def Y99 (tr ev :List Y1):List Y1:=tr++ev.take (4096 - tr.length)
theorem Yej {tr :List Y1} (ev:List Y1) (h:tr.length<=4096):(Y99 tr ev).length<=4096:=by
 unfold Y99
 rw [List.length_append,List.length_take]
 omega
theorem Yin {tr ev :List Y1} (h:tr.length+ev.length<=4096):Y99 tr ev=tr++ev:=by
 unfold Y99
 rw [List.take_of_length_le (by omega)]
def Y3k (w :J1) (f:J0) (r s i:Int) (o:Y1c):J1:=
 if r=2 then ⟨f,w.net_,Y99 w.trace_ o.Events,w.got_++o.Sent.take (4096 - w.got_.length)⟩
 else ⟨f,⟨(Y85 (w.net_.row_,Y99 w.trace_ o.Events) r s i o.Sent).1⟩,(Y85 (w.net_.row_,Y99 w.trace_ o.Events) r s i o.Sent).2,w.got_⟩
theorem Yku {w :J1} (hw:WOk w) (f:J0) (r s i:Int) {o:Y1c} (ho:Y98 o):J27 281474976710656 ⟨f,w.net_,w.trace_,w.got_⟩ ⟨r,s,i⟩ o=some (Y3k w f r s i o):=by
 obtain ⟨fa,⟨row⟩,tr,gt⟩:=w
 obtain ⟨sent,ev⟩:=o
 have h1:=hw.tr;have h2:=hw.gt;have h3:=ho.few;have h4:=ho.ev
 unfold Y3k
 by_cases c:r=2
 . subst c
   rw [if_pos rfl]
   exact Yym f row gt sent tr ev s i (Nat.le_trans h3 (by decide)) h1 h2 (Nat.le_trans h4 (by decide))
 . rw [if_neg c]
   exact Y12p f row gt sent tr ev r s i c ho.sent (Nat.le_trans h3 (by decide)) h1 (Nat.le_trans h4 (by decide))
theorem Yam {w :J1} (hw:WOk w) {f:J0} (hf:Y1n f) (r s i:Int) {o:Y1c} (ho:Y98 o):WOk (Y3k w f r s i o):=by
 unfold Y3k
 have h1:=Yej o.Events hw.tr
 split
 . refine ⟨hf,hw.net,hw.pk,h1,?_⟩
   have:=hw.gt
   show (w.got_++o.Sent.take (4096 - w.got_.length)).length<=4096
   rw [List.length_append,List.length_take]
   omega
 . have h2:=Ygl r s i o.Sent _ _ hw.net h1
   refine ⟨hf,h2.1,fun x hx=> ?_,h2.2,hw.gt⟩
   exact (Ygm r s i o.Sent _ _ x hx).elim (hw.pk x) (ho.sent x)
def Y4z (w :J1) (r s i:Int) (t:ByteArray):Int× J1:=
 bif Y3l r s i then (0,Y3k w (Y10 w.fabric_ r s i t).2 r s i (Y10 w.fabric_ r s i t).1) else (2401,w)
theorem Ykv {w :J1} (hw:WOk w) (r s i:Int) (t:ByteArray):J4e 281474976710656 w ⟨r,s,i⟩ t=some (Y4z w r s i t):=by
 unfold J4e Y4z
 cases h:Y3l r s i with
 | false=>exact stB (Yu7 _ h t) (Y2h (show ¬ (2401:Int)=0 by decide) rfl)
 | true=>exact stB (Yu8 hw.fab h t) (Y1z rfl (stB (Yku hw _ r s i (Y73 ..)) rfl))
theorem Yek {w :J1} (hw:WOk w) (r s i:Int) (t:ByteArray):WOk (Y4z w r s i t).2:=by
 unfold Y4z
 cases h:Y3l r s i with
 | false=>exact hw
 | true=>exact Yam hw (Ygk hw.fab h t) r s i (Y73 ..)
def Y4f (row :List ByteArray) (n:Nat):List ByteArray:=row.take n++row.drop (n+1)
theorem Yyp {row :List ByteArray} (hl:row.length<=1000) {n:Nat} (hn:n< row.length):J8s 281474976710656 row (n:Int) ((n:Int)+1)=some (Y4f row n,Y4f row n):=by
 have hk:(Int.toNat ((n:Int) - (0:Int)))+(Int.toNat (((row.length:Nat):Int) - ((n:Int)+1)))=row.length - 1:=by omega
 have h1:(row.drop (Int.toNat ((n:Int)+1))).take (Int.toNat (((row.length:Nat):Int) - ((n:Int)+1)))=row.drop (n+1):=by
   rw [show Int.toNat ((n:Int)+1)=n+1 by omega,List.take_of_length_le (by rw [List.length_drop];omega)]
 have h2:row.take (Int.toNat ((n:Int) - (0:Int)))=row.take n:=by rw [show Int.toNat ((n:Int) - (0:Int))=n by omega]
 have hc:(Y4f row n).length=row.length - 1:=by unfold Y4f;rw [List.length_append,List.length_take,List.length_drop];omega
 unfold J8s
 rw [h1,h2,hk,show row.take n++row.drop (n+1)=Y4f row n from rfl]
 have h3:(((Y4f row n++row.drop (row.length - 1)).take (Int.toNat (((row.length - 1:Nat):Int)))++List.replicate (Int.toNat ((row.length:Int) - (((row.length - 1:Nat):Int)))) ByteArray.empty++(Y4f row n++row.drop (row.length - 1)).drop (Int.toNat (((row.length - 1:Nat):Int))+Int.toNat ((row.length:Int) - (((row.length - 1:Nat):Int))))).drop 0).take (row.length - 1)=Y4f row n:=by
   rw [List.drop_zero,Int.toNat_natCast,<- hc,List.take_left,List.append_assoc,List.take_left]
 refine Yd ⟨by omega,by omega,by omega,by omega,by omega,by omega⟩ (Yo (by omega) (Yd ⟨by omega,by omega,by omega,by omega,by omega⟩ (Yd ⟨by omega,by omega,by omega,by omega,by omega⟩ (Yd (by omega) (Yd ⟨by omega,by omega⟩ (Y1a ?_))))))
 have hv:(((Int.toNat ((n:Int) - (0:Int))):Int)+(Int.toNat (((row.length:Nat):Int) - ((n:Int)+1)):Int))=((row.length - 1:Nat):Int):=by omega
 have hq:((Y4f row n++row.drop (row.length - 1)).length)=row.length:=by rw [List.length_append,List.length_drop,hc];omega
 try rw [hv]
 refine Yd ⟨by omega,by omega,by omega,by omega,by omega⟩ (Yd ?_ (Yd ?_ (Yd ?_ ?_)))
 . rw [hq];omega
 . rw [h3,hc]
 . rw [h3,hc];omega
 . rw [h3]
def Y50 (row :List ByteArray) (i:Int):ByteArray× Int× J6:=if 0<=i/\i< (row.length:Int) then (row.getD i.toNat default,0,⟨Y4f row i.toNat⟩) else (ByteArray.empty,2202,⟨row⟩)
theorem Ykw (row :List ByteArray) (i:Int):J64 281474976710656 ⟨row⟩ i=some (decide (0<=i/\i< (row.length:Int)),⟨row⟩):=by
 unfold J64 J8t
 by_cases c:i>=0
 . refine Ym c ?_
   by_cases d:i< (row.length:Int)
   . rw [decide_eq_true d,decide_eq_true ⟨c,d⟩]
   . rw [decide_eq_false d,decide_eq_false (fun q=>d q.2)]
 . refine Yu c ?_
   rw [decide_eq_false (fun q=>c q.1)]
theorem Yio {row :List ByteArray} (hl:row.length<=1000) (i:Int):J65 281474976710656 ⟨row⟩ i=some (Y50 row i):=by
 have h:=Ykw row i
 unfold J65 Y50
 by_cases c:0<=i/\i< (row.length:Int)
 . rw [decide_eq_true c] at h
   rw [if_pos c]
   obtain ⟨n,rfl⟩:=Int.eq_ofNat_of_zero_le c.1
   have hn:n< row.length:=by omega
   have hd:=Yyp hl hn
   have hc:(Y4f row n).length=row.length - 1:=by unfold Y4f;rw [List.length_append,List.length_take,List.length_drop];omega
   refine stB h (Yj (Yd c ?_))
   rw [w64 (n:=(n:Int)+1) (by omega) (by omega)]
   refine stB hd (Yd (show (0:Int)< (row.length:Int) by omega) (Yd ?_ rfl))
   show ((row.length:Nat):Int) - 1=(((Y4f row n).length:Nat):Int)
   omega
 . rw [decide_eq_false c] at h
   rw [if_neg c]
   exact stB h (Y1u rfl)
theorem Yyq {row :List ByteArray} (hl:row.length<=1000) (s:ByteArray):J4b 281474976710656 ⟨row⟩ s=some (Y97 row s):=by
 unfold J4b Y97
 by_cases c:row.length< 32
 . rw [if_pos c]
   refine Ym (show ((row.length:Nat):Int)< 32 by omega) (Yd (Y32 (by decide) (show row.length+1<=100000 by omega)) (Yd ?_ rfl))
   show ((row.length:Nat):Int)+1=(((row++[s]).length:Nat):Int)
   rw [List.length_append]
   rfl
 . rw [if_neg c]
   exact Yu (show ¬ ((row.length:Nat):Int)< 32 by omega) rfl
def Y6f (row :List ByteArray) (i:Int):Int× J6:=if 0<=i/\i< (row.length:Int) then Y97 row (row.getD i.toNat default) else (2202,⟨row⟩)
theorem Yu9 {row :List ByteArray} (hl:row.length<=1000) (i:Int):J8u 281474976710656 ⟨row⟩ i=some (Y6f row i):=by
 have h:=Ykw row i
 unfold J8u Y6f
 by_cases c:0<=i/\i< (row.length:Int)
 . rw [decide_eq_true c] at h
   rw [if_pos c]
   exact stB h (Yj (Yd c (stB (Yyq hl _) rfl)))
 . rw [decide_eq_false c] at h
   rw [if_neg c]
   exact stB h (Y1u rfl)
theorem Yrf {row :List ByteArray} {n:Nat} {x:ByteArray} (h:x∈Y4f row n):x∈row:=by
 unfold Y4f at h
 rcases List.mem_append.1 h with h | h
 . exact List.mem_of_mem_take h
 . exact List.mem_of_mem_drop h
theorem Yrg (row :List ByteArray) (n:Nat):(Y4f row n).length<=row.length:=by
 unfold Y4f
 rw [List.length_append,List.length_take,List.length_drop]
 omega
def Yip (w :J1):J1:=⟨w.fabric_,w.net_,Y99 w.trace_ [⟨8,0,0,0,0,⟨0,0,0,0,0⟩⟩],w.got_⟩
theorem Ykx {w :J1} (hw:WOk w):WOk (Yip w):=⟨hw.fab,hw.net,hw.pk,Yej _ hw.tr,hw.gt⟩
def Y6z (w :J1) (s:ByteArray):J1:=
 bif !(Y2a (Y16 s).1.Dst).2.2.2 then Yip w
 else bif (Y4z w (Y2a (Y16 s).1.Dst).1 (Y2a (Y16 s).1.Dst).2.1 (Y2a (Y16 s).1.Dst).2.2.1 s).1 != 0 then Yip (Y4z w (Y2a (Y16 s).1.Dst).1 (Y2a (Y16 s).1.Dst).2.1 (Y2a (Y16 s).1.Dst).2.2.1 s).2
 else (Y4z w (Y2a (Y16 s).1.Dst).1 (Y2a (Y16 s).1.Dst).2.1 (Y2a (Y16 s).1.Dst).2.2.1 s).2
theorem Ypg {w :J1} (hw:WOk w) (s:ByteArray):WOk (Y6z w s):=by
 unfold Y6z
 cases (!(Y2a (Y16 s).1.Dst).2.2.2) with
 | true=>exact Ykx hw
 | false=>
   have h:=Yek hw (Y2a (Y16 s).1.Dst).1 (Y2a (Y16 s).1.Dst).2.1 (Y2a (Y16 s).1.Dst).2.2.1 s
   rw [cond_false]
   cases ((Y4z w (Y2a (Y16 s).1.Dst).1 (Y2a (Y16 s).1.Dst).2.1 (Y2a (Y16 s).1.Dst).2.2.1 s).1 != 0) with
   | true=>exact Ykx h
   | false=>exact h
def Yph (w :J1) (n:Nat):J1:=⟨w.fabric_,⟨Y4f w.net_.row_ n⟩,w.trace_,w.got_⟩
theorem Yrh {w :J1} (hw:WOk w) (n:Nat):WOk (Yph w n):=⟨hw.fab,Nat.le_trans (Yrg _ _) hw.net,fun x hx=>hw.pk x (Yrf hx),hw.tr,hw.gt⟩
def Y74 (w :J1) (i:Int):Int× J1:=
 if 0<=i/\i< (w.net_.row_.length:Int) then (0,Y6z (Yph w i.toNat) (w.net_.row_.getD i.toNat default)) else (2202,w)
theorem Yqc {w :J1} (hw:WOk w) (i:Int):WOk (Y74 w i).2:=by
 unfold Y74
 split
 . exact Ypg (Yrh hw _) _
 . exact hw
theorem Yqd {w :J1} (hw:WOk w) (i:Int):J8v 281474976710656 w i=some (Y74 w i):=by
 have hn:=Yio (row:=w.net_.row_) (Nat.le_trans hw.net (by decide)) i
 unfold Y50 at hn
 unfold J8v Y74
 by_cases c:0<=i/\i< (w.net_.row_.length:Int)
 . rw [if_pos c] at hn ⊢
   have ho:=Yrh hw i.toNat
   have hs:=Yp6 (w.net_.row_.getD i.toNat default)
   have hwho:=Ycg 281474976710656 (Y16 (w.net_.row_.getD i.toNat default)).1.Dst (by unfold RA;omega)
   have hst:∀ u:J1,WOk u->J4f 281474976710656 u true=some (0,Yip u):=by
     intro u hu
     unfold J4f J8w
     exact Yq (stB (Y8n _ _ hu.tr (by decide)) rfl)
   refine stB hn (Y1z rfl (stB (Yxt (by decide) _) (stB hwho ?_)))
   show (bif !(Y2a (Y16 (w.net_.row_.getD i.toNat default)).1.Dst).2.2.2 then J4f 281474976710656 (Yph w i.toNat) true else (J4e 281474976710656 (Yph w i.toNat) ⟨_,_,_⟩ (w.net_.row_.getD i.toNat default)).bind _)=_
   unfold Y6z
   generalize w.net_.row_.getD i.toNat default=s at*
   cases (!(Y2a (Y16 s).1.Dst).2.2.2) with
   | true=>exact hst _ ho
   | false=>
     refine Yn (stB (Ykv ho _ _ _ s) ?_)
     have hu:=Yek ho (Y2a (Y16 s).1.Dst).1 (Y2a (Y16 s).1.Dst).2.1 (Y2a (Y16 s).1.Dst).2.2.1 s
     rw [cond_false]
     generalize Y4z (Yph w i.toNat) (Y2a (Y16 s).1.Dst).1 (Y2a (Y16 s).1.Dst).2.1 (Y2a (Y16 s).1.Dst).2.2.1 s=u at*
     cases (u.1 != 0) with
     | true=>exact hst _ hu
     | false=>rfl
 . rw [if_neg c] at hn ⊢
   exact stB hn (Y2h (show ¬ (2202:Int)=0 by decide) rfl)
end Go.Proofs.YtpdcnikdoikldaaGreatDoor.Pu
namespace Go.Proofs.YtpdcnikdoikldaaGreatDoor.Pu
open Go Go.RowKit Go.Proofs.YtpdcnikdoikldaaGreatDoor.Sv Go.Proofs.YtpdcnikdoikldaaGreatDoor.Lf
theorem Yel {es :List Y0} (h:Y3b es=true) (p:Y0->Bool):Y3b (es.filter p)=true:=by
 obtain ⟨h1,h2,h3⟩:=(Y27 _).1 h
 refine (Y27 _).2 ⟨fun e he=>h1 e (List.mem_filter.1 he).1,List.Pairwise.sublist (List.filter_sublist) h2,?_⟩
 exact Nat.le_trans (List.length_filter_le ..) h3
theorem Y12y (now :Int) (es:List Y0) (hb:es.length<=1000):∀ (d fuel i:Nat) (a b:List Y0),es.length=i+d->d< fuel->a.length<=i->b.length<=i->
   J36 281474976710656 fuel now a b es (es.length:Int) (i:Int)=some (a++(es.drop i).filter (fun e=>Y4w e now),b++(es.drop i).filter (fun e=> !Y4w e now)):=by
 intro d
 induction d with
 | zero=>
   intro fuel i a b hi hf ha hb'
   obtain ⟨fuel,rfl⟩:∃ f,fuel=f+1:=⟨fuel - 1,by omega⟩
   rw [J36,List.drop_of_length_le (by omega),List.filter_nil,List.filter_nil,List.append_nil,List.append_nil]
   exact Yu (by omega) rfl
 | succ d ih=>
   intro fuel i a b hi hf ha hb'
   obtain ⟨fuel,rfl⟩:∃ f,fuel=f+1:=⟨fuel - 1,by omega⟩
   have hil:i< es.length:=by omega
   rw [J36,Y2t hil,Int.toNat_natCast]
   unfold J8x Jav
   rw [w64 (n:=(i:Int)+1) (by omega) (by omega)]
   have hr:=Yy6 281474976710656 (es.getD i default) now
   refine Ym (by omega) (Yd (by omega) (stB (x:=Y4w (es.getD i default) now) (stB hr rfl) ?_))
   cases h:Y4w (es.getD i default) now with
   | true=>
     refine Yq (Yd ⟨by omega,by omega⟩ ?_)
     refine (ih fuel (i+1) (a++[es.getD i default]) b (by omega) (by omega) (by rw [List.length_append,List.length_singleton];omega) (by omega)).trans ?_
     rw [List.filter_cons_of_pos (p:=fun e=>Y4w e now) h,List.filter_cons_of_neg (p:=fun e=> !Y4w e now) (by rw [h];decide),List.append_assoc]
     rfl
   | false=>
     refine Yn (Yd ⟨by omega,by omega⟩ ?_)
     refine (ih fuel (i+1) a (b++[es.getD i default]) (by omega) (by omega) (by omega) (by rw [List.length_append,List.length_singleton];omega)).trans ?_
     rw [List.filter_cons_of_neg (p:=fun e=>Y4w e now) (by rw [h];decide),List.filter_cons_of_pos (p:=fun e=> !Y4w e now) (by rw [h];rfl),List.append_assoc]
     rfl
def Yem (t :J2) (es:List Y0) (now:Int):List Y0× List Y1:=(es.filter fun e=> !Y4w e now,(es.filter fun e=>Y4w e now).map fun e=>evT t 12 e.To e.Flow)
theorem Yua (r s n :Int) (left ran:List Y0) (hb:ran.length<=1000):∀ (d fuel i:Nat) (a:List Y1),ran.length=i+d->d< fuel->a.length<=i->
   J4g 281474976710656 fuel r s n left a ran (ran.length:Int) (i:Int)=some (left,a++(ran.drop i).map fun e=>evT ⟨r,s,n⟩ 12 e.To e.Flow):=by
 intro d
 induction d with
 | zero=>
   intro fuel i a hi hf ha
   obtain ⟨fuel,rfl⟩:∃ f,fuel=f+1:=⟨fuel - 1,by omega⟩
   rw [J4g,List.drop_of_length_le (by omega),List.map_nil,List.append_nil]
   exact Yu (by omega) rfl
 | succ d ih=>
   intro fuel i a hi hf ha
   obtain ⟨fuel,rfl⟩:∃ f,fuel=f+1:=⟨fuel - 1,by omega⟩
   have hil:i< ran.length:=by omega
   rw [J4g,Y2t hil,Int.toNat_natCast,w64 (n:=(i:Int)+1) (by omega) (by omega),List.map_cons]
   refine Ym (by omega) (Yd (by omega) (stB rfl (Yd ⟨by omega,by omega⟩ ?_)))
   refine (ih fuel (i+1) (a++[evT ⟨r,s,n⟩ 12 (ran.getD i default).To (ran.getD i default).Flow]) (by omega) (by omega) (by rw [List.length_append,List.length_singleton];omega)).trans ?_
   rw [List.append_assoc]
   rfl
theorem Ya1 (t :J2) {es:List Y0} (h:Y3b es=true) {now:Int} (hn:Y22 now=true):J28 281474976710656 t es now=some (Yem t es now):=by
 have hl:=((Y27 _).1 h).2.2
 have h1:=Y12y now es (by omega) es.length 281474976710656 0 [] [] (by omega) (by omega) (by simp) (by simp)
 rw [List.nil_append,List.nil_append,List.drop_zero] at h1
 have hl2:(es.filter fun e=>Y4w e now).length<=8:=Nat.le_trans (List.length_filter_le ..) hl
 have h2:=Yua t.Role t.Site t.Node (es.filter fun e=> !Y4w e now) (es.filter fun e=>Y4w e now) (by omega) (es.filter fun e=>Y4w e now).length 281474976710656 0 [] (by omega) (by omega) (by simp)
 rw [List.nil_append,List.drop_zero] at h2
 have hm:=Ybk (N:=281474976710656) (by decide) es (by omega)
 rw [h] at hm
 have ht:=Y5j 281474976710656 now
 rw [hn] at ht
 unfold J28 Jaw J8y Jax
 exact stB (stB hm (Yj (stB ht (Yn (stB h1 rfl))))) h2
def Yyr (e :Yp) (fl:List Y0):Yp:=⟨e.Id,e.Config,e.Health,fl⟩
def Yys (n :Ya) (fl:List Y0):Ya:=⟨n.Id,n.Config,n.Health,n.Seen,fl,n.Serial⟩
abbrev swE (f :J0) (i:Int):=Yem ⟨0,0,i⟩ (eAt f.edges_ i).it_.Flows f.now_
abbrev swS (f :J0) (i:Int):=Yem ⟨1,i,0⟩ (sAt f.sites_ i).it_.Flows f.now_
abbrev Ycr:=J0× List Y1
def Y2u (r :Ycr) (i:Int):Ycr:=bif (eAt r.1.edges_ i).up_ then (setE r.1 i (Yyr (eAt r.1.edges_ i).it_ (swE r.1 i).1),r.2++(swE r.1 i).2) else r
def Y43 (r :Ycr) (i:Int):Ycr:=bif (sAt r.1.sites_ i).up_ then (setS r.1 i (Yys (sAt r.1.sites_ i).it_ (swS r.1 i).1),r.2++(swS r.1 i).2) else r
theorem Yub {e :Yp} (h:Y2w e) (p:Y0->Bool):Y2w (Yyr e (e.Flows.filter p)):=
 ⟨fun x hx=>h.pin x (List.mem_filter.1 hx).1,h.id,h.conf,h.hs,Yel h.cache p⟩
theorem Yuc {n :Ya} (h:Y1x n) (p:Y0->Bool):Y1x (Yys n (n.Flows.filter p)):=
 ⟨fun x hx=>h.away x (List.mem_filter.1 hx).1,fun x hx=>h.here x (List.mem_filter.1 hx).1,h.serial,h.conf,h.id,h.hs,h.view,Yel h.cache p⟩
theorem Y86 (t :J2) {es:List Y0} (h:Y3b es=true) (now:Int):(Yem t es now).2.length<=8:=by
 unfold Yem
 rw [List.length_map]
 exact Nat.le_trans (List.length_filter_le ..) ((Y27 _).1 h).2.2
theorem Ypi {r :Ycr} (h:Y1n r.1) {i:Int} (hi:i=0\/i=1):Y1n (Y2u r i).1/\(Y2u r i).2.length<=r.2.length+8:=by
 have q:=h.eAt hi
 unfold Y2u
 cases (eAt r.1.edges_ i).up_ with
 | true=>
   refine ⟨h.setE hi (Yub q.1 _) q.2,?_⟩
   rw [cond_true,List.length_append]
   have:(swE r.1 i).2.length<=8:=Y86 ⟨0,0,i⟩ q.1.cache r.1.now_
   omega
 | false=>exact ⟨h,Nat.le_add_right ..⟩
theorem Ygn {r :Ycr} (h:Y1n r.1) {i:Int} (hi:i=0\/i=1\/i=2):Y1n (Y43 r i).1/\(Y43 r i).2.length<=r.2.length+8:=by
 have q:=h.sAt hi
 unfold Y43
 cases (sAt r.1.sites_ i).up_ with
 | true=>
   refine ⟨h.setS hi (Yuc q.1 _) q.2,?_⟩
   rw [cond_true,List.length_append]
   have:(swS r.1 i).2.length<=8:=Y86 ⟨1,i,0⟩ q.1.cache r.1.now_
   omega
 | false=>exact ⟨h,Nat.le_add_right ..⟩
theorem Y16j {f :J0} (h:Y1n f) (told acc:List Y1) (ha:acc.length<=1000) (k:Nat):∃ told',Jr 281474976710656 (k+1) f told acc 2 0=Jr 281474976710656 k (Y2u (f,acc) 0).1 told' (Y2u (f,acc) 0).2 2 1:=by
 obtain ⟨⟨⟨a0,u0⟩,⟨a1,u1⟩⟩,⟨⟨n0,v0⟩,⟨n1,v1⟩,⟨n2,v2⟩⟩,b,now,c⟩:=f
 have hs:=Ya1 ⟨0,0,0⟩ h.e0.cache h.now
 have hl:=Y86 ⟨0,0,0⟩ h.e0.cache now
 rw [Jr]
 unfold Y2u J37 Jay
 cases u0 with
 | true=>exact ⟨_,Ym (by decide) (Ys rfl (Yq (stB (stB hs (Yd (Y32 (by decide) (Nat.le_trans (Nat.add_le_add ha hl) (by decide))) rfl)) rfl)))⟩
 | false=>exact ⟨_,Ym (by decide) (Ys rfl (Yn rfl))⟩
theorem Y16k {f :J0} (h:Y1n f) (told acc:List Y1) (ha:acc.length<=1000) (k:Nat):∃ told',Jr 281474976710656 (k+1) f told acc 2 1=Jr 281474976710656 k (Y2u (f,acc) 1).1 told' (Y2u (f,acc) 1).2 2 2:=by
 obtain ⟨⟨⟨a0,u0⟩,⟨a1,u1⟩⟩,⟨⟨n0,v0⟩,⟨n1,v1⟩,⟨n2,v2⟩⟩,b,now,c⟩:=f
 have hs:=Ya1 ⟨0,0,1⟩ h.e1.cache h.now
 have hl:=Y86 ⟨0,0,1⟩ h.e1.cache now
 rw [Jr]
 unfold Y2u J37 Jaz
 cases u1 with
 | true=>exact ⟨_,Ym (by decide) (Yo (by decide) (Yd rfl (Yq (stB (stB hs (Yd (Y32 (by decide) (Nat.le_trans (Nat.add_le_add ha hl) (by decide))) rfl)) rfl))))⟩
 | false=>exact ⟨_,Ym (by decide) (Yo (by decide) (Yd rfl (Yn rfl)))⟩
theorem Y16l {f :J0} (h:Y1n f) (told acc:List Y1) (ha:acc.length<=1000) (k:Nat):∃ told',Jd 281474976710656 (k+1) f told acc 3 0=Jd 281474976710656 k (Y43 (f,acc) 0).1 told' (Y43 (f,acc) 0).2 3 1:=by
 obtain ⟨⟨⟨a0,u0⟩,⟨a1,u1⟩⟩,⟨⟨n0,v0⟩,⟨n1,v1⟩,⟨n2,v2⟩⟩,b,now,c⟩:=f
 have hs:=Ya1 ⟨1,0,0⟩ h.s0.cache h.now
 have hl:=Y86 ⟨1,0,0⟩ h.s0.cache now
 rw [Jd]
 unfold Y43 J1a Jb0
 cases v0 with
 | true=>exact ⟨_,Ym (by decide) (Ys rfl (Yq (stB (stB hs (Yd (Y32 (by decide) (Nat.le_trans (Nat.add_le_add ha hl) (by decide))) rfl)) rfl)))⟩
 | false=>exact ⟨_,Ym (by decide) (Ys rfl (Yn rfl))⟩
theorem Y16m {f :J0} (h:Y1n f) (told acc:List Y1) (ha:acc.length<=1000) (k:Nat):∃ told',Jd 281474976710656 (k+1) f told acc 3 1=Jd 281474976710656 k (Y43 (f,acc) 1).1 told' (Y43 (f,acc) 1).2 3 2:=by
 obtain ⟨⟨⟨a0,u0⟩,⟨a1,u1⟩⟩,⟨⟨n0,v0⟩,⟨n1,v1⟩,⟨n2,v2⟩⟩,b,now,c⟩:=f
 have hs:=Ya1 ⟨1,1,0⟩ h.s1.cache h.now
 have hl:=Y86 ⟨1,1,0⟩ h.s1.cache now
 rw [Jd]
 unfold Y43 J1a Jb1
 cases v1 with
 | true=>exact ⟨_,Ym (by decide) (Yo (by decide) (Ys rfl (Yq (stB (stB hs (Yd (Y32 (by decide) (Nat.le_trans (Nat.add_le_add ha hl) (by decide))) rfl)) rfl))))⟩
 | false=>exact ⟨_,Ym (by decide) (Yo (by decide) (Ys rfl (Yn rfl)))⟩
theorem Y16n {f :J0} (h:Y1n f) (told acc:List Y1) (ha:acc.length<=1000) (k:Nat):∃ told',Jd 281474976710656 (k+1) f told acc 3 2=Jd 281474976710656 k (Y43 (f,acc) 2).1 told' (Y43 (f,acc) 2).2 3 3:=by
 obtain ⟨⟨⟨a0,u0⟩,⟨a1,u1⟩⟩,⟨⟨n0,v0⟩,⟨n1,v1⟩,⟨n2,v2⟩⟩,b,now,c⟩:=f
 have hs:=Ya1 ⟨1,2,0⟩ h.s2.cache h.now
 have hl:=Y86 ⟨1,2,0⟩ h.s2.cache now
 rw [Jd]
 unfold Y43 J1a Jb2
 cases v2 with
 | true=>exact ⟨_,Ym (by decide) (Yo (by decide) (Yo (by decide) (Yd rfl (Yq (stB (stB hs (Yd (Y32 (by decide) (Nat.le_trans (Nat.add_le_add ha hl) (by decide))) rfl)) rfl)))))⟩
 | false=>exact ⟨_,Ym (by decide) (Yo (by decide) (Yo (by decide) (Yd rfl (Yn rfl))))⟩
def Y51 (f :J0):J0:=⟨f.edges_,f.sites_,f.backs_,if 1048576< f.now_+1 then 1048576 else f.now_+1,f.conf_⟩
def Yan (f :J0):Ycr:=Y43 (Y43 (Y43 (Y2u (Y2u (Y51 f,[]) 0) 1) 0) 1) 2
theorem Yyt {f :J0} (h:Y1n f):Y1n (Y51 f):=by
 refine ⟨h.e0,h.e1,h.i0,h.i1,h.s0,h.s1,h.s2,h.j0,h.j1,h.j2,?_,h.conf⟩
 have:=of_decide_eq_true h.now
 show Y22 (if 1048576< f.now_+1 then 1048576 else f.now_+1)=true
 unfold Y22
 split
 . rfl
 . exact decide_eq_true ⟨by omega,by omega⟩
theorem Ypj {f :J0} (h:Y1n f):J8z 281474976710656 f=some ((Yan f).2,0,(Yan f).1)/\Y1n (Yan f).1/\(Yan f).2.length<=40:=by
 have h0:=Yyt h
 obtain ⟨a1,a2⟩:=Ypi (r:=(Y51 f,[])) h0 (i:=0) (.inl rfl)
 obtain ⟨b1,b2⟩:=Ypi a1 (i:=1) (.inr rfl)
 obtain ⟨c1,c2⟩:=Ygn b1 (i:=0) (.inl rfl)
 obtain ⟨d1,d2⟩:=Ygn c1 (i:=1) (.inr (.inl rfl))
 obtain ⟨e1,e2⟩:=Ygn d1 (i:=2) (.inr (.inr rfl))
 have z:(Y51 f,([]:List Y1)).2.length=0:=rfl
 refine ⟨?_,e1,show (Y43 _ 2).2.length<=40 by omega⟩
 obtain ⟨t1,p1⟩:=Y16j h0 [] [] (by simp) 281474976710655
 obtain ⟨t2,p2⟩:=Y16k a1 t1 (Y2u (Y51 f,[]) 0).2 (by omega) 281474976710654
 obtain ⟨t3,p3⟩:=Y16l b1 t2 (Y2u (Y2u (Y51 f,[]) 0) 1).2 (by omega) 281474976710655
 obtain ⟨t4,p4⟩:=Y16m c1 t3 (Y43 (Y2u (Y2u (Y51 f,[]) 0) 1) 0).2 (by omega) 281474976710654
 obtain ⟨t5,p5⟩:=Y16n d1 t4 (Y43 (Y43 (Y2u (Y2u (Y51 f,[]) 0) 1) 0) 1).2 (by omega) 281474976710653
 have hn:=of_decide_eq_true h.now
 have hv:(if decide (1048576< IntKind.i64.wrap (f.now_+1)) then (1048576:Int) else IntKind.i64.wrap (f.now_+1))=(if 1048576< f.now_+1 then 1048576 else f.now_+1):=by
   rw [w64 (n:=f.now_+1) (by omega) (by omega)]
   by_cases c:1048576< f.now_+1
   . rw [if_pos c,if_pos (decide_eq_true c)]
   . rw [if_neg c,if_neg (by simpa using c)]
 unfold J8z Jb3 Jb4
 refine Y1a ?_
 rw [hv]
 have q2:Jr 281474976710656 281474976710656 (Y51 f) [] [] 2 0=some ((Y2u (Y2u (Y51 f,[]) 0) 1).1,t2,[],(Y2u (Y2u (Y51 f,[]) 0) 1).2,[]):=by
   refine (p1.trans p2).trans ?_
   rw [show (281474976710654:Nat)=281474976710653+1 from rfl,Jr]
   exact Yu (by decide) rfl
 have q5:Jd 281474976710656 281474976710656 (Y2u (Y2u (Y51 f,[]) 0) 1).1 t2 (Y2u (Y2u (Y51 f,[]) 0) 1).2 3 0=some ((Yan f).1,t5,[],(Yan f).2,[]):=by
   refine (p3.trans p4).trans (p5.trans ?_)
   rw [show (281474976710653:Nat)=281474976710652+1 from rfl,Jd]
   exact Yu (by decide) rfl
 exact stB q2 (stB q5 rfl)
end Go.Proofs.YtpdcnikdoikldaaGreatDoor.Pu
namespace Go.Proofs.YtpdcnikdoikldaaGreatDoor.Pu
open Go Go.RowKit Go.Proofs.YtpdcnikdoikldaaGreatDoor.Sv Go.Proofs.YtpdcnikdoikldaaGreatDoor.Lf
def Yen (h :Y5) (good:Bool):Y5:=bif good==h.Up then ⟨h.Up,0⟩ else if h.Count+1=3 then ⟨!h.Up,0⟩ else ⟨h.Up,h.Count+1⟩
theorem Yyu {h :Y5} (hh:hOk h=true) (good:Bool):Jv 281474976710656 h good=some (Yen h good,0):=by
 have hm:=Yr4 281474976710656 h
 rw [hh] at hm
 have hc:=of_decide_eq_true hh
 have ht:J38 281474976710656 h=some 3:=by unfold J38;cases h.Up <;> rfl
 unfold Jv Yen
 refine stB hm (Yj ?_)
 cases (good==h.Up) with
 | true=>rfl
 | false=>
   refine Yn (stB ht ?_)
   rw [w64 (n:=h.Count+1) (by omega) (by omega),cond_false]
   by_cases c:h.Count+1=3
   . rw [if_pos c];exact Ys c rfl
   . rw [if_neg c];exact Yo c rfl
theorem Yyv {h :Y5} (hh:hOk h=true) (good:Bool):hOk (Yen h good)=true:=by
 have hc:=of_decide_eq_true hh
 unfold Yen
 cases (good==h.Up) with
 | true=>rfl
 | false=>
   rw [cond_false]
   split
   . rfl
   . exact decide_eq_true ⟨show 0<=h.Count+1 by omega,show h.Count+1< 3 by omega⟩
def Ypk (hs :List Y5) (to:Int) (good:Bool):List Y5:=hs.set to.toNat (Yen (hs.getD to.toNat default) good)
theorem Yri {hs :List Y5} {n:Int} (h:Y65 hs n=true) {to:Int} (ht:0<=to/\to< n) (good:Bool):Y65 (Ypk hs to good) n=true:=by
 have hl:=Y4q h
 unfold Y65 at h ⊢
 rw [Bool.and_eq_true,List.all_eq_true,beq_iff_eq] at h ⊢
 refine ⟨fun x hx=> ?_,?_⟩
 . rcases List.mem_or_eq_of_mem_set hx with q | rfl
   . exact h.1 x q
   . exact Yyv (h.1 _ (Y3q (by omega))) good
 . unfold Ypk;rw [List.length_set];exact h.2
theorem Ya2 {hs :List Y5} {n:Int} (h:Y65 hs n=true) (to:Int) (good:Bool) (f:J0) (K:List Y5->J0):
   (bif decide (to< 0) then some (2401,f) else bif decide (to>=(hs.length:Int)) then some (2401,f) else
     if 0<=to/\to< ((hs.length:Nat):Int) then (Jv 281474976710656 (hs.getD to.toNat default) good).bind fun v1=>if 0<=to/\to< ((hs.length:Nat):Int) then some (0,K (hs.set to.toNat v1.1)) else none else none)=
   some (if 0<=to/\to< n then ((0:Int),K (Ypk hs to good)) else (2401,f)):=by
 have hl:=Y4q h
 by_cases a:to< 0
 . refine Ym a ?_
   rw [if_neg (by omega)]
 refine Yu a ?_
 by_cases b:to>=(hs.length:Int)
 . refine Ym b ?_
   rw [if_neg (by omega)]
 refine Yu b ?_
 have hh:hOk (hs.getD to.toNat default)=true:=by
   unfold Y65 at h
   rw [Bool.and_eq_true,List.all_eq_true] at h
   exact h.1 _ (Y3q (by omega))
 refine Yd (by omega) (stB (Yyu hh good) (Yd (by omega) ?_))
 rw [if_pos (show 0<=to/\to< n by omega)]
 rfl
def Ypl (e :Yp) (hs:List Y5):Yp:=⟨e.Id,e.Config,hs,e.Flows⟩
def Yiq (n :Ya) (hs:List Y5):Ya:=⟨n.Id,n.Config,hs,n.Seen,n.Flows,n.Serial⟩
def Ybn (f :J0) (r s i to:Int) (good:Bool):Int× J0:=
 if r=2 then (2400,f)
 else bif Y3l r s i&&upF f r s i then
   (if r=0 then (if 0<=to/\to< 3 then (0,setE f i (Ypl (eAt f.edges_ i).it_ (Ypk (eAt f.edges_ i).it_.Health to good))) else (2401,f))
    else (if 0<=to/\to< 4 then (0,setS f s (Yiq (sAt f.sites_ s).it_ (Ypk (sAt f.sites_ s).it_.Health to good))) else (2401,f)))
 else (2401,f)
theorem Yyw {f :J0} (hf:Y1n f) (r s i to:Int) (good:Bool):J90 281474976710656 f r s i to good=some (Ybn f r s i to good):=by
 have hno:∀ a b c d e,J66 281474976710656 f a b c d e true=some (2401,f):=fun _ _ _ _ _=>rfl
 unfold J90 Ybn
 by_cases c:r=2
 . rw [if_pos c];exact Ys c rfl
 rw [if_neg c]
 refine Yo c (stB (Yei f r s i) ?_)
 cases h:Y3l r s i with
 | false=>exact hno r s i to good
 | true=>
 refine Yj (stB (Yu6 f h) ?_)
 rw [Bool.true_and]
 cases hu:upF f r s i with
 | false=>exact hno r s i to good
 | true=>
 unfold J66
 rw [cond_true]
 rcases Y5e h with ⟨rfl,rfl,rfl | rfl⟩ | ⟨rfl,rfl | rfl | rfl,rfl⟩ | ⟨rfl,k1,k2⟩
 . exact Yn (Ys rfl (Ys rfl (Ys rfl (Ya2 hf.e0.hs to good f fun hs=>setE f 0 (Ypl f.edges_.1.it_ hs)))))
 . exact Yn (Ys rfl (Ys rfl (Yo (by decide) (Yd rfl (Ya2 hf.e1.hs to good f fun hs=>setE f 1 (Ypl f.edges_.2.it_ hs))))))
 . exact Yn (Ys rfl (Yo (by decide) (Ya2 hf.s0.hs to good f fun hs=>setS f 0 (Yiq f.sites_.1.it_ hs))))
 . exact Yn (Yo (by decide) (Ys rfl (Yo (by decide) (Ya2 hf.s1.hs to good f fun hs=>setS f 1 (Yiq f.sites_.2.1.it_ hs)))))
 . exact Yn (Yo (by decide) (Yo (by decide) (Yd rfl (Yo (by decide) (Ya2 hf.s2.hs to good f fun hs=>setS f 2 (Yiq f.sites_.2.2.it_ hs))))))
 . exact absurd rfl c
theorem Yyx {f :J0} (hf:Y1n f) (r s i to:Int) (good:Bool):Y1n (Ybn f r s i to good).2:=by
 unfold Ybn
 split
 . exact hf
 rename_i c
 cases h:Y3l r s i with
 | false=>exact hf
 | true=>
 rw [Bool.true_and]
 cases hu:upF f r s i with
 | false=>exact hf
 | true=>
 rw [cond_true]
 rcases Y5e h with ⟨rfl,rfl,k⟩ | ⟨rfl,k,rfl⟩ | ⟨rfl,k1,k2⟩
 . rw [if_pos rfl]
   have q:=hf.eAt k
   split
   . rename_i b;exact hf.setE k ⟨q.1.pin,q.1.id,q.1.conf,Yri q.1.hs b good,q.1.cache⟩ q.2
   . exact hf
 . rw [if_neg (by decide)]
   have q:=hf.sAt k
   split
   . rename_i b;exact hf.setS k ⟨q.1.away,q.1.here,q.1.serial,q.1.conf,q.1.id,Yri q.1.hs b good,q.1.view,q.1.cache⟩ q.2
   . exact hf
 . exact absurd rfl c
def Y7v (i j :Int) (b:ByteArray):Yw:=⟨167903232+i,167903232+j,4,0,0,b⟩
theorem Y12z {i j :Int} (hi:0<=i/\i< 3) (hj:0<=j/\j< 3) {b:ByteArray} (hb:b.size<=512):Y35 (Y7v i j b)=true:=by
 unfold Y35 Y41 Y7v
 dsimp only
 exact decide_eq_true ⟨by omega,by omega,by omega,by omega,by omega,by omega,hb⟩
def Ybo (i :Int) (b:ByteArray):List ByteArray:=
 if i=0 then [Y13 (Y7v 0 1 b),Y13 (Y7v 0 2 b)] else if i=1 then [Y13 (Y7v 1 0 b),Y13 (Y7v 1 2 b)] else [Y13 (Y7v 2 0 b),Y13 (Y7v 2 1 b)]
theorem Y87 (f :J0) {i j:Int} (hi:0<=i/\i< 3) (hj:0<=j/\j< 3) (hne:j≠i) {b:ByteArray} (hb:b.size<=324) (k:Nat) (z:Int) (acc:List ByteArray) (ha:acc.length<=100):
   Jn 281474976710656 (k+1) f i (167903232+i) z 4 0 0 b acc 3 j=Jn 281474976710656 k f i (167903232+i) (167903232+j) 4 0 0 b (acc++[Y13 (Y7v i j b)]) 3 (j+1):=by
 have e:=Y30 281474976710656 1 j 0
 rw [Y68 hj] at e
 have hm:=Y12z hi hj (b:=b) (by omega)
 have hr:=Yra hm
 have hpush:=Yjk (N:=281474976710656) (by decide) (Y7v i j b) hr.1 hr.2
 unfold Y6w at hpush
 rw [if_pos hm,if_neg (show ¬ 324< (Y7v i j b).Body.size from by show ¬ 324< b.size;omega)] at hpush
 rw [Jn]
 unfold J67
 rw [w64 (n:=j+1) (by omega) (by omega)]
 exact Ym (by omega) (Y2h hne (stB e (stB hpush (Yd (Y32 (by decide) (by omega)) rfl))))
theorem Ygo (f :J0) {i:Int} (hi:0<=i/\i< 3) (b:ByteArray) (k:Nat) (y z:Int) (acc:List ByteArray):
   Jn 281474976710656 (k+1) f i y z 4 0 0 b acc 3 i=Jn 281474976710656 k f i y z 4 0 0 b acc 3 (i+1):=by
 rw [Jn]
 unfold J67
 rw [w64 (n:=i+1) (by omega) (by omega)]
 exact Ym (by omega) (Y1z rfl rfl)
theorem Yjr (f :J0) (i y z:Int) (b:ByteArray) (k:Nat) (acc:List ByteArray):Jn 281474976710656 (k+1) f i y z 4 0 0 b acc 3 3=some (⟨acc,[]⟩,0,f):=by
 rw [Jn]
 exact Yu (by decide) rfl
theorem Y16o (f :J0) {i:Int} (hi:i=0\/i=1\/i=2) {b:ByteArray} (hb:b.size<=324):Jn 281474976710656 281474976710656 f i (167903232+i) 0 4 0 0 b [] 3 0=some (⟨Ybo i b,[]⟩,0,f):=by
 rcases hi with rfl | rfl | rfl
 . refine (Ygo f (i:=0) (by decide) b 281474976710655 _ _ []).trans ?_
   refine (Y87 f (i:=0) (j:=1) (by decide) (by decide) (by decide) hb 281474976710654 _ [] (by decide)).trans ?_
   refine (Y87 f (i:=0) (j:=2) (by decide) (by decide) (by decide) hb 281474976710653 _ ([]++[Y13 (Y7v 0 1 b)]) (by show 1<=100;decide)).trans ?_
   exact Yjr f _ _ _ b 281474976710652 _
 . refine (Y87 f (i:=1) (j:=0) (by decide) (by decide) (by decide) hb 281474976710655 _ [] (by decide)).trans ?_
   refine (Ygo f (i:=1) (by decide) b 281474976710654 _ _ _).trans ?_
   refine (Y87 f (i:=1) (j:=2) (by decide) (by decide) (by decide) hb 281474976710653 _ ([]++[Y13 (Y7v 1 0 b)]) (by show 1<=100;decide)).trans ?_
   exact Yjr f _ _ _ b 281474976710652 _
 . refine (Y87 f (i:=2) (j:=0) (by decide) (by decide) (by decide) hb 281474976710655 _ [] (by decide)).trans ?_
   refine (Y87 f (i:=2) (j:=1) (by decide) (by decide) (by decide) hb 281474976710654 _ ([]++[Y13 (Y7v 2 0 b)]) (by show 1<=100;decide)).trans ?_
   refine (Ygo f (i:=2) (by decide) b 281474976710653 _ _ _).trans ?_
   exact Yjr f _ _ _ b 281474976710652 _
theorem Y130 {n :Ya} (h:Y1x n):0<=Yal n/\Yal n<=8:=by
 have:=((Y27 _).1 h.cache).2.2
 have h2:=List.length_filter_le (fun x:Y0=> !x.Away) n.Flows
 unfold Yal
 omega
theorem Y1by {n :Ya} (h:Y1x n):0<=(Y2s n.Config n.Id).Cap/\(Y2s n.Config n.Id).Cap<=8:=by
 cases q:Y6j n.Config n.Id with
 | true=>exact (Yeg ((Y66 h.conf n.Id).2 q)).2.2.1
 | false=>unfold Y2s;rw [q,if_neg Bool.false_ne_true];decide
theorem Yrj {n :Ya} (h:Y1x n):Y4d (Y6y n).2=true/\Y1x (Y6y n).1:=by
 have a:=Y130 h;have b:=Y1by h;have c:=h.serial;have d:=h.id
 refine ⟨?_,h.away,h.here,?_,h.conf,h.id,h.hs,h.view,h.cache⟩
 . unfold Y4d Y6y
   rw [decide_eq_true (show 0<=n.Id/\n.Id< 3 from d),decide_eq_true (show 0<=n.Serial/\n.Serial< 65536 from c),decide_eq_true (show 0<=Yal n/\Yal n< 256 by omega),decide_eq_true (show 0<=(Y2s n.Config n.Id).Cap/\(Y2s n.Config n.Id).Cap< 256 by omega)]
   rfl
 . show 0<=(n.Serial+1) % 65536/\(n.Serial+1) % 65536< 65536
   omega
def Y69 (f :J0) (i:Int):Y1c× Int× J0:=
 bif Y3l 1 i 0&&upF f 1 i 0 then (⟨Ybo i (Yco (Y6y (sAt f.sites_ i).it_).2),[]⟩,0,setS f i (Y6y (sAt f.sites_ i).it_).1) else (⟨[],[]⟩,2401,f)
theorem Y16p {f :J0} (hf:Y1n f) (i:Int):J91 281474976710656 f i=some (Y69 f i):=by
 have hno:J68 281474976710656 f i true=some (⟨[],[]⟩,2401,f):=rfl
 unfold J91 Y69
 refine stB (Yei f 1 i 0) ?_
 cases h:Y3l 1 i 0 with
 | false=>exact hno
 | true=>
 refine Yj (stB (Yu6 f h) ?_)
 rw [Bool.true_and]
 cases hu:upF f 1 i 0 with
 | false=>exact hno
 | true=>
 have k:i=0\/i=1\/i=2:=by have:=Y5e h;unfold Has at this;omega
 have q:=hf.sAt k
 have hrep:=Yl9 (Yij q.1)
 rw [if_pos ((Y42 _).2 q.1)] at hrep
 have t:=Yrj q.1
 have hput:=Ykt (N:=281474976710656) (by decide) (Y6y (sAt f.sites_ i).it_).2
 rw [if_pos t.1] at hput
 have hall:=Y16o (setS f i (Y6y (sAt f.sites_ i).it_).1) k (b:=Yco (Y6y (sAt f.sites_ i).it_).2) (by rw [Yks];decide)
 have e:=Y30 281474976710656 1 i 0
 rw [Y68 (by omega)] at e
 unfold J68
 rcases k with rfl | rfl | rfl
 . exact Yn (Ys rfl (stB hrep (stB hput (stB e hall))))
 . exact Yn (Yo (by decide) (Ys rfl (stB hrep (stB hput (stB e hall)))))
 . exact Yn (Yo (by decide) (Yo (by decide) (Yd rfl (stB hrep (stB hput (stB e hall))))))
theorem Yrk {f :J0} (hf:Y1n f) (i:Int):Y1n (Y69 f i).2.2:=by
 unfold Y69
 cases h:Y3l 1 i 0 with
 | false=>exact hf
 | true=>
 rw [Bool.true_and]
 cases hu:upF f 1 i 0 with
 | false=>exact hf
 | true=>
 have k:i=0\/i=1\/i=2:=by have:=Y5e h;unfold Has at this;omega
 have q:=hf.sAt k
 exact hf.setS k (Yrj q.1).2 q.2
theorem Yrl (f :J0) (i:Int):Y98 (Y69 f i).1:=by
 have hp:∀ o:Yw,o.Body.size=6->0< (Y13 o).size/\(Y13 o).size<=512:=fun o h=>by rw [Y93];omega
 unfold Y69
 cases (Y3l 1 i 0&&upF f 1 i 0) with
 | false=>exact ⟨(fun x hx=>by cases hx),show 0<=2 by decide,show 0<=2 by decide⟩
 | true=>
   have hb:=Yks (Y6y (sAt f.sites_ i).it_).2
   refine ⟨fun x hx=> ?_,?_,show 0<=2 by decide⟩
   . rw [cond_true] at hx
     unfold Ybo at hx
     dsimp only at hx
     split at hx
     . simp only [List.mem_cons,List.not_mem_nil,or_false] at hx
       rcases hx with rfl | rfl <;> exact hp _ hb
     . split at hx
       . simp only [List.mem_cons,List.not_mem_nil,or_false] at hx
         rcases hx with rfl | rfl <;> exact hp _ hb
       . simp only [List.mem_cons,List.not_mem_nil,or_false] at hx
         rcases hx with rfl | rfl <;> exact hp _ hb
   . show (Ybo i (Yco (Y6y (sAt f.sites_ i).it_).2)).length<=2
     unfold Ybo
     split
     . exact Nat.le_refl 2
     . split <;> exact Nat.le_refl 2
def Yud (b :FB) (i:Int) (u:Bool):FB:=if i=0 then (⟨u⟩,b.2.1,b.2.2.1,b.2.2.2) else if i=1 then (b.1,⟨u⟩,b.2.2.1,b.2.2.2) else if i=2 then (b.1,b.2.1,⟨u⟩,b.2.2.2) else (b.1,b.2.1,b.2.2.1,⟨u⟩)
def bSet (b :FB× FB× FB) (s i:Int) (u:Bool):FB× FB× FB:=if s=0 then (Yud b.1 i u,b.2.1,b.2.2) else if s=1 then (b.1,Yud b.2.1 i u,b.2.2) else (b.1,b.2.1,Yud b.2.2 i u)
def Yjs (f :J0) (r s i:Int) (u:Bool):Int× J0:=
 bif Y3l r s i then
   (0,if r=0 then ⟨eSet f.edges_ i ⟨bif u&& !(eAt f.edges_ i).up_ then fe f.conf_ i else (eAt f.edges_ i).it_,u⟩,f.sites_,f.backs_,f.now_,f.conf_⟩
   else if r=1 then ⟨f.edges_,sSet f.sites_ s ⟨bif u&& !(sAt f.sites_ s).up_ then fs f.conf_ s else (sAt f.sites_ s).it_,u⟩,f.backs_,f.now_,f.conf_⟩
   else ⟨f.edges_,f.sites_,bSet f.backs_ s i u,f.now_,f.conf_⟩)
 else (2401,f)
theorem Y16q {f :J0} (hf:Y1n f) (r s i:Int) (u:Bool):Y1n (Yjs f r s i u).2:=by
 unfold Yjs
 cases h:Y3l r s i with
 | false=>exact hf
 | true=>
 rw [cond_true]
 rcases Y5e h with ⟨rfl,rfl,rfl | rfl⟩ | ⟨rfl,rfl | rfl | rfl,rfl⟩ | ⟨rfl,k1,k2⟩
 . have he:Y2w (bif u&& !f.edges_.1.up_ then fe f.conf_ 0 else f.edges_.1.it_)/\(bif u&& !f.edges_.1.up_ then fe f.conf_ 0 else f.edges_.1.it_).Id=0:=by
     cases (u&& !f.edges_.1.up_) with
     | true=>exact ⟨Yil hf.conf (by decide),rfl⟩
     | false=>exact ⟨hf.e0,hf.i0⟩
   exact ⟨he.1,hf.e1,he.2,hf.i1,hf.s0,hf.s1,hf.s2,hf.j0,hf.j1,hf.j2,hf.now,hf.conf⟩
 . have he:Y2w (bif u&& !f.edges_.2.up_ then fe f.conf_ 1 else f.edges_.2.it_)/\(bif u&& !f.edges_.2.up_ then fe f.conf_ 1 else f.edges_.2.it_).Id=1:=by
     cases (u&& !f.edges_.2.up_) with
     | true=>exact ⟨Yil hf.conf (by decide),rfl⟩
     | false=>exact ⟨hf.e1,hf.i1⟩
   exact ⟨hf.e0,he.1,hf.i0,he.2,hf.s0,hf.s1,hf.s2,hf.j0,hf.j1,hf.j2,hf.now,hf.conf⟩
 . have he:Y1x (bif u&& !f.sites_.1.up_ then fs f.conf_ 0 else f.sites_.1.it_)/\(bif u&& !f.sites_.1.up_ then fs f.conf_ 0 else f.sites_.1.it_).Id=0:=by
     cases (u&& !f.sites_.1.up_) with
     | true=>exact ⟨(Y42 _).1 (Ycq hf.conf (by decide)),rfl⟩
     | false=>exact ⟨hf.s0,hf.j0⟩
   exact ⟨hf.e0,hf.e1,hf.i0,hf.i1,he.1,hf.s1,hf.s2,he.2,hf.j1,hf.j2,hf.now,hf.conf⟩
 . have he:Y1x (bif u&& !f.sites_.2.1.up_ then fs f.conf_ 1 else f.sites_.2.1.it_)/\(bif u&& !f.sites_.2.1.up_ then fs f.conf_ 1 else f.sites_.2.1.it_).Id=1:=by
     cases (u&& !f.sites_.2.1.up_) with
     | true=>exact ⟨(Y42 _).1 (Ycq hf.conf (by decide)),rfl⟩
     | false=>exact ⟨hf.s1,hf.j1⟩
   exact ⟨hf.e0,hf.e1,hf.i0,hf.i1,hf.s0,he.1,hf.s2,hf.j0,he.2,hf.j2,hf.now,hf.conf⟩
 . have he:Y1x (bif u&& !f.sites_.2.2.up_ then fs f.conf_ 2 else f.sites_.2.2.it_)/\(bif u&& !f.sites_.2.2.up_ then fs f.conf_ 2 else f.sites_.2.2.it_).Id=2:=by
     cases (u&& !f.sites_.2.2.up_) with
     | true=>exact ⟨(Y42 _).1 (Ycq hf.conf (by decide)),rfl⟩
     | false=>exact ⟨hf.s2,hf.j2⟩
   exact ⟨hf.e0,hf.e1,hf.i0,hf.i1,hf.s0,hf.s1,he.1,hf.j0,hf.j1,he.2,hf.now,hf.conf⟩
 . rw [if_neg (by decide),if_neg (by decide)]
   exact ⟨hf.e0,hf.e1,hf.i0,hf.i1,hf.s0,hf.s1,hf.s2,hf.j0,hf.j1,hf.j2,hf.now,hf.conf⟩
theorem Y16r {f :J0} (hf:Y1n f) (r s i:Int) (u:Bool):Jk 281474976710656 f r s i u=some (Yjs f r s i u):=by
 unfold Jk Yjs
 refine stB (Yei f r s i) ?_
 cases h:Y3l r s i with
 | false=>rfl
 | true=>
 refine Yj ?_
 have hc:=hf.conf
 obtain ⟨⟨⟨a0,u0⟩,⟨a1,u1⟩⟩,⟨⟨n0,v0⟩,⟨n1,v1⟩,⟨n2,v2⟩⟩,b,now,c⟩:=f
 rw [cond_true]
 rcases Y5e h with ⟨rfl,rfl,rfl | rfl⟩ | ⟨rfl,rfl | rfl | rfl,rfl⟩ | ⟨rfl,k1,k2⟩
 . have:=Y96 (i:=0) hc (by decide)
   refine Ys rfl (Ys rfl ?_)
   unfold J5r J5s J2z
   cases u <;> cases u0 <;> first | rfl | exact stB (Yq (Yq (stB (stB this rfl) rfl))) rfl
 . have:=Y96 (i:=1) hc (by decide)
   refine Ys rfl (Yo (by decide) (Yd rfl ?_))
   unfold J5t J5u J2z
   cases u <;> cases u1 <;> first | rfl | exact stB (Yq (Yq (stB (stB this rfl) rfl))) rfl
 . have:=Y6e (i:=0) hc (by decide)
   refine Yo (by decide) (Ys rfl (Ys rfl ?_))
   unfold J5v J5w J18
   cases u <;> cases v0 <;> first | rfl | exact stB (Yq (Yq (stB (stB this rfl) rfl))) rfl
 . have:=Y6e (i:=1) hc (by decide)
   refine Yo (by decide) (Ys rfl (Yo (by decide) (Ys rfl ?_)))
   unfold J5x J5y J18
   cases u <;> cases v1 <;> first | rfl | exact stB (Yq (Yq (stB (stB this rfl) rfl))) rfl
 . have:=Y6e (i:=2) hc (by decide)
   refine Yo (by decide) (Ys rfl (Yo (by decide) (Yo (by decide) (Yd rfl ?_))))
   unfold J5z J60 J18
   cases u <;> cases v2 <;> first | rfl | exact stB (Yq (Yq (stB (stB this rfl) rfl))) rfl
 . refine Yo (by decide) (Yo (by decide) ?_)
   rcases k1 with rfl | rfl | rfl <;> rcases k2 with rfl | rfl | rfl | rfl <;> rfl
def Y1bz (e :Yp) (c:Y7):Yp:=⟨e.Id,c,e.Health,e.Flows⟩
def Y1c0 (n :Ya) (c:Y7):Ya:=⟨n.Id,c,n.Health,n.Seen,n.Flows,n.Serial⟩
def Ycs (c :Y7) (f:J0) (i:Int):J0:=bif (eAt f.edges_ i).up_ then setE f i (Y1bz (eAt f.edges_ i).it_ c) else f
def Y88 (c :Y7) (f:J0) (i:Int):J0:=bif (sAt f.sites_ i).up_ then setS f i (Y1c0 (sAt f.sites_ i).it_ c) else f
theorem Yrm {c :Y7} (hc:Y14 c=true) {f:J0} (h:Y1n f) {i:Int} (hi:i=0\/i=1):Y1n (Ycs c f i):=by
 have q:=h.eAt hi
 unfold Ycs
 cases (eAt f.edges_ i).up_ with
 | true=>exact h.setE hi ⟨q.1.pin,q.1.id,hc,q.1.hs,q.1.cache⟩ q.2
 | false=>exact h
theorem Yjt {c :Y7} (hc:Y14 c=true) {f:J0} (h:Y1n f) {i:Int} (hi:i=0\/i=1\/i=2):Y1n (Y88 c f i):=by
 have q:=h.sAt hi
 unfold Y88
 cases (sAt f.sites_ i).up_ with
 | true=>exact h.setS hi ⟨q.1.away,q.1.here,q.1.serial,hc,q.1.id,q.1.hs,q.1.view,q.1.cache⟩ q.2
 | false=>exact h
def Yue (f :J0) (c:Y7):J0:=⟨f.edges_,f.sites_,f.backs_,f.now_,c⟩
def cfgF (f :J0) (c:Y7):J0:=Y88 c (Y88 c (Y88 c (Ycs c (Ycs c (Yue f c) 0) 1) 0) 1) 2
theorem Y16s {f :J0} (h:Y1n f) {c:Y7} (hc:Y14 c=true):Y1n (cfgF f c):=
 Yjt hc (Yjt hc (Yjt hc (Yrm hc (Yrm hc (f:=Yue f c) ⟨h.e0,h.e1,h.i0,h.i1,h.s0,h.s1,h.s2,h.j0,h.j1,h.j2,h.now,hc⟩ (.inl rfl)) (.inr rfl)) (.inl rfl)) (.inr (.inl rfl))) (.inr (.inr rfl))
theorem Y1c2 {c :Y7} (hc:Y14 c=true) (f:J0):J92 281474976710656 f c.Version c.Sites=some (Ycs c (Ycs c f 0) 1):=by
 have hcp:=Ycp hc
 obtain ⟨⟨⟨a0,u0⟩,⟨a1,u1⟩⟩,ss,b,now,d⟩:=f
 have s0:∀ k,Jw 281474976710656 (k+1) ⟨(⟨a0,u0⟩,⟨a1,u1⟩),ss,b,now,d⟩ c.Version c.Sites 2 0=Jw 281474976710656 k (Ycs c ⟨(⟨a0,u0⟩,⟨a1,u1⟩),ss,b,now,d⟩ 0) c.Version c.Sites 2 1:=by
   intro k
   rw [Jw]
   unfold J39 Jb5
   cases u0 with
   | true=>exact Ym (by decide) (Ys rfl (Yq (stB (stB hcp rfl) rfl)))
   | false=>exact Ym (by decide) (Ys rfl (Yn rfl))
 have s1:∀ (y:Y1i) k,Jw 281474976710656 (k+1) ⟨(y,⟨a1,u1⟩),ss,b,now,d⟩ c.Version c.Sites 2 1=Jw 281474976710656 k (Ycs c ⟨(y,⟨a1,u1⟩),ss,b,now,d⟩ 1) c.Version c.Sites 2 2:=by
   intro y k
   rw [Jw]
   unfold J39 Jb6
   cases u1 with
   | true=>exact Ym (by decide) (Yo (by decide) (Yd rfl (Yq (stB (stB hcp rfl) rfl))))
   | false=>exact Ym (by decide) (Yo (by decide) (Yd rfl (Yn rfl)))
 have hz:∃ y,Ycs c ⟨(⟨a0,u0⟩,⟨a1,u1⟩),ss,b,now,d⟩ 0=⟨(y,⟨a1,u1⟩),ss,b,now,d⟩:=by cases u0 <;> exact ⟨_,rfl⟩
 obtain ⟨y,hy⟩:=hz
 unfold J92
 refine (s0 281474976710655).trans ?_
 rw [hy]
 refine (s1 y 281474976710654).trans ?_
 rw [show (281474976710654:Nat)=281474976710653+1 from rfl,Jw]
 exact Yu (by decide) rfl
theorem Y1c3 {c :Y7} (hc:Y14 c=true) (f:J0):J93 281474976710656 f c.Version c.Sites=some (Y88 c (Y88 c (Y88 c f 0) 1) 2):=by
 have hcp:=Ycp hc
 obtain ⟨es,⟨⟨n0,v0⟩,⟨n1,v1⟩,⟨n2,v2⟩⟩,b,now,d⟩:=f
 have s0:∀ (y z:Y1e) k,Je 281474976710656 (k+1) ⟨es,(⟨n0,v0⟩,y,z),b,now,d⟩ c.Version c.Sites 3 0=Je 281474976710656 k (Y88 c ⟨es,(⟨n0,v0⟩,y,z),b,now,d⟩ 0) c.Version c.Sites 3 1:=by
   intro y z k
   rw [Je]
   unfold J1b Jb7
   cases v0 with
   | true=>exact Ym (by decide) (Ys rfl (Yq (stB (stB hcp rfl) rfl)))
   | false=>exact Ym (by decide) (Ys rfl (Yn rfl))
 have s1:∀ (y z:Y1e) k,Je 281474976710656 (k+1) ⟨es,(y,⟨n1,v1⟩,z),b,now,d⟩ c.Version c.Sites 3 1=Je 281474976710656 k (Y88 c ⟨es,(y,⟨n1,v1⟩,z),b,now,d⟩ 1) c.Version c.Sites 3 2:=by
   intro y z k
   rw [Je]
   unfold J1b Jb8
   cases v1 with
   | true=>exact Ym (by decide) (Yo (by decide) (Ys rfl (Yq (stB (stB hcp rfl) rfl))))
   | false=>exact Ym (by decide) (Yo (by decide) (Ys rfl (Yn rfl)))
 have s2:∀ (y z:Y1e) k,Je 281474976710656 (k+1) ⟨es,(y,z,⟨n2,v2⟩),b,now,d⟩ c.Version c.Sites 3 2=Je 281474976710656 k (Y88 c ⟨es,(y,z,⟨n2,v2⟩),b,now,d⟩ 2) c.Version c.Sites 3 3:=by
   intro y z k
   rw [Je]
   unfold J1b Jb9
   cases v2 with
   | true=>exact Ym (by decide) (Yo (by decide) (Yo (by decide) (Yd rfl (Yq (stB (stB hcp rfl) rfl)))))
   | false=>exact Ym (by decide) (Yo (by decide) (Yo (by decide) (Yd rfl (Yn rfl))))
 have hz:∃ y,Y88 c ⟨es,(⟨n0,v0⟩,⟨n1,v1⟩,⟨n2,v2⟩),b,now,d⟩ 0=⟨es,(y,⟨n1,v1⟩,⟨n2,v2⟩),b,now,d⟩:=by cases v0 <;> exact ⟨_,rfl⟩
 obtain ⟨y,hy⟩:=hz
 have hz:∃ z,Y88 c ⟨es,(y,⟨n1,v1⟩,⟨n2,v2⟩),b,now,d⟩ 1=⟨es,(y,z,⟨n2,v2⟩),b,now,d⟩:=by cases v1 <;> exact ⟨_,rfl⟩
 obtain ⟨z,hz⟩:=hz
 unfold J93
 refine (s0 _ _ 281474976710655).trans ?_
 rw [hy]
 refine (s1 y _ 281474976710654).trans ?_
 rw [hz]
 refine (s2 y z 281474976710653).trans ?_
 rw [show (281474976710653:Nat)=281474976710652+1 from rfl,Je]
 exact Yu (by decide) rfl
def Yf9 (old c :Y7):Y7:=if c.Version > old.Version then c else old
def Yfa (f :J0) (c:Y7):Bool× Int× J0:=
 bif Y14 c then (decide (c.Version > f.conf_.Version),0,cfgF f (Yf9 f.conf_ c)) else (false,2400,f)
theorem Ypm {old c :Y7} (h:Y14 old=true) (hc:Y14 c=true):Y14 (Yf9 old c)=true:=by
 unfold Yf9
 split
 . exact hc
 . exact h
theorem Y131 {f :J0} (hf:Y1n f) {c:Y7} (hb:BdC c):J94 281474976710656 f c=some (Yfa f c):=by
 have h1:=Y3h (N:=281474976710656) (by decide) f.conf_ (Yjq hf.conf)
 rw [hf.conf] at h1
 have h2:=Y3h (N:=281474976710656) (by decide) c hb
 unfold J94 Yfa
 cases hc:Y14 c with
 | false=>
   rw [hc] at h2
   refine stB (x:=(⟨0,[]⟩,false,1000)) ?_ (Y2h (show ¬ (1000:Int)=0 by decide) rfl)
   unfold J69 J6a
   exact stB h1 (Yj (stB h2 rfl))
 | true=>
   rw [hc] at h2
   have hn:=Ypm hf.conf hc
   have hnext:J69 281474976710656 f.conf_ c=some (Yf9 f.conf_ c,decide (c.Version > f.conf_.Version),0):=by
     unfold J69 J6a Yf9
     refine stB h1 (Yj (stB h2 (Yn ?_)))
     by_cases a:c.Version > f.conf_.Version
     . rw [if_pos a,decide_eq_true a];exact Yq (stB (Ycp hc) rfl)
     . rw [if_neg a,decide_eq_false a];exact Yn (stB (Ycp hf.conf) rfl)
   exact stB hnext (Y1z rfl (stB (Y1c2 hn (Yue f (Yf9 f.conf_ c))) (stB (Y1c3 hn _) rfl)))
theorem Y132 {f :J0} (hf:Y1n f) (c:Y7):Y1n (Yfa f c).2.2:=by
 unfold Yfa
 cases hc:Y14 c with
 | false=>exact hf
 | true=>exact Y16s hf (Ypm hf.conf hc)
end Go.Proofs.YtpdcnikdoikldaaGreatDoor.Pu
