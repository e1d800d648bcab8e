import Derived.Test.YtpdcnikdoikldaaGreatDoorT14
set_option linter.unusedVariables false
set_option linter.unusedSimpArgs false
namespace Go.Proofs.YtpdcnikdoikldaaGreatDoor.Pu
open Go Go.RowKit Go.Proofs.YtpdcnikdoikldaaGreatDoor.Sv Go.Proofs.YtpdcnikdoikldaaGreatDoor.Lf
inductive Y4g (t :J2):List Y1->Prop
 | nil:Y4g t []
 | one {k to:Int} {f:Y9}:k≠0->k≠11->Y4g t [evT t k to f]
inductive Y6k (t :J2):List Y1->Prop
 | emit {to:Int} {f:Y9}:Y6k t [evT t 0 to f]
 | evict {to go:Int} {f g:Y9}:Y6k t [evT t 11 go g,evT t 0 to f]
theorem Yep (c :Int):Ye8 c≠0/\Ye8 c≠11:=by
 unfold Ye8
 split
 . decide
 . split <;> decide
theorem Y28 (t :J2) {k:Int} (f:Y9) (h:k≠0/\k≠11):Y4g t (Y4o t k f).Events:=.one h.1 h.2
theorem Yl1 (t :J2) (o:Yw) (fl:List Y0) (x:Y0) (flags now:Int):
   (324< o.Body.size/\(Y5u t o fl x flags now).2=Y4o t 6 x.Flow)\/(o.Body.size<=324/\(Y5u t o fl x flags now).2.Sent=[Y13 o]/\Y6k t (Y5u t o fl x flags now).2.Events):=by
 unfold Y5u
 split
 . rename_i c;exact .inl ⟨c,rfl⟩
 . rename_i c
   refine .inr ⟨by omega,rfl,?_⟩
   dsimp only
   cases (Y7t fl (Y7u x flags now)).2.2.1 with
   | true=>exact .evict
   | false=>exact .emit
theorem Yl2 {e :Yp} (h:Y2w e) {now:Int} (hn:Y22 now=true) (s:ByteArray):
   ((Y4e e now s).2.Sent=[]/\Y4g (tE e) (Y4e e now s).2.Events)\/
   (∃ x,(Y4e e now s).2.Sent=[Y13 (Ygg e x s)]/\Y35 (Ygg e x s)=true/\s.size<=324/\(0<=x.To/\x.To< 3)/\(ofF s).2.2=0/\Y6k (tE e) (Y4e e now s).2.Events):=by
 unfold Y4e
 by_cases hc:(ofF s).2.2=0
 case neg=>
   rw [show ((ofF s).2.2 != 0)=true from bne_iff_ne.2 hc]
   exact .inl ⟨rfl,Y28 _ _ (Yep _)⟩
 obtain ⟨f1,f2⟩:=Ybl hc
 rw [show ((ofF s).2.2 != 0)=false by rw [hc];rfl,cond_false]
 have hfit:=fun q=>Yeh (now:=now) h f1 q
 generalize Y5p e now (ofF s).1=x at*
 cases he:x.2 with
 | false=>exact .inl ⟨rfl,Y28 _ _ (by decide)⟩
 | true=>
   have hx:=hfit he
   rw [Bool.not_true,cond_false]
   dsimp only
   rcases Yl1 (tE e) (Ygg e x.1 s) e.Flows x.1 (ofF s).2.1.Flags now with ⟨a,b⟩ | ⟨a,b,c⟩
   . rw [b];exact .inl ⟨rfl,Y28 _ _ (by decide)⟩
   . exact .inr ⟨x.1,b,Yp7 h hx (Yp8 hc),a,hx.to_,hc,c⟩
theorem Yuh {n :Ya} {e:Y0} (h:Y8m n e true=true):e.Away=false:=by
 unfold Y8m at h
 cases ha:e.Away with
 | false=>rfl
 | true=>rw [ha] at h;cases h
theorem Yz2 {n :Ya} (now:Int) (f:Y9) (hp:(Y4r n now f true).2=true):(Y4r n now f true).1.Away=false:=by
 unfold Y4r at hp ⊢
 cases hq:(Y2o n.Flows f now).2&&Y8m n (Y2o n.Flows f now).1 true with
 | true=>
   rw [Bool.and_eq_true] at hq
   exact Yuh hq.2
 | false=>rfl
theorem Yeq {n :Ya} (h:Y1x n) {now:Int} (hn:Y22 now=true) (s:ByteArray):
   ((Y3j n now s).2.Sent=[]/\Y4g (tN n) (Y3j n now s).2.Events)\/
   (∃ (e:Y0) (i:ByteArray),(Y3j n now s).2.Sent=[Y13 (Y6x n.Id e s i)]/\Y35 (Y6x n.Id e s i)=true/\(Y6x n.Id e s i).Body.size<=324/\Ylp n (ofF i).1 e/\0<=e.To/\
     ((Yl s).1.Tier=2->e.Away=false)/\(Yl s).2=0/\Y1w n.Id (Yl s).1=(i,true)/\(ofF i).2.2=0/\Y6k (tN n) (Y3j n now s).2.Events):=by
 have hpm:=@Ygi s
 unfold Y3j
 cases c1:(((Yl s).2 != 0)||((Yl s).1.Dst != 167903232+n.Id)) with
 | true=>exact .inl ⟨rfl,Y28 _ _ (by decide)⟩
 | false=>
 rw [Bool.or_eq_false_iff,bne_eq_false_iff_eq,bne_eq_false_iff_eq] at c1
 obtain ⟨hm,hs,hz⟩:=hpm c1.1
 rw [cond_false]
 cases ((Yl s).1.Tier==4) with
 | true=>
   rw [cond_true]
   unfold Y8d
   cases (((Y2x (Yl s).1.Body).2 != 0)||(!((Yl s).1.Src==167903232+(Y2x (Yl s).1.Body).1.Site)||((Y2x (Yl s).1.Body).1.Site==n.Id))) with
   | true=>exact .inl ⟨rfl,Y28 _ _ (by decide)⟩
   | false=>
     cases (Y6d n.Seen (Y2x (Yl s).1.Body).1 now).2 with
     | true=>exact .inl ⟨rfl,.one (by decide) (by decide)⟩
     | false=>exact .inl ⟨rfl,.nil⟩
 | false=>
 rw [cond_false]
 have hiz:=Yfj (id:=n.Id) (Y5a hm).2.2.2.2.2.2
 cases hi:Y1w n.Id (Yl s).1 with
 | mk i b=>
 rw [hi] at hiz
 cases b with
 | false=>exact .inl ⟨rfl,Y28 _ _ (by decide)⟩
 | true=>
 rw [Bool.not_true,cond_false]
 dsimp only at hiz ⊢
 have hof:=@Ybl i
 by_cases k:(ofF i).2.2=0
 case neg=>
   rw [show ((ofF i).2.2 != 0)=true from bne_iff_ne.2 k]
   exact .inl ⟨rfl,Y28 _ _ (Yep _)⟩
 obtain ⟨f1,f2⟩:=hof k
 rw [show ((ofF i).2.2 != 0)=false by rw [k];rfl,cond_false]
 have hfit:=fun q=>Yee (now:=now) (spill:=((Yl s).1.Tier==2)) h f1 q
 have hsp:(Y4r n now (ofF i).1 ((Yl s).1.Tier==2)).2=true->(Yl s).1.Tier=2->(Y4r n now (ofF i).1 ((Yl s).1.Tier==2)).1.Away=false:=by
   intro q t
   rw [show ((Yl s).1.Tier==2)=true from beq_iff_eq.2 t] at q ⊢
   exact Yz2 now _ q
 generalize Y4r n now (ofF i).1 ((Yl s).1.Tier==2)=e at*
 cases he:e.2 with
 | false=>exact .inl ⟨rfl,Y28 _ _ (by decide)⟩
 | true=>
 have hx:=hfit he
 rw [Bool.not_true,cond_false]
 dsimp only
 rcases Yl1 (tN n) (Y6x n.Id e.1 s i) n.Flows e.1 (ofF i).2.1.Flags now with ⟨a,b⟩ | ⟨a,b,c⟩
 . rw [b];exact .inl ⟨rfl,Y28 _ _ (by decide)⟩
 . exact .inr ⟨e.1,i,b,Ykq h hx (by omega) hiz,a,hx,(Y44 hx.ok).2.1.1,hsp he,c1.1,rfl,k,c⟩
theorem Yl3 (site id :Int) (s:ByteArray):(Y3m site id s).2.Sent=[]/\Y4g (tB site id) (Y3m site id s).2.Events:=by
 unfold Y3m
 cases (((Yl s).2 != 0)||(((Yl s).1.Dst != 167968768+256*site+id)||(((Yl s).1.Src != 167903232+site)||(((Yl s).1.Tier != 3)||(((Yl s).1.Marker != 0)||((Yl s).1.Origin != 0)))))) with
 | true=>exact ⟨rfl,Y28 _ _ (by decide)⟩
 | false=>
 cases ((ofF (Yl s).1.Body).2.2 != 0) with
 | true=>exact ⟨rfl,Y28 _ _ (Yep _)⟩
 | false=>exact ⟨rfl,.one (by decide) (by decide)⟩
theorem Yiu {f :J0} {r s i:Int} (h:upF f r s i=false) (t:ByteArray):Y10 f r s i t=(Y4o ⟨r,s,i⟩ 9 zF,f):=by unfold Y10;rw [h];rfl
theorem Yui {f :J0} {s i:Int} (h:upF f 1 s i=true) (t:ByteArray):Y10 f 1 s i t=((Y3j (sAt f.sites_ s).it_ f.now_ t).2,setS f s (Y3j (sAt f.sites_ s).it_ f.now_ t).1):=by unfold Y10;rw [h];rfl
theorem Yuj {f :J0} {s i:Int} (h:upF f 2 s i=true) (t:ByteArray):Y10 f 2 s i t=(bif !((Y3m s i t).1.toList==ByteArray.empty.toList) then ⟨[(Y3m s i t).1],(Y3m s i t).2.Events⟩ else (Y3m s i t).2,f):=by unfold Y10;rw [h];rfl
theorem Yl4 {o :Yw} (h:Y35 o=true) (hz:o.Body.size<=324):(Y16 (Y13 o)).1.Dst=o.Dst:=by
 unfold Y13
 rw [Y15o (Ykf h hz)]
 rfl
theorem Ycu {w :J1} (hnet:w.net_.row_=[]) (f:J0) {r:Int} (hr:r≠2) (s i:Int) {o:Y1c} (hs:o.Sent=[]\/∃ x,o.Sent=[x]) (h:w.trace_.length+o.Events.length<=4096):Y3k w f r s i o=⟨f,⟨o.Sent⟩,w.trace_++o.Events,w.got_⟩:=by
 unfold Y3k
 rw [if_neg hr,Yin h,hnet]
 rcases hs with hs | ⟨x,hs⟩ <;> rw [hs] <;> rfl
theorem Yiv (w :J1) (f:J0) (s i:Int) {o:Y1c} (h:w.trace_.length+o.Events.length<=4096):Y3k w f 2 s i o=⟨f,w.net_,w.trace_++o.Events,w.got_++o.Sent.take (4096 - w.got_.length)⟩:=by
 unfold Y3k
 rw [if_pos rfl,Yin h]
theorem Yjw {f :J0} (hf:Y1n f) {r s i:Int} (h:Y3l r s i=true) (hr:r≠2) (t:ByteArray):(Y10 f r s i t).1.Sent=[]\/∃ x,(Y10 f r s i t).1.Sent=[x]:=by
 unfold Y10
 cases hu:upF f r s i with
 | false=>exact .inl rfl
 | true=>
 rw [Bool.not_true,cond_false]
 rcases Y5e h with ⟨rfl,rfl,k⟩ | ⟨rfl,k,rfl⟩ | ⟨rfl,k1,k2⟩
 . rw [if_pos rfl]
   rcases Yl2 (hf.eAt k).1 hf.now t with q | ⟨x,q,_⟩
   . exact .inl q.1
   . exact .inr ⟨_,q⟩
 . rw [if_neg (by decide),if_pos rfl]
   rcases Yeq (hf.sAt k).1 hf.now t with q | ⟨x,i,q,_⟩
   . exact .inl q.1
   . exact .inr ⟨_,q⟩
 . exact absurd rfl hr
theorem Yz3 {w :J1} (hw:WOk w) (hnet:w.net_.row_=[]) (ht:w.trace_.length+2<=4096) {o:Yw} (h:Y35 o=true) (hz:o.Body.size<=324) {j:Int} (hj:j=0\/j=1\/j=2) (hd:o.Dst=167903232+j):
   Y6z w (Y13 o)=⟨(Y10 w.fabric_ 1 j 0 (Y13 o)).2,⟨(Y10 w.fabric_ 1 j 0 (Y13 o)).1.Sent⟩,w.trace_++(Y10 w.fabric_ 1 j 0 (Y13 o)).1.Events,w.got_⟩:=by
 have hb:=Yim (.inr (.inl ⟨rfl,hj,rfl⟩):Has 1 j 0)
 have hsm:=Y73 w.fabric_ 1 j 0 (Y13 o)
 unfold Y6z Y4z
 rw [Yl4 h hz,hd,Y12m (by omega)]
 dsimp only
 rw [hb]
 have:=hsm.ev
 exact Ycu hnet _ (r:=1) (by decide) j 0 (Yjw hw.fab hb (by decide) (Y13 o)) (by omega)
theorem whoB {id b :Int} (h:0<=id/\id< 3) (hb:0<=b/\b< 4):Y2a (167968768+256*id+b)=(2,id,b,true):=by
 unfold Y2a
 rw [if_neg (by omega),if_neg (by omega),if_pos (by omega),show (167968768+256*id+b - 167968768) / 256=id by omega,show (167968768+256*id+b - 167968768) % 256=b by omega]
theorem Yz4 {w :J1} (hw:WOk w) (ht:w.trace_.length+2<=4096) {o:Yw} (h:Y35 o=true) (hz:o.Body.size<=324) {j b:Int} (hj:j=0\/j=1\/j=2) (hb:b=0\/b=1\/b=2\/b=3) (hd:o.Dst=167968768+256*j+b):
   Y6z w (Y13 o)=⟨(Y10 w.fabric_ 2 j b (Y13 o)).2,w.net_,w.trace_++(Y10 w.fabric_ 2 j b (Y13 o)).1.Events,w.got_++(Y10 w.fabric_ 2 j b (Y13 o)).1.Sent.take (4096 - w.got_.length)⟩:=by
 have hh:=Yim (.inr (.inr ⟨rfl,hj,hb⟩):Has 2 j b)
 have hsm:=Y73 w.fabric_ 2 j b (Y13 o)
 unfold Y6z Y4z
 rw [Yl4 h hz,hd,whoB (by omega) (by omega)]
 dsimp only
 rw [hh]
 have:=hsm.ev
 exact Yiv w _ j b (by omega)
end Go.Proofs.YtpdcnikdoikldaaGreatDoor.Pu
