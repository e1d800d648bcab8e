import Derived.Test.YtpdcnikdoikldaaGreatDoorSvL
set_option linter.unusedVariables false
set_option linter.unusedSimpArgs false
namespace Go.Proofs.YtpdcnikdoikldaaGreatDoor.Sv
open Go Go.RowKit
theorem Ych {l :List Nat} {n k i:Nat} (h:idx l k n=some i):k<=i/\l[i - k]? =some n:=by
 induction l generalizing k with
 | nil=>simp [idx] at h
 | cons x l ih=>
   simp only [idx] at h
   cases hx:Nat.beq x n with
   | true=>
     rw [hx] at h
     simp only [cond_true,Option.some.injEq] at h
     subst h
     exact ⟨Nat.le_refl _,by simp [Nat.eq_of_beq_eq_true hx]⟩
   | false=>
     rw [hx] at h
     obtain ⟨h1,h2⟩:=ih (k:=k+1) (by simpa using h)
     refine ⟨by omega,?_⟩
     rw [show i - k=(i - (k+1))+1 by omega]
     simpa using h2
theorem Yci {l :List Nat} {n k:Nat} (h:(idx l k n).isNone=true):n ∉ l:=by
 induction l generalizing k with
 | nil=>simp
 | cons x l ih=>
   simp only [idx] at h
   cases hx:Nat.beq x n with
   | true=>rw [hx] at h;simp at h
   | false=>
     rw [hx] at h
     have h1:=ih (k:=k+1) (by simpa using h)
     intro hm
     rcases List.mem_cons.1 hm with rfl | hm
     . rw [Nat.beq_refl] at hx;simp at hx
     . exact h1 hm
theorem Y9e {l :List Nat} (h:Y3k l=true) {i j n:Nat} (hi:l[i]? =some n) (hj:l[j]? =some n):i=j:=by
 induction l generalizing i j with
 | nil=>simp at hi
 | cons x l ih=>
   simp only [Y3k,Bool.and_eq_true] at h
   have hx:=Yci h.1
   cases i with
   | zero=>
     cases j with
     | zero=>rfl
     | succ j=>
       simp only [List.getElem?_cons_zero,Option.some.injEq,List.getElem?_cons_succ] at hi hj
       subst hi
       exact absurd (List.mem_of_getElem? hj) hx
   | succ i=>
     cases j with
     | zero=>
       simp only [List.getElem?_cons_zero,Option.some.injEq,List.getElem?_cons_succ] at hi hj
       subst hj
       exact absurd (List.mem_of_getElem? hi) hx
     | succ j=>simp only [List.getElem?_cons_succ] at hi hj;rw [ih h.2 hi hj]
def Y2m (J :List Nat) (I:Env):Env:=fun k=>match J[k]? with | some b=>I b | none=>none
theorem Ywk (I :Env):Y2m [] I=Y1h:=by funext k;simp [Y2m,Y1h]
def Lent (av :List Nat) (I:Env) (s:St) (B:Nat):Prop:=∃ b k base sz lim,b ∉ av/\s.slot b=some (some k)/\I b=some (.at_ B base sz lim)
def boL (bo :Nat->Prop) (av:List Nat) (I:Env) (s:St) (t:Bool):Nat->Prop:=fun B=>bo B\/(t=true/\Lent av I s B)
section
variable {P : Program} {ty : Ty} {n : Nat} {w0 : World} {S im0 bo im : Nat -> Prop} {V I : Env} {s : St} {a : Act} {w : World}
theorem Yjv {av :List Nat} {t u:Bool}:∀ B,boL bo av I s t B->boL bo av I s (t||u) B:=fun B h=>h.imp id fun ⟨a,b⟩=>⟨by simp [a],b⟩
theorem Yfi {av :List Nat} {t u:Bool}:∀ B,boL bo av I s u B->boL bo av I s (t||u) B:=fun B h=>h.imp id fun ⟨a,b⟩=>⟨by simp [a],b⟩
theorem Y178 {av :List Nat} {t:Bool}:∀ B,boL bo av I s t B->boL bo av I s true B:=fun B h=>h.imp id fun ⟨a,b⟩=>⟨rfl,b⟩
theorem R.lend {d :D} {v:Value} {bo':Nat->Prop} {Qa:Env} (h:R im w bo I d v) (hb:∀ B,bo B->bo' B) (hp:∀ b p,I b=some p->Qa b=some p):R im w bo' Qa d v:=h.mono (fun _ h=>h) (fun _ _=>rfl) hb hp
theorem Rs.lend {ds :List D} {vs:List Value} {bo':Nat->Prop} {Qa:Env} (h:Rs im w bo I ds vs) (hb:∀ B,bo B->bo' B) (hp:∀ b p,I b=some p->Qa b=some p):Rs im w bo' Qa ds vs:=h.mono (fun _ h=>h) (fun _ _=>rfl) hb hp
theorem Yrr {off B base sz lim :Nat} {blk:Blk} {cs:List D} {bo':Nat->Prop} {Qa:Env} (hat:Y49 im bo I w blk (.at_ B base sz lim)) (hB:bo' B)
   (hc:∀ vs,Rs im w (if blk.pure then noB else bo) (if blk.pure then Y1h else I) blk.cs vs->Rs im w bo' Y1h cs vs) (hl:cs.length=blk.cs.length):R im w bo' Qa (.ip false (cs.drop off)) (.pointer (some ⟨B,base+off,none⟩)):=by
 obtain ⟨c,el,fz,k1,k2,k3,k4,k5,k7,k6⟩:=hat
 have h1:=(hc _ k6).drop off
 have h2:=k7.drop off
 rw [Yfh] at h1 h2
 have e:blk.cs.length - off=(cs.drop off).length:=by rw [List.length_drop,hl]
 rw [e] at h1 h2
 exact .ip (.inr ⟨rfl,hB⟩) k1 rfl h2 (by simpa using h1)
mutual
theorem Y118 (hr :Rel n w0 S im0 bo V im I s a w) {J av:List Nat} (hρ:∀ b,b∈J->b∈av):∀ (fuel:Nat) {d d':D} {t:Bool} {v:Value} {l:Log},hand J av fuel d s=some ((d',t),l)->l.ok->R im w bo I d v->R im w (boL bo av I s t) (Y2m J I) d' v
 | 0,d,d',t,v,l,h,ho,hv=>(M.fail_eq (s:=s) h).elim
 | fuel+1,d,d',t,v,l,h,ho,hv=>by
   have keep:∀ {d:D} {v:Value},R im w bo I d v->(∀ {bo':Nat->Prop} {Qa:Env},(∀ B,bo B->bo' B)->R im w bo' Qa d v)->M.pure (d,false) s=some ((d',t),l)->R im w (boL bo av I s t) (Y2m J I) d' v:=by
     intro d v _ hk h
     have e:=Y8 (s:=s) h
     simp only [Prod.mk.injEq] at e
     obtain ⟨rfl,rfl⟩:=e
     exact hk (fun B hB=>.inl hB)
   cases d with
   | undef=>exact keep hv (fun _=>.undef _) h
   | bool x=>cases hv;exact keep (.bool _) (fun _=>.bool _) h
   | int k x=>cases hv;exact keep (.int _ _) (fun _=>.int _ _) h
   | str x=>cases hv;exact keep (.str _) (fun _=>.str _) h
   | nilp=>cases hv;exact keep .nilp (fun _=>.nilp) h
   | nils=>cases hv;exact keep .nils (fun _=>.nils) h
   | z0=>cases hv;exact keep (.z0 _) (fun _=>.z0 _) h
   | e0=>cases hv;exact keep (.e0 _ _) (fun _=>.e0 _ _) h
   | nilf=>cases hv;exact keep .nilf (fun _=>.nilf) h
   | ip g cs=>
     refine keep hv (fun hb=> ?_) h
     cases hv with
     | ip k1 k2 k3 ko k4=>exact .ip (k1.imp id fun ⟨a,b⟩=>⟨a,hb _ b⟩) k2 k3 ko (k4.lend (fun B hB=>by cases g <;> simp_all [noB]) (fun _ _ h=>h))
   | sl g cs len cap=>
     refine keep hv (fun hb=> ?_) h
     cases hv with
     | sl0 a c hac=>exact .sl0 a c hac
     | sl k1 k2 k3 k4 ko k5=>exact .sl (k1.imp id fun ⟨a,b⟩=>⟨a,hb _ b⟩) k2 k3 k4 ko (k5.lend (fun B hB=>by cases g <;> simp_all [noB]) (fun _ _ h=>h))
   | tup cs=>exact (M.fail_eq (s:=s) h).elim
   | agg cs=>
     obtain ⟨vs,rfl,hvs,hon⟩:=Rs.toArr hv
     obtain ⟨⟨r,t'⟩,l1,l2,h1,h2,ho1,ho2⟩:=M.bindO (show (hands J av fuel cs >>= fun x=>M.pure (D.agg x.1,x.2)) s=_ from h) ho
     have e:=Y8 (s:=s) h2
     simp only [Prod.mk.injEq] at e
     obtain ⟨rfl,rfl⟩:=e
     exact .agg hon (Y65 hr hρ fuel h1 ho1 hvs)
   | fn f cs=>
     cases hv with
     | fn hvs=>
       obtain ⟨⟨r,t'⟩,l1,l2,h1,h2,ho1,ho2⟩:=M.bindO (show (hands J av fuel cs >>= fun x=>M.pure (D.fn f x.1,x.2)) s=_ from h) ho
       have e:=Y8 (s:=s) h2
       simp only [Prod.mk.injEq] at e
       obtain ⟨rfl,rfl⟩:=e
       exact .fn (Y65 hr hρ fuel h1 ho1 hvs)
   | chan b=>
     cases hv with
     | chan hp=>
     change (match idx J 0 b with
       | some k=>M.pure (D.chan k,false)
       | none=>(M.fail:M (D× Bool))) s=_ at h
     cases hi:idx J 0 b with
     | none=>rw [hi] at h;exact (M.fail_eq (s:=s) h).elim
     | some k=>
       rw [hi] at h
       have e:=Y8 (s:=s) h
       simp only [Prod.mk.injEq] at e
       obtain ⟨rfl,rfl⟩:=e
       obtain ⟨_,hk⟩:=Ych hi
       have he:Y2m J I k=I b:=by
         simp only [Y2m]
         rw [show J[k]? =some b from hk]
       exact .chan (he.trans hp)
   | pn b=>
     change (match idx J 0 b with
       | some k=>M.pure (D.pn k,false)
       | none=>(M.fail:M (D× Bool))) s=_ at h
     cases hi:idx J 0 b with
     | none=>rw [hi] at h;exact (M.fail_eq (s:=s) h).elim
     | some k=>
       rw [hi] at h
       have e:=Y8 (s:=s) h
       simp only [Prod.mk.injEq] at e
       obtain ⟨rfl,rfl⟩:=e
       obtain ⟨_,hk⟩:=Ych hi
       have he:Y2m J I k=I b:=by
         simp only [Y2m]
         rw [show J[k]? =some b from hk]
       cases hv with
       | pn0=>exact .pn0
       | pn hp=>exact .pn (he.trans hp)
   | ptr b off=>
     cases hv with
     | ptr hp=>
     rename_i B base sz lim
     change (match idx J 0 b with
       | some k=>M.pure (D.ptr k off,false)
       | none=>(do
         test (idx av 0 b).isNone
         match <- getH b with
         | some (some blk)=>(match blk.pure with
           | true=>M.pure (D.ip false (blk.cs.drop off),true)
           | false=>do let (r,_) <- hands [] av fuel blk.cs;M.pure (D.ip false (r.drop off),true))
         | _=>M.fail:M (D× Bool))) s=_ at h
     cases hi:idx J 0 b with
     | some k=>
       rw [hi] at h
       have e:=Y8 (s:=s) h
       simp only [Prod.mk.injEq] at e
       obtain ⟨rfl,rfl⟩:=e
       obtain ⟨_,hk⟩:=Ych hi
       have he:Y2m J I k=I b:=by
         simp only [Y2m]
         rw [show J[k]? =some b from hk]
       exact .ptr (he.trans hp)
     | none=>
       rw [hi] at h
       obtain ⟨hav,l1,h1,ho1⟩:=Yl h ho
       obtain ⟨l2,h2,ho2⟩:=Y2e h1 ho1
       cases hs:s.slot b with
       | none=>rw [hs] at h2;exact (M.fail_eq (s:=s) h2).elim
       | some y=>
       cases y with
       | none=>rw [hs] at h2;exact (M.fail_eq (s:=s) h2).elim
       | some blk=>
       rw [hs] at h2
       have hat:=Y5r hr hs hp
       have hlent:boL bo av I s true B:=.inr ⟨rfl,b,blk,base,sz,lim,Yci hav,hs,hp⟩
       cases hpu:blk.pure with
       | true=>
         simp only [hpu] at h2
         have e:=Y8 (s:=s) h2
         simp only [Prod.mk.injEq] at e
         obtain ⟨rfl,rfl⟩:=e
         refine Yrr hat hlent (fun vs k=> ?_) rfl
         simp only [hpu,if_true] at k
         exact k.lend (fun _ h=>h.elim) (fun _ _ h=>h)
       | false=>
         simp only [hpu] at h2
         obtain ⟨⟨r,t'⟩,l3,l4,h3,h4,ho3,ho4⟩:=M.bindO (show (hands [] av fuel blk.cs >>= fun x=>M.pure (D.ip false (x.1.drop off),true)) s=_ from h2) ho2
         have e:=Y8 (s:=s) h4
         simp only [Prod.mk.injEq] at e
         obtain ⟨rfl,rfl⟩:=e
         have hl:r.length=blk.cs.length:=by
           obtain ⟨c,el,fz,k1,k2,k3,k4,k5,k7,k6⟩:=hat
           simp only [hpu,Bool.false_eq_true,if_false] at k6
           have:=Y65 hr (by simp) fuel h3 ho3 k6
           exact this.length.trans k6.length.symm
         refine Yrr hat hlent (fun vs k=> ?_) hl
         simp only [hpu,Bool.false_eq_true,if_false] at k
         have:=Y65 hr (by simp) fuel h3 ho3 k
         rw [Ywk] at this
         exact this.lend Y178 (fun _ _ h=>h)
   | ref b off len cap=>
     change (match idx J 0 b with
       | some k=>M.pure (D.ref k off len cap,false)
       | none=>(do test (idx av 0 b).isNone;let cs <- rowFrom b off;M.pure (D.sl false cs len cap,true):M (D× Bool))) s=_ at h
     cases hi:idx J 0 b with
     | some k=>
       rw [hi] at h
       have e:=Y8 (s:=s) h
       simp only [Prod.mk.injEq] at e
       obtain ⟨rfl,rfl⟩:=e
       obtain ⟨_,hk⟩:=Ych hi
       have he:Y2m J I k=I b:=by
         simp only [Y2m]
         rw [show J[k]? =some b from hk]
       cases hv with
       | ref0 ad hp=>exact .ref0 ad (he.trans hp)
       | refz ad hp=>exact .refz ad (he.trans hp)
       | ref hp k2 k3=>exact .ref (he.trans hp) k2 k3
     | none=>
       rw [hi] at h
       obtain ⟨hav,l1,h1,ho1⟩:=Yl h ho
       obtain ⟨blk,hs,hpu,l2,h2,ho2⟩:=Y7n h1 ho1
       have e:=Y8 (s:=s) h2
       simp only [Prod.mk.injEq] at e
       obtain ⟨rfl,rfl⟩:=e
       cases hv with
       | ref0 ad hp=>exact .sl0 _ _ (fun _=>rfl)
       | refz ad hp=>exact .sl0 _ _ (fun _=>rfl)
       | ref hp k2 k3=>
         rename_i cap' B base sz lim
         obtain ⟨c,el,fz,j1,j2,j3,j4,j5,j7,j6⟩:=Y5r hr hs hp
         simp only [hpu,if_true] at j6
         have h1:=j6.drop off
         have h2:=j7.drop off
         rw [Yfh,<- List.length_drop] at h1 h2
         exact .sl (.inr ⟨rfl,.inr ⟨rfl,b,blk,base,sz,lim,Yci hav,hs,hp⟩⟩) k2 j1 rfl h2 (by simpa using h1.lend (fun _ h=>h.elim) (fun _ _ h=>h))
theorem Y65 (hr :Rel n w0 S im0 bo V im I s a w) {J av:List Nat} (hρ:∀ b,b∈J->b∈av):∀ (fuel:Nat) {ds ds':List D} {t:Bool} {vs:List Value} {l:Log},hands J av fuel ds s=some ((ds',t),l)->l.ok->Rs im w bo I ds vs->Rs im w (boL bo av I s t) (Y2m J I) ds' vs
 | 0,ds,ds',t,vs,l,h,ho,hv=>(M.fail_eq (s:=s) h).elim
 | fuel+1,[],ds',t,vs,l,h,ho,hv=>by
   have e:=Y8 (s:=s) h
   simp only [Prod.mk.injEq] at e
   obtain ⟨rfl,rfl⟩:=e
   cases hv
   exact .nil
 | fuel+1,d :: ds,ds',t,vs,l,h,ho,hv=>by
   cases hv with
   | cons h1 h2=>
   obtain ⟨⟨r,t1⟩,l1,l2,g1,g2,ho1,ho2⟩:=M.bindO (show (hand J av fuel d >>= fun x=>hands J av fuel ds >>= fun y=>M.pure (x.1 :: y.1,x.2||y.2)) s=_ from h) ho
   obtain ⟨⟨rs,t2⟩,l3,l4,g3,g4,ho3,ho4⟩:=M.bindO g2 ho2
   have e:=Y8 (s:=s) g4
   simp only [Prod.mk.injEq] at e
   obtain ⟨rfl,rfl⟩:=e
   exact .cons ((Y118 hr hρ fuel g1 ho1 h1).lend Yjv (fun _ _ h=>h)) ((Y65 hr hρ fuel g3 ho3 h2).lend Yfi (fun _ _ h=>h))
end
end
end Go.Proofs.YtpdcnikdoikldaaGreatDoor.Sv
namespace Go.Proofs.YtpdcnikdoikldaaGreatDoor.Sv
open Go Go.RowKit
mutual
theorem R.map {im bo :Nat->Prop} {w:World} {I Qa:Env} {J:Nat->Nat} (hp:∀ b p,I b=some p->Qa (J b)=some p):∀ {d:D} {v:Value},R im w bo I d v->R im w bo Qa (d.map J) v
 | _,_,.undef v=>.undef v
 | _,_,.bool b=>.bool b
 | _,_,.int k n=>.int k n
 | _,_,.str s=>.str s
 | _,_,.agg o h=>.agg o (Rs.map hp h)
 | _,_,.tup h=>.tup (Rs.map hp h)
 | _,_,.nilp=>.nilp
 | _,_,.ptr h=>.ptr (hp _ _ h)
 | _,_,.ip h1 h2 h3 o h4=>.ip h1 h2 h3 o h4
 | _,_,.nils=>.nils
 | _,_,.z0 a=>.z0 a
 | _,_,.e0 a c=>.e0 a c
 | _,_,.sl0 a c h=>.sl0 a c h
 | _,_,.sl h1 h2 h3 h4 o h5=>.sl h1 h2 h3 h4 o h5
 | _,_,.ref0 a h=>.ref0 a (hp _ _ h)
 | _,_,.refz a h=>.refz a (hp _ _ h)
 | _,_,.ref h1 h2 h3=>.ref (hp _ _ h1) h2 h3
 | _,_,.fn h=>.fn (Rs.map hp h)
 | _,_,.nilf=>.nilf
 | _,_,.chan h=>.chan (hp _ _ h)
 | _,_,.pn0=>.pn0
 | _,_,.pn h=>.pn (hp _ _ h)
theorem Rs.map {im bo :Nat->Prop} {w:World} {I Qa:Env} {J:Nat->Nat} (hp:∀ b p,I b=some p->Qa (J b)=some p):∀ {ds:List D} {vs:List Value},Rs im w bo I ds vs->Rs im w bo Qa (Y7l J ds) vs
 | _,_,.nil=>.nil
 | _,_,.cons h t=>.cons (R.map hp h) (Rs.map hp t)
end
mutual
theorem R.unlend {im bo bo' :Nat->Prop} {w:World} {I:Env}:∀ {d:D} {v:Value},R im w bo I d v->d.kept=true->R im w bo' I d v
 | _,_,.undef v,_=>.undef v
 | _,_,.bool b,_=>.bool b
 | _,_,.int k n,_=>.int k n
 | _,_,.str s,_=>.str s
 | _,_,.agg o h,k=>.agg o (Rs.unlend h k)
 | _,_,.tup h,k=>.tup (Rs.unlend h k)
 | _,_,.nilp,_=>.nilp
 | _,_,.ptr h,_=>.ptr h
 | _,_,.ip (g:=true) h1 h2 h3 o h4,_=>.ip (.inl (h1.elim id fun h=>Bool.noConfusion h.1)) h2 h3 o h4
 | _,_,.ip (g:=false) h1 h2 h3 o h4,k=>Bool.noConfusion (show false=true from k)
 | _,_,.nils,_=>.nils
 | _,_,.z0 a,_=>.z0 a
 | _,_,.e0 a c,_=>.e0 a c
 | _,_,.sl0 a c h,_=>.sl0 a c h
 | _,_,.sl (g:=true) h1 h2 h3 h4 o h5,_=>.sl (.inl (h1.elim id fun h=>Bool.noConfusion h.1)) h2 h3 h4 o h5
 | _,_,.sl (g:=false) h1 h2 h3 h4 o h5,k=>Bool.noConfusion (show false=true from k)
 | _,_,.ref0 a h,_=>.ref0 a h
 | _,_,.refz a h,_=>.refz a h
 | _,_,.ref h1 h2 h3,_=>.ref h1 h2 h3
 | _,_,.fn h,k=>.fn (Rs.unlend h k)
 | _,_,.nilf,_=>.nilf
 | _,_,.chan h,_=>.chan h
 | _,_,.pn0,_=>.pn0
 | _,_,.pn h,_=>.pn h
theorem Rs.unlend {im bo bo' :Nat->Prop} {w:World} {I:Env}:∀ {ds:List D} {vs:List Value},Rs im w bo I ds vs->Ycf ds=true->Rs im w bo' I ds vs
 | _,_,.nil,_=>.nil
 | _,_,.cons h t,k=>.cons (R.unlend h ((Bool.and_eq_true _ _).mp k).1) (Rs.unlend t ((Bool.and_eq_true _ _).mp k).2)
end
theorem Yge {U Qb :Type} (f:Nat->Nat) (g:U->Qb):∀ {l:List (Nat× U)},Y3k (l.map fun p=>f p.1)=true->∀ k x,look l k=some x->look (l.map fun p=>(f p.1,g p.2)) (f k)=some (g x)
 | [],_,k,x,h=>by simp [look] at h
 | (j,y) :: l,hn,k,x,h=>by
   simp only [List.map_cons,Y3k,Bool.and_eq_true] at hn
   rw [List.map_cons,Y1t]
   rw [Y1t] at h
   split at h
   . rename_i e;subst e
     simp only [Option.some.injEq] at h
     rw [if_pos rfl,h]
   . rename_i e
     have hk:k∈l.map (·.1):=by
       clear hn
       induction l with
       | nil=>simp [look] at h
       | cons p l ih=>
         obtain ⟨i,z⟩:=p
         rw [Y1t] at h
         split at h
         . rename_i e2;simp [e2]
         . simp only [List.map_cons,List.mem_cons];exact .inr (ih h)
     have hne:f j≠f k:=by
       intro e2
       have:=Yci hn.1
       rw [e2] at this
       obtain ⟨p,hp,rfl⟩:=List.mem_map.1 hk
       exact this (List.mem_map.2 ⟨p,hp,rfl⟩)
     rw [if_neg hne]
     exact Yge f g hn.2 k x h
theorem Yds {U Qb :Type} (f:Nat->Nat) (g:U->Qb):∀ {l:List (Nat× U)},Y3k (l.map fun p=>f p.1)=true->∀ m y,look (l.map fun p=>(f p.1,g p.2)) m=some y->∃ k x,look l k=some x/\m=f k/\y=g x
 | [],_,m,y,h=>by simp [look] at h
 | (j,z) :: l,hn,m,y,h=>by
   rw [List.map_cons,Y1t] at h
   split at h
   . rename_i e;subst e
     simp only [Option.some.injEq] at h
     exact ⟨j,z,by rw [Y1t,if_pos rfl],rfl,h.symm⟩
   . rename_i e
     have hn':=hn
     simp only [List.map_cons,Y3k,Bool.and_eq_true] at hn
     obtain ⟨k,x,h1,rfl,rfl⟩:=Yds f g hn.2 m y h
     refine ⟨k,x,?_,rfl,rfl⟩
     rw [Y1t,if_neg (fun e2=>e (by rw [e2]))]
     exact h1
theorem Ygf {U :Type} {l:List (Nat× U)} {k:Nat} {x:U} (h:(k,x)∈l):∃ y,look l k=some y:=by
 induction l with
 | nil=>simp at h
 | cons p l ih=>
   obtain ⟨j,y⟩:=p
   rw [Y1t]
   split
   . exact ⟨y,rfl⟩
   . rename_i e
     rcases List.mem_cons.1 h with h | h
     . simp only [Prod.mk.injEq] at h;exact absurd h.1.symm e
     . exact ih h
theorem Y2i {U :Type} {l:List (Nat× U)} {k:Nat} {x:U} (h:look l k=some x):(k,x)∈l:=by
 induction l with
 | nil=>simp [look] at h
 | cons p l ih=>
   obtain ⟨j,y⟩:=p
   rw [Y1t] at h
   split at h
   . rename_i e;subst e;simp only [Option.some.injEq] at h;simp [h]
   . exact List.mem_cons_of_mem _ (ih h)
section
variable {P : Program} {ty : Ty} {n : Nat} {w0 : World} {S im0 bo im : Nat -> Prop} {V I : Env} {s : St} {a : Act} {w : World}
set_option maxRecDepth 20000 in
theorem Ye2 {J :List Nat} {base:Nat} {q:Bool}:∀ {H:List (Nat× Option Blk)} {u:Unit} {l:Log},freshD J base q H s=some (u,l)->l.ok->∀ k x,(k,x)∈H->(1000<=k/\k< 1016/\q=true/\s.slot (base+(k - 1000))=none)\/(k< 1000/\k< J.length)
 | [],_,_,_,_,k,x,hk=>by simp at hk
 | (j,y) :: H,u,l,h,ho,k,x,hk=>by
   unfold freshD at h
   obtain ⟨h1,l1,h2,ho1⟩:=Yl h ho
   cases hj:Nat.ble 1000 j with
   | true=>
     simp only [hj,cond_true,Bool.and_eq_true,Nat.ble_eq] at h1 h2
     obtain ⟨l2,h3,ho2⟩:=Y2e h2 ho1
     cases hs:s.slot (base+(j - 1000)) with
     | some z=>rw [hs] at h3;exact (M.fail_eq (s:=s) h3).elim
     | none=>
       rw [hs] at h3
       rcases List.mem_cons.1 hk with e | hk
       . simp only [Prod.mk.injEq] at e
         obtain ⟨rfl,rfl⟩:=e
         exact .inl ⟨Nat.le_of_ble_eq_true hj,by omega,h1.2,hs⟩
       . exact Ye2 h3 ho2 k x hk
   | false=>
     simp only [hj,cond_false,Nat.ble_eq] at h1 h2
     obtain ⟨l2,h3,ho2⟩:=Yw8 h2 ho1
     rcases List.mem_cons.1 hk with e | hk
     . simp only [Prod.mk.injEq] at e
       obtain ⟨rfl,rfl⟩:=e
       have:¬ (1000<=k):=fun h=>by rw [Nat.ble_eq_true_of_le h] at hj;simp at hj
       exact .inr ⟨by omega,by omega⟩
     . exact Ye2 h3 ho2 k x hk
end
end Go.Proofs.YtpdcnikdoikldaaGreatDoor.Sv
namespace Go.Proofs.YtpdcnikdoikldaaGreatDoor.Sv
open Go Go.RowKit
section
variable {P : Program} {ty : Ty} {n : Nat} {w0 : World} {S im0 bo im : Nat -> Prop} {V I : Env} {s : St} {a : Act} {w : World}
theorem Yku {J av :List Nat}:∀ (fuel:Nat) {ds r:List D} {t:Bool} {l:Log},hands J av fuel ds s=some ((r,t),l)->r.length=ds.length
 | 0,ds,r,t,l,h=>(M.fail_eq (s:=s) h).elim
 | fuel+1,[],r,t,l,h=>by
   have e:=Y8 (s:=s) h
   simp only [Prod.mk.injEq] at e
   obtain ⟨rfl,rfl⟩:=e
   rfl
 | fuel+1,d :: ds,r,t,l,h=>by
   obtain ⟨⟨r1,t1⟩,l1,l2,g1,g2,_⟩:=M.bind_eq (show (hand J av fuel d >>= fun x=>hands J av fuel ds >>= fun y=>M.pure (x.1 :: y.1,x.2||y.2)) s=_ from h)
   obtain ⟨⟨rs,t2⟩,l3,l4,g3,g4,_⟩:=M.bind_eq g2
   have e:=Y8 (s:=s) g4
   simp only [Prod.mk.injEq] at e
   obtain ⟨rfl,rfl⟩:=e
   simp [Yku fuel g3]
structure HB (im bo :Nat->Prop) (I:Env) (w:World) (s:St) (J:List Nat) (u:Bool) (nm:Nat) (blk':Blk):Prop where
 ex:∃ blk,s.slot nm=some (some blk)/\blk'.pure=blk.pure/\(blk'.sz=blk.sz/\blk'.el=blk.el)/\blk'.cs.length=blk.cs.length/\
   ∀ vs,Rs im w (if blk.pure then noB else bo) (if blk.pure then Y1h else I) blk.cs vs->Rs im w (if blk.pure then noB else boL bo J I s u) (if blk.pure then Y1h else Y2m J I) blk'.cs vs
theorem Ye3 (hr :Rel n w0 S im0 bo V im I s a w) {J:List Nat} (fuel:Nat):∀ {l0:List Nat} {k:Nat} {bs:List (Nat× Blk)} {u:Bool} {l:Log},handBlks J fuel l0 k s=some ((bs,u),l)->l.ok->
   (∀ j b,look bs j=some b->∃ i nm,j=k+i/\l0[i]? =some nm/\HB im bo I w s J u nm b)
 | [],k,bs,u,l,h,ho=>by
   have e:=Y8 (s:=s) h
   simp only [Prod.mk.injEq] at e
   obtain ⟨rfl,rfl⟩:=e
   intro j b hj
   simp [look] at hj
 | nm :: l0,k,bs,u,l,h,ho=>by
   unfold handBlks at h
   obtain ⟨l1,h1,ho1⟩:=Y2e h ho
   cases hs:s.slot nm with
   | none=>rw [hs] at h1;exact (M.fail_eq (s:=s) h1).elim
   | some y=>
   cases y with
   | none=>rw [hs] at h1;exact (M.fail_eq (s:=s) h1).elim
   | some blk=>
   rw [hs] at h1
   obtain ⟨⟨cs,t⟩,l2,l3,h2,h3,ho2,ho3⟩:=M.bindO h1 ho1
   obtain ⟨⟨bs',us⟩,l4,l5,h4,h5,ho4,ho5⟩:=M.bindO h3 ho3
   have e:=Y8 (s:=s) h5
   simp only [Prod.mk.injEq] at e
   obtain ⟨rfl,rfl⟩:=e
   intro j b hj
   rw [Y1t] at hj
   split at hj
   . rename_i e
     simp only [Option.some.injEq] at hj
     subst hj
     refine ⟨0,nm,by omega,rfl,⟨blk,hs,rfl,⟨rfl,rfl⟩,?_,?_⟩⟩
     . cases hp:blk.pure with
       | true=>
         simp only [hp] at h2
         have e:=Y8 (s:=s) h2
         simp only [Prod.mk.injEq] at e
         rw [e.1]
       | false=>
         simp only [hp] at h2
         exact Yku fuel h2
     . intro vs hvs
       cases hp:blk.pure with
       | true=>
         simp only [hp] at h2
         have e:=Y8 (s:=s) h2
         simp only [Prod.mk.injEq] at e
         simp only [hp,if_true] at hvs ⊢
         rw [<- e.1]
         exact hvs
       | false=>
         simp only [hp] at h2
         simp only [hp,Bool.false_eq_true,if_false] at hvs ⊢
         exact (Y65 hr (fun _ h=>h) fuel h2 ho2 hvs).lend Yjv (fun _ _ h=>h)
   . rename_i e
     obtain ⟨i,nm',rfl,hi,⟨blk',g1,g2,g3,g4,g5⟩⟩:=Ye3 hr fuel h4 ho4 j b hj
     refine ⟨i+1,nm',by omega,by simpa using hi,⟨blk',g1,g2,g3,g4,fun vs hvs=>(g5 vs hvs).lend (fun B hB=> ?_) (fun _ _ h=>h)⟩⟩
     cases hp:blk'.pure with
     | true=>simpa [hp] using hB
     | false=>simp only [hp,Bool.false_eq_true,if_false] at hB ⊢;exact Yfi B hB
theorem Ya1 {J :List Nat} (fuel:Nat):∀ {l0:List Nat} {k:Nat} {bs:List (Nat× Blk)} {u:Bool} {l:Log},handBlks J fuel l0 k s=some ((bs,u),l)->∀ i nm,l0[i]? =some nm->(∃ b,(k+i,b)∈bs)
 | [],k,bs,u,l,h,i,nm,hi=>by simp at hi
 | x :: l0,k,bs,u,l,h,i,nm,hi=>by
   unfold handBlks at h
   obtain ⟨y,l1,l2,h1,h2,_⟩:=M.bind_eq h
   rw [Yrq h1] at h2
   cases hs:s.slot x with
   | none=>rw [hs] at h2;exact (M.fail_eq (s:=s) h2).elim
   | some y=>
   cases y with
   | none=>rw [hs] at h2;exact (M.fail_eq (s:=s) h2).elim
   | some blk=>
   rw [hs] at h2
   obtain ⟨⟨cs,t⟩,l3,l4,h3,h4,_⟩:=M.bind_eq h2
   obtain ⟨⟨bs',us⟩,l5,l6,h5,h6,_⟩:=M.bind_eq h4
   have e:=Y8 (s:=s) h6
   simp only [Prod.mk.injEq] at e
   obtain ⟨rfl,rfl⟩:=e
   cases i with
   | zero=>exact ⟨_,List.mem_cons_self⟩
   | succ i=>
     obtain ⟨b,hb⟩:=Ya1 fuel h5 i nm (by simpa using hi)
     exact ⟨b,by rw [show k+(i+1)=k+1+i by omega];exact List.mem_cons_of_mem _ hb⟩
theorem Ykv {bs :List (Nat× Blk)} {b:Nat} {k:Blk} (h:Y2h bs b=some (some k)):look bs b=some k:=by
 unfold Y2h at h
 cases hl:look bs b with
 | none=>rw [hl] at h;simp at h
 | some y=>rw [hl] at h;simpa using h
theorem Y119 (hr :Rel n w0 S im0 bo V im I s a w) {J:List Nat} {bs:List (Nat× Blk)} {u t:Bool} (hn:Y3k J=true) (h:∀ j b,look bs j=some b->∃ i nm,j=0+i/\J[i]? =some nm/\HB im bo I w s J u nm b):
   Own im (boL bo J I s (t||u)) (Y2m J I) w (Y2h bs):=by
 have key:∀ b k,Y2h bs b=some (some k)->∃ nm,J[b]? =some nm/\Y2m J I b=I nm/\HB im bo I w s J u nm k:=by
   intro b k hb
   obtain ⟨i,nm,e,h1,h2⟩:=h b k (Ykv hb)
   rw [Nat.zero_add] at e
   subst e
   exact ⟨nm,h1,by simp [Y2m,h1],h2⟩
 refine ⟨?_,?_,?_⟩
 . intro b k hb
   obtain ⟨nm,h1,h2,blk,g1,g2,g3,g4,g5⟩:=key b k hb
   obtain ⟨pl,h3,h4⟩:=hr.own.blk nm blk g1
   refine ⟨pl,h2.trans h3,?_⟩
   cases pl with
   | nil=>
     have:blk.cs=[]:=h4
     rw [this] at g4
     exact List.eq_nil_of_length_eq_zero g4
   | ch B cap=>
     obtain ⟨buf,s',r,vs0,k1,k2,k6⟩:=h4
     refine ⟨buf,s',r,vs0,k1,by rw [g3.1];exact k2,?_⟩
     have:=g5 _ k6
     rw [g2]
     refine this.lend (fun B hB=> ?_) (fun _ _ h=>h)
     cases hp:blk.pure with
     | true=>simpa [hp] using hB
     | false=>simp only [hp,Bool.false_eq_true,if_false] at hB ⊢;exact Yfi B hB
   | at_ B base sz lim=>
     obtain ⟨c,el,fz,k1,k2,k3,k4,k5,k7,k6⟩:=h4
     refine ⟨c,el,fz,k1,k2,by rw [g4];exact k3,by rw [g3.1,g3.2];exact k4,k5,by rw [g4];exact k7,?_⟩
     have:=g5 _ k6
     rw [g2,g4]
     refine this.lend (fun B hB=> ?_) (fun _ _ h=>h)
     cases hp:blk.pure with
     | true=>simpa [hp] using hB
     | false=>simp only [hp,Bool.false_eq_true,if_false] at hB ⊢;exact Yfi B hB
 . intro b k pl B hb hp hB0
   obtain ⟨nm,h1,h2,blk,g1,_⟩:=key b k hb
   rw [h2] at hp
   obtain ⟨o1,o2⟩:=hr.own.out nm blk pl B g1 hp hB0
   refine ⟨o1,fun hB=>hB.elim o2 ?_⟩
   rintro ⟨_,c,kk,base',sz',lim',hc,hs,hq⟩
   have:=hr.own.inj c nm kk blk _ _ B hs g1 hq hp rfl hB0
   subst this
   exact hc (List.mem_of_getElem? h1)
 . intro b c k l pl pl' B hb hc hp hq hB1 hB2
   obtain ⟨nm,h1,h2,blk,g1,_⟩:=key b k hb
   obtain ⟨nm',h1',h2',blk',g1',_⟩:=key c l hc
   rw [h2] at hp
   rw [h2'] at hq
   have:=hr.own.inj nm nm' blk blk' pl pl' B g1 g1' hp hq hB1 hB2
   subst this
   exact Y9e hn h1 h1'
theorem Ymx {f :FuncId} {args:Array Value} (h:Ymq P f):(callFunc f args).run P w=.ok (.enter f args) w:=by
 obtain ⟨fn,h1,h2,h3⟩:=h
 simp only [callFunc,Sem.run_bind,run_program,Result.andThen_ok,h1,h2,h3,Bool.false_eq_true,if_false,Sem.run_ite,Sem.run_pure]
theorem Y11a {o :Oper} {c:Call} {x:Operand} {f:FuncId} {caps:List Value} (hop:o.op=.call c) (hc:c.callee=.value x) (hx:a.eval x=.func (.func f) #[] caps.toArray) (h:Ymq P f):
   (execOp a.eval o).run P w=.ok (.enter f ((c.args.toList.map a.eval)++caps).toArray) w:=by
 have e:((#[]++c.args.map a.eval)++caps.toArray:Array Value)=((c.args.toList.map a.eval)++caps).toArray:=by
   apply Array.ext'
   simp
 simp only [execOp,hop,resolve,hc,hx,Deferred.ofValue,Sem.run_bind,Sem.run_pure,Result.andThen_ok,invoke]
 rw [e]
 exact Ymx h
end
end Go.Proofs.YtpdcnikdoikldaaGreatDoor.Sv
namespace Go.Proofs.YtpdcnikdoikldaaGreatDoor.Sv
open Go Go.RowKit
section
variable {P : Program} {ty : Ty} {n : Nat} {w0 : World} {S im0 bo im : Nat -> Prop} {V I : Env} {s : St} {a : Act} {w : World}
def Ybh (I Qc :Env) (base:Nat) (H':List (Nat× Option Blk)):Env:=fun nm=>
 if base<=nm/\nm< base+16/\(look H' (1000+(nm - base))).isSome=true then Qc (1000+(nm - base)) else I nm
theorem Ymy {J :List Nat} {base k nm:Nat} (hk:k< 1000) (h:J[k]? =some nm):Y2l J base k=nm:=by
 have:Nat.ble 1000 k=false:=by
   cases hb:Nat.ble 1000 k with
   | false=>rfl
   | true=>exact absurd (Nat.le_of_ble_eq_true hb) (by omega)
 simp only [Y2l,this,cond_false,List.getD_eq_getElem?_getD,h,Option.getD_some]
theorem Ymz {J :List Nat} {base k:Nat} (hk:1000<=k):Y2l J base k=base+(k - 1000):=by
 simp only [Y2l,Nat.ble_eq_true_of_le hk,cond_true]
theorem Y7o :∀ {H:List (Nat× Option Blk)} {b:Nat} {k:Blk},Y89 H=true->(b,some k)∈H->(k.pure||Ycf k.cs)=true
 | [],_,_,_,hm=>by simp at hm
 | (j,none) :: H,b,k,hk,hm=>Y7o (H:=H) hk ((List.mem_cons.1 hm).resolve_left (by simp))
 | (j,some k') :: H,b,k,hk,hm=>by
   simp only [Y89,Bool.and_eq_true] at hk
   rcases List.mem_cons.1 hm with e | hm
   . simp only [Prod.mk.injEq,Option.some.injEq] at e
     rw [e.2]
     exact hk.1
   . exact Y7o hk.2 hm
theorem Ytk (hr :Rel n w0 S im0 bo V im I s a w) {J:List Nat} {base:Nat} {q:Bool} {bs:List (Nat× Blk)} {H':List (Nat× Option Blk)} {r:D} {tu:Bool} {bo':Nat->Prop} {im':Nat->Prop} {Qc:Env} {w':World} {v:Value}
   (hbo:∀ B,bo B->bo' B) (hkept:tu=true->r.kept=true/\Y89 H'=true) (hbo2:tu=false->∀ B,bo' B->bo B) (hnd:Y3k J=true) (hρ:J.length< 100)
   (hfr:∀ k x,(k,x)∈H'->(1000<=k/\k< 1016/\q=true/\s.slot (base+(k - 1000))=none)\/(k< 1000/\k< J.length)) (hall:∀ (i nm:Nat),J[i]? =some nm->(look H' i).isSome=true) (hnd2:Y3k (H'.map fun p=>Y2l J base p.1)=true)
   (hbs:∀ B,Y3z (Y2m J I) (Y2h bs) B->∃ (i nm:Nat) (k:Blk) (pl:Pl),J[i]? =some nm/\s.slot nm=some (some k)/\I nm=some pl/\pl.blk=some B) (kk:Ymp (Y3z (Y2m J I) (Y2h bs)) w w') (i1:∀ b,im b->im' b) (i2:∀ b,im' b->im b\/Y3z (Y2m J I) (Y2h bs) b\/w.heap.size<=b) (i3:∀ b,im' b->b< w'.heap.size)
   (e1:∀ b,b< 1000->Qc b=Y2m J I b) (e2:∀ b,1000<=b->look H' b=none->Qc b=none) (own':Own im' bo' Qc w' (look H')) (hld:∀ B,Y3z Qc (look H') B->Y3z (Y2m J I) (Y2h bs) B\/w.heap.size<=B) (hR:R im' w' bo' Qc r v):
   Rel n w0 S im0 bo V im' (Ybh I Qc base H') (s.setH (H'.map fun p=>(Y2l J base p.1,p.2.map (Blk.map (Y2l J base))))) a w'/\R im' w' bo (Ybh I Qc base H') (r.map (Y2l J base)) v:=by
 have fresh_none:∀ nm,base<=nm/\nm< base+16/\(look H' (1000+(nm - base))).isSome=true->s.slot nm=none/\I nm=none:=by
   rintro nm ⟨h1,h2,h3⟩
   obtain ⟨x,hx⟩:=Option.isSome_iff_exists.1 h3
   rcases hfr _ _ (Y2i hx) with ⟨_,_,_,h4⟩ | ⟨h4,_⟩
   . have e:base+(1000+(nm - base) - 1000)=nm:=by omega
     rw [e] at h4
     exact ⟨h4,hr.dom nm h4⟩
   . omega
 have hext:∀ b p,I b=some p->Ybh I Qc base H' b=some p:=by
   intro b p h
   unfold Ybh
   split
   . rename_i hc;rw [(fresh_none b hc).2] at h;simp at h
   . exact h
 have hmap:∀ b p,Qc b=some p->Ybh I Qc base H' (Y2l J base b)=some p:=by
   intro b p h
   rcases Nat.lt_or_ge b 1000 with hb | hb
   . have h':=h
     rw [e1 b hb] at h'
     unfold Y2m at h'
     cases hi:J[b]? with
     | none=>rw [hi] at h';simp at h'
     | some nm=>
       rw [hi] at h'
       rw [Ymy hb hi]
       exact hext nm p h'
   . rw [Ymz hb]
     cases hl:look H' b with
     | none=>rw [e2 b hb hl] at h;simp at h
     | some x=>
       have h8:b< 1016:=by
         rcases hfr _ _ (Y2i hl) with ⟨_,h2,_⟩ | ⟨h2,_⟩
         . exact h2
         . omega
       have e:1000+(base+(b - 1000) - base)=b:=by omega
       unfold Ybh
       rw [if_pos ⟨by omega,by omega,by rw [e,hl];rfl⟩,e]
       exact h
 have hold:∀ b,im b\/bo b->w'.heap[b]? =w.heap[b]? :=by
   intro b hb
   have hlt:b< w.heap.size:=hb.elim (hr.imlt b) fun h=>Nat.lt_of_lt_of_le (hr.base.lt b (.inr h)) hr.kept.size
   refine kk.block b hlt ?_
   intro hh
   obtain ⟨i,nm,k,pl,_,h2,h3,h4⟩:=hbs b hh
   exact hb.elim (hr.own.out _ _ _ _ h2 h3 h4).1 (hr.own.out _ _ _ _ h2 h3 h4).2
 have hslot:∀ nm k,(s.setH (H'.map fun p=>(Y2l J base p.1,p.2.map (Blk.map (Y2l J base))))).slot nm=some (some k)->
     (∃ b kb,look H' b=some (some kb)/\nm=Y2l J base b/\k=kb.map (Y2l J base))\/(s.slot nm=some (some k)/\nm ∉ J):=by
   intro nm k h
   rw [St.slot_setH] at h
   cases hl:look (H'.map fun p=>(Y2l J base p.1,p.2.map (Blk.map (Y2l J base)))) nm with
   | some x=>
     rw [hl] at h
     simp only [Option.some_or,Option.some.injEq] at h
     obtain ⟨b,y,h1,rfl,h3⟩:=Yds (Y2l J base) (Option.map (Blk.map (Y2l J base))) hnd2 nm x hl
     rw [h] at h3
     cases y with
     | none=>simp at h3
     | some kb=>exact .inl ⟨b,kb,h1,rfl,by simpa using h3⟩
   | none=>
     rw [hl] at h
     simp only [Option.none_or] at h
     refine .inr ⟨h,fun hm=> ?_⟩
     obtain ⟨i,hi⟩:=List.getElem?_of_mem hm
     have hi1:i< J.length:=by
       rcases Nat.lt_or_ge i J.length with h' | h'
       . exact h'
       . rw [List.getElem?_eq_none h'] at hi;simp at hi
     obtain ⟨x,hx⟩:=Option.isSome_iff_exists.1 (hall i nm hi)
     have:=Yge (Y2l J base) (Option.map (Blk.map (Y2l J base))) hnd2 i x hx
     rw [Ymy (by omega) hi,hl] at this
     simp at this
 have hnone:∀ nm,(s.setH (H'.map fun p=>(Y2l J base p.1,p.2.map (Blk.map (Y2l J base))))).slot nm=none->s.slot nm=none/\∀ b x,look H' b=some x->nm≠Y2l J base b:=by
   intro nm h
   rw [St.slot_setH] at h
   cases hl:look (H'.map fun p=>(Y2l J base p.1,p.2.map (Blk.map (Y2l J base)))) nm with
   | some x=>rw [hl] at h;simp at h
   | none=>
     rw [hl] at h
     refine ⟨by simpa using h,?_⟩
     rintro b x hx rfl
     have:=Yge (Y2l J base) (Option.map (Blk.map (Y2l J base))) hnd2 b x hx
     rw [hl] at this
     simp at this
 have hplace:∀ b kb pl,look H' b=some (some kb)->Ybh I Qc base H' (Y2l J base b)=some pl->Qc b=some pl:=by
   intro b kb pl0 hb hp
   obtain ⟨pl,h1,_⟩:=own'.blk b kb hb
   rw [hmap b pl h1] at hp
   rw [h1,hp]
 have hunr:∀ nm,nm ∉ J->∀ k,s.slot nm=some (some k)->∀ pl B,I nm=some pl->pl.blk=some B->¬ Y3z (Y2m J I) (Y2h bs) B:=by
   intro nm hn k hs pl B hp hB hh
   obtain ⟨i,nm',k',pl',h1,h2,h3,h4⟩:=hbs B hh
   have:=hr.own.inj _ _ _ _ _ _ _ hs h2 hp h3 hB h4
   subst this
   exact hn (List.mem_of_getElem? h1)
 have hsame:∀ nm k,s.slot nm=some (some k)->Ybh I Qc base H' nm=I nm:=by
   intro nm k hs
   unfold Ybh
   split
   . rename_i hc;rw [(fresh_none nm hc).1] at hs;simp at hs
   . rfl
 refine ⟨{hr with tmp:= ?_,own:=⟨?_,?_,?_⟩,kept:= ?_,imlt:=i3,imo:=fun b h=>i1 b (hr.imo b h),imn:= ?_,owo:= ?_,dom:= ?_,arg:=fun b p h=>hext b p (hr.arg b p h)},?_⟩
 . exact fun t=>(hr.tmp t).mono i1 hold (fun _ h=>h) hext
 . intro nm k hs
   rcases hslot nm k hs with ⟨b,kb,h1,rfl,rfl⟩ | ⟨h1,h2⟩
   . obtain ⟨pl,h3,h4⟩:=own'.blk b kb h1
     refine ⟨pl,hmap b pl h3,?_⟩
     cases pl with
     | nil=>
       have hc:kb.cs=[]:=h4
       show (Blk.map (Y2l J base) kb).cs=[]
       unfold Blk.map
       cases hp:kb.pure <;> simp [hc,Y7l]
     | ch B cap=>
       obtain ⟨buf,s0,r0,vs0,k1,k2,k6⟩:=h4
       refine ⟨buf,s0,r0,vs0,k1,k2,?_⟩
       cases hp:kb.pure with
       | true=>
         simp only [hp,if_true] at k6
         simpa [Blk.map,hp] using k6
       | false=>
         simp only [hp,Bool.false_eq_true,if_false] at k6
         have k8:Rs im' w' bo Qc kb.cs vs0:=by
           cases htu:tu with
           | false=>exact k6.lend (hbo2 htu) (fun _ _ h=>h)
           | true=>
             have hk:=(hkept htu).2
             have hm:=Y7o hk (Y2i h1)
             exact k6.unlend (by simpa [hp] using hm)
         have:=k8.map hmap
         simpa [Blk.map,hp] using this
     | at_ B b0 sz lim=>
       obtain ⟨c,el,fz,k1,k2,k3,k4,k5,k7,k6⟩:=h4
       have hlen:(Blk.map (Y2l J base) kb).cs.length=kb.cs.length:=by
         unfold Blk.map
         cases hp:kb.pure with
         | true=>rfl
         | false=>
           simp only
           induction kb.cs with
           | nil=>rfl
           | cons d ds ih=>simp [Y7l,ih]
       refine ⟨c,el,fz,k1,k2,by rw [hlen];exact k3,k4,k5,by rw [hlen];exact k7,?_⟩
       rw [hlen]
       cases hp:kb.pure with
       | true=>
         simp only [hp,if_true] at k6
         simpa [Blk.map,hp] using k6
       | false=>
         simp only [hp,Bool.false_eq_true,if_false] at k6
         have k8:Rs im' w' bo Qc kb.cs ((c.toList.drop b0).take kb.cs.length):=by
           cases htu:tu with
           | false=>exact k6.lend (hbo2 htu) (fun _ _ h=>h)
           | true=>
             have hk:=(hkept htu).2
             have hm:=Y7o hk (Y2i h1)
             exact k6.unlend (by simpa [hp] using hm)
         have:=k8.map hmap
         simpa [Blk.map,hp] using this
   . obtain ⟨pl,h3,h4⟩:=hr.own.blk nm k h1
     refine ⟨pl,hext nm pl h3,h4.mono i1 hold (fun _ h=>h) hext fun B e=> ?_⟩
     exact kk.block B (Y3q hr h1 h3 e) (hunr nm h2 k h1 pl B h3 e)
 . intro nm k pl B hs hp hB
   rcases hslot nm k hs with ⟨b,kb,h1,rfl,rfl⟩ | ⟨h1,h2⟩
   . obtain ⟨o1,o2⟩:=own'.out b kb pl B h1 (hplace b kb pl h1 hp) hB
     exact ⟨o1,fun h=>o2 (hbo B h)⟩
   . rw [hsame nm k h1] at hp
     obtain ⟨o1,o2⟩:=hr.own.out nm k pl B h1 hp hB
     refine ⟨fun h=> ?_,o2⟩
     rcases i2 B h with h | h | h
     . exact o1 h
     . exact hunr nm h2 k h1 pl B hp hB h
     . have:=Y3q hr h1 hp hB;omega
 . intro nm nm' k k' pl pl' B hs hs' hp hp' hB1 hB2
   have hh:∀ b kb pl,look H' b=some (some kb)->Qc b=some pl->pl.blk=some B->Y3z (Y2m J I) (Y2h bs) B\/w.heap.size<=B:=fun b kb pl h1 h2 h3=>hld B ⟨b,kb,pl,h1,h2,h3⟩
   rcases hslot nm k hs with ⟨b,kb,h1,rfl,rfl⟩ | ⟨h1,h2⟩ <;> rcases hslot nm' k' hs' with ⟨c,kc,g1,rfl,rfl⟩ | ⟨g1,g2⟩
   . rw [own'.inj b c kb kc pl pl' B h1 g1 (hplace b kb pl h1 hp) (hplace c kc pl' g1 hp') hB1 hB2]
   . rw [hsame nm' k' g1] at hp'
     rcases hh b kb pl h1 (hplace b kb pl h1 hp) hB1 with h | h
     . exact absurd h (hunr nm' g2 k' g1 pl' B hp' hB2)
     . have:=Y3q hr g1 hp' hB2;omega
   . rw [hsame nm k h1] at hp
     rcases hh c kc pl' g1 (hplace c kc pl' g1 hp') hB2 with h | h
     . exact absurd h (hunr nm h2 k h1 pl B hp hB1)
     . have:=Y3q hr h1 hp hB1;omega
   . rw [hsame nm k h1] at hp
     rw [hsame nm' k' g1] at hp'
     exact hr.own.inj _ _ _ _ _ _ _ h1 g1 hp hp' hB1 hB2
 . refine ⟨kk.os.trans hr.kept.os,kk.tape.trans hr.kept.tape,kk.output.trans hr.kept.output,Nat.le_trans hr.kept.size kk.size,fun b h1 h2=>(kk.block b (Nat.lt_of_lt_of_le h1 hr.kept.size) ?_).trans (hr.kept.block b h1 h2)⟩
   intro hh
   obtain ⟨i,nm,k,pl,_,g2,g3,g4⟩:=hbs b hh
   rcases hr.owo _ _ _ _ g2 g3 g4 with h | h
   . exact h2 h
   . omega
 . intro b h
   rcases i2 b h with h | h | h
   . exact hr.imn b h
   . obtain ⟨i,nm,k,pl,_,g2,g3,g4⟩:=hbs b h
     exact .inr (hr.owo _ _ _ _ g2 g3 g4)
   . exact .inr (.inr (Nat.le_trans hr.kept.size h))
 . intro nm k pl B hs hp hB
   rcases hslot nm k hs with ⟨b,kb,h1,rfl,rfl⟩ | ⟨h1,h2⟩
   . rcases hld B ⟨b,kb,pl,h1,hplace b kb pl h1 hp,hB⟩ with h | h
     . obtain ⟨i,nm,k,pl',_,g2,g3,g4⟩:=hbs B h
       exact hr.owo _ _ _ _ g2 g3 g4
     . exact .inr (Nat.le_trans hr.kept.size h)
   . rw [hsame nm k h1] at hp
     exact hr.owo _ _ _ _ h1 hp hB
 . intro nm hs
   obtain ⟨h1,h2⟩:=hnone nm hs
   unfold Ybh
   split
   . rename_i hc
     obtain ⟨x,hx⟩:=Option.isSome_iff_exists.1 hc.2.2
     have:=h2 _ x hx
     rw [Ymz (by omega)] at this
     exact absurd (by omega) this
   . exact hr.dom nm h1
 . refine R.map hmap ?_
   cases htu:tu with
   | false=>exact hR.lend (hbo2 htu) (fun _ _ h=>h)
   | true=>exact hR.unlend (hkept htu).1
set_option maxRecDepth 20000 in
theorem Ywl (hr :Rel n w0 S im0 bo V im I s a w) {o:Oper} {c:Call} {res:Out} {e:Eff} {l:Log} (hop:o.op=.call c) (h:callD P o c res s=some (e,l)) (ho:l.ok) (hd:∀ t,o.dst=some t->t< n) {next:Act->World->Prop} {Q:Exit->Act->World->Prop}
   (hnext:∀ a' w' im' Qa,Rel n w0 S im0 bo V im' Qa ((s.setH e.sets).setO o.dst e.val) a' w'->next a' w'):o.wp P a w next Q:=by
 unfold callD at h
 cases hc:c.callee with
 | invoke _ _=>rw [hc] at h;exact (M.fail_eq (s:=s) h).elim
 | builtin _=>rw [hc] at h;exact (M.fail_eq (s:=s) h).elim
 | value x=>
 rw [hc] at h
 obtain ⟨fd,hfd,l1,h1,ho1⟩:=Y26 hr h ho
 cases fd <;> first
   | exact (M.fail_eq (s:=s) h1).elim
   | skip
 rename_i f caps
 obtain ⟨as,has,l2,h2,ho2⟩:=Y4j hr h1 ho1
 obtain ⟨⟨bs,u⟩,l3,l4,h3,h4,ho3,ho4⟩:=M.bindO h2 ho2
 obtain ⟨⟨ds,t⟩,l5,l6,h5,h6,ho5,ho6⟩:=M.bindO h4 ho4
 obtain ⟨q1,l7,h7,ho7⟩:=Yl h6 ho6
 obtain ⟨q2,l8,h8,ho8⟩:=Yl h7 ho7
 obtain ⟨_,l9,l10,h9,h10,ho9,ho10⟩:=M.bindO h8 ho8
 obtain ⟨q3,l11,h11,ho11⟩:=Yl h10 ho10
 obtain ⟨q4,l12,h12,ho12⟩:=Yl h11 ho11
 obtain ⟨hcon,l13,h13,ho13⟩:=Yx h12 ho12
 have he:=Y8 (s:=s) h13
 subst he
 simp only [Bool.and_eq_true] at q2
 obtain ⟨cvs,hcv,hcs⟩:∃ cvs:List Value,a.eval x=.func (.func f) #[] cvs.toArray/\Rs im w bo I caps cvs:=by
   generalize a.eval x=v at hfd
   cases hfd with | fn k=>exact ⟨_,rfl,k⟩
 have hfr:=Ye2 h9 ho9
 have hblk:=Ye3 hr 60 h3 ho3
 have hargs:=(Y65 hr (fun _ h=>h) 60 h5 ho5 (has.append hcs)).lend (Yjv (u:=u)) (fun _ _ h=>h)
 have hown:=Y119 (t:=t) hr q2.2 hblk
 obtain ⟨hent,hcalls⟩:=hcon
 have hlt:∀ b,im b\/boL bo res.J I s (t||u) b->b< w.heap.size:=by
   rintro b (h | h | ⟨_,nm,k,b0,sz,lim,_,g1,g2⟩)
   . exact hr.imlt b h
   . exact Nat.lt_of_lt_of_le (hr.base.lt b (.inr h)) hr.kept.size
   . exact Y3q hr g1 g2 rfl
 have hdom:∀ b,look bs b=none->Y2m res.J I b=none:=by
   intro b hb
   unfold Y2m
   cases hi:res.J[b]? with
   | none=>rfl
   | some nm=>
     obtain ⟨k,hk⟩:=Ya1 60 h3 b nm hi
     rw [Nat.zero_add] at hk
     obtain ⟨x,hx⟩:=Ygf hk
     rw [hx] at hb
     exact absurd hb (Option.some_ne_none _)
 have hcall:=hcalls im (boL bo res.J I s (t||u)) (Y2m res.J I) w _ hlt hdom hown hargs
 show o.upon P a next Q ((execOp a.eval o).run P w)
 rw [Y11a hop hc hcv hent,Oper.upon_enter]
 refine hcall.mono ?_
 rintro e w' ⟨v,im',Qc,rfl,kk,i1,i2,i3,e1,e2,own',hld,hR⟩
 have hbs:∀ B,Y3z (Y2m res.J I) (Y2h bs) B->∃ (i nm:Nat) (k:Blk) (pl:Pl),res.J[i]? =some nm/\s.slot nm=some (some k)/\I nm=some pl/\pl.blk=some B:=by
   rintro B ⟨b,k,pl,g1,g2,g5⟩
   obtain ⟨i,nm,e,g3,blk,g4,_⟩:=hblk b k (Ykv g1)
   rw [Nat.zero_add] at e
   subst e
   refine ⟨b,nm,blk,pl,g3,g4,?_,g5⟩
   simpa [Y2m,g3] using g2
 have hall:∀ (i nm:Nat),res.J[i]? =some nm->(look res.H i).isSome=true:=by
   intro i nm hi
   obtain ⟨b,hb⟩:=Ya1 60 h3 i nm hi
   rw [Nat.zero_add] at hb
   exact List.all_eq_true.1 q4 _ hb
 obtain ⟨hrel,hres⟩:=Ytk (tu:=t||u) hr (fun B h=>.inl h) (by
     intro htu
     rw [htu] at q1
     simpa using q1) (by
     intro htu B hB
     rcases hB with hB | ⟨hB,_⟩
     . exact hB
     . rw [htu] at hB;simp at hB) q2.2 (by have:=Nat.le_of_ble_eq_true q2.1;omega) hfr hall q3 hbs kk i1 i2 i3 e1 e2 own' hld hR
 exact hnext _ _ _ _ (hrel.setO hres hd)
end
end Go.Proofs.YtpdcnikdoikldaaGreatDoor.Sv
