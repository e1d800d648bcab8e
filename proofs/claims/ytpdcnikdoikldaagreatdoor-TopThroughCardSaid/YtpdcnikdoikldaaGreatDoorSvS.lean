import Derived.Test.YtpdcnikdoikldaaGreatDoorSvO
import Derived.Laws.Externs
set_option linter.unusedVariables false
set_option linter.unusedSimpArgs false
namespace Go.Proofs.YtpdcnikdoikldaaGreatDoor.Sv
open Go Go.RowKit
section
variable {P : Program} {ty : Ty} {n : Nat} {w0 : World} {S im0 bo im : Nat -> Prop} {V I : Env} {s : St} {a : Act} {w : World}
theorem Y1m {o :Oper} {e:Eff} (h:Y42 n w0 S im0 bo V s a e ((execOp a.eval o).run P w)) (hd:∀ t,o.dst=some t->t< n) {next:Act->World->Prop} {Q:Exit->Act->World->Prop}
   (hnext:∀ a' w' im' Qa,Rel n w0 S im0 bo V im' Qa ((s.setH e.sets).setO o.dst e.val) a' w'->next a' w'):o.wp P a w next Q:=by
 obtain ⟨v,w',hrun,im',Qa,hr',hv⟩:=h
 show o.upon P a next Q ((execOp a.eval o).run P w)
 rcases hrun with hrun | ⟨hrun,rfl⟩
 . rw [hrun,Oper.upon_value]
   exact hnext _ _ _ _ (hr'.setO hv hd)
 . rw [hrun,Oper.upon_skip]
   exact hnext _ _ _ _ (hr'.setO hv hd)
theorem Ya2 {v :Value}:(pure (.value v):Sem Next)=(do pure (.value (<- (pure v:Sem Value)))):=by simp
theorem Ygg (hr :Rel n w0 S im0 bo V im I s a w) {x:Option Operand} {Qb:Type} {f:Option D->M Qb} {b:Qb} {k:Log} (h:((match x with | some y=>do let d <- ev y;M.pure (some d) | none=>M.pure none:M (Option D)) >>= f) s=some (b,k)) (ho:k.ok):
   ∃ d,Bd d (x.map a.eval)/\∃ l,f d s=some (b,l)/\l.ok:=by
 obtain ⟨d,l1,l2,h1,h2,ho1,ho2⟩:=M.bindO h ho
 cases x with
 | none=>
   have e:=Y8 (s:=s) h1
   subst e
   exact ⟨none,trivial,l2,h2,ho2⟩
 | some y=>
   obtain ⟨d',hd,l3,h3,ho3⟩:=Y26 hr h1 ho1
   have e:=Y8 (s:=s) h3
   subst e
   refine ⟨some d',?_,l2,h2,ho2⟩
   intro k m e
   subst e
   show a.eval y=_
   generalize a.eval y=v at hd
   cases hd
   rfl
theorem Y4a.ptr {t e :Nat} {i:TI} (h:Y4a P t i) (hk:i.kind=.pointer e):P.underlying t=some (.pointer e):=by
 obtain ⟨j,d,h1,h2,_,_,h3,_⟩:=h.info
 rw [hk] at h3
 cases d <;> simp [TK.desc] at h3
 subst h3;exact h2
theorem Y19d {E n el :Nat} (h:E=1000000*(n+1)+el+1):¬ E<=1000000:=by omega
set_option maxHeartbeats 4000000 in
theorem Y179 (ht :Y2p P ty) (hr:Rel n w0 S im0 bo V im I s a w) {o:Oper} {res:Option Out} {e:Eff} {l:Log} (h:opD P ty o res s=some (e,l)) (ho:l.ok) (hd:∀ t,o.dst=some t->t< n) {next:Act->World->Prop} {Q:Exit->Act->World->Prop}
   (hnext:∀ a' w' im' Qa,Rel n w0 S im0 bo V im' Qa ((s.setH e.sets).setO o.dst e.val) a' w'->next a' w'):o.wp P a w next Q:=by
 cases hop:o.op <;> simp only [opD,hop] at h <;> first
   | exact (M.fail_eq (s:=s) h).elim
   | skip
 case move x=>
   obtain ⟨d,hx,l1,h1,ho1⟩:=Y26 hr h ho
   refine Y1m ?_ hd hnext
   simp only [execOp,hop]
   rw [Ya2]
   exact Y1j hr h1 (by simp) hx
 case assign x=>
   obtain ⟨d,hx,l1,h1,ho1⟩:=Y26 hr h ho
   refine Y1m ?_ hd hnext
   simp only [execOp,hop]
   rw [Ya2]
   exact Y1j hr h1 (by simp) hx
 case pick c x y=>
   obtain ⟨d,hc,l1,h1,ho1⟩:=Y26 hr h ho
   cases d <;> first
     | exact (M.fail_eq (s:=s) h1).elim
     | skip
   rename_i b
   obtain ⟨d1,hx,l2,h2,ho2⟩:=Y26 hr h1 ho1
   obtain ⟨d2,hy,l3,h3,ho3⟩:=Y26 hr h2 ho2
   refine Y1m ?_ hd hnext
   have hb:a.eval c=.bool b:=by generalize a.eval c=v at hc;cases hc;rfl
   simp only [execOp,hop,hb]
   have:(do pure (.value (if <- asBool (.bool b) then a.eval x else a.eval y)):Sem Next)=(do pure (.value (<- (pure (if b then a.eval x else a.eval y):Sem Value)))):=by
     simp [asBool]
   rw [this]
   exact Y1j hr h3 (by simp) (Ywc hx hy)
 case alloc t=>
   refine Y1m ?_ hd hnext
   simp only [execOp,hop]
   exact Ywe ht hr h ho
 case box t x=>
   obtain ⟨d,hx,l1,h1,ho1⟩:=Y26 hr h ho
   obtain ⟨hv,l2,h2,ho2⟩:=Yl h1 ho1
   refine Y1m ?_ hd hnext
   simp only [execOp,hop]
   exact Y175 hr h2 ho2 hv hx
 case build t ps=>
   obtain ⟨ds,hps,l1,h1,ho1⟩:=Ymu hr h ho
   obtain ⟨d,l2,l3,h2,h3,ho2,ho3⟩:=M.bindO h1 ho1
   obtain ⟨v,hrun,hv⟩:=Ywf (P:=P) (qs:=ps.map fun p=>(p.1,a.eval p.2)) ht h2 ho2 (by simpa using hps)
   refine Y1m ?_ hd hnext
   simp only [execOp,hop]
   exact Y1j hr h3 hrun hv
 case buildSlice t k ps=>
   refine Y1m ?_ hd hnext
   simp only [execOp,hop]
   exact Yju ht hr (by simp) h ho
 case load t x=>
   obtain ⟨d,hx,l1,h1,ho1⟩:=Y26 hr h ho
   obtain ⟨r,l2,l3,h2,h3,ho2,ho3⟩:=M.bindO h1 ho1
   obtain ⟨v,hrun,hv⟩:=Ykq ht hr h2 ho2 hx
   refine Y1m ?_ hd hnext
   simp only [execOp,hop]
   exact Y1j hr h3 hrun hv
 case store t x y=>
   obtain ⟨d,hx,l1,h1,ho1⟩:=Y26 hr h ho
   obtain ⟨d2,hy,l2,h2,ho2⟩:=Y26 hr h1 ho1
   refine Y1m ?_ hd hnext
   simp only [execOp,hop]
   exact Yte ht hr h2 ho2 hx hy
 case nilCheck x=>
   obtain ⟨d,hx,l1,h1,ho1⟩:=Y26 hr h ho
   refine Y1m ?_ hd hnext
   cases d <;> first
     | exact (M.fail_eq (s:=s) h1).elim
     | skip
   . obtain ⟨ad,had⟩:∃ ad,a.eval x=.pointer (some ad):=by generalize a.eval x=v at hx;cases hx;exact ⟨_,rfl⟩
     rw [had] at hx
     simp only [execOp,hop,had]
     rw [Ya2]
     exact Y1j hr h1 (v:=.pointer (some ad)) (by simp) hx
   . obtain ⟨ad,had⟩:∃ ad,a.eval x=.pointer (some ad):=by generalize a.eval x=v at hx;cases hx;exact ⟨_,rfl⟩
     rw [had] at hx
     simp only [execOp,hop,had]
     rw [Ya2]
     exact Y1j hr h1 (v:=.pointer (some ad)) (by simp) hx
   . rename_i f cs
     obtain ⟨vs,had⟩:∃ vs:Array Value,a.eval x=.func (.func f) #[] vs:=by generalize a.eval x=v at hx;cases hx;exact ⟨_,rfl⟩
     rw [had] at hx
     simp only [execOp,hop,had]
     rw [Ya2]
     exact Y1j hr h1 (v:=.func (.func f) #[] vs) (by simp) hx
 case binOp op t x y t'=>
   obtain ⟨d,hx,l1,h1,ho1⟩:=Y26 hr h ho
   obtain ⟨d2,hy,l2,h2,ho2⟩:=Y26 hr h1 ho1
   obtain ⟨r,l3,l4,h3,h4,ho3,ho4⟩:=M.bindO h2 ho2
   obtain ⟨v,hg,hrun,hv⟩:=Y111 (P:=P) (ox:=x) (oy:=y) ht h3 ho3 hx hy
   refine Y1m ?_ hd hnext
   simp only [execOp,hop]
   refine Y1j hr h4 ?_ hv
   simp [hg,hrun]
 case unOp op t x=>
   obtain ⟨d,hx,l1,h1,ho1⟩:=Y26 hr h ho
   obtain ⟨r,l3,l4,h3,h4,ho3,ho4⟩:=M.bindO h1 ho1
   obtain ⟨v,hrun,hv⟩:=Y172 (P:=P) h3 hx
   refine Y1m ?_ hd hnext
   simp only [execOp,hop]
   exact Y1j hr h4 hrun hv
 case convert src dst x=>
   obtain ⟨d,hx,l1,h1,ho1⟩:=Y26 hr h ho
   refine Y1m ?_ hd hnext
   simp only [execOp,hop]
   exact Ywi ht hr h1 ho1 hx
 case makeFunc fn first caps=>
   cases fn <;> first
     | exact (M.fail_eq (s:=s) h).elim
     | skip
   rename_i f
   simp only at h
   cases hf:first.toList with
   | cons _ _=>rw [hf] at h;exact (M.fail_eq (s:=s) h).elim
   | nil=>
   rw [hf] at h
   obtain ⟨cs,hcs,l1,h1,ho1⟩:=Y4j hr h ho
   refine Y1m ?_ hd hnext
   have e1:first=#[]:=by apply Array.ext';simpa using hf
   simp only [execOp,hop,Instr.makeFunc,e1]
   refine Y1j hr h1 (v:=.func (.func f) #[] (caps.toList.map a.eval).toArray) ?_ (.fn hcs)
   have e2:caps.map a.eval=(caps.toList.map a.eval).toArray:=by apply Array.ext';simp
   rw [e2]
   simp
 case makeSlice t x y=>
   obtain ⟨d,hx,l1,h1,ho1⟩:=Y26 hr h ho
   obtain ⟨d2,hy,l2,h2,ho2⟩:=Y26 hr h1 ho1
   refine Y1m ?_ hd hnext
   simp only [execOp,hop]
   exact Ywg ht hr h2 ho2 hx hy
 case makeChan t x=>
   obtain ⟨d,hx,l1,h1,ho1⟩:=Y26 hr h ho
   refine Y1m ?_ hd hnext
   simp only [execOp,hop]
   exact Ywh ht hr h1 ho1 hx
 case slice t x lo hi mx=>
   obtain ⟨d,hx,l1,h1,ho1⟩:=Y26 hr h ho
   obtain ⟨dl,bl,l2,h2,ho2⟩:=Ygg hr h1 ho1
   obtain ⟨dh,bh,l3,h3,ho3⟩:=Ygg hr h2 ho2
   obtain ⟨dm,bm,l4,h4,ho4⟩:=Ygg hr h3 ho3
   obtain ⟨r,l5,l6,h5,h6,ho5,ho6⟩:=M.bindO h4 ho4
   obtain ⟨v,hrun,hv⟩:∃ r',(Instr.sliceAt t (a.eval x) (lo.map a.eval) (hi.map a.eval) (mx.map a.eval)).run P w=.ok r' w/\R im w bo I r r':=by
     cases hrm:Ymo res with
     | true=>rw [hrm] at h5;exact Yr5 ht hr h5 ho5 hx bl bh bm
     | false=>rw [hrm] at h5;exact Yta ht hr h5 ho5 hx bl bh bm
   refine Y1m ?_ hd hnext
   simp only [execOp,hop]
   exact Y1j hr h6 hrun hv
 case fieldAddr t x f=>
   obtain ⟨d,hx,l1,h1,ho1⟩:=Y26 hr h ho
   obtain ⟨r,l3,l4,h3,h4,ho3,ho4⟩:=M.bindO h1 ho1
   obtain ⟨v,hrun,hv⟩:=Yjq (P:=P) ht h3 ho3 hx
   refine Y1m ?_ hd hnext
   simp only [execOp,hop]
   exact Y1j hr h4 hrun hv
 case field t x f=>
   obtain ⟨d,hx,l1,h1,ho1⟩:=Y26 hr h ho
   obtain ⟨r,l3,l4,h3,h4,ho3,ho4⟩:=M.bindO h1 ho1
   obtain ⟨v,hrun,hv⟩:=Yt8 (P:=P) ht h3 ho3 hx
   refine Y1m ?_ hd hnext
   simp only [execOp,hop]
   exact Y1j hr h4 hrun hv
 case indexAddr t x i=>
   obtain ⟨d,hx,l1,h1,ho1⟩:=Y26 hr h ho
   obtain ⟨d2,hy,l2,h2,ho2⟩:=Y26 hr h1 ho1
   obtain ⟨r,l3,l4,h3,h4,ho3,ho4⟩:=M.bindO h2 ho2
   obtain ⟨v,hrun,hv⟩:=Yjr (P:=P) ht h3 ho3 hx hy
   refine Y1m ?_ hd hnext
   simp only [execOp,hop]
   exact Y1j hr h4 hrun hv
 case index t x i=>
   obtain ⟨d,hx,l1,h1,ho1⟩:=Y26 hr h ho
   obtain ⟨d2,hy,l2,h2,ho2⟩:=Y26 hr h1 ho1
   obtain ⟨r,l3,l4,h3,h4,ho3,ho4⟩:=M.bindO h2 ho2
   obtain ⟨v,hrun,hv⟩:=Yt9 (P:=P) ht h3 ho3 hx hy
   refine Y1m ?_ hd hnext
   simp only [execOp,hop]
   exact Y1j hr h4 hrun hv
 case extract x i=>
   obtain ⟨d,hx,l1,h1,ho1⟩:=Y26 hr h ho
   cases d <;> first
     | exact (M.fail_eq (s:=s) h1).elim
     | skip
   rename_i ds
   obtain ⟨r,hr',l2,h2,ho2⟩:=Y2j h1 ho1
   refine Y1m ?_ hd hnext
   simp only [execOp,hop]
   generalize a.eval x=v at hx
   cases hx with
   | tup hvs=>
     obtain ⟨v,hv,hR⟩:=hvs.get hr'
     exact Y1j hr h2 (by simp [Instr.extract,hv]) hR
 case call c=>
   cases hc:c.callee with
   | invoke _ _=>simp only [hc] at h;exact (M.fail_eq (s:=s) h).elim
   | value x=>
     simp only [hc] at h
     obtain ⟨r,hr',l1,h1,ho1⟩:=Y2j h ho
     cases htl:r.tl with
     | false=>rw [htl] at h1;exact Ywl hr hop h1 ho1 hd hnext
     | true=>
       rw [htl] at h1
       obtain ⟨fd,hfd,l2,h2,ho2⟩:=Y26 hr h1 ho1
       obtain ⟨as,has,l3,h3,ho3⟩:=Y4j hr h2 ho2
       cases fd <;> first
         | exact (M.fail_eq (s:=s) h3).elim
         | skip
       rename_i f cs
       cases cs with
       | cons _ _=>exact (M.fail_eq (s:=s) h3).elim
       | nil=>
       match as,has,h3 with
       | [d],has,h3=>
         obtain ⟨hne,l4,h4,ho4⟩:=Yl h3 ho3
         cases hvs:c.args.toList.map a.eval with
         | nil=>rw [hvs] at has;cases has
         | cons v vs=>
         rw [hvs] at has
         cases has with
         | cons k1 k2=>
         cases k2
         refine Y1m ?_ hd hnext
         have ha:c.args.map a.eval=#[v]:=by apply Array.ext';simpa using hvs
         obtain ⟨_,hfe⟩:∃ u:Unit,a.eval x=.func (.func f) #[] #[]:=by
           generalize a.eval x=fv at hfd
           cases hfd with
           | fn hh=>cases hh;exact ⟨(),rfl⟩
         unfold Y15f at hne
         split at hne
         . rename_i fn hfn
           simp only [Bool.and_eq_true,beq_iff_eq] at hne
           have hx:(callFunc f #[v]).run P w=.ok (.value v) w:=by
             rw [run_callFunc_extern hfn (by rw [hne.1.1];rfl) hne.2 (e:=Extern.AbiNoEscape.same) (by unfold Extern.findNext;rw [hne.1.1,hne.1.2];rfl) (by unfold Extern.find;rw [hne.1.1];rfl)]
             rfl
           refine Ytd hr h4 ?_ k1
           have hrun:execOp a.eval o=callFunc f #[v]:=by
             simp [execOp,hop,resolve,hc,invoke,hfe,ha,Deferred.ofValue]
           rw [hrun]
           exact hx
         . simp at hne
       | [],has,h3=>exact (M.fail_eq (s:=s) h3).elim
       | _ :: _ :: _,has,h3=>exact (M.fail_eq (s:=s) h3).elim
   | builtin b=>
     cases b <;> simp only [hc] at h <;> first
       | exact (M.fail_eq (s:=s) h).elim
       | skip
     case append=>
       obtain ⟨as,has,l1,h1,ho1⟩:=Y4j hr h ho
       match as,has,h1 with
       | [d1,d2],has,h1=>
         cases hvs:c.args.toList.map a.eval with
         | nil=>rw [hvs] at has;cases has
         | cons v vs=>
         rw [hvs] at has
         cases has with
         | cons k1 k2=>
         cases k2 with
         | cons k2 k3=>
         cases k3
         rename_i u
         refine Y1m ?_ hd hnext
         have e:(execOp a.eval o)=(do pure (.value (<- Builtin.append_ c.argTypes o.type (c.args.map a.eval))):Sem Next):=by
           simp [execOp,hop,resolve,hc,invoke,builtin]
         rw [e]
         exact Yr7 ht hr h1 ho1 k1 k2 (by apply Array.ext';simpa using hvs)
       | [],has,h1=>exact (M.fail_eq (s:=s) h1).elim
       | [_],has,h1=>exact (M.fail_eq (s:=s) h1).elim
       | _ :: _ :: _ :: _,has,h1=>exact (M.fail_eq (s:=s) h1).elim
     case clear=>
       obtain ⟨as,has,l1,h1,ho1⟩:=Y4j hr h ho
       match as,has,h1 with
       | [d1],has,h1=>
         cases hvs:c.args.toList.map a.eval with
         | nil=>rw [hvs] at has;cases has
         | cons v vs=>
         rw [hvs] at has
         cases has with
         | cons k1 k2=>
         cases k2
         refine Y1m ?_ hd hnext
         have e:(execOp a.eval o)=(do pure (.value (<- Builtin.clear_ c.argTypes o.type (c.args.map a.eval))):Sem Next):=by
           simp [execOp,hop,resolve,hc,invoke,builtin]
         rw [e]
         exact Ytj ht hr h1 ho1 k1 (by apply Array.ext';simpa using hvs)
       | [],has,h1=>exact (M.fail_eq (s:=s) h1).elim
       | _ :: _ :: _,has,h1=>exact (M.fail_eq (s:=s) h1).elim
     case unsafeSliceData=>
       obtain ⟨as,has,l1,h1,ho1⟩:=Y4j hr h ho
       split at h1
       . rename_i b off len cap
         obtain ⟨hlen,l2,h2,ho2⟩:=Yx h1 ho1
         have he:=Y8 (s:=s) h2
         subst he
         cases hvs:c.args.toList.map a.eval with
         | nil=>rw [hvs] at has;cases has
         | cons v vs=>
         rw [hvs] at has
         cases has with
         | cons k1 k2=>
         cases k2
         refine Y1m ?_ hd hnext
         have e:(execOp a.eval o)=(do pure (.value (<- Builtin.unsafeSliceData_ c.argTypes o.type (c.args.map a.eval))):Sem Next):=by
           simp [execOp,hop,resolve,hc,invoke,builtin]
         have ha:c.args.map a.eval=#[v]:=by apply Array.ext';simpa using hvs
         rw [e,ha]
         cases k1 with
         | ref0 _ _=>exact absurd hlen.1 (Nat.lt_irrefl _)
         | refz _ _=>exact absurd hlen.1 (Nat.lt_irrefl _)
         | ref q1 q2 q3=>
           rename_i cap' B base sz lim
           have hc0:cap'≠0:=by omega
           have hrun:=Lib.run_unsafeSliceData_row (P:=P) w c.argTypes o.type ⟨B,base+off,none⟩ len cap' hc0
           exact ⟨_,w,.inl (by simp only [Sem.run_bind,hrun,Result.andThen_ok,Sem.run_pure]),im,I,hr,.ptr q1⟩
       . exact (M.fail_eq (s:=s) h1).elim
     case unsafeString=>
       obtain ⟨as,has,l1,h1,ho1⟩:=Y4j hr h ho
       match as,has,h1 with
       | [],has,h1=>exact (M.fail_eq (s:=s) h1).elim
       | [_],has,h1=>cases ‹D› <;> exact (M.fail_eq (s:=s) h1).elim
       | d1 :: d2 :: _ :: _,has,h1=>cases d1 <;> first | exact (M.fail_eq (s:=s) h1).elim | (cases d2 <;> first | exact (M.fail_eq (s:=s) h1).elim | (rename_i kk _;cases kk <;> exact (M.fail_eq (s:=s) h1).elim))
       | [d1,d2],has,h1=>
         cases d1 <;> first
           | exact (M.fail_eq (s:=s) h1).elim
           | skip
         rename_i b off
         cases d2 <;> first
           | exact (M.fail_eq (s:=s) h1).elim
           | skip
         rename_i kk n
         cases kk <;> first
           | exact (M.fail_eq (s:=s) h1).elim
           | skip
         obtain ⟨pt,ht1,l2,h2,ho2⟩:=Y2j h1 ho1
         obtain ⟨i,hi,l3,h3,ho3⟩:=Yw ht h2 ho2
         cases hk:i.kind <;> rw [hk] at h3 <;> first
           | exact (M.fail_eq (s:=s) h3).elim
           | skip
         . rename_i e'
           obtain ⟨j,hj,l4,h4,ho4⟩:=Yw ht h3 ho3
           obtain ⟨l5,h5,ho5⟩:=Y2e h4 ho4
           cases hs:s.slot b with
           | none=>rw [hs] at h5;exact (M.fail_eq (s:=s) h5).elim
           | some ob=>
           cases ob with
           | none=>rw [hs] at h5;exact (M.fail_eq (s:=s) h5).elim
           | some blk=>
             rw [hs] at h5
             obtain ⟨ht5,l6,h6,ho6⟩:=Yl h5 ho5
             obtain ⟨⟨n1,n2,n3,n4⟩,l7,h7,ho7⟩:=Yx h6 ho6
             have he:=Y8 (s:=s) h7
             subst he
             simp only [Bool.and_eq_true,Nat.beq_eq,Nat.ble_eq] at ht5
             obtain ⟨t1,t2,t3,t4,t5⟩:=ht5
             subst t1
             cases hvs:c.args.toList.map a.eval with
             | nil=>rw [hvs] at has;cases has
             | cons v vs=>
             rw [hvs] at has
             cases has with
             | cons k1 k2=>
             cases k2 with
             | cons k2 k3=>
             cases k3
             cases k2
             refine Y1m ?_ hd hnext
             have ee:(execOp a.eval o)=(do pure (.value (<- Builtin.unsafeString_ c.argTypes o.type (c.args.map a.eval))):Sem Next):=by
               simp [execOp,hop,resolve,hc,invoke,builtin]
             have ha:c.args.map a.eval=#[v,.int .i64 n]:=by apply Array.ext';simpa using hvs
             cases k1 with
             | ptr q1=>
             rename_i B base sz lim
             obtain ⟨pl,p1,p2⟩:=hr.own.blk b blk hs
             rw [q1] at p1
             cases p1
             obtain ⟨cc,el,fz,g1,g2,g3,⟨_,g4⟩,g5,g6,g7⟩:=p2
             have hel:base=0/\el=e':=by
               rw [t3] at g4
               rcases g4 with g4 | ⟨g4,g8,g9 | g9⟩
               . exact absurd g4 (Nat.succ_ne_zero _)
               . exact ⟨g4,(Nat.succ.inj g9).symm⟩
               . exact absurd t5 (Y19d g9)
             obtain ⟨rfl,rfl⟩:=hel
             rw [t2] at g7
             simp only [if_true] at g7
             obtain ⟨ns,e1,e2⟩:=Ye0 (g7.take n.toNat) n4
             have hlen:ns.length=n.toNat:=by
               have:=congrArg List.length e2
               simp only [List.length_take,List.length_map] at this
               rw [<- this]
               exact Nat.min_eq_left n2
             have hnn:((n.toNat:Nat):Int)=n:=Int.toNat_of_nonneg (Int.le_of_lt n1)
             have hn0:n.toNat≠0:=by omega
             obtain ⟨ia,hia,_⟩:∃ ia:Array TypeId,c.argTypes=ia/\True:=⟨_,rfl,trivial⟩
             have hst:=Y7d (o:=0) (k:=n.toNat) g1 rfl
             have htk:((cc.toList.drop 0).take blk.cs.length).take n.toNat=(cc.toList.drop 0).take n.toNat:=by
               rw [List.take_take,Nat.min_eq_left n2]
             rw [htk] at e1
             have hrun:=Ybw (P:=P) (w:=w) c.argTypes o.type el (hi.ptr hk) t4 B cc.size (by unfold World.shape?;rw [g1]) ns (by omega) (by have:=g3;have:=g2;omega) (by omega) (by
               intro j x hx
               refine hst j _ ?_
               rw [e1,List.getElem?_map,hx]
               rfl) (by rw [<- Array.getElem?_toList];simpa using ht1)
             rw [hlen,hnn,<- e2] at hrun
             obtain ⟨ob,hob⟩:=Ytc g1 hn0
             rw [hob] at hrun
             rw [ee,ha]
             refine ⟨_,Y2k w B ob,.inl (by simp only [Sem.run_bind,Nat.add_zero,hrun,Result.andThen_ok,Sem.run_pure]),im,I,hr.wipe hs q1 rfl,.str _⟩
     case copy=>
       obtain ⟨as,has,l1,h1,ho1⟩:=Y4j hr h ho
       match as,has,h1 with
       | [d1,d2],has,h1=>
         cases hvs:c.args.toList.map a.eval with
         | nil=>rw [hvs] at has;cases has
         | cons v vs=>
         rw [hvs] at has
         cases has with
         | cons k1 k2=>
         cases k2 with
         | cons k2 k3=>
         cases k3
         rename_i u
         refine Y1m ?_ hd hnext
         have e:(execOp a.eval o)=(do pure (.value (<- Builtin.copy_ c.argTypes o.type (c.args.map a.eval))):Sem Next):=by
           simp [execOp,hop,resolve,hc,invoke,builtin]
         rw [e]
         exact Ywj ht hr h1 ho1 k1 k2 (by apply Array.ext';simpa using hvs)
       | [],has,h1=>exact (M.fail_eq (s:=s) h1).elim
       | [_],has,h1=>exact (M.fail_eq (s:=s) h1).elim
       | _ :: _ :: _ :: _,has,h1=>exact (M.fail_eq (s:=s) h1).elim
     case len=>
       obtain ⟨as,has,l1,h1,ho1⟩:=Y4j hr h ho
       obtain ⟨d1,hd1,l2,h2,ho2⟩:=Y2j h1 ho1
       obtain ⟨t,ht1,l3,h3,ho3⟩:=Y2j h2 ho2
       obtain ⟨r,l4,l5,h4,h5,ho4,ho5⟩:=M.bindO h3 ho3
       obtain ⟨v,hv,hR⟩:=has.get hd1
       obtain ⟨u,hrun,hR2⟩:=Y112 (P:=P) (ts:=c.argTypes) (vs:=c.args.map a.eval) (rt:=o.type) ht h4 ho4 hR (by simpa using ht1) (by simpa using hv)
       refine Y1m ?_ hd hnext
       have e:(execOp a.eval o)=(do pure (.value (<- Builtin.len_ c.argTypes o.type (c.args.map a.eval))):Sem Next):=by
         simp [execOp,hop,resolve,hc,invoke,builtin]
       rw [e]
       exact Y1j hr h5 hrun hR2
     case max=>
       obtain ⟨as,has,l1,h1,ho1⟩:=Y4j hr h ho
       match as,has,h1 with
       | [],has,h1=>exact (M.fail_eq (s:=s) h1).elim
       | d1 :: ds,has,h1=>
         obtain ⟨r,l2,l3,h2,h3,ho2,ho3⟩:=M.bindO h1 ho1
         cases hvs:c.args.toList.map a.eval with
         | nil=>rw [hvs] at has;cases has
         | cons v vs=>
         rw [hvs] at has
         cases has with
         | cons k1 k2=>
         obtain ⟨u,hrun,hu⟩:=Ymw (P:=P) (w:=w) (m2:=Builtin.max2) (fun k x k' y=>by simp [Builtin.max2]) h2 k1 k2 (fun _=>trivial)
         refine Y1m ?_ hd hnext
         have e:(execOp a.eval o)=(do pure (.value (<- Builtin.max_ c.argTypes o.type (c.args.map a.eval))):Sem Next):=by
           simp [execOp,hop,resolve,hc,invoke,builtin]
         rw [e]
         refine Y1j hr h3 ?_ hu
         have e2:(c.args.map a.eval).toList=v :: vs:=by simpa using hvs
         simp only [Builtin.max_,e2,hrun]
     case min=>
       obtain ⟨as,has,l1,h1,ho1⟩:=Y4j hr h ho
       match as,has,h1 with
       | [],has,h1=>exact (M.fail_eq (s:=s) h1).elim
       | d1 :: ds,has,h1=>
         obtain ⟨r,l2,l3,h2,h3,ho2,ho3⟩:=M.bindO h1 ho1
         cases hvs:c.args.toList.map a.eval with
         | nil=>rw [hvs] at has;cases has
         | cons v vs=>
         rw [hvs] at has
         cases has with
         | cons k1 k2=>
         obtain ⟨u,hrun,hu⟩:=Ymw (P:=P) (w:=w) (m2:=Builtin.min2) (fun k x k' y=>by simp [Builtin.min2]) h2 k1 k2 (fun _=>trivial)
         refine Y1m ?_ hd hnext
         have e:(execOp a.eval o)=(do pure (.value (<- Builtin.min_ c.argTypes o.type (c.args.map a.eval))):Sem Next):=by
           simp [execOp,hop,resolve,hc,invoke,builtin]
         rw [e]
         refine Y1j hr h3 ?_ hu
         have e2:(c.args.map a.eval).toList=v :: vs:=by simpa using hvs
         simp only [Builtin.min_,e2,hrun]
end
end Go.Proofs.YtpdcnikdoikldaaGreatDoor.Sv
namespace Go.Proofs.YtpdcnikdoikldaaGreatDoor.Sv
open Go Go.RowKit
structure Loc {U :Type} (m:M U):Prop where
 out:∀ (s s':St) (x:U) (l:Log),m s=some (x,l)->(∀ t,t∈l.t->s'.tmp t=s.tmp t)->(∀ h,h∈l.h->s'.slot h=s.slot h)->m s'=some (x,l)
theorem Loc.pure {U :Type} (x:U):Loc (M.pure x):=⟨fun s s' y l h _ _=>h⟩
theorem Loc.fail {U :Type}:Loc (M.fail:M U):=⟨fun s s' y l h _ _=>h⟩
theorem Loc.need (p :Prop):Loc (need p):=⟨fun s s' y l h _ _=>h⟩
theorem Loc.ask {sym b :Bool} {p:Prop} {h:b=true->p}:Loc (ask sym b p h):=by cases sym <;> cases b <;> exact ⟨fun s s' y l h _ _=>h⟩
theorem Loc.test (b :Bool):Loc (test b):=by cases b;exact Loc.fail;exact Loc.pure _
theorem Loc.lift {U :Type} (x:Option U):Loc (lift x):=by cases x;exact Loc.fail;exact Loc.pure _
theorem Loc.getT (t :Nat):Loc (getT t):=by
 refine ⟨?_⟩
 intro s s' x l h h1 h2
 simp only [Sv.getT,Option.some.injEq,Prod.mk.injEq] at h ⊢
 obtain ⟨rfl,rfl⟩:=h
 exact ⟨h1 t (by simp),rfl⟩
theorem Loc.getH (t :Nat):Loc (getH t):=by
 refine ⟨?_⟩
 intro s s' x l h h1 h2
 simp only [Sv.getH,Option.some.injEq,Prod.mk.injEq] at h ⊢
 obtain ⟨rfl,rfl⟩:=h
 exact ⟨h2 t (by simp),rfl⟩
theorem Loc.bind {U Qb :Type} {m:M U} {f:U->M Qb} (hm:Loc m) (hf:∀ a,Loc (f a)):Loc (m >>= f):=by
 refine ⟨?_⟩
 intro s s' x l h h1 h2
 obtain ⟨a,l1,l2,g1,g2,rfl⟩:=M.bind_eq h
 have e1:=hm.out s s' a l1 g1 (fun t ht=>h1 t (List.mem_append.2 (.inl ht))) (fun t ht=>h2 t (List.mem_append.2 (.inl ht)))
 have e2:=(hf a).out s s' x l2 g2 (fun t ht=>h1 t (List.mem_append.2 (.inr ht))) (fun t ht=>h2 t (List.mem_append.2 (.inr ht)))
 show M.bind m f s'=_
 simp only [M.bind,e1,e2]
theorem Loc.at_ (ty :Ty) (t:Nat):Loc (ty.at t):=Loc.lift _
theorem Loc.ev (x :Operand):Loc (ev x):=by
 cases x
 . exact Loc.getT _
 . exact Loc.lift _
 . exact Loc.fail
 . exact Loc.pure _
theorem Loc.eff (d :D):Loc (eff d):=Loc.pure _
theorem Loc.neg (op :BinOp) (b:Bool):Loc (neg op b):=by cases op <;> first | exact Loc.pure _ | exact Loc.fail
theorem Loc.intOp (op :BinOp) (k:IntKind) (x y:Int):Loc (intOp op k x y):=by
 cases op <;> first | exact Loc.pure _ | exact Loc.fail | exact Loc.bind (Loc.need _) fun _=>Loc.pure _
theorem Loc.shOp (op :BinOp) (k:IntKind) (x y:Int):Loc (shOp op k x y):=by
 cases op <;> first | exact Loc.pure _ | exact Loc.fail | exact Loc.bind (Loc.need _) fun _=>Loc.pure _
theorem Loc.strOp (op :BinOp) (x y:ByteArray):Loc (strOp op x y):=by
 cases op <;> first | exact Loc.pure _ | exact Loc.fail | exact Loc.bind (Loc.need _) fun _=>Loc.pure _
theorem Loc.nameOf (o :Oper) (k:Nat):Loc (nameOf o k):=by
 unfold Sv.nameOf
 split
 . exact Loc.pure _
 . exact Loc.fail
theorem Loc.newAt (o :Oper) (b:Blk) (f:Nat->D):Loc (newAt o b f):=by
 unfold Sv.newAt
 refine Loc.bind (Loc.nameOf _ _) fun n=>Loc.bind (Loc.getH _) fun x=> ?_
 split
 . exact Loc.pure _
 . exact Loc.fail
theorem Loc.unD (op :UnOp) (x:D):Loc (unD op x):=by
 cases op <;> cases x <;> first | exact Loc.pure _ | exact Loc.fail
theorem Loc.bound (x :Option D) (d:Nat):Loc (bound x d):=by
 cases x with
 | none=>exact Loc.pure _
 | some d=>cases d <;> first | exact Loc.pure _ | exact Loc.fail
theorem Loc.binD (ty :Ty) (op:BinOp) (t:Nat) (x y:D):Loc (binD ty op t x y):=by
 unfold Sv.binD
 split
 . split
   . exact Loc.shOp ..
   . exact Loc.shOp ..
   . exact Loc.bind (Loc.test _) fun _=>Loc.intOp ..
 all_goals first
   | exact Loc.strOp ..
   | exact Loc.fail
   | exact Loc.bind (Loc.at_ ..) fun _=>Loc.bind (Loc.test _) fun _=>Loc.neg ..
   | exact Loc.bind (Loc.at_ ..) fun _=>Loc.bind (Loc.test _) fun _=>Loc.bind (Loc.lift _) fun _=>Loc.neg ..
   | exact Loc.bind (Loc.at_ ..) fun _=>Loc.bind (Loc.test _) fun _=>Loc.bind (Loc.lift _) fun _=>Loc.bind (Loc.need _) fun _=>Loc.neg ..
   | (refine Loc.bind (Loc.at_ ..) fun i=> ?_
      split
      . exact Loc.bind (Loc.at_ ..) fun _=>Loc.bind (Loc.test _) fun _=>Loc.pure _
      . exact Loc.fail)
theorem Loc.rowFrom (b off :Nat):Loc (rowFrom b off):=by
 unfold Sv.rowFrom
 refine Loc.bind (Loc.getH _) fun x=> ?_
 split
 . exact Loc.bind (Loc.test _) fun _=>Loc.pure _
 . exact Loc.fail
theorem Loc.rowSz (z b off :Nat):Loc (rowSz z b off):=by
 unfold Sv.rowSz
 refine Loc.bind (Loc.getH _) fun x=> ?_
 split
 . exact Loc.bind (Loc.test _) fun _=>Loc.bind (Loc.test _) fun _=>Loc.pure _
 . exact Loc.fail
theorem Loc.behind (x :D):Loc (behind x):=by
 unfold Sv.behind
 split
 . refine Loc.bind (Loc.getH _) fun x=> ?_
   split
   . exact Loc.pure _
   . exact Loc.fail
 . exact Loc.pure _
 . exact Loc.fail
theorem Loc.loadD (ty :Ty) (t:Nat) (x:D) (sym:Bool):Loc (loadD ty t x sym):=by
 refine Loc.bind (Loc.at_ ..) fun i=>Loc.bind (Loc.behind _) fun cs=> ?_
 split
 . exact Loc.bind Loc.ask fun _=>Loc.pure _
 . split
   . exact Loc.bind (Loc.need _) fun _=>Loc.pure _
   . split
     . exact Loc.pure _
     . exact Loc.fail
theorem Loc.castH (ah :List (Nat× List D)):∀ (h:List (Nat× Option Blk)),Loc (castH ah h)
 | []=>Loc.pure _
 | (b,none) :: r=>Loc.bind (Loc.castH ah r) fun _=>Loc.pure _
 | (b,some blk) :: r=>by
   unfold Sv.castH
   refine Loc.bind (Loc.castH ah r) fun _=> ?_
   split
   . exact Loc.bind (Loc.need _) fun _=>Loc.pure _
   . exact Loc.pure _
theorem Loc.castV (d :D):∀ (x:Option D),Loc (castV d x)
 | none=>Loc.pure _
 | some x=>Loc.bind (Loc.need _) fun _=>Loc.pure _
theorem Loc.storeD (ty :Ty) (t:Nat) (x v:D) (sym:Bool):Loc (storeD ty t x v sym):=by
 unfold Sv.storeD
 refine Loc.bind (Loc.at_ ..) fun i=> ?_
 split
 . refine Loc.bind (Loc.getH _) fun x=> ?_
   split
   . exact Loc.bind (Loc.test _) fun _=>Loc.bind Loc.ask fun _=>Loc.pure _
   . exact Loc.fail
 . exact Loc.fail
theorem Loc.fieldsOf (ty :Ty) (t:Nat):Loc (fieldsOf ty t):=by
 unfold Sv.fieldsOf
 refine Loc.bind (Loc.at_ ..) fun i=> ?_
 split
 . exact Loc.pure _
 . exact Loc.fail
theorem Loc.fieldAddrD (ty :Ty) (t:Nat) (x:D) (k:Nat):Loc (fieldAddrD ty t x k):=by
 unfold Sv.fieldAddrD
 refine Loc.bind (Loc.fieldsOf ..) fun fs=>Loc.bind (Loc.lift _) fun p=>Loc.bind (Loc.at_ ..) fun i=>Loc.bind (Loc.test _) fun _=> ?_
 split
 . exact Loc.pure _
 . exact Loc.pure _
 . exact Loc.fail
theorem Loc.fieldD (ty :Ty) (t:Nat) (x:D) (k:Nat):Loc (fieldD ty t x k):=by
 unfold Sv.fieldD
 refine Loc.bind (Loc.fieldsOf ..) fun fs=>Loc.bind (Loc.lift _) fun p=>Loc.bind (Loc.at_ ..) fun i=> ?_
 split
 . split
   . exact Loc.pure _
   . exact Loc.lift _
 . exact Loc.fail
theorem Loc.indexAddrD (ty :Ty) (t:Nat) (x y:D):Loc (indexAddrD ty t x y):=by
 unfold Sv.indexAddrD
 refine Loc.bind (Loc.at_ ..) fun i=> ?_
 split <;> first | exact Loc.fail | exact Loc.bind (Loc.at_ ..) fun _=>Loc.bind (Loc.need _) fun _=>Loc.pure _
theorem Loc.indexD (ty :Ty) (t:Nat) (x y:D):Loc (indexD ty t x y):=by
 unfold Sv.indexD
 refine Loc.bind (Loc.at_ ..) fun i=> ?_
 split
 . exact Loc.bind (Loc.need _) fun _=>Loc.pure _
 . refine Loc.bind (Loc.at_ ..) fun _=>Loc.bind (Loc.need _) fun _=> ?_
   split
   . exact Loc.pure _
   . exact Loc.bind (Loc.need _) fun _=>Loc.pure _
 . exact Loc.fail
theorem Loc.sliceD (ty :Ty) (t:Nat) (x:D) (lo hi mx:Option D):Loc (sliceD ty t x lo hi mx):=by
 unfold Sv.sliceD
 refine Loc.bind (Loc.at_ ..) fun i=> ?_
 split
 . exact Loc.bind (Loc.at_ ..) fun _=>Loc.bind (Loc.test _) fun _=>Loc.bind (Loc.bound ..) fun _=>Loc.bind (Loc.bound ..) fun _=>Loc.bind (Loc.bound ..) fun _=>Loc.bind (Loc.need _) fun _=>Loc.pure _
 . exact Loc.bind (Loc.at_ ..) fun _=>Loc.bind (Loc.test _) fun _=>Loc.bind (Loc.bound ..) fun _=>Loc.bind (Loc.bound ..) fun _=>Loc.bind (Loc.bound ..) fun _=>Loc.bind (Loc.need _) fun _=>Loc.pure _
 . exact Loc.bind (Loc.at_ ..) fun _=>Loc.bind (Loc.test _) fun _=>Loc.bind (Loc.bound ..) fun _=>Loc.bind (Loc.bound ..) fun _=>Loc.bind (Loc.bound ..) fun _=>Loc.bind (Loc.need _) fun _=>Loc.pure _
 . exact Loc.bind (Loc.bound ..) fun _=>Loc.bind (Loc.bound ..) fun _=>Loc.bind (Loc.need _) fun _=>Loc.pure _
 . exact Loc.bind (Loc.at_ ..) fun _=>Loc.bind (Loc.bound ..) fun _=>Loc.bind (Loc.bound ..) fun _=>Loc.bind (Loc.need _) fun _=>Loc.pure _
 . refine Loc.bind (Loc.at_ ..) fun _=>Loc.bind (Loc.getH _) fun _=> ?_
   split
   . exact Loc.bind (Loc.test _) fun _=>Loc.bind (Loc.bound ..) fun _=>Loc.bind (Loc.bound ..) fun _=>Loc.bind (Loc.need _) fun _=>Loc.pure _
   . exact Loc.fail
 . exact Loc.fail
theorem Loc.slice3D (ty :Ty) (t:Nat) (x:D) (lo hi mx:Option D):Loc (slice3D ty t x lo hi mx):=by
 unfold Sv.slice3D
 refine Loc.bind (Loc.at_ ..) fun i=> ?_
 split
 . exact Loc.bind (Loc.at_ ..) fun _=>Loc.bind (Loc.test _) fun _=>Loc.bind (Loc.bound ..) fun _=>Loc.bind (Loc.bound ..) fun _=>Loc.bind (Loc.bound ..) fun _=>Loc.bind (Loc.need _) fun _=>Loc.pure _
 . exact Loc.fail
theorem Loc.sl3 (res :Option Out) (ty:Ty) (t:Nat) (x:D) (lo hi mx:Option D):Loc (match Ymo res with | true=>Sv.slice3D ty t x lo hi mx | false=>Sv.sliceD ty t x lo hi mx):=by
 cases Ymo res
 . exact Loc.sliceD ..
 . exact Loc.slice3D ..
theorem Loc.fillD (pl :Nat->Option (Nat× Nat)):∀ (ps:List (Nat× D)) (cs:List D),Loc (fillD pl cs ps)
 | [],cs=>Loc.pure _
 | (i,d) :: ps,cs=>Loc.bind (Loc.lift _) fun p=>Loc.bind (Loc.test _) fun _=>Loc.bind Loc.ask fun _=>Loc.fillD pl ps _
theorem Loc.evs :∀ (xs:List (Nat× Operand)),Loc (evs xs)
 | []=>Loc.pure _
 | (i,x) :: r=>Loc.bind (Loc.ev _) fun _=>Loc.bind (Loc.evs r) fun _=>Loc.pure _
theorem Loc.evl :∀ (xs:List Operand),Loc (evl xs)
 | []=>Loc.pure _
 | x :: r=>Loc.bind (Loc.ev _) fun _=>Loc.bind (Loc.evl r) fun _=>Loc.pure _
theorem Loc.placesOf (ty :Ty):∀ (fs:List (Nat× Nat)),Loc (placesOf ty fs)
 | []=>Loc.pure _
 | (o,t) :: r=>Loc.bind (Loc.at_ ..) fun _=>Loc.bind (Loc.placesOf ty r) fun _=>Loc.pure _
theorem Loc.buildD (ty :Ty) (t:Nat) (ps:List (Nat× D)):Loc (buildD ty t ps):=by
 unfold Sv.buildD
 refine Loc.bind (Loc.at_ ..) fun i=>Loc.bind (Loc.test _) fun _=> ?_
 split
 . exact Loc.bind (Loc.placesOf ..) fun _=>Loc.bind (Loc.fillD ..) fun _=>Loc.pure _
 . exact Loc.bind (Loc.at_ ..) fun _=>Loc.bind (Loc.fillD ..) fun _=>Loc.pure _
 . exact Loc.fail
theorem Loc.lenD (ty :Ty) (t:Nat) (x:D):Loc (lenD ty t x):=by
 unfold Sv.lenD
 refine Loc.bind (Loc.at_ ..) fun i=> ?_
 split <;> first | exact Loc.pure _ | exact Loc.fail
theorem Loc.minD (lt :Int->Int->Bool):∀ (ds:List D) (d:D),Loc (minD lt d ds)
 | [],d=>by cases d <;> exact Loc.pure _
 | y :: r,d=>by
   cases d <;> cases y <;> first
     | exact Loc.fail
     | exact Loc.minD lt r _
theorem Loc.addedD (ty :Ty) (sz:Nat) (x:D):Loc (addedD ty sz x):=by
 unfold Sv.addedD
 split
 . exact Loc.pure _
 . exact Loc.pure _
 . exact Loc.pure _
 . exact Loc.bind (Loc.test _) fun _=>Loc.pure _
 . exact Loc.bind (Loc.need _) fun _=>Loc.bind (Loc.need _) fun _=>Loc.pure _
 . exact Loc.bind (Loc.rowFrom ..) fun _=>Loc.bind (Loc.need _) fun _=>Loc.pure _
 . exact Loc.fail
theorem Loc.copiedD (sz :Nat) (x:D):Loc (copiedD sz x):=by
 unfold Sv.copiedD
 split
 . exact Loc.pure _
 . exact Loc.pure _
 . exact Loc.bind (Loc.need _) fun _=>Loc.bind (Loc.need _) fun _=>Loc.pure _
 . exact Loc.bind (Loc.rowFrom ..) fun _=>Loc.bind (Loc.need _) fun _=>Loc.pure _
 . exact Loc.fail
theorem Loc.copyD (ty :Ty) (ts:List Nat) (x y:D):Loc (copyD ty ts x y):=by
 unfold Sv.copyD
 refine Loc.bind (Loc.lift _) fun t=>Loc.bind (Loc.at_ ..) fun i=> ?_
 split
 . refine Loc.bind (Loc.at_ ..) fun j=>Loc.bind (Loc.copiedD ..) fun ⟨new,k⟩=> ?_
   dsimp only
   split
   . refine Loc.bind (Loc.getH _) fun _=> ?_
     split
     . exact Loc.bind (Loc.test _) fun _=>Loc.bind (Loc.need _) fun _=>Loc.pure _
     . exact Loc.fail
   . exact Loc.fail
 . exact Loc.fail
theorem Loc.appendD (ty :Ty) (o:Oper) (rm tl:Bool) (ts:List Nat) (x y:D):Loc (appendD ty o rm tl ts x y):=by
 unfold Sv.appendD
 refine Loc.bind (Loc.lift _) fun t=>Loc.bind (Loc.at_ ..) fun i=> ?_
 split
 . refine Loc.bind (Loc.at_ ..) fun j=>Loc.bind (Loc.test _) fun _=>Loc.bind (Loc.lift _) fun _=>Loc.bind (Loc.at_ ..) fun _=>Loc.bind (Loc.test _) fun _=>Loc.bind (Loc.addedD ..) fun ⟨new,k⟩=> ?_
   dsimp only
   split
   . exact Loc.bind (Loc.need _) fun _=>Loc.newAt ..
   . exact Loc.bind (Loc.need _) fun _=>Loc.newAt ..
   . cases rm with
     | true=>
       refine Loc.bind (Loc.getH _) fun y=> ?_
       split
       . exact Loc.bind (Loc.test _) fun _=>Loc.bind (Loc.test _) fun _=>Loc.bind (Loc.need _) fun _=>Loc.pure _
       . exact Loc.fail
     | false=>
     refine Loc.bind (Loc.getH _) fun y=>Loc.bind ?_ fun _=> ?_
     . split
       . exact Loc.test _
       . exact Loc.fail
     refine Loc.bind (Loc.rowSz ..) fun _=>Loc.bind (Loc.need _) fun _=>Loc.bind (Loc.need _) fun _=>Loc.bind (Loc.nameOf ..) fun _=>Loc.bind (Loc.getH _) fun _=> ?_
     split
     . exact Loc.pure _
     . exact Loc.fail
   . exact Loc.fail
 . exact Loc.fail
theorem Loc.clearD (ty :Ty) (ts:List Nat) (x:D):Loc (clearD ty ts x):=by
 unfold Sv.clearD
 refine Loc.bind (Loc.lift _) fun _=>Loc.bind (Loc.at_ ..) fun i=> ?_
 split
 . refine Loc.bind (Loc.at_ ..) fun j=>Loc.bind (Loc.test _) fun _=> ?_
   split
   . refine Loc.bind (Loc.getH _) fun y=> ?_
     split
     . exact Loc.bind (Loc.test _) fun _=>Loc.bind (Loc.test _) fun _=>Loc.bind (Loc.need _) fun _=>Loc.pure _
     . exact Loc.fail
   . exact Loc.fail
 . exact Loc.fail
theorem Loc.makeD (ty :Ty) (o:Oper) (t:Nat) (x y:D):Loc (makeD ty o t x y):=by
 unfold Sv.makeD
 refine Loc.bind (Loc.at_ ..) fun i=> ?_
 split
 . exact Loc.bind (Loc.at_ ..) fun _=>Loc.bind (Loc.test _) fun _=>Loc.bind (Loc.need _) fun _=>Loc.newAt ..
 . exact Loc.fail
theorem Loc.chanD (ty :Ty) (o:Oper) (t:Nat) (x:D):Loc (chanD ty o t x):=by
 unfold Sv.chanD
 refine Loc.bind (Loc.at_ ..) fun i=> ?_
 split
 . exact Loc.bind (Loc.at_ ..) fun _=>Loc.bind (Loc.need _) fun _=>Loc.newAt ..
 . exact Loc.fail
theorem Loc.convD (P :Program) (ty:Ty) (o:Oper) (t t':Nat) (x:D):Loc (convD P ty o t t' x):=by
 unfold Sv.convD
 refine Loc.bind (Loc.at_ ..) fun i=>Loc.bind (Loc.at_ ..) fun j=> ?_
 split
 . exact Loc.eff _
 . exact Loc.eff _
 . split
   . exact Loc.bind (Loc.at_ ..) fun _=>Loc.bind (Loc.test _) fun _=>Loc.eff _
   . exact Loc.fail
 . split
   . exact Loc.bind (Loc.at_ ..) fun _=>Loc.bind (Loc.test _) fun _=>Loc.bind (Loc.need _) fun _=>Loc.eff _
   . exact Loc.fail
 . split
   . exact Loc.bind (Loc.at_ ..) fun _=>Loc.bind (Loc.test _) fun _=>Loc.bind (Loc.rowFrom ..) fun _=>Loc.bind (Loc.need _) fun _=>Loc.eff _
   . exact Loc.fail
 . split
   . refine Loc.bind (Loc.at_ ..) fun _=>Loc.bind (Loc.test _) fun _=>Loc.bind (Loc.getH _) fun x=> ?_
     rcases x with _ | _ | _
     . exact Loc.fail
     . exact Loc.fail
     . exact Loc.bind (Loc.test _) fun _=>Loc.eff _
   . exact Loc.fail
 . split
   . refine Loc.bind (Loc.at_ ..) fun _=>Loc.bind (Loc.getH _) fun x=> ?_
     rcases x with _ | _ | _
     . exact Loc.fail
     . exact Loc.fail
     . exact Loc.bind (Loc.test _) fun _=>Loc.eff _
   . exact Loc.fail
 . exact Loc.bind (Loc.at_ ..) fun _=>Loc.bind (Loc.test _) fun _=>Loc.bind (Loc.test _) fun _=>Loc.newAt ..
 . exact Loc.fail
mutual
theorem Loc.hand (J av :List Nat):∀ (fuel:Nat) (d:D),Loc (hand J av fuel d)
 | 0,d=>Loc.fail
 | fuel+1,d=>by
   cases d with
   | agg cs=>exact Loc.bind (Loc.hands J av fuel cs) fun _=>Loc.pure _
   | fn f cs=>exact Loc.bind (Loc.hands J av fuel cs) fun _=>Loc.pure _
   | tup cs=>exact Loc.fail
   | chan b=>
     simp only [Sv.hand]
     split
     . exact Loc.pure _
     . exact Loc.fail
   | pn b=>
     simp only [Sv.hand]
     split
     . exact Loc.pure _
     . exact Loc.fail
   | ptr b off=>
     simp only [Sv.hand]
     split
     . exact Loc.pure _
     . refine Loc.bind (Loc.test _) fun _=>Loc.bind (Loc.getH _) fun _=> ?_
       split
       . split
         . exact Loc.pure _
         . exact Loc.bind (Loc.hands [] av fuel _) fun _=>Loc.pure _
       . exact Loc.fail
   | ref b off len cap=>
     simp only [Sv.hand]
     split
     . exact Loc.pure _
     . exact Loc.bind (Loc.test _) fun _=>Loc.bind (Loc.rowFrom ..) fun _=>Loc.pure _
   | _=>exact Loc.pure _
theorem Loc.hands (J av :List Nat):∀ (fuel:Nat) (ds:List D),Loc (hands J av fuel ds)
 | 0,ds=>Loc.fail
 | fuel+1,[]=>Loc.pure _
 | fuel+1,d :: ds=>Loc.bind (Loc.hand J av fuel d) fun _=>Loc.bind (Loc.hands J av fuel ds) fun _=>Loc.pure _
end
theorem Loc.handBlks (J :List Nat) (fuel:Nat):∀ (l:List Nat) (k:Nat),Loc (handBlks J fuel l k)
 | [],k=>Loc.pure _
 | b :: r,k=>by
   unfold Sv.handBlks
   refine Loc.bind (Loc.getH _) fun x=> ?_
   split
   . refine Loc.bind ?_ fun _=>Loc.bind (Loc.handBlks J fuel r (k+1)) fun _=>Loc.pure _
     split
     . exact Loc.pure _
     . exact Loc.hands ..
   . exact Loc.fail
theorem Loc.freshD (J :List Nat) (base:Nat) (q:Bool):∀ (H:List (Nat× Option Blk)),Loc (freshD J base q H)
 | []=>Loc.pure _
 | (j,y) :: H=>by
   unfold Sv.freshD
   refine Loc.bind (Loc.test _) fun _=>Loc.bind ?_ fun x=> ?_
   . cases Nat.ble 1000 j
     . exact Loc.pure _
     . exact Loc.getH _
   . split
     . exact Loc.freshD J base q H
     . exact Loc.fail
theorem Loc.callD (P :Program) (o:Oper) (c:Call) (res:Out):Loc (callD P o c res):=by
 unfold Sv.callD
 split
 . refine Loc.bind (Loc.ev _) fun x=> ?_
   split
   . exact Loc.bind (Loc.evl _) fun _=>Loc.bind (Loc.handBlks ..) fun _=>Loc.bind (Loc.hands ..) fun _=>Loc.bind (Loc.test _) fun _=>Loc.bind (Loc.test _) fun _=>Loc.bind (Loc.freshD ..) fun _=>Loc.bind (Loc.test _) fun _=>Loc.bind (Loc.test _) fun _=>Loc.bind (Loc.need _) fun _=>Loc.pure _
   . exact Loc.fail
 . exact Loc.fail
theorem Loc.bs (ty :Ty) (o:Oper) (t k:Nat) (ps:List (Nat× Operand)):Loc (opD.bs ty o t k ps):=by
 unfold Sv.opD.bs
 refine Loc.bind (Loc.at_ ..) fun i=> ?_
 split
 . exact Loc.bind (Loc.at_ ..) fun _=>Loc.bind (Loc.test _) fun _=>Loc.bind (Loc.test _) fun _=>Loc.bind (Loc.evs _) fun _=>Loc.bind (Loc.fillD ..) fun _=>Loc.bind Loc.ask fun _=>Loc.newAt ..
 . exact Loc.fail
theorem Loc.opt (x :Option Operand):Loc (match x with | some y=>do let d <- Sv.ev y;M.pure (some d) | none=>M.pure none:M (Option D)):=by
 cases x
 . exact Loc.pure _
 . exact Loc.bind (Loc.ev _) fun _=>Loc.pure _
theorem Loc.ownCells (o :Oper):∀ (k code:Nat) (cs:List D),Loc (ownCells o k code cs)
 | _,_,[]=>Loc.pure _
 | k,code,d :: r=>by
   unfold Sv.ownCells
   split
   . split
     . refine Loc.bind (Loc.ownCells o k (code / 1000000) r) fun p=> ?_
       exact Loc.pure _
     . refine Loc.bind (Loc.ownCells o (k+1) (code / 1000000) r) fun p=> ?_
       dsimp only
       refine Loc.bind (Loc.nameOf o k) fun _=>Loc.bind (Loc.test _) fun _=>Loc.bind (Loc.getH _) fun _=> ?_
       split
       . exact Loc.pure _
       . exact Loc.fail
   . refine Loc.bind (Loc.ownCells o k code r) fun p=> ?_
     exact Loc.pure _
theorem Yhl {s s' :St} {hs:List (Nat× Option Blk)} {b:Nat} (h:s'.slot b=s.slot b):(s'.setH hs).slot b=(s.setH hs).slot b:=by
 unfold St.slot St.setH at*
 induction hs with
 | nil=>exact h
 | cons p hs ih=>
   obtain ⟨k,x⟩:=p
   simp only [List.cons_append,look]
   rw [ih]
theorem Loc.underH {U :Type} {hs:List (Nat× Option Blk)} {m:M U} (hm:Loc m):Loc (underH hs m):=
 ⟨fun s s' x l h h1 h2=>hm.out (s.setH hs) (s'.setH hs) x l h h1 fun b hb=>Yhl (h2 b hb)⟩
theorem Loc.ownD (o :Oper) (e:Eff) (sz:Nat):Loc (ownD o e sz):=by
 unfold Sv.ownD
 split
 . exact Loc.newAt ..
 . exact Loc.bind (Loc.ownCells ..) fun _=>Loc.pure _
 . exact Loc.bind (Loc.underH (Loc.ownCells ..)) fun _=>Loc.bind (Loc.test _) fun _=>Loc.pure _
 . exact Loc.fail
theorem Loc.frzCells :∀ (cs:List D),Loc (frzCells cs)
 | []=>Loc.pure _
 | d :: r=>by
   unfold Sv.frzCells
   refine Loc.bind (Loc.frzCells r) fun p=> ?_
   obtain ⟨q,ss⟩:=p
   dsimp only
   split
   . refine Loc.bind (Loc.test _) fun _=>Loc.bind (Loc.getH _) fun _=> ?_
     split
     . exact Loc.bind (Loc.test _) fun _=>Loc.pure _
     . exact Loc.fail
   . exact Loc.pure _
theorem Loc.frzD (e :Eff):Loc (frzD e):=by
 unfold Sv.frzD
 split
 . exact Loc.bind (Loc.frzCells _) fun _=>Loc.pure _
 . refine Loc.bind (Loc.getH _) fun _=> ?_
   split
   . exact Loc.bind (Loc.test _) fun _=>Loc.pure _
   . exact Loc.fail
 . exact Loc.fail
theorem Loc.castD (o :Oper) (e:Eff):∀ (r:Option Out),Loc (castD o e r)
 | none=>Loc.pure _
 | some ⟨_,_,_,as,ah,some sz,_,_,_⟩=>Loc.ownD o e sz
 | some ⟨_,_,_,as,ah,none,true,_,_⟩=>Loc.frzD e
 | some ⟨_,_,_,as,ah,none,false,_,_⟩=>Loc.bind (Loc.castV e.val as) fun _=>Loc.bind (Loc.castH ah e.sets) fun _=>Loc.pure _
theorem Loc.opD (P :Program) (ty:Ty) (o:Oper) (res:Option Out):Loc (opD P ty o res):=by
 unfold Sv.opD
 split
 . exact Loc.bind (Loc.ev _) fun _=>Loc.eff _
 . exact Loc.bind (Loc.ev _) fun _=>Loc.eff _
 . refine Loc.bind (Loc.ev _) fun _=> ?_
   split
   . exact Loc.bind (Loc.ev _) fun _=>Loc.bind (Loc.ev _) fun _=>Loc.eff _
   . exact Loc.fail
 . exact Loc.bind (Loc.at_ ..) fun _=>Loc.bind (Loc.test _) fun _=>Loc.newAt ..
 . exact Loc.bind (Loc.ev _) fun _=>Loc.bind (Loc.test _) fun _=>Loc.newAt ..
 . exact Loc.bind (Loc.evs _) fun _=>Loc.bind (Loc.buildD ..) fun _=>Loc.eff _
 . exact Loc.bs ..
 . exact Loc.bind (Loc.ev _) fun _=>Loc.bind (Loc.loadD ..) fun _=>Loc.eff _
 . exact Loc.bind (Loc.ev _) fun _=>Loc.bind (Loc.ev _) fun _=>Loc.storeD ..
 . refine Loc.bind (Loc.ev _) fun _=> ?_
   split <;> first | exact Loc.eff _ | exact Loc.fail
 . exact Loc.bind (Loc.ev _) fun _=>Loc.bind (Loc.ev _) fun _=>Loc.bind (Loc.binD ..) fun _=>Loc.eff _
 . exact Loc.bind (Loc.ev _) fun _=>Loc.bind (Loc.unD ..) fun _=>Loc.eff _
 . exact Loc.bind (Loc.ev _) fun _=>Loc.convD ..
 . split
   . exact Loc.bind (Loc.evl _) fun _=>Loc.eff _
   . exact Loc.fail
 . exact Loc.bind (Loc.ev _) fun _=>Loc.bind (Loc.ev _) fun _=>Loc.makeD ..
 . exact Loc.bind (Loc.ev _) fun _=>Loc.chanD ..
 . exact Loc.bind (Loc.ev _) fun _=>Loc.bind (Loc.opt _) fun _=>Loc.bind (Loc.opt _) fun _=>Loc.bind (Loc.opt _) fun _=>Loc.bind (Loc.sl3 ..) fun _=>Loc.eff _
 . exact Loc.bind (Loc.ev _) fun _=>Loc.bind (Loc.fieldAddrD ..) fun _=>Loc.eff _
 . exact Loc.bind (Loc.ev _) fun _=>Loc.bind (Loc.fieldD ..) fun _=>Loc.eff _
 . exact Loc.bind (Loc.ev _) fun _=>Loc.bind (Loc.ev _) fun _=>Loc.bind (Loc.indexAddrD ..) fun _=>Loc.eff _
 . exact Loc.bind (Loc.ev _) fun _=>Loc.bind (Loc.ev _) fun _=>Loc.bind (Loc.indexD ..) fun _=>Loc.eff _
 . refine Loc.bind (Loc.ev _) fun _=> ?_
   split
   . exact Loc.bind (Loc.lift _) fun _=>Loc.eff _
   . exact Loc.fail
 . split
   . exact Loc.bind (Loc.evl _) fun _=>Loc.bind (Loc.lift _) fun _=>Loc.bind (Loc.lift _) fun _=>Loc.bind (Loc.lenD ..) fun _=>Loc.eff _
   . refine Loc.bind (Loc.evl _) fun _=> ?_
     split
     . exact Loc.appendD ..
     . exact Loc.fail
   . refine Loc.bind (Loc.evl _) fun _=> ?_
     split
     . exact Loc.copyD ..
     . exact Loc.fail
   . refine Loc.bind (Loc.evl _) fun _=> ?_
     split
     . exact Loc.clearD ..
     . exact Loc.fail
   . refine Loc.bind (Loc.evl _) fun _=> ?_
     split
     . exact Loc.bind (Loc.need _) fun _=>Loc.pure _
     . exact Loc.fail
   . refine Loc.bind (Loc.evl _) fun as=> ?_
     rcases as with _ | ⟨d1,_ | ⟨d2,_ | ⟨d3,r⟩⟩⟩
     . exact Loc.fail
     . cases d1 <;> exact Loc.fail
     . cases d1 <;> first
         | exact Loc.fail
         | skip
       cases d2 <;> first
         | exact Loc.fail
         | skip
       rename_i k _
       cases k <;> first
         | exact Loc.fail
         | skip
       refine Loc.bind (Loc.lift _) fun _=>Loc.bind (Loc.at_ ..) fun i=> ?_
       cases i.kind <;> first
         | exact Loc.fail
         | skip
       refine Loc.bind (Loc.at_ ..) fun _=>Loc.bind (Loc.getH _) fun x=> ?_
       rcases x with _ | _ | _
       . exact Loc.fail
       . exact Loc.fail
       . exact Loc.bind (Loc.test _) fun _=>Loc.bind (Loc.need _) fun _=>Loc.pure _
     . cases d1 <;> first
         | exact Loc.fail
         | skip
       cases d2 <;> first
         | exact Loc.fail
         | skip
       rename_i k _
       cases k <;> exact Loc.fail
   . refine Loc.bind (Loc.evl _) fun _=> ?_
     split
     . exact Loc.bind (Loc.minD ..) fun _=>Loc.eff _
     . exact Loc.fail
   . refine Loc.bind (Loc.evl _) fun _=> ?_
     split
     . exact Loc.bind (Loc.minD ..) fun _=>Loc.eff _
     . exact Loc.fail
   . refine Loc.bind (Loc.lift _) fun r=> ?_
     cases r.tl
     . exact Loc.callD ..
     . refine Loc.bind (Loc.ev _) fun x=>Loc.bind (Loc.evl _) fun as=> ?_
       split
       . exact Loc.bind (Loc.test _) fun _=>Loc.eff _
       . exact Loc.fail
   . exact Loc.fail
 . exact Loc.fail
end Go.Proofs.YtpdcnikdoikldaaGreatDoor.Sv
