import Derived.Test.YtpdcnikdoikldaaGreatDoorSvS
set_option linter.unusedVariables false
set_option linter.unusedSimpArgs false
namespace Go.Proofs.YtpdcnikdoikldaaGreatDoor.Sv
open Go Go.RowKit
structure Rec where
 t:List Nat
 h:List Nat
 wt:List Nat
 wh:List Nat
 deriving Inhabited
def guardD (ops :Array Oper) (o:Oper):M Bool:=
 match o.guard with
 | none=>M.pure true
 | some (j,want)=>match (ops[j]?).bind (·.dst) with
   | some t=>do
     match <- getT t with
     | .bool b=>M.pure (b==want)
     | .tup []=>M.pure false
     | _=>M.fail
   | none=>M.fail
def stepD (P :Program) (ty:Ty) (ops:Array Oper) (o:Oper) (res:Option Out):M Eff:=do
 match <- guardD ops o with
 | true=>do let e <- opD P ty o res;castD o e res
 | false=>M.pure {val:=.tup []}
def St.after (s :St) (o:Oper) (e:Eff):St:=(s.setH e.sets).setO o.dst e.val
def Ycj (o :Oper) (e:Eff) (l:Log):Rec:={t:=l.t,h:=l.h,wt:=o.dst.toList,wh:=e.sets.map (·.1)}
def Y70 (n :Nat) (o:Oper):Bool:=match o.dst with | some t=>Nat.ble (t+1) n | none=>true
def runL (P :Program) (ty:Ty) (n:Nat) (ops:Array Oper) (res:List (Nat× Out)):List Nat->St->Option (St× List (Nat× Rec)× List Prop)
 | [],s=>some (s,[],[])
 | i :: r,s=>
   match ops[i]? with
   | none=>none
   | some o=>
     match Y70 n o with
     | false=>none
     | true=>
       match stepD P ty ops o (look res i) s with
       | none=>none
       | some (e,l)=>
         match runL P ty n ops res r (s.after o e) with
         | none=>none
         | some (s',rs,os)=>some (s',(i,Ycj o e l) :: rs,l.o++os)
def Yn0 (a b :List Nat):Bool:=a.all fun x=>b.all fun y=> !(Nat.beq x y)
def Yfj (a b :Rec):Bool:=Yn0 a.wt (b.t++b.wt)&&Yn0 b.wt a.t&&Yn0 a.wh (b.h++b.wh)&&Yn0 b.wh a.h
def Ye4 (acc :List Nat) (o:Oper):Nat:=o.after.toList.foldl (fun m e=>bif Region.binds .any e then m ||| 2 ^ e.on ||| acc.getD e.on 0 else m) 0
def Yck :List Oper->List Nat->List Nat
 | [],acc=>acc
 | o :: r,acc=>Yck r (acc++[Ye4 acc o])
def Ybx (ms :List Nat):List (Nat× Rec)->Bool
 | []=>true
 | (j,rj) :: rest=>rest.all (fun p=>(ms.getD p.1 0).testBit j||Yfj rj p.2)&&Ybx ms rest
def Y8u :List Oper->Nat->Bool
 | [],_=>true
 | o :: r,i=>o.after.toList.all (fun e=> !(Region.binds .any e)||Nat.ble (e.on+1) i)&&Y8u r (i+1)
def Ya3 :List Prop->Prop
 | []=>True
 | [p]=>p
 | p :: r=>p/\Ya3 r
theorem Y66 :∀ {l:List Prop},Ya3 l->∀ p,p∈l->p
 | [],_,p,hp=>by simp at hp
 | [q],h,p,hp=>(List.mem_singleton.1 hp) ▸ h
 | q :: r :: l,h,p,hp=>by
   rcases List.mem_cons.1 hp with rfl | hp
   . exact h.1
   . exact Y66 (l:=r :: l) h.2 p hp
def Yfk (P :Program) (ty:Ty) (n:Nat) (ops:Array Oper) (draw:Bool) (res:List (Nat× Out)) (s:St):Option (St× List Prop):=
 match runL P ty n ops res (List.range ops.size) s with
 | none=>none
 | some (s',rs,os)=>bif !draw||(Y8u ops.toList 0&&Ybx (Yck ops.toList []) rs) then some (s',os) else none
theorem Loc.guardD (ops :Array Oper) (o:Oper):Loc (guardD ops o):=by
 unfold Sv.guardD
 split
 . exact Loc.pure _
 . split
   . refine Loc.bind (Loc.getT _) fun _=> ?_
     split
     . exact Loc.pure _
     . exact Loc.pure _
     . exact Loc.fail
   . exact Loc.fail
theorem Loc.stepD (P :Program) (ty:Ty) (ops:Array Oper) (o:Oper) (res:Option Out):Loc (stepD P ty ops o res):=by
 refine Loc.bind (Loc.guardD ..) fun g=> ?_
 cases g
 . exact Loc.pure _
 . exact Loc.bind (Loc.opD ..) fun _=>Loc.castD ..
theorem Ygh {ah :List (Nat× List D)} {s:St}:∀ {h h':List (Nat× Option Blk)} {l:Log},castH ah h s=some (h',l)->l.ok->h'=h
 | [],h',l,e,ho=>(Y8 (s:=s) e).symm
 | (b,none) :: r,h',l,e,ho=>by
   obtain ⟨q,l1,l2,e1,e2,ho1,ho2⟩:=M.bindO e ho
   rw [<- Y8 (s:=s) e2,Ygh e1 ho1]
 | (b,some blk) :: r,h',l,e,ho=>by
   unfold Sv.castH at e
   obtain ⟨q,l1,l2,e1,e2,ho1,ho2⟩:=M.bindO e ho
   rw [Ygh e1 ho1] at e2
   cases hl:look ah b with
   | some cs=>
     rw [hl] at e2
     obtain ⟨hn,l',h,ho⟩:=Yx e2 ho2
     rw [<- Y8 (s:=s) h,<- hn]
   | none=>
     rw [hl] at e2
     exact (Y8 (s:=s) e2).symm
section
variable {P : Program} {ty : Ty} {n : Nat} {w0 : World} {S im0 bo im : Nat -> Prop} {V I : Env} {s : St} {a : Act} {w : World} {ops : Array Oper}
theorem Ye5 {o :Oper} (h:Y70 n o=true):∀ t,o.dst=some t->t< n:=by
 intro t ht
 unfold Y70 at h
 rw [ht] at h
 exact Nat.le_of_ble_eq_true h
theorem R.boolV {b :Bool} {v:Value} (h:R im w bo I (.bool b) v):v=.bool b:=by cases h;rfl
theorem Rel.le {o :Option Nat} {d d':D} (hr:Rel n w0 S im0 bo V im I (s.setO o d) a w) (h:∀ v,R im w bo I d v->R im w bo I d' v):Rel n w0 S im0 bo V im I (s.setO o d') a w:=by
 cases o with
 | none=>exact hr
 | some t=>
   refine {hr with tmp:=fun k=> ?_}
   have:=hr.tmp k
   unfold St.tmp St.setO St.setT at this ⊢
   simp only [look] at this ⊢
   cases hk:Nat.beq t k with
   | true=>
     rw [hk] at this
     exact h _ this
   | false=>
     rw [hk] at this
     exact this
theorem Rel.freeze (hr :Rel n w0 S im0 bo V im I s a w) {b:Nat} {blk:Blk} (hb:s.slot b=some (some blk)) (hp:blk.pure=true):
   ∃ im',Rel n w0 S im0 bo V im' I (s.setH [(b,none)]) a w/\(∀ x,im x->im' x)/\∀ off len cap v,R im' w bo I (.ref b off len cap) v->R im' w bo I (.sl true (blk.cs.drop off) len cap) v:=by
 have hd:=hr.dead b (by rw [hb];simp)
 obtain ⟨pl,hpl,hat⟩:=hr.own.blk _ _ hb
 cases pl with
 | nil=>
   refine ⟨im,hd,fun _ h=>h,?_⟩
   intro off len cap v hv
   cases hv with
   | ref0 x _=>exact .sl0 _ _ (fun _=>rfl)
   | refz x _=>exact .sl0 _ _ (fun _=>rfl)
   | ref h _ _=>rw [hpl] at h;simp at h
 | ch B cap=>
   refine ⟨im,hd,fun _ h=>h,?_⟩
   intro off len cap v hv
   cases hv with
   | ref0 x _=>exact .sl0 _ _ (fun _=>rfl)
   | refz x _=>exact .sl0 _ _ (fun _=>rfl)
   | ref h _ _=>rw [hpl] at h;simp at h
 | at_ B base sz lim=>
   have hB:=hr.own.out _ _ _ _ hb hpl rfl
   have hat':=hat
   obtain ⟨c,el,fz,k1,k2,k3,k4,k5,k7,k6⟩:=hat
   rw [hp] at k6
   have hmi:∀ x,im x->im x\/x=B:=fun _ h=>.inl h
   refine ⟨fun x=>im x\/x=B,⟨hd.base,hd.size,hd.defers,fun t=>(hd.tmp t).mono hmi (fun _ _=>rfl) (fun _ h=>h) (fun _ _ h=>h),⟨?_,?_,hd.own.inj⟩,hd.kept,?_,fun x h=>.inl (hd.imo x h),?_,hd.owo,hd.dom,hd.arg⟩,hmi,?_⟩
   . intro x k hx
     obtain ⟨p,h1,h2⟩:=hd.own.blk x k hx
     exact ⟨p,h1,h2.mono hmi (fun _ _=>rfl) (fun _ h=>h) (fun _ _ h=>h) (fun _ _=>rfl)⟩
   . intro x k pl' B' hx hφ hB'
     have h1:=hd.own.out x k pl' B' hx hφ hB'
     refine ⟨?_,h1.2⟩
     rintro (h | rfl)
     . exact h1.1 h
     . have hne:x≠b:=by
         intro e
         subst e
         simp [St.slot,St.setH,look] at hx
       have hx':s.slot x=some (some k):=by
         have:(s.setH [(b,none)]).slot x=s.slot x:=by
           unfold St.slot St.setH
           simp only [List.cons_append,List.nil_append]
           rw [Y1t,if_neg (Ne.symm hne)]
         rw [this] at hx
         exact hx
       exact hne (hr.own.inj _ _ _ _ _ _ _ hx' hb hφ hpl hB' rfl)
   . rintro x (h | rfl)
     . exact hd.imlt x h
     . rcases Nat.lt_or_ge x w.heap.size with h | h
       . exact h
       . rw [Array.getElem?_eq_none h] at k1;simp at k1
   . rintro x (h | rfl)
     . exact hd.imn x h
     . exact .inr (hr.owo _ _ _ _ hb hpl rfl)
   . intro off len cap v hv
     cases hv with
     | ref0 x _=>exact .sl0 _ _ (fun _=>rfl)
     | refz x _=>exact .sl0 _ _ (fun _=>rfl)
     | ref h h2 h3=>
       rw [hpl] at h
       obtain ⟨⟩:=Option.some.inj h
       refine .sl (.inl (.inr rfl)) h2 k1 rfl ?_ ?_
       . intro v hv
         rw [List.length_drop] at hv
         refine k7 v ?_
         rw [<- List.drop_drop,<- List.drop_take] at hv
         exact List.mem_of_mem_drop hv
       . rw [List.length_drop,<- List.drop_drop,<- List.drop_take]
         exact (Rs.drop k6 off).mono hmi (fun _ _=>rfl) (fun _ h=>h) (fun _ _ h=>h)
theorem Y78 {ss :List (Nat× Option Blk)} {b:Nat} (h:(ss.all fun p=> !(Nat.beq p.1 b))=true):look ss b=none:=by
 cases hl:look ss b with
 | none=>rfl
 | some x=>
   have:=List.all_eq_true.1 h _ (Y2i hl)
   simp at this
theorem slot_setH {s :St} {ss:List (Nat× Option Blk)} {b:Nat} (h:look ss b=none):(s.setH ss).slot b=s.slot b:=by
 unfold St.slot St.setH
 induction ss with
 | nil=>rfl
 | cons p ss ih=>
   obtain ⟨k,x⟩:=p
   rw [Y1t] at h
   simp only [List.cons_append]
   rw [Y1t]
   split at h
   . simp at h
   . rename_i hk
     rw [if_neg hk]
     exact ih h
theorem R.refIm {im1 im2 :Nat->Prop} {b off len cap:Nat} {v:Value} (h:R im1 w bo I (.ref b off len cap) v):R im2 w bo I (.ref b off len cap) v:=by
 cases h with
 | ref0 x h=>exact .ref0 x h
 | refz x h=>exact .refz x h
 | ref h1 h2 h3=>exact .ref h1 h2 h3
theorem Rel.freezeL {s1 :St} (hsl:∀ b,s1.slot b=s.slot b) (hr:Rel n w0 S im0 bo V im I s1 a w):∀ {cs q:List D} {ss:List (Nat× Option Blk)} {l:Log},frzCells cs s=some ((q,ss),l)->l.ok->
   ∃ im',Rel n w0 S im0 bo V im' I (s1.setH ss) a w/\(∀ x,im x->im' x)/\∀ (im2:Nat->Prop),(∀ x,im' x->im2 x)->∀ vs,Rs im2 w bo I cs vs->Rs im2 w bo I q vs
 | [],q,ss,l,h,ho=>by
   have e:=Y8 (s:=s) h
   simp only [Prod.mk.injEq] at e
   obtain ⟨rfl,rfl⟩:=e
   exact ⟨im,hr,fun _ h=>h,fun _ _ vs h=>h⟩
 | d :: r,q,ss,l,h,ho=>by
   unfold frzCells at h
   obtain ⟨⟨q1,ss1⟩,l1,l2,h1,h2,ho1,ho2⟩:=M.bindO h ho
   obtain ⟨im1,hr1,hm1,hk1⟩:=Rel.freezeL hsl hr h1 ho1
   by_cases hd:∃ b off len cap,d=.ref b off len cap
   . obtain ⟨b,off,len,cap,rfl⟩:=hd
     simp only at h2
     obtain ⟨ht,l3,h3,ho3⟩:=Yl h2 ho2
     obtain ⟨l4,h4,ho4⟩:=Y2e h3 ho3
     cases hs:s.slot b with
     | none=>rw [hs] at h4;exact (M.fail_eq (s:=s) h4).elim
     | some y=>
     cases y with
     | none=>rw [hs] at h4;exact (M.fail_eq (s:=s) h4).elim
     | some blk=>
     rw [hs] at h4
     obtain ⟨hp,l5,h5,ho5⟩:=Yl h4 ho4
     have e:=Y8 (s:=s) h5
     simp only [Prod.mk.injEq] at e
     obtain ⟨rfl,rfl⟩:=e
     have hs1:(s1.setH ss1).slot b=some (some blk):=by rw [slot_setH (Y78 ht),hsl,hs]
     obtain ⟨im2,hr2,hm2,hk2⟩:=hr1.freeze hs1 hp
     refine ⟨im2,hr2,fun x hx=>hm2 x (hm1 x hx),?_⟩
     intro im3 hm3 vs hv
     cases hv with
     | cons k1 k2=>
       exact .cons ((hk2 _ _ _ _ k1.refIm).mono hm3 (fun _ _=>rfl) (fun _ h=>h) (fun _ _ h=>h)) (hk1 im3 (fun x hx=>hm3 x (hm2 x hx)) _ k2)
   . have h2':M.pure (d :: q1,ss1) s=some ((q,ss),l2):=by
       cases d <;> first
         | exact h2
         | exact absurd ⟨_,_,_,_,rfl⟩ hd
     have e:=Y8 (s:=s) h2'
     simp only [Prod.mk.injEq] at e
     obtain ⟨rfl,rfl⟩:=e
     refine ⟨im1,hr1,hm1,?_⟩
     intro im3 hm3 vs hv
     cases hv with
     | cons k1 k2=>exact .cons k1 (hk1 im3 hm3 _ k2)
theorem Rel.ownL {o :Oper} {s1:St} (hsl:∀ b,s1.slot b=s.slot b) (hr:Rel n w0 S im0 bo V im I s1 a w):∀ {cs q:List D} {k code:Nat} {ss:List (Nat× Option Blk)} {l:Log},ownCells o k code cs s=some ((q,ss),l)->l.ok->
   ∃ Qa,Rel n w0 S im0 bo V im Qa (s1.setH ss) a w/\(∀ b p,I b=some p->Qa b=some p)/\∀ (Qd:Env),(∀ b p,Qa b=some p->Qd b=some p)->∀ vs,Rs im w bo Qd cs vs->Rs im w bo Qd q vs
 | [],q,k,code,ss,l,h,ho=>by
   have e:=Y8 (s:=s) h
   simp only [Prod.mk.injEq] at e
   obtain ⟨rfl,rfl⟩:=e
   exact ⟨I,hr,fun _ _ h=>h,fun _ _ _ h=>h⟩
 | d :: r,q,k,code,ss,l,h,ho=>by
   unfold ownCells at h
   by_cases hd:d=.nils
   . subst hd
     simp only at h
     cases hc:code % 1000000 with
     | zero=>
       simp only [hc] at h
       obtain ⟨⟨q1,ss1⟩,l1,l2,h1,h2,ho1,ho2⟩:=M.bindO h ho
       obtain ⟨Qe,hr1,hm1,hk1⟩:=Rel.ownL hsl hr h1 ho1
       have e:=Y8 (s:=s) h2
       simp only [Prod.mk.injEq] at e
       obtain ⟨rfl,rfl⟩:=e
       refine ⟨Qe,hr1,hm1,?_⟩
       intro Qd hm2 vs hv
       cases hv with
       | cons k1 k2=>exact .cons (by cases k1;exact .nils) (hk1 Qd hm2 _ k2)
     | succ sz=>
       simp only [hc] at h
       obtain ⟨⟨q1,ss1⟩,l1,l2,h1,h2,ho1,ho2⟩:=M.bindO h ho
       obtain ⟨Qe,hr1,hm1,hk1⟩:=Rel.ownL hsl hr h1 ho1
       simp only at h2
       obtain ⟨m,l3,l4,h3,h4,ho3,ho4⟩:=M.bindO h2 ho2
       obtain ⟨ht,l5,h5,ho5⟩:=Yl h4 ho4
       obtain ⟨l6,h6,ho6⟩:=Y2e h5 ho5
       cases hs:s.slot m with
       | some y=>rw [hs] at h6;exact (M.fail_eq (s:=s) h6).elim
       | none=>
       rw [hs] at h6
       have e:=Y8 (s:=s) h6
       simp only [Prod.mk.injEq] at e
       obtain ⟨rfl,rfl⟩:=e
       have hs1:(s1.setH ss1).slot m=none:=by rw [slot_setH (Y78 ht),hsl,hs]
       have hr2:=hr1.newNil hs1 {pure:=true,sz:=(sz+1) % 1000,cs:=[],el:=(sz+1) / 1000} rfl
       have hext:=Env.upd_ext (I:=Qe) .nil (hr1.dom m hs1)
       refine ⟨Qe.upd m .nil,hr2,fun b p hp=>hext b p (hm1 b p hp),?_⟩
       intro Qd hm2 vs hv
       cases hv with
       | cons k1 k2=>
         refine .cons ?_ (hk1 Qd (fun b p hp=>hm2 b p (hext b p hp)) _ k2)
         cases k1
         exact .ref0 _ (hm2 _ _ (Env.upd_same _ _ _))
   . have h':(do let (q,ss) <- ownCells o k code r;M.pure (d :: q,ss):M (List D× List (Nat× Option Blk))) s=some ((q,ss),l):=by
       cases d <;> first
         | exact h
         | exact absurd rfl hd
     obtain ⟨⟨q1,ss1⟩,l1,l2,h1,h2,ho1,ho2⟩:=M.bindO h' ho
     obtain ⟨Qe,hr1,hm1,hk1⟩:=Rel.ownL hsl hr h1 ho1
     have e:=Y8 (s:=s) h2
     simp only [Prod.mk.injEq] at e
     obtain ⟨rfl,rfl⟩:=e
     refine ⟨Qe,hr1,hm1,?_⟩
     intro Qd hm2 vs hv
     cases hv with
     | cons k1 k2=>exact .cons k1 (hk1 Qd hm2 _ k2)
theorem Y7e (s :St) (b y:Nat) (x:Option Blk):(s.setH [(b,x)]).slot y=if b=y then some x else s.slot y:=by
 unfold St.slot St.setH
 simp only [List.cons_append,List.nil_append]
 rw [Y1t]
theorem Rel.cong {s' :St} (hr:Rel n w0 S im0 bo V im I s a w) (ht:∀ t,s'.tmp t=s.tmp t) (hs:∀ b,s'.slot b=s.slot b):Rel n w0 S im0 bo V im I s' a w:=by
 have e:s'.slot=s.slot:=funext hs
 exact {hr with tmp:=fun t=>by rw [ht t];exact hr.tmp t,own:=by rw [e];exact hr.own,owo:=by rw [e];exact hr.owo,dom:=by rw [e];exact hr.dom}
theorem Rel.recell (hr :Rel n w0 S im0 bo V im I s a w) {b:Nat} {blk blk':Blk} (hs:s.slot b=some (some blk)) (hat:∀ pl,I b=some pl->Y49 im bo I w blk pl->Y49 im bo I w blk' pl):Rel n w0 S im0 bo V im I (s.setH [(b,some blk')]) a w:=by
 have Y2l:∀ x k,(s.setH [(b,some blk')]).slot x=some (some k)->∃ k',s.slot x=some (some k'):=by
   intro x k h
   rw [Y7e] at h
   split at h
   . rename_i e;subst e;exact ⟨_,hs⟩
   . exact ⟨_,h⟩
 refine {hr with tmp:=hr.tmp,own:=⟨?_,?_,?_⟩,owo:= ?_,dom:= ?_}
 . intro x k h
   rw [Y7e] at h
   split at h
   . rename_i e
     subst e
     simp only [Option.some.injEq] at h
     subst h
     obtain ⟨pl,h1,h2⟩:=hr.own.blk _ _ hs
     exact ⟨pl,h1,hat pl h1 h2⟩
   . exact hr.own.blk x k h
 . intro x k pl B h hp hB
   obtain ⟨k',h'⟩:=Y2l x k h
   exact hr.own.out _ _ _ _ h' hp hB
 . intro x y k l pl pl' B h h2 hp hp2 hB1 hB2
   obtain ⟨k',h'⟩:=Y2l x k h
   obtain ⟨l',h2'⟩:=Y2l y l h2
   exact hr.own.inj _ _ _ _ _ _ _ h' h2' hp hp2 hB1 hB2
 . intro x k pl B h hp hB
   obtain ⟨k',h'⟩:=Y2l x k h
   exact hr.owo _ _ _ _ h' hp hB
 . intro x h
   rw [Y7e] at h
   split at h
   . simp at h
   . exact hr.dom x h
theorem Ywm {o :Oper} {e e':Eff} {r:Option Out} {l:Log} {a:Act} {w:World} (h:castD o e r s=some (e',l)) (ho:l.ok) (hr:Rel n w0 S im0 bo V im I ((s.setH e.sets).setO o.dst e.val) a w):
   ∃ im' Qa,Rel n w0 S im0 bo V im' Qa ((s.setH e'.sets).setO o.dst e'.val) a w:=by
 cases r with
 | none=>rw [<- Y8 (s:=s) h];exact ⟨im,I,hr⟩
 | some r=>
 unfold castD at h
 cases hown:r.own with
 | some sz=>
   simp only [hown] at h
   obtain ⟨ev,es⟩:=e
   unfold ownD at h
   simp only at h hr
   by_cases hrf:∃ b' blk,es=[(b',some blk)]
   . obtain ⟨b',blk,rfl⟩:=hrf
     replace h:(do let (q,ss) <- underH [(b',some blk)] (ownCells o 1 sz blk.cs);test (ss.all fun p=> !(Nat.beq p.1 b'));M.pure {val:=ev,sets:=(b',some {blk with pure:=false,cs:=q}) :: ss}:M Eff) s=some (e',l):=by
       cases ev <;> exact h
     obtain ⟨⟨q,ss⟩,l1,l2,h1,h2,ho1,ho2⟩:=M.bindO h ho
     obtain ⟨ht,l3,h3,ho3⟩:=Yl h2 ho2
     have e1:=Y8 (s:=s) h3
     subst e1
     obtain ⟨Qa,hr',hm',hk⟩:=Rel.ownL (s:=s.setH [(b',some blk)]) (fun b=>by cases o.dst <;> rfl) hr h1 ho1
     have hss:look ss b'=none:=Y78 ht
     have hs1:((((s.setH [(b',some blk)]).setO o.dst ev)).setH ss).slot b'=some (some blk):=by
       rw [slot_setH hss]
       cases o.dst <;> exact (Y7e s b' b' (some blk)).trans (if_pos rfl)
     refine ⟨im,Qa,(hr'.recell (blk':={blk with pure:=false,cs:=q}) hs1 ?_).cong ?_ ?_⟩
     . intro pl hpl hat
       cases pl with
       | nil=>
         have hc:blk.cs=[]:=hat
         rw [hc] at h1
         have e2:=Y8 (s:=s.setH [(b',some blk)]) h1
         simp only [Prod.mk.injEq] at e2
         exact e2.1.symm
       | ch B cap=>
         obtain ⟨buf,s0,r0,vs0,k1,k2,k7⟩:=hat
         have k8:Rs im w bo Qa blk.cs vs0:=by
           refine Rs.mono (fun _ h=>h) k7 (fun _ _=>rfl) (fun x hx=> ?_) (fun x p hp=> ?_)
           . cases hb:blk.pure with
             | true=>rw [hb] at hx;exact absurd hx (by simp [noB])
             | false=>rw [hb] at hx;simpa using hx
           . cases hb:blk.pure with
             | true=>rw [hb] at hp;simp [Y1h] at hp
             | false=>rw [hb] at hp;simpa using hp
         exact ⟨buf,s0,r0,vs0,k1,k2,hk Qa (fun _ _ h=>h) _ k8⟩
       | at_ B base sz' lim=>
         obtain ⟨c,el,fz,k1,k2,k3,k4,k5,k6,k7⟩:=hat
         have k8:Rs im w bo Qa blk.cs ((c.toList.drop base).take blk.cs.length):=by
           refine Rs.mono (fun _ h=>h) k7 (fun _ _=>rfl) (fun x hx=> ?_) (fun x p hp=> ?_)
           . cases hb:blk.pure with
             | true=>rw [hb] at hx;exact absurd hx (by simp [noB])
             | false=>rw [hb] at hx;simpa using hx
           . cases hb:blk.pure with
             | true=>rw [hb] at hp;simp [Y1h] at hp
             | false=>rw [hb] at hp;simpa using hp
         have k9:=hk Qa (fun _ _ h=>h) _ k8
         have hl:q.length=blk.cs.length:=by rw [k9.length,<- k8.length]
         refine ⟨c,el,fz,k1,k2,by rw [show ({blk with pure:=false,cs:=q}:Blk).cs=q from rfl,hl];exact k3,k4,k5,?_,?_⟩
         . show Y1r ((c.toList.drop base).take q.length)
           rw [hl];exact k6
         . show Rs im w bo Qa q ((c.toList.drop base).take q.length)
           rw [hl];exact k9
     . intro t
       cases o.dst <;> rfl
     . intro y
       have hA:∀ y,((s.setH ((b',some {blk with pure:=false,cs:=q}) :: ss)).setO o.dst ev).slot y=if b'=y then some (some {blk with pure:=false,cs:=q}) else (s.setH ss).slot y:=by
         intro y
         have e0:((s.setH ((b',some {blk with pure:=false,cs:=q}) :: ss)).setO o.dst ev).slot y=(s.setH ((b',some {blk with pure:=false,cs:=q}) :: ss)).slot y:=by cases o.dst <;> rfl
         rw [e0]
         unfold St.slot St.setH
         simp only [List.cons_append]
         rw [Y1t]
       rw [hA,Y7e]
       split
       . rfl
       . rename_i hne
         have hB:∀ (hs:List (Nat× Option Blk)),(((s.setH [(b',some blk)]).setO o.dst ev).setH hs).slot y=(s.setH hs).slot y:=by
           intro hs
           induction hs with
           | nil=>
             have:(s.setH [(b',some blk)]).slot y=s.slot y:=by rw [Y7e,if_neg hne]
             cases o.dst <;> exact this
           | cons p hs ih=>
             obtain ⟨k,x⟩:=p
             have e1:∀ s0:St,(s0.setH ((k,x) :: hs)).slot y=if k=y then some x else (s0.setH hs).slot y:=by
               intro s0
               unfold St.slot St.setH
               simp only [List.cons_append]
               rw [Y1t]
             rw [e1,e1,ih]
         exact (hB ss).symm
   by_cases hag:∃ cs,ev=.agg cs
   . obtain ⟨cs,rfl⟩:=hag
     rcases es with _ | ⟨⟨b',_ | blk⟩,_ | ⟨y,ys⟩⟩
     rotate_left
     . exact (M.fail_eq (s:=s) h).elim
     . exact (M.fail_eq (s:=s) h).elim
     . exact absurd ⟨_,_,rfl⟩ hrf
     . exact (M.fail_eq (s:=s) h).elim
     obtain ⟨⟨q,ss⟩,l1,l2,h1,h2,ho1,ho2⟩:=M.bindO h ho
     have e1:=Y8 (s:=s) h2
     subst e1
     obtain ⟨Qa,hr',_,hk⟩:=Rel.ownL (s:=s) (fun b=>by cases o.dst <;> rfl) hr h1 ho1
     refine ⟨im,Qa,Rel.le (o:=o.dst) (d:=.agg cs) (s:=s.setH ss) ?_ ?_⟩
     . have e1:((s.setH []).setO o.dst (.agg cs)).setH ss=(s.setH ss).setO o.dst (.agg cs):=by cases o.dst <;> rfl
       rw [<- e1]
       exact hr'
     . intro v hv
       cases hv with
       | agg ho1 hv=>exact .agg ho1 (hk Qa (fun _ _ h=>h) _ hv)
   rcases es with _ | ⟨⟨b',_ | blk⟩,_ | ⟨y,ys⟩⟩
   rotate_left
   . cases ev <;> exact (M.fail_eq (s:=s) h).elim
   . cases ev <;> exact (M.fail_eq (s:=s) h).elim
   . exact absurd ⟨_,_,rfl⟩ hrf
   . cases ev <;> exact (M.fail_eq (s:=s) h).elim
   cases ev <;> first
     | exact (M.fail_eq (s:=s) h).elim
     | exact absurd ⟨_,rfl⟩ hag
     | skip
   obtain ⟨m,hm,rfl⟩:=Ya0 h ho
   have h1:=hr.newNil (m:=m) (by simpa [St.slot,St.setH,St.setO,St.setT] using (by cases o.dst <;> simpa [St.slot] using hm)) {pure:=true,sz:=sz,cs:=[]} rfl
   refine ⟨im,I.upd m .nil,Rel.le (o:=o.dst) (d:=.nils) (s:=s.setH [(m,some {pure:=true,sz:=sz,cs:=[]})]) ?_ ?_⟩
   . have e1:((s.setH []).setO o.dst .nils).setH [(m,some {pure:=true,sz:=sz,cs:=[]})]=(s.setH [(m,some {pure:=true,sz:=sz,cs:=[]})]).setO o.dst .nils:=by cases o.dst <;> rfl
     rw [<- e1]
     exact h1
   . intro v hv
     cases hv
     exact .ref0 _ (Env.upd_same _ _ _)
 | none=>
   simp only [hown] at h
   cases hfrz:r.frz with
   | true=>
     simp only [hfrz] at h
     obtain ⟨ev,es⟩:=e
     unfold frzD at h
     simp only at h hr
     by_cases hag:∃ cs,ev=.agg cs
     . obtain ⟨cs,rfl⟩:=hag
       cases es with
       | cons x y=>exact (M.fail_eq (s:=s) h).elim
       | nil=>
       obtain ⟨⟨q,ss⟩,l1,l2,h1,h2,ho1,ho2⟩:=M.bindO h ho
       have e1:=Y8 (s:=s) h2
       subst e1
       obtain ⟨im',hr',_,hk⟩:=Rel.freezeL (s:=s) (fun b=>by cases o.dst <;> rfl) hr h1 ho1
       refine ⟨im',I,Rel.le (o:=o.dst) (d:=.agg cs) (s:=s.setH ss) ?_ ?_⟩
       . have e1:((s.setH []).setO o.dst (.agg cs)).setH ss=(s.setH ss).setO o.dst (.agg cs):=by cases o.dst <;> rfl
         rw [<- e1]
         exact hr'
       . intro v hv
         cases hv with
         | agg ho1 hv=>exact .agg ho1 (hk im' (fun _ h=>h) _ hv)
     cases ev <;> first
       | exact (M.fail_eq (s:=s) h).elim
       | exact absurd ⟨_,rfl⟩ hag
       | skip
     cases es with
     | cons x y=>exact (M.fail_eq (s:=s) h).elim
     | nil=>
     rename_i b off len cap
     obtain ⟨l1,h1,ho1⟩:=Y2e h ho
     cases hs:s.slot b with
     | none=>rw [hs] at h1;exact (M.fail_eq (s:=s) h1).elim
     | some y=>
     cases y with
     | none=>rw [hs] at h1;exact (M.fail_eq (s:=s) h1).elim
     | some blk=>
     rw [hs] at h1
     obtain ⟨ht,l2,h2,ho2⟩:=Yl h1 ho1
     have e1:=Y8 (s:=s) h2
     subst e1
     have hs':((s.setH []).setO o.dst (.ref b off len cap)).slot b=some (some blk):=by cases o.dst <;> exact hs
     obtain ⟨im',hr',_,hk⟩:=hr.freeze hs' ht
     refine ⟨im',I,Rel.le (o:=o.dst) (d:=.ref b off len cap) (s:=s.setH [(b,none)]) ?_ (hk off len cap)⟩
     have e1:((s.setH []).setO o.dst (.ref b off len cap)).setH [(b,none)]=(s.setH [(b,none)]).setO o.dst (.ref b off len cap):=by cases o.dst <;> rfl
     rw [<- e1]
     exact hr'
   | false=>
     simp only [hfrz] at h
     obtain ⟨v,l1,l2,h1,h2,ho1,ho2⟩:=M.bindO h ho
     obtain ⟨hs,l3,l4,h3,h4,ho3,ho4⟩:=M.bindO h2 ho2
     have e1:=Y8 (s:=s) h4
     subst e1
     rw [Ygh h3 ho3]
     refine ⟨im,I,Rel.le hr ?_⟩
     cases ha:r.cv with
     | none=>rw [ha] at h1;rw [<- Y8 (s:=s) h1];exact fun _ k=>k
     | some x=>
       rw [ha] at h1
       obtain ⟨hn,l',hh,_⟩:=Yx h1 ho1
       rw [<- Y8 (s:=s) hh]
       exact hn _ _ _ _
theorem Ye6 (ht :Y2p P ty) (hr:Rel n w0 S im0 bo V im I s a w) {o:Oper} {res:Option Out} {e:Eff} {l:Log} (h:stepD P ty ops o res s=some (e,l)) (ho:l.ok) (hd:Y70 n o=true) {next:Act->World->Prop} {Q:Exit->Act->World->Prop}
   (hnext:∀ a' w' im' Qa,Rel n w0 S im0 bo V im' Qa (s.after o e) a' w'->next a' w'):
   if Region.wanted o (yielded ops a.tmps) then o.wp P a w next Q\/(o.asks P a w/\LetsOut Q) else next (a.put o.dst Go.undef) w:=by
 obtain ⟨g,l1,l2,h1,h2,ho1,ho2⟩:=M.bindO h ho
 have hw:Region.wanted o (yielded ops a.tmps)=g:=by
   unfold guardD at h1
   unfold Region.wanted
   cases hg:o.guard with
   | none=>
     rw [hg] at h1
     exact (Y8 (s:=s) h1)
   | some p=>
     obtain ⟨j,want⟩:=p
     rw [hg] at h1
     simp only at h1 ⊢
     cases ht:(ops[j]?).bind (·.dst) with
     | none=>rw [ht] at h1;exact (M.fail_eq (s:=s) h1).elim
     | some t=>
       rw [ht] at h1
       obtain ⟨d,l3,l4,h3,h4,_⟩:=M.bind_eq h1
       have hd':=Yfg h3
       have hv:=hr.tmp t
       rw [<- hd'] at hv
       have hy:yielded ops a.tmps j=(match a.tmps[t]? with | some (.bool b)=>some b | _=>none):=by
         unfold yielded
         rw [ht]
         rfl
       cases d <;> first
         | exact (M.fail_eq (s:=s) h4).elim
         | skip
       . rename_i b
         have e:=Y8 (s:=s) h4
         subst e
         have hv:=hv.boolV
         have hlt:t< a.tmps.size:=by
           rcases Nat.lt_or_ge t a.tmps.size with h' | h'
           . exact h'
           . simp only [Array.getD] at hv
             rw [dif_neg (by omega)] at hv
             exact absurd hv (by unfold Go.undef;simp)
         have hv':a.tmps[t]? =some (.bool b):=by
           rw [Array.getElem?_eq_getElem hlt]
           simpa [Array.getD,hlt] using hv
         rw [hy,hv']
         cases b <;> cases want <;> rfl
       . rename_i cs
         cases cs with
         | cons x y=>exact (M.fail_eq (s:=s) h4).elim
         | nil=>
         have e:=Y8 (s:=s) h4
         subst e
         have hn:yielded ops a.tmps j=none:=by
           rw [hy]
           rcases Nat.lt_or_ge t a.tmps.size with h' | h'
           . have hv':a.tmps[t]? =some (a.tmps.getD t Go.undef):=by
               rw [Array.getElem?_eq_getElem h']
               simp [Array.getD,h']
             rw [hv']
             generalize a.tmps.getD t Go.undef=v at hv
             cases hv with
             | tup hh=>rfl
           . rw [Array.getElem?_eq_none h']
         rw [hn]
         cases want <;> rfl
 rw [hw]
 cases g with
 | true=>
   simp only [if_true]
   obtain ⟨e0,l3,l4,h3,h4,ho3,ho4⟩:=M.bindO h2 ho2
   refine .inl (Y179 ht hr h3 ho3 (Ye5 hd) fun a' w' im' Qa hr'=> ?_)
   obtain ⟨im2,Qd,hr2⟩:=Ywm h4 ho4 hr'
   exact hnext a' w' im2 Qd hr2
 | false=>
   simp only [Bool.false_eq_true,if_false]
   have e:=Y8 (s:=s) h2
   subst e
   exact hnext _ _ _ _ (hr.setO (.tup (vs:=[]) .nil) (Ye5 hd))
theorem Yav {res :List (Nat× Out)} {i:Nat} {r:List Nat} {s':St} {rs:List (Nat× Rec)} {os:List Prop} (h:runL P ty n ops res (i :: r) s=some (s',rs,os)):
   ∃ o e l rs' os',ops[i]? =some o/\Y70 n o=true/\stepD P ty ops o (look res i) s=some (e,l)/\runL P ty n ops res r (s.after o e)=some (s',rs',os')/\rs=(i,Ycj o e l) :: rs'/\os=l.o++os':=by
 simp only [runL] at h
 cases hi:ops[i]? with
 | none=>rw [hi] at h;simp at h
 | some o=>
 rw [hi] at h
 simp only at h
 cases hd:Y70 n o with
 | false=>rw [hd] at h;simp at h
 | true=>
 rw [hd] at h
 simp only at h
 cases hs:stepD P ty ops o (look res i) s with
 | none=>rw [hs] at h;simp at h
 | some p=>
 obtain ⟨e,l⟩:=p
 rw [hs] at h
 simp only at h
 cases hr:runL P ty n ops res r (s.after o e) with
 | none=>rw [hr] at h;simp at h
 | some q=>
 obtain ⟨s1,rs1,os1⟩:=q
 rw [hr] at h
 simp only [Option.some.injEq,Prod.mk.injEq] at h
 obtain ⟨rfl,rfl,rfl⟩:=h
 exact ⟨o,e,l,rs1,os1,rfl,hd,hs,hr,rfl,rfl⟩
theorem Y11b (ht :Y2p P ty) {res:List (Nat× Out)} {Q:Exit->Act->World->Prop}:∀ {l:List Nat} {s s':St} {rs:List (Nat× Rec)} {os:List Prop} {im:Nat->Prop} {I:Env} {a:Act} {w:World},runL P ty n ops res l s=some (s',rs,os)->(∀ p,p∈os->p)->Rel n w0 S im0 bo V im I s a w->
   (∀ a' w' im' Qa,Rel n w0 S im0 bo V im' Qa s' a' w'->Q .normal a' w')->wpOps P ops Q l a w:=by
 intro l
 induction l with
 | nil=>
   intro s s' rs os im I a w h ho hr hq
   simp only [runL,Option.some.injEq,Prod.mk.injEq] at h
   obtain ⟨rfl,_⟩:=h
   exact hq _ _ _ _ hr
 | cons i r ih=>
   intro s s' rs os im I a w h ho hr hq
   obtain ⟨o,e,l,rs',os',h1,h2,h3,h4,rfl,rfl⟩:=Yav h
   simp only [wpOps,h1]
   refine Ye6 ht hr h3 (fun p hp=>ho p (List.mem_append.2 (.inl hp))) h2 fun a' w' im' Qa hr'=> ?_
   exact ih h4 (fun p hp=>ho p (List.mem_append.2 (.inr hp))) hr' hq
def Y67 (s t :St):Prop:=(∀ k,s.tmp k=t.tmp k)/\(∀ k,s.slot k=t.slot k)
theorem Rel.same_st (hr :Rel n w0 S im0 bo V im I s a w) {t:St} (h:Y67 s t):Rel n w0 S im0 bo V im I t a w:=by
 have e:s.slot=t.slot:=funext h.2
 exact {hr with tmp:=fun k=>(h.1 k) ▸ hr.tmp k,own:=e ▸ hr.own,owo:=e ▸ hr.owo,dom:=e ▸ hr.dom}
theorem Y5h (s :St) (o:Oper) (e:Eff) (k:Nat):(s.after o e).tmp k=if o.dst=some k then e.val else s.tmp k:=by
 unfold St.after
 cases hd:o.dst with
 | none=>simp [St.setO,St.tmp_setH]
 | some t=>simp [St.setO,St.tmp_setT,St.tmp_setH]
theorem Y4t (s :St) (o:Oper) (e:Eff) (k:Nat):(s.after o e).slot k=(look e.sets k).or (s.slot k):=by
 unfold St.after
 rw [St.slot_setO,St.slot_setH]
theorem Y67.after {s t :St} (h:Y67 s t) (o:Oper) (e:Eff):Y67 (s.after o e) (t.after o e):=
 ⟨fun k=>by rw [Y5h,Y5h,h.1],fun k=>by rw [Y4t,Y4t,h.2]⟩
theorem Y67.symm {s t :St} (h:Y67 s t):Y67 t s:=⟨fun k=>(h.1 k).symm,fun k=>(h.2 k).symm⟩
theorem Y67.trans {s t u :St} (h:Y67 s t) (h':Y67 t u):Y67 s u:=⟨fun k=>(h.1 k).trans (h'.1 k),fun k=>(h.2 k).trans (h'.2 k)⟩
theorem Y67.refl (s :St):Y67 s s:=⟨fun _=>rfl,fun _=>rfl⟩
def Ybi (P :Program) (ty:Ty) (n:Nat) (ops:Array Oper) (res:List (Nat× Out)) (F:Nat->Rec):List Nat->St->St->Prop
 | [],s,s'=>Y67 s s'
 | i :: r,s,s'=>∃ o e l,ops[i]? =some o/\Y70 n o=true/\stepD P ty ops o (look res i) s=some (e,l)/\l.ok/\F i=Ycj o e l/\Ybi P ty n ops res F r (s.after o e) s'
variable {res : List (Nat × Out)} {F : Nat -> Rec}
theorem Ybi.congr :∀ {l:List Nat} {s t s':St},Ybi P ty n ops res F l s s'->Y67 s t->Ybi P ty n ops res F l t s'
 | [],s,t,s',h,hs=>hs.symm.trans h
 | i :: r,s,t,s',⟨o,e,l,h1,h2,h3,h4,h5,h6⟩,hs=>
   ⟨o,e,l,h1,h2,(Loc.stepD ..).out s t e l h3 (fun k _=>(hs.1 k).symm) (fun k _=>(hs.2 k).symm),h4,h5,h6.congr (hs.after o e)⟩
theorem Y8a {a b :List Nat} (h:Yn0 a b=true) {x:Nat} (ha:x∈a):x ∉ b:=by
 intro hb
 have:=List.all_eq_true.1 (List.all_eq_true.1 h x ha) x hb
 simp at this
theorem Yaw {U :Type} {l:List (Nat× U)} {k:Nat} (h:k ∉ l.map (·.1)):look l k=none:=by
 cases hl:look l k with
 | none=>rfl
 | some x=>exact absurd (List.mem_map.2 ⟨_,Y2i hl,rfl⟩) h
theorem Y11c {s :St} {o o':Oper} {e e':Eff} {l l':Log} {r r':Option Out} (h1:stepD P ty ops o r s=some (e,l)) (h2:stepD P ty ops o' r' (s.after o e)=some (e',l')) (hi:Yfj (Ycj o e l) (Ycj o' e' l')=true):
   stepD P ty ops o' r' s=some (e',l')/\stepD P ty ops o r (s.after o' e')=some (e,l)/\Y67 ((s.after o e).after o' e') ((s.after o' e').after o e):=by
 simp only [Yfj,Ycj,Bool.and_eq_true] at hi
 obtain ⟨⟨⟨i1,i2⟩,i3⟩,i4⟩:=hi
 have t1:∀ k,k∈l'.t->o.dst≠some k:=fun k hk hd=>Y8a i1 (x:=k) (by rw [hd];simp) (List.mem_append.2 (.inl hk))
 have t2:∀ k,o'.dst=some k->o.dst≠some k:=fun k hk hd=>Y8a i1 (x:=k) (by rw [hd];simp) (List.mem_append.2 (.inr (by rw [hk];simp)))
 have t3:∀ k,k∈l.t->o'.dst≠some k:=fun k hk hd=>Y8a i2 (x:=k) (by rw [hd];simp) hk
 have s1:∀ k,k∈l'.h->look e.sets k=none:=fun k hk=>Yaw fun hm=>Y8a i3 hm (List.mem_append.2 (.inl hk))
 have s3:∀ k,k∈l.h->look e'.sets k=none:=fun k hk=>Yaw fun hm=>Y8a i4 hm hk
 refine ⟨?_,?_,?_,?_⟩
 . refine (Loc.stepD ..).out _ s e' l' h2 (fun k hk=> ?_) (fun k hk=> ?_)
   . rw [Y5h,if_neg (t1 k hk)]
   . rw [Y4t,s1 k hk];rfl
 . refine (Loc.stepD ..).out s _ e l h1 (fun k hk=> ?_) (fun k hk=> ?_)
   . rw [Y5h,if_neg (t3 k hk)]
   . rw [Y4t,s3 k hk];rfl
 . intro k
   rw [Y5h,Y5h,Y5h,Y5h]
   by_cases c1:o'.dst=some k
   . rw [if_pos c1,if_neg (t2 k c1),if_pos c1]
   . rw [if_neg c1,if_neg c1]
 . intro k
   rw [Y4t,Y4t,Y4t,Y4t]
   cases c1:look e'.sets k with
   | none=>simp
   | some x=>
     have c2:look e.sets k=none:=Yaw fun hm=>Y8a i3 hm (List.mem_append.2 (.inr (List.mem_map.2 ⟨_,Y2i c1,rfl⟩)))
     simp [c2]
theorem Ybi.front :∀ {A B:List Nat} {i:Nat} {s s':St},Ybi P ty n ops res F (A++i :: B) s s'->(∀ a,a∈A->Yfj (F a) (F i)=true)->Ybi P ty n ops res F (i :: (A++B)) s s'
 | [],B,i,s,s',h,hi=>h
 | a :: A,B,i,s,s',⟨o,e,l,h1,h2,h3,h4,h5,h6⟩,hi=>by
   obtain ⟨o',e',l',g1,g2,g3,g4,g5,g6⟩:=Ybi.front h6 (fun x hx=>hi x (List.mem_cons_of_mem _ hx))
   have hii:=hi a List.mem_cons_self
   rw [h5,g5] at hii
   obtain ⟨k1,k2,k3⟩:=Y11c h3 g3 hii
   exact ⟨o',e',l',g1,g2,k1,g4,g5,o,e,l,h1,h2,k2,h4,h5,g6.congr k3⟩
theorem Yrs :∀ {l:List Nat} {s s':St} {rs:List (Nat× Rec)} {os:List Prop},runL P ty n ops res l s=some (s',rs,os)->(∀ p,p∈os->p)->(∀ p,p∈rs->F p.1=p.2)->Ybi P ty n ops res F l s s'
 | [],s,s',rs,os,h,ho,hF=>by
   simp only [runL,Option.some.injEq,Prod.mk.injEq] at h
   obtain ⟨rfl,_⟩:=h
   exact Y67.refl _
 | i :: r,s,s',rs,os,h,ho,hF=>by
   obtain ⟨o,e,l,rs',os',h1,h2,h3,h4,rfl,rfl⟩:=Yav h
   exact ⟨o,e,l,h1,h2,h3,fun p hp=>ho p (List.mem_append.2 (.inl hp)),hF (i,Ycj o e l) List.mem_cons_self,Yrs h4 (fun p hp=>ho p (List.mem_append.2 (.inr hp))) (fun p hp=>hF p (List.mem_cons_of_mem _ hp))⟩
theorem Ykw :∀ {l:List Nat} {s s':St} {rs:List (Nat× Rec)} {os:List Prop},runL P ty n ops res l s=some (s',rs,os)->rs.map (·.1)=l
 | [],s,s',rs,os,h=>by
   simp only [runL,Option.some.injEq,Prod.mk.injEq] at h
   obtain ⟨_,rfl,_⟩:=h
   rfl
 | i :: r,s,s',rs,os,h=>by
   obtain ⟨o,e,l,rs',os',h1,h2,h3,h4,rfl,rfl⟩:=Yav h
   simp [Ykw h4]
end
end Go.Proofs.YtpdcnikdoikldaaGreatDoor.Sv
