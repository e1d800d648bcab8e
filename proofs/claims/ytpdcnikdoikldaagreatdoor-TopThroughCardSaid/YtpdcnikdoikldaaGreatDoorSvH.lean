import Derived.Test.YtpdcnikdoikldaaGreatDoorSvD
import Derived.Laws.OwnMore
import Derived.Laws.IdiomStrings
set_option linter.unusedVariables false
set_option linter.unusedSimpArgs false
namespace Go.Proofs.YtpdcnikdoikldaaGreatDoor.Sv
open Go Go.RowKit
section
variable {P : Program} {ty : Ty} {n : Nat} {w0 : World} {S im0 bo im : Nat -> Prop} {V I : Env} {s : St} {a : Act} {w : World}
inductive Par (im bo :Nat->Prop) (w:World) (I:Env):List (Nat× D)->List (Nat× Value)->Prop
 | nil:Par im bo w I [] []
 | cons {i d v ps qs}:R im w bo I d v->Par im bo w I ps qs->Par im bo w I ((i,d) :: ps) ((i,v) :: qs)
theorem Ydy {d :D} {v:Value} (h:R im w bo I d v) (hd:d.val=true):Rs im w bo I d.cells v.cells.toList/\Y1r v.cells.toList:=by
 cases h <;> first
   | exact absurd (show false=true from hd) Bool.false_ne_true
   | (rename_i h o;exact ⟨h,o⟩)
   | (rename_i o h;exact ⟨h,o⟩)
   | exact ⟨.cons (by constructor <;> assumption) .nil,fun v hv=>by
       simp only [Value.cells,List.mem_singleton] at hv;subst hv;rfl⟩
theorem Yjs (off :Nat):∀ (vs:List Value) (k:Nat) (cells:Array Value),off+k+vs.length<=cells.size->
   ((vs.zipIdx k).foldl (fun cs p=>cs.setIfInBounds (off+p.2) p.1) cells).toList=cells.toList.take (off+k)++vs++cells.toList.drop (off+k+vs.length)
 | [],k,cells,h=>by simp
 | v :: vs,k,cells,h=>by
   simp only [List.length_cons] at h
   have ih:=Yjs off vs (k+1) (cells.setIfInBounds (off+k) v) (by simp;omega)
   simp only [List.zipIdx_cons,List.foldl_cons,ih,Array.toList_setIfInBounds,List.length_cons]
   have e1:(cells.toList.set (off+k) v).take (off+(k+1))=cells.toList.take (off+k)++[v]:=by
     rw [show off+(k+1)=(off+k)+1 by omega,List.take_succ_eq_append_getElem (by simp;omega),List.take_set_of_le (Nat.le_refl _)]
     simp
   have e2:(cells.toList.set (off+k) v).drop (off+(k+1)+vs.length)=cells.toList.drop (off+k+(vs.length+1)):=by
     rw [List.drop_set_of_lt (by omega)]
     congr 1
     omega
   rw [e1,e2]
   simp
theorem Y7m {cs ds :List D} {vs us:List Value} (off:Nat) (h:Rs im w bo I cs vs) (k:Rs im w bo I ds us):Rs im w bo I (Y2g cs off ds) (vs.take off++us++vs.drop (off+us.length)):=by
 unfold Y2g
 rw [k.length]
 exact ((h.take off).append k).append (h.drop _)
theorem Ydr (xs :Array Value):xs.zipIdx.toList=xs.toList.zipIdx:=by simp
theorem Ydz {pl :Nat->Option (Nat× Nat)}:∀ {ps:List (Nat× D)} {qs:List (Nat× Value)} {cs ds:List D} {vs:Array Value} {l:Log},fillD pl cs ps s=some (ds,l)->l.ok->Rs im w bo I cs vs.toList->Y1r vs.toList->
   Par im bo w I ps qs->∃ us,Instr.fill pl vs qs=some us/\Rs im w bo I ds us.toList/\Y1r us.toList:=by
 intro ps
 induction ps with
 | nil=>
   intro qs cs ds vs l h ho hc hon hp
   have h:=Y8 (s:=s) h
   subst h
   cases hp
   exact ⟨vs,rfl,hc,hon⟩
 | cons p ps ih=>
   intro qs cs ds vs l h ho hc hon hp
   cases hp with
   | cons hv hp=>
   rename_i i d v qs
   obtain ⟨⟨off,size⟩,hpl,l1,h1,ho1⟩:=Y2j h ho
   obtain ⟨ht,l2,h2,ho2⟩:=Yl h1 ho1
   obtain ⟨hz,l3,h3,ho3⟩:=Y9y h2 ho2
   obtain ⟨hcs,hone⟩:=Ydy hv ht
   have hl:d.cells.length=v.cells.size:=hcs.length.trans (by simp)
   have hl':cs.length=vs.size:=hc.length.trans (by simp)
   have hs1:v.cells.size=size:=by omega
   have hs2:¬ (off+v.cells.size > vs.size):=by omega
   obtain ⟨us,hu,hus⟩:=ih (vs:=v.cells.zipIdx.foldl (fun cs p=>cs.setIfInBounds (off+p.2) p.1) vs) h3 ho3 (by
     rw [<- Array.foldl_toList,Ydr,Yjs off v.cells.toList 0 vs (by simp;omega)]
     have:=Y7m off hc hcs
     simpa using this) (by
     rw [<- Array.foldl_toList,Ydr,Yjs off v.cells.toList 0 vs (by simp;omega)]
     have:=((hon.take off).append hone).append (hon.drop (off+v.cells.toList.length))
     simpa using this) hp
   refine ⟨us,?_,hus⟩
   simp only [Instr.fill,hpl]
   rw [if_neg (by simp [hs1];omega)]
   exact hu
theorem Ywd {pl :Nat->Option (Nat× Nat)}:∀ {ps:List (Nat× D)} {cs ds:List D} {l:Log},fillD pl cs ps s=some (ds,l)->l.ok->ds.length=cs.length:=by
 intro ps
 induction ps with
 | nil=>intro cs ds l h ho;rw [Y8 (s:=s) h]
 | cons p ps ih=>
   intro cs ds l h ho
   obtain ⟨i,d⟩:=p
   obtain ⟨⟨off,size⟩,hpl,l1,h1,ho1⟩:=Y2j h ho
   obtain ⟨ht,l2,h2,ho2⟩:=Yl h1 ho1
   obtain ⟨hz,l3,h3,ho3⟩:=Y9y h2 ho2
   rw [ih h3 ho3]
   simp only [Y2g,List.length_append,List.length_take,List.length_drop]
   omega
theorem Y173 (hr :Rel n w0 S im0 bo V im I s a w):∀ {xs:List (Nat× Operand)} {ds:List (Nat× D)} {l:Log},evs xs s=some (ds,l)->
   Par im bo w I ds (xs.map fun x=>(x.1,a.eval x.2)):=by
 intro xs
 induction xs with
 | nil=>intro ds l h;obtain ⟨rfl,_⟩:=M.pure_eq h;exact .nil
 | cons x xs ih=>
   intro ds l h
   obtain ⟨d,l1,l2,h1,h2,_⟩:=M.bind_eq h
   obtain ⟨es,l3,l4,h3,h4,_⟩:=M.bind_eq h2
   obtain ⟨rfl,_⟩:=M.pure_eq h4
   exact .cons (Ybt hr h1) (ih h3)
theorem Ymu (hr :Rel n w0 S im0 bo V im I s a w) {xs:List (Nat× Operand)} {Qb:Type} {f:List (Nat× D)->M Qb} {b:Qb} {k:Log} (h:(evs xs >>= f) s=some (b,k)) (ho:k.ok):
   ∃ ds,Par im bo w I ds (xs.map fun x=>(x.1,a.eval x.2))/\∃ l,f ds s=some (b,l)/\l.ok:=by
 obtain ⟨d,l,l',h1,h2,h3,h4⟩:=M.bindO h ho
 exact ⟨d,Y173 hr h1,l',h2,h4⟩
theorem Y4a.zero {t :Nat} {i:TI} (h:Y4a P t i) (hz:zok i=true):∃ z,(zeroValue t).run P w=.ok z w/\Rs im w bo I i.zero z.cells.toList/\i.zero.length=i.size/\Y1r z.cells.toList:=by
 obtain ⟨j,d,h1,h2,_,_,_,h4⟩:=h.info
 obtain ⟨z,h5,h6,h7,h8⟩:=h4 hz
 exact ⟨z,by simp [zeroValue,typeInfo,h1,h5],Ybs _ _ h6,h7,h8⟩
theorem Ymv (ht :Y2p P ty):∀ {fs:List (Nat× Nat)} {ps:List (Nat× Nat)} {l:Log},placesOf ty fs s=some (ps,l)->l.ok->∀ gs:List Field,fs=gs.map (fun f=>(f.offset,f.type))->
   (gs.mapM (m:=Sem) fun f=>do pure (f.offset,<- sizeOf f.type)).run P w=.ok ps w:=by
 intro fs
 induction fs with
 | nil=>
   intro ps l h ho gs hg
   have h:=Y8 (s:=s) h
   subst h
   cases gs with
   | nil=>simp
   | cons=>simp at hg
 | cons p fs ih=>
   intro ps l h ho gs hg
   cases gs with
   | nil=>simp at hg
   | cons g gs=>
   simp only [List.map_cons,List.cons.injEq] at hg
   obtain ⟨rfl,hg⟩:=hg
   obtain ⟨i,hi,l1,h1,ho1⟩:=Yw ht h ho
   obtain ⟨qs,l2,l3,h2,h3,ho2,ho3⟩:=M.bindO h1 ho1
   have h:=Y8 (s:=s) h3
   subst h
   have:=ih h2 ho2 gs hg
   simp only [bind_pure_comp] at this ⊢
   simp [List.mapM_cons,hi.sizeOf,this]
theorem Y112 (ht :Y2p P ty) {t:Nat} {x d:D} {v:Value} {l:Log} {ts:Array TypeId} {vs:Array Value} {rt:TypeId} (h:lenD ty t x s=some (d,l)) (ho:l.ok) (hx:R im w bo I x v) (h0:ts[0]? =some t) (h1:vs[0]? =some v):
   ∃ r,(Builtin.len_ ts rt vs).run P w=.ok r w/\R im w bo I d r:=by
 unfold lenD at h
 obtain ⟨i,hi,l1,h2,ho1⟩:=Yw ht h ho
 cases hk:i.kind with
 | string=>
   rw [hk] at h2
   have hu:=hi.string hk
   cases x <;> first
     | exact (M.fail_eq (s:=s) h2).elim
     | skip
   have h:=Y8 (s:=s) h2
   subst h
   cases hx
   exact ⟨_,by simp [Builtin.len_,h0,h1,run_underlying hu,goInt],.int _ _⟩
 | array m e=>
   rw [hk] at h2
   have hu:=hi.array hk
   have h:=Y8 (s:=s) h2
   subst h
   exact ⟨.int .i64 m,by simp [Builtin.len_,h0,h1,run_underlying hu,goInt],.int _ _⟩
 | slice e=>
   rw [hk] at h2
   have hu:=hi.slice hk
   cases x <;> first
     | exact (M.fail_eq (s:=s) h2).elim
     | skip
   all_goals
     have h:=Y8 (s:=s) h2
     subst h
     cases hx <;> exact ⟨_,by simp [Builtin.len_,h0,h1,run_underlying hu,goInt],.int _ _⟩
 | _=>rw [hk] at h2;cases x <;> exact (M.fail_eq (s:=s) h2).elim
theorem Ymw {lt :Int->Int->Bool} {m2:Value->Value->Sem Value} (hm:∀ k x k' y,m2 (.int k x) (.int k' y)=pure (.int k (if lt y x then y else x))):∀ {ds:List D} {x d:D} {v:Value} {vs:List Value} {l:Log},minD lt x ds s=some (d,l)->
   R im w bo I x v->Rs im w bo I ds vs->(ds=[]->True)->∃ r,(vs.foldlM m2 v).run P w=.ok r w/\R im w bo I d r:=by
 intro ds
 induction ds with
 | nil=>
   intro x d v vs l h hx hs _
   cases hs
   have h:x=d:=by cases x <;> exact Y8 (s:=s) h
   subst h
   exact ⟨v,by simp,hx⟩
 | cons y ds ih=>
   intro x d v vs l h hx hs _
   cases hs with
   | cons hy hs=>
   cases x <;> cases y <;> first
     | exact (M.fail_eq (s:=s) h).elim
     | skip
   cases hx;cases hy
   obtain ⟨r,h1,h2⟩:=ih h (.int _ _) hs (fun _=>trivial)
   exact ⟨r,by simp [List.foldlM_cons,hm,h1],h2⟩
end
end Go.Proofs.YtpdcnikdoikldaaGreatDoor.Sv
namespace Go.Proofs.YtpdcnikdoikldaaGreatDoor.Sv
open Go Go.RowKit
theorem Y1t {U :Type} (k:Nat) (v:U) (r:List (Nat× U)) (m:Nat):look ((k,v) :: r) m=if k=m then some v else look r m:=by
 simp only [look]
 by_cases h:k=m
 . subst h;simp
 . have:Nat.beq k m=false:=by
     cases hb:Nat.beq k m with
     | false=>rfl
     | true=>exact absurd (Nat.eq_of_beq_eq_true hb) h
   rw [this,if_neg h];rfl
theorem Yg2 {U :Type} (l r:List (Nat× U)) (m:Nat):look (l++r) m=(look l m).or (look r m):=by
 induction l with
 | nil=>simp [look]
 | cons p l ih=>
   obtain ⟨k,v⟩:=p
   rw [List.cons_append,Y1t,Y1t]
   split <;> simp [ih]
theorem St.tmp_setT (s :St) (t:Nat) (d:D) (u:Nat):(s.setT t d).tmp u=if t=u then d else s.tmp u:=by
 simp only [St.tmp,St.setT,Y1t]
 split <;> simp
theorem St.slot_setO (s :St) (o:Option Nat) (d:D):(s.setO o d).slot=s.slot:=by cases o <;> rfl
theorem St.tmp_setH (s :St) (l:List (Nat× Option Blk)):(s.setH l).tmp=s.tmp:=rfl
theorem St.slot_setH (s :St) (l:List (Nat× Option Blk)) (b:Nat):(s.setH l).slot b=(look l b).or (s.slot b):=Yg2 l s.H b
def Env.upd (I :Env) (m:Nat) (p:Pl):Env:=fun b=>if b=m then some p else I b
theorem Env.upd_same (I :Env) (m:Nat) (p:Pl):I.upd m p m=some p:=by simp [Env.upd]
theorem Env.upd_other (I :Env) {m b:Nat} (p:Pl) (h:b≠m):I.upd m p b=I b:=by simp [Env.upd,h]
theorem Env.upd_ext {I :Env} {m:Nat} (p:Pl) (hm:I m=none):∀ b q,I b=some q->I.upd m p b=some q:=by
 intro b q h
 rw [Env.upd_other _ _ (by rintro rfl;rw [hm] at h;simp at h),h]
section
variable {P : Program} {ty : Ty} {n : Nat} {w0 : World} {S im0 bo im : Nat -> Prop} {V I : Env} {s : St} {a : Act} {w : World}
theorem Y174 (a :Act) (o:Option Nat) (v:Value) (u:Nat) (ho:∀ t,o=some t->t< a.tmps.size):(a.put o v).tmps.getD u Go.undef=if o=some u then v else a.tmps.getD u Go.undef:=by
 cases o with
 | none=>simp [Act.put]
 | some t=>
   have ht:=ho t rfl
   simp only [Act.put,Option.some.injEq]
   by_cases h:t=u
   . subst h
     simp [Array.getD,ht]
   . simp only [h,if_false]
     simp only [Array.getD,Array.size_setIfInBounds]
     split
     . rename_i hu
       have hu':u< (a.tmps.setIfInBounds t v).size:=by simpa using hu
       show (a.tmps.setIfInBounds t v)[u]'hu'=a.tmps[u]
       rw [Array.getElem_setIfInBounds,if_neg h]
     . rfl
theorem Rel.setO (hr :Rel n w0 S im0 bo V im I s a w) {o:Option Nat} {d:D} {v:Value} (hd:R im w bo I d v) (ho:∀ t,o=some t->t< n):Rel n w0 S im0 bo V im I (s.setO o d) (a.put o v) w:=by
 refine {hr with size:= ?_,defers:= ?_,tmp:= ?_,own:= ?_,owo:= ?_,dom:= ?_}
 . cases o <;> simp [Act.put,hr.size]
 . cases o <;> exact hr.defers
 . intro t
   rw [Y174 a o v t (by rw [hr.size];exact ho)]
   cases o with
   | none=>simpa [St.setO] using hr.tmp t
   | some u=>
     simp only [St.setO,St.tmp_setT,Option.some.injEq]
     split
     . exact hd
     . exact hr.tmp t
 . rw [St.slot_setO];exact hr.own
 . rw [St.slot_setO];exact hr.owo
 . rw [St.slot_setO];exact hr.dom
theorem Rel.same (hr :Rel n w0 S im0 bo V im I s a w) {w':World} (hh:w'.heap=w.heap) (ho:w'.os=w.os) (ht:w'.tape=w.tape) (hu:w'.output=w.output):Rel n w0 S im0 bo V im I s a w':=by
 have hb:∀ b:Nat,w'.heap[b]? =w.heap[b]? :=fun b=>by rw [hh]
 refine {hr with tmp:=fun t=>(hr.tmp t).mono (fun _ h=>h) (fun b _=>hb b) (fun _ h=>h) (fun _ _ h=>h),own:= ?_,kept:= ?_,imlt:=fun b h=>by rw [hh];exact hr.imlt b h}
 . refine {hr.own with blk:=fun b k h=> ?_}
   obtain ⟨pl,h1,h2⟩:=hr.own.blk b k h
   refine ⟨pl,h1,?_⟩
   cases pl with
   | nil=>exact h2
   | ch B cap=>
     obtain ⟨buf,s',r,vs0,k1,k2,k3⟩:=h2
     exact ⟨buf,s',r,vs0,(hb B).trans k1,k2,k3.mono (fun _ h=>h) (fun b _=>hb b) (fun _ h=>h) (fun _ _ h=>h)⟩
   | at_ B base sz lim=>
     obtain ⟨c,el,fz,k1,k2,k3,k4,k5,k7,k6⟩:=h2
     exact ⟨c,el,fz,(hb B).trans k1,k2,k3,k4,k5,k7,k6.mono (fun _ h=>h) (fun b _=>hb b) (fun _ h=>h) (fun _ _ h=>h)⟩
 . exact ⟨ho.trans hr.kept.os,ht.trans hr.kept.tape,hu.trans hr.kept.output,by rw [hh];exact hr.kept.size,fun b h1 h2=>(hb b).trans (hr.kept.block b h1 h2)⟩
theorem Y49.mono {im' bo' :Nat->Prop} {Qa:Env} {w':World} {blk:Blk} {pl:Pl} (h:Y49 im bo I w blk pl) (hi:∀ b,im b->im' b) (hw:∀ b,im b\/bo b->w'.heap[b]? =w.heap[b]?) (hb:∀ b,bo b->bo' b) (hp:∀ b p,I b=some p->Qa b=some p)
   (hB:∀ B,pl.blk=some B->w'.heap[B]? =w.heap[B]?):Y49 im' bo' Qa w' blk pl:=by
 cases pl with
 | nil=>exact h
 | ch B cap=>
   obtain ⟨buf,s',r,vs0,k1,k2,k6⟩:=h
   refine ⟨buf,s',r,vs0,(hB B rfl).trans k1,k2,k6.mono hi (fun b h=>hw b (h.imp id ?_)) ?_ ?_⟩
   . intro h;split at h
     . exact h.elim
     . exact h
   . intro b h;split at h
     . exact h.elim
     . rename_i hp';simp [hp',hb b h]
   . intro b p h;split at h
     . simp [Y1h] at h
     . rename_i hp';simp [hp',hp b p h]
 | at_ B base sz lim=>
   obtain ⟨c,el,fz,k1,k2,k3,k4,k5,k7,k6⟩:=h
   refine ⟨c,el,fz,(hB _ rfl).trans k1,k2,k3,k4,k5,k7,k6.mono hi (fun b h=>hw b (h.imp id ?_)) ?_ ?_⟩
   . intro h;split at h
     . exact h.elim
     . exact h
   . intro b h;split at h
     . exact h.elim
     . rename_i hp';simp [hp',hb b h]
   . intro b p h;split at h
     . simp [Y1h] at h
     . rename_i hp';simp [hp',hp b p h]
theorem Y3q (hr :Rel n w0 S im0 bo V im I s a w) {b:Nat} {k:Blk} {pl:Pl} {B:Nat} (h:s.slot b=some (some k)) (hp:I b=some pl) (hB:pl.blk=some B):B< w.heap.size:=by
 obtain ⟨pl',h1,h2⟩:=hr.own.blk b k h
 rw [hp] at h1
 obtain rfl:=Option.some.inj h1
 have hsome:∃ o,w.heap[B]? =some o:=by
   cases pl with
   | nil=>cases hB
   | ch B' cap=>
     obtain rfl:=Option.some.inj hB
     obtain ⟨buf,s',r,vs0,k1,k2,k3⟩:=h2
     exact ⟨_,k1⟩
   | at_ B' base sz lim=>
     obtain rfl:=Option.some.inj hB
     obtain ⟨c,el,fz,k1,_⟩:=h2
     exact ⟨_,k1⟩
 obtain ⟨o,ho⟩:=hsome
 rcases Nat.lt_or_ge B w.heap.size with h | h
 . exact h
 . rw [Array.getElem?_eq_none h] at ho;simp at ho
theorem Yat (w :World) (o:Obj) (b:Nat) (h:b< w.heap.size):(w.alloc o).heap[b]? =w.heap[b]? :=Below.heap_alloc w o b h
theorem Rel.newO (hr :Rel n w0 S im0 bo V im I s a w) {m:Nat} (hm:s.slot m=none) {blk:Blk} {pl0:Pl} {ob:Obj} (hpl:pl0.blk=some w.heap.size) (hat:Y49 im bo (I.upd m pl0) (w.alloc ob) blk pl0):
   Rel n w0 S im0 bo V im (I.upd m pl0) (s.setH [(m,some blk)]) a (w.alloc ob):=by
 have hφ:=hr.dom m hm
 have hext:=Env.upd_ext (I:=I) pl0 hφ
 have hold:∀ b,im b\/bo b->(w.alloc ob).heap[b]? =w.heap[b]? :=fun b h=>Yat _ _ _ (h.elim (hr.imlt b) fun h=>Nat.lt_of_lt_of_le (hr.base.lt b (.inr h)) hr.kept.size)
 have hsl:∀ b,(s.setH [(m,some blk)]).slot b=if m=b then some (some blk) else s.slot b:=by
   intro b
   rw [St.slot_setH,Y1t]
   split <;> simp [look]
 refine {hr with tmp:= ?_,own:= ?_,kept:= ?_,imlt:= ?_,owo:= ?_,dom:= ?_,arg:=fun b p h=>hext b p (hr.arg b p h)}
 . intro t
   exact (hr.tmp t).mono (fun _ h=>h) hold (fun _ h=>h) hext
 . refine ⟨?_,?_,?_⟩
   . intro b k hb
     rw [hsl] at hb
     split at hb
     . rename_i e
       subst e
       simp only [Option.some.injEq] at hb
       subst hb
       exact ⟨_,Env.upd_same _ _ _,hat⟩
     . rename_i hne
       obtain ⟨pl,k1,k2⟩:=hr.own.blk b k hb
       exact ⟨pl,hext b pl k1,k2.mono (fun _ h=>h) hold (fun _ h=>h) hext (fun B e=>Yat _ _ _ (Y3q hr hb k1 e))⟩
   . intro b k pl B hb hp hB'
     rw [hsl] at hb
     split at hb
     . rename_i e
       subst e
       rw [Env.upd_same] at hp
       obtain rfl:=Option.some.inj hp
       obtain rfl:=Option.some.inj (hpl.symm.trans hB')
       exact ⟨fun h=>Nat.lt_irrefl _ (hr.imlt _ h),fun h=>Nat.lt_irrefl _ (Nat.lt_of_lt_of_le (hr.base.lt _ (.inr h)) hr.kept.size)⟩
     . rename_i hne
       rw [Env.upd_other _ _ (fun e=>hne e.symm)] at hp
       exact hr.own.out b k pl B hb hp hB'
   . intro b d k l pl pl' B hb hd hp hq hB1 hB2
     rw [hsl] at hb hd
     split at hb <;> split at hd
     . rename_i e1 e2;exact e1.symm.trans e2
     . rename_i e1 e2
       subst e1
       rw [Env.upd_same] at hp
       rw [Env.upd_other _ _ (fun e=>e2 e.symm)] at hq
       obtain rfl:=Option.some.inj hp
       obtain rfl:=Option.some.inj (hpl.symm.trans hB1)
       exact absurd (Y3q hr hd hq hB2) (Nat.lt_irrefl _)
     . rename_i e1 e2
       subst e2
       rw [Env.upd_same] at hq
       rw [Env.upd_other _ _ (fun e=>e1 e.symm)] at hp
       obtain rfl:=Option.some.inj hq
       obtain rfl:=Option.some.inj (hpl.symm.trans hB2)
       exact absurd (Y3q hr hb hp hB1) (Nat.lt_irrefl _)
     . rename_i e1 e2
       rw [Env.upd_other _ _ (fun e=>e1 e.symm)] at hp
       rw [Env.upd_other _ _ (fun e=>e2 e.symm)] at hq
       exact hr.own.inj b d k l pl pl' B hb hd hp hq hB1 hB2
 . have hsz:(w.alloc ob).heap.size=w.heap.size+1:=by show (w.heap.push _).size=_;simp
   exact ⟨hr.kept.os,hr.kept.tape,hr.kept.output,by rw [hsz];have:=hr.kept.size;omega,fun b h1 h2=>(Yat _ _ _ (Nat.lt_of_lt_of_le h1 hr.kept.size)).trans (hr.kept.block b h1 h2)⟩
 . intro b h
   have hsz:(w.alloc ob).heap.size=w.heap.size+1:=by show (w.heap.push _).size=_;simp
   have:=hr.imlt b h
   omega
 . intro b k pl B hb hp hB'
   rw [hsl] at hb
   split at hb
   . rename_i e
     subst e
     rw [Env.upd_same] at hp
     obtain rfl:=Option.some.inj hp
     obtain rfl:=Option.some.inj (hpl.symm.trans hB')
     exact .inr hr.kept.size
   . rename_i hne
     rw [Env.upd_other _ _ (fun e=>hne e.symm)] at hp
     exact hr.owo b k pl B hb hp hB'
 . intro b hb
   rw [hsl] at hb
   split at hb
   . simp at hb
   . rename_i hne
     rw [Env.upd_other _ _ (fun e=>hne e.symm)]
     exact hr.dom b hb
theorem Rel.new (hr :Rel n w0 S im0 bo V im I s a w) {m:Nat} (hm:s.slot m=none) {blk:Blk} {c:Array Value} {el:TypeId} {fz:Nat× Nat} (h1:blk.cs.length<=c.size) (h2:fz.2<=fz.1\/c.size<=fz.1) (h4:Y1r (c.toList.take blk.cs.length))
   (h3:Rs im w (if blk.pure then noB else bo) (if blk.pure then Y1h else I) blk.cs (c.toList.take blk.cs.length)) (hel:Ycg blk.el 0 c.size el:=by first | exact .inl rfl | assumption):
   Rel n w0 S im0 bo V im (I.upd m (.at_ w.heap.size 0 blk.sz c.size)) (s.setH [(m,some blk)]) a (w.alloc (.cells c el fz)):=by
 refine hr.newO hm rfl ?_
 have hext:=Env.upd_ext (I:=I) (.at_ w.heap.size 0 blk.sz c.size) (hr.dom m hm)
 have hold:∀ b,im b\/bo b->(w.alloc (.cells c el fz)).heap[b]? =w.heap[b]? :=fun b h=>Yat _ _ _ (h.elim (hr.imlt b) fun h=>Nat.lt_of_lt_of_le (hr.base.lt b (.inr h)) hr.kept.size)
 have hB:(w.alloc (.cells c el fz)).heap[w.heap.size]? =some (.cells c el fz):=by
   show (w.heap.push _)[w.heap.size]? =_
   simp
 refine ⟨c,el,fz,hB,by omega,h1,⟨rfl,hel⟩,h2,by simpa using h4,?_⟩
 have:=h3.mono (im':=im) (w':=w.alloc (.cells c el fz)) (fun _ h=>h) (bo':=if blk.pure then noB else bo) (Qa:=if blk.pure then Y1h else I.upd m (.at_ w.heap.size 0 blk.sz c.size)) (by
   intro b hb
   refine hold b (hb.imp id fun h=> ?_)
   split at h
   . exact h.elim
   . exact h) (fun _ h=>h) (by
   intro b p h
   split at h
   . simp [Y1h] at h
   . rename_i hp;simp only [hp,Bool.false_eq_true,if_false];exact hext b p h)
 simpa using this
end
end Go.Proofs.YtpdcnikdoikldaaGreatDoor.Sv
namespace Go.Proofs.YtpdcnikdoikldaaGreatDoor.Sv
open Go Go.RowKit
def Y2k (w :World) (B:Nat) (o:Obj):World:={w with heap:=w.heap.setIfInBounds B o}
theorem Ybe {w :World} {B:Nat} {o:Obj} (h:B< w.heap.size):(Y2k w B o).heap[B]? =some o:=by
 simp [Y2k,h]
theorem Y4k {w :World} {B b:Nat} {o:Obj} (h:b≠B):(Y2k w B o).heap[b]? =w.heap[b]? :=by
 simp only [Y2k]
 rw [Array.getElem?_setIfInBounds_ne (fun e=>h e.symm)]
theorem Y8q (w :World) (B:Nat) (o:Obj):(Y2k w B o).heap.size=w.heap.size:=by simp [Y2k]
theorem Yr6 {w :World} {B j:Nat} {c:Array Value} {el:TypeId} {fz:Nat× Nat} (h:w.heap[B]? =some (.cells c el fz)) (v:Value):w.setCell ⟨B,j,none⟩ v=Y2k w B (.cells (c.setIfInBounds j v) el fz):=by
 have hB:B< w.heap.size:=by
   rcases Nat.lt_or_ge B w.heap.size with h' | h'
   . exact h'
   . rw [Array.getElem?_eq_none h'] at h;simp at h
 have e:w.heap[B]=.cells c el fz:=by rw [Array.getElem?_eq_getElem hB] at h;exact Option.some.inj h
 unfold World.setCell Y2k
 congr 1
 apply Array.ext
 . simp
 . intro i h1 h2
   simp only [Array.getElem_modify,Array.getElem_setIfInBounds]
   split
   . rename_i hi;subst hi;simp [e]
   . rename_i hi
     rw [Array.getElem_setIfInBounds,if_neg hi]
theorem Ytb (w :World) (B:Nat) (o p:Obj):Y2k (Y2k w B o) B p=Y2k w B p:=by
 simp [Y2k]
theorem Ykr {w :World} {B:Nat} {o:Obj} (h:w.heap[B]? =some o):Y2k w B o=w:=by
 unfold Y2k
 have:w.heap.setIfInBounds B o=w.heap:=by
   apply Array.ext
   . simp
   . intro i h1 h2
     rw [Array.getElem_setIfInBounds]
     split
     . rename_i hi;subst hi;rw [Array.getElem?_eq_getElem h2] at h;exact (Option.some.inj h).symm
     . rfl
 rw [this]
theorem Y4h (P :Program) {B:Nat} {el:TypeId} {fz:Nat× Nat}:∀ (vs:List Value) (o i:Nat) (w:World) (c:Array Value),w.heap[B]? =some (.cells c el fz)->o+i+vs.length<=c.size->(fz.2<=fz.1\/c.size<=fz.1)->(∀ v∈vs,v.oneCell'=true)->
   (storeCells ⟨B,o,none⟩ vs i).run P w=.ok () (Y2k w B (.cells (c.toList.take (o+i)++vs++c.toList.drop (o+i+vs.length)).toArray el fz))
 | [],o,i,w,c,h,hl,hf,h1=>by
   simp only [storeCells,Sem.run_pure,List.append_nil,List.length_nil,Nat.add_zero,List.take_append_drop]
   rw [Ykr h]
 | v :: vs,o,i,w,c,h,hl,hf,h1=>by
   simp only [List.length_cons] at hl
   have hc:w.cell? ⟨B,o+i,none⟩=some c[o+i]:=by rw [Yjp h,Array.getElem?_eq_getElem (by omega)]
   have hz:w.frozen? ⟨B,o+i,none⟩=false:=by
     simp only [World.frozen?,h]
     rcases hf with hf | hf
     . simp;omega
     . simp;omega
   have ih:=Y4h P vs o (i+1) (Y2k w B (.cells (c.setIfInBounds (o+i) v) el fz)) (c.setIfInBounds (o+i) v) (Ybe (by
       rcases Nat.lt_or_ge B w.heap.size with h' | h'
       . exact h'
       . rw [Array.getElem?_eq_none h'] at h;simp at h)) (by simp;omega) (by simpa using hf) (fun u hu=>h1 u (by simp [hu]))
   simp only [storeCells,Sem.run_bind,Addr.add_none,run_store P w _ v .plain (h1 v (by simp)),hc,hz,Bool.false_eq_true,if_false,Result.andThen_ok,Yr6 h,ih,Ytb]
   congr 3
   simp only [Array.toList_setIfInBounds,List.length_cons]
   have e1:(c.toList.set (o+i) v).take (o+(i+1))=c.toList.take (o+i)++[v]:=by
     rw [show o+(i+1)=(o+i)+1 by omega,List.take_succ_eq_append_getElem (by simp;omega),List.take_set_of_le (Nat.le_refl _)]
     simp
   have e2:(c.toList.set (o+i) v).drop (o+(i+1)+vs.length)=c.toList.drop (o+i+(vs.length+1)):=by
     rw [List.drop_set_of_lt (by omega)]
     congr 1
     omega
   rw [e1,e2]
   simp
theorem Y113 {im bo :Nat->Prop} {I:Env} {w:World} {d:D} {v:Value} (h:R im w bo I d v) (hd:d.free=true):R im w noB Y1h d v:=by
 cases h with
 | ip k1 k2 k3 ko k4=>
   rename_i g _ _ _ _ _ _ _
   cases g
   . exact absurd (show false=true from hd) Bool.false_ne_true
   . exact .ip (.inl (k1.elim id fun h=>by simp at h)) k2 k3 ko (by simpa using k4)
 | sl k1 k2 k3 k4 ko k5=>
   rename_i g _ _ _ _ _ _ _ _ _ _
   cases g
   . exact absurd (show false=true from hd) Bool.false_ne_true
   . exact .sl (.inl (k1.elim id fun h=>by simp at h)) k2 k3 k4 ko (by simpa using k5)
 | bool=>exact .bool _
 | int=>exact .int _ _
 | str=>exact .str _
 | nilp=>exact .nilp
 | nils=>exact .nils
 | sl0 a c hac=>
   rename_i g _
   cases g
   . exact absurd (show false=true from hd) Bool.false_ne_true
   . exact .sl0 a c hac
 | nilf=>exact .nilf
 | _=>exact absurd (show false=true from hd) Bool.false_ne_true
theorem Yks {im bo :Nat->Prop} {I:Env} {w:World} {ds:List D} {vs:List Value} (h:Rs im w bo I ds vs) (hd:Y24 ds=true):Rs im w noB Y1h ds vs:=by
 induction ds generalizing vs with
 | nil=>cases h;exact .nil
 | cons d ds ih=>
   cases h with
   | cons a b=>
     simp only [Y24,Bool.and_eq_true] at hd
     exact .cons (Y113 a hd.1) (ih b hd.2)
theorem Rs.pureOr {im bo :Nat->Prop} {I:Env} {w:World} {ds:List D} {vs:List Value} {p:Bool} (h:Rs im w bo I ds vs) (hp:(!p||Y24 ds)=true):Rs im w (if p then noB else bo) (if p then Y1h else I) ds vs:=by
 cases p
 . simpa using h
 . simpa using Yks h (by simpa using hp)
section
variable {P : Program} {ty : Ty} {n : Nat} {w0 : World} {S im0 bo im : Nat -> Prop} {V I : Env} {s : St} {a : Act} {w : World}
theorem Y2q (s :St) (m:Nat) (x:Option Blk) (b:Nat):(s.setH [(m,x)]).slot b=if m=b then some x else s.slot b:=by
 rw [St.slot_setH,Y1t]
 split <;> simp [look]
theorem Rel.putO (hr :Rel n w0 S im0 bo V im I s a w) {m B:Nat} {pl0:Pl} {Qa:Env} {blk:Blk} {ob:Obj} (hext:∀ b p,I b=some p->Qa b=some p)
   (hm:Qa m=some pl0) (hpl:pl0.blk=some B) (hoth:∀ b,b≠m->Qa b=I b) (hB:B< w.heap.size) (hS:S B\/w0.heap.size<=B) (hi:¬ im B) (hb:¬ bo B)
   (hun:∀ b k pl,b≠m->s.slot b=some (some k)->I b=some pl->pl.blk≠some B) (hat:Y49 im bo Qa (Y2k w B ob) blk pl0):
   Rel n w0 S im0 bo V im Qa (s.setH [(m,some blk)]) a (Y2k w B ob):=by
 have hold:∀ b,im b\/bo b->(Y2k w B ob).heap[b]? =w.heap[b]? :=fun b h=>Y4k (by rintro rfl;exact h.elim hi hb)
 refine {hr with tmp:= ?_,own:= ?_,kept:= ?_,imlt:= ?_,owo:= ?_,dom:= ?_,arg:=fun b p h=>hext b p (hr.arg b p h)}
 . exact fun t=>(hr.tmp t).mono (fun _ h=>h) hold (fun _ h=>h) hext
 . refine ⟨?_,?_,?_⟩
   . intro b k hs
     rw [Y2q] at hs
     split at hs
     . rename_i e
       subst e
       simp only [Option.some.injEq] at hs
       subst hs
       exact ⟨_,hm,hat⟩
     . rename_i hne
       obtain ⟨pl,k1,k2⟩:=hr.own.blk b k hs
       refine ⟨pl,hext b pl k1,k2.mono (fun _ h=>h) hold (fun _ h=>h) hext fun B' e=>Y4k ?_⟩
       rintro rfl
       exact hun b k pl (fun e=>hne e.symm) hs k1 e
   . intro b k pl B' hs hp hBp
     rw [Y2q] at hs
     split at hs
     . rename_i e
       subst e
       rw [hm] at hp
       obtain rfl:=Option.some.inj hp
       obtain rfl:=Option.some.inj (hpl.symm.trans hBp)
       exact ⟨hi,hb⟩
     . rename_i hne
       rw [hoth b (fun e=>hne e.symm)] at hp
       exact hr.own.out b k pl B' hs hp hBp
   . intro b d k l pl pl' B' hs hd hp hq hB1 hB2
     rw [Y2q] at hs hd
     split at hs <;> split at hd
     . rename_i e1 e2;exact e1.symm.trans e2
     . rename_i e1 e2
       subst e1
       rw [hm] at hp
       rw [hoth d (fun e=>e2 e.symm)] at hq
       obtain rfl:=Option.some.inj hp
       obtain rfl:=Option.some.inj (hpl.symm.trans hB1)
       exact absurd hB2 (hun d l pl' (fun e=>e2 e.symm) hd hq)
     . rename_i e1 e2
       subst e2
       rw [hm] at hq
       rw [hoth b (fun e=>e1 e.symm)] at hp
       obtain rfl:=Option.some.inj hq
       obtain rfl:=Option.some.inj (hpl.symm.trans hB2)
       exact absurd hB1 (hun b k pl (fun e=>e1 e.symm) hs hp)
     . rename_i e1 e2
       rw [hoth b (fun e=>e1 e.symm)] at hp
       rw [hoth d (fun e=>e2 e.symm)] at hq
       exact hr.own.inj b d k l pl pl' B' hs hd hp hq hB1 hB2
 . refine ⟨hr.kept.os,hr.kept.tape,hr.kept.output,by rw [Y8q];exact hr.kept.size,fun b k1 k2=>(Y4k ?_).trans (hr.kept.block b k1 k2)⟩
   rintro rfl
   exact hS.elim k2 fun h=>absurd k1 (by omega)
 . intro b h
   rw [Y8q]
   exact hr.imlt b h
 . intro b k pl B' hs hp hBp
   rw [Y2q] at hs
   split at hs
   . rename_i e
     subst e
     rw [hm] at hp
     obtain rfl:=Option.some.inj hp
     obtain rfl:=Option.some.inj (hpl.symm.trans hBp)
     exact hS
   . rename_i hne
     rw [hoth b (fun e=>hne e.symm)] at hp
     exact hr.owo b k pl B' hs hp hBp
 . intro b hs
   rw [Y2q] at hs
   split at hs
   . simp at hs
   . rename_i hne
     rw [hoth b (fun e=>hne e.symm)]
     exact hr.dom b hs
theorem Ycg.size {E base n m el :Nat} (h:Ycg E base n el) (e:m=n):Ycg E base m el:=e ▸ h
theorem Rel.put (hr :Rel n w0 S im0 bo V im I s a w) {m B base lim:Nat} {Qa:Env} {blk:Blk} {c:Array Value} {el:TypeId} {fz:Nat× Nat} (hext:∀ b p,I b=some p->Qa b=some p)
   (hm:Qa m=some (.at_ B base blk.sz lim)) (hoth:∀ b,b≠m->Qa b=I b) (hB:B< w.heap.size) (hS:S B\/w0.heap.size<=B) (hi:¬ im B) (hb:¬ bo B)
   (hun:∀ b k pl,b≠m->s.slot b=some (some k)->I b=some pl->pl.blk≠some B) (h1:base+lim<=c.size) (h2:blk.cs.length<=lim) (h3:fz.2<=fz.1\/c.size<=fz.1) (h5:Y1r ((c.toList.drop base).take blk.cs.length))
   (h4:Rs im w (if blk.pure then noB else bo) (if blk.pure then Y1h else Qa) blk.cs ((c.toList.drop base).take blk.cs.length)) (hel:Ycg blk.el base c.size el:=by first | exact .inl rfl | assumption):
   Rel n w0 S im0 bo V im Qa (s.setH [(m,some blk)]) a (Y2k w B (.cells c el fz)):=by
 refine hr.putO hext hm rfl hoth hB hS hi hb hun ⟨c,el,fz,Ybe hB,h1,h2,⟨rfl,hel⟩,h3,h5,h4.mono (fun _ h=>h) (fun b h=>Y4k (by
   rintro rfl
   exact h.elim hi fun h=>by
     split at h
     . exact h.elim
     . exact hb h)) (fun _ h=>h) (fun _ _ h=>h)⟩
theorem Rel.dead (hr :Rel n w0 S im0 bo V im I s a w) (b:Nat) (hb:s.slot b≠none):Rel n w0 S im0 bo V im I (s.setH [(b,none)]) a w:=by
 have hs:∀ c k,(s.setH [(b,none)]).slot c=some (some k)->s.slot c=some (some k):=by
   intro c k h
   rw [Y2q] at h
   split at h
   . simp at h
   . exact h
 refine {hr with own:=⟨fun c k h=>hr.own.blk c k (hs c k h),fun c k pl B h=>hr.own.out c k pl B (hs c k h),fun c d k l pl pl' B h h'=>hr.own.inj c d k l pl pl' B (hs c k h) (hs d l h')⟩,owo:=fun c k pl B h=>hr.owo c k pl B (hs c k h),dom:= ?_}
 intro c h
 rw [Y2q] at h
 split at h
 . simp at h
 . exact hr.dom c h
theorem Rel.wipe (hr :Rel n w0 S im0 bo V im I s a w) {m B:Nat} {k:Blk} {pl:Pl} {ob:Obj} (hs:s.slot m=some (some k)) (hp:I m=some pl) (hB:pl.blk=some B):Rel n w0 S im0 bo V im I (s.setH [(m,none)]) a (Y2k w B ob):=by
 have hlt:=Y3q hr hs hp hB
 obtain ⟨hi,hb⟩:=hr.own.out m k pl B hs hp hB
 have hS:=hr.owo m k pl B hs hp hB
 have hd:=hr.dead m (by rw [hs];simp)
 have hold:∀ b,im b\/bo b->(Y2k w B ob).heap[b]? =w.heap[b]? :=fun b h=>Y4k (by rintro rfl;exact h.elim hi hb)
 refine {hd with tmp:=fun t=>(hr.tmp t).mono (fun _ h=>h) hold (fun _ h=>h) (fun _ _ h=>h),own:=⟨?_,hd.own.out,hd.own.inj⟩,kept:= ?_,imlt:=fun b h=>by rw [Y8q];exact hr.imlt b h}
 . intro b k' hb'
   obtain ⟨pl',k1,k2⟩:=hd.own.blk b k' hb'
   refine ⟨pl',k1,k2.mono (fun _ h=>h) hold (fun _ h=>h) (fun _ _ h=>h) fun B' e=>Y4k ?_⟩
   rintro rfl
   rw [Y2q] at hb'
   split at hb'
   . simp at hb'
   . rename_i hne
     exact hne (hr.own.inj m b k k' pl pl' _ hs hb' hp k1 hB e)
 . refine ⟨hr.kept.os,hr.kept.tape,hr.kept.output,by rw [Y8q];exact hr.kept.size,fun b k1 k2=>(Y4k ?_).trans (hr.kept.block b k1 k2)⟩
   rintro rfl
   exact hS.elim k2 fun h=>absurd k1 (by omega)
theorem Ytc {w :World} {B n:Nat} {c:Array Value} {el:TypeId} {fz:Nat× Nat} (h:w.heap[B]? =some (.cells c el fz)) (hn:n≠0):∃ ob,w.freeze ⟨B,0,none⟩ n=Y2k w B ob:=by
 have hB:B< w.heap.size:=by
   rcases Nat.lt_or_ge B w.heap.size with h' | h'
   . exact h'
   . rw [Array.getElem?_eq_none h'] at h;simp at h
 have e:w.heap[B]=.cells c el fz:=by rw [Array.getElem?_eq_getElem hB] at h;exact Option.some.inj h
 obtain ⟨lo,hi⟩:=fz
 refine ⟨.cells c el (if lo==hi then (0,0+n) else (min lo 0,max hi (0+n))),?_⟩
 unfold World.freeze Y2k
 rw [if_neg hn]
 congr 1
 apply Array.ext
 . simp
 . intro i h1 h2
   simp only [Array.getElem_modify,Array.getElem_setIfInBounds]
   split
   . rename_i hi;subst hi;simp [e]
   . rename_i hi
     rw [Array.getElem_setIfInBounds,if_neg hi]
theorem Rel.newNil (hr :Rel n w0 S im0 bo V im I s a w) {m:Nat} (hm:s.slot m=none) (blk:Blk) (hc:blk.cs=[]):Rel n w0 S im0 bo V im (I.upd m .nil) (s.setH [(m,some blk)]) a w:=by
 have hext:=Env.upd_ext (I:=I) .nil (hr.dom m hm)
 refine {hr with tmp:=fun t=>(hr.tmp t).mono (fun _ h=>h) (fun _ _=>rfl) (fun _ h=>h) hext,own:=⟨?_,?_,?_⟩,owo:= ?_,dom:= ?_,arg:=fun b p h=>hext b p (hr.arg b p h)}
 . intro b k hs
   rw [Y2q] at hs
   split at hs
   . rename_i e
     subst e
     simp only [Option.some.injEq] at hs
     subst hs
     exact ⟨_,Env.upd_same _ _ _,hc⟩
   . rename_i hne
     obtain ⟨pl,k1,k2⟩:=hr.own.blk b k hs
     exact ⟨pl,hext b pl k1,k2.mono (fun _ h=>h) (fun _ _=>rfl) (fun _ h=>h) hext fun _ _=>rfl⟩
 . intro b k pl B hs hp hBp
   rw [Y2q] at hs
   split at hs
   . rename_i e;subst e;rw [Env.upd_same] at hp;obtain rfl:=Option.some.inj hp;cases hBp
   . rename_i hne;rw [Env.upd_other _ _ (fun e=>hne e.symm)] at hp;exact hr.own.out b k pl B hs hp hBp
 . intro b d k l pl pl' B hs hd hp hq hB1 hB2
   rw [Y2q] at hs hd
   split at hs
   . rename_i e;subst e;rw [Env.upd_same] at hp;obtain rfl:=Option.some.inj hp;cases hB1
   . split at hd
     . rename_i e;subst e;rw [Env.upd_same] at hq;obtain rfl:=Option.some.inj hq;cases hB2
     . rename_i h1 h2
       rw [Env.upd_other _ _ (fun e=>h1 e.symm)] at hp
       rw [Env.upd_other _ _ (fun e=>h2 e.symm)] at hq
       exact hr.own.inj b d k l pl pl' B hs hd hp hq hB1 hB2
 . intro b k pl B hs hp hBp
   rw [Y2q] at hs
   split at hs
   . rename_i e;subst e;rw [Env.upd_same] at hp;obtain rfl:=Option.some.inj hp;cases hBp
   . rename_i hne;rw [Env.upd_other _ _ (fun e=>hne e.symm)] at hp;exact hr.owo b k pl B hs hp hBp
 . intro b hs
   rw [Y2q] at hs
   split at hs
   . simp at hs
   . rename_i hne;rw [Env.upd_other _ _ (fun e=>hne e.symm)];exact hr.dom b hs
end
end Go.Proofs.YtpdcnikdoikldaaGreatDoor.Sv
namespace Go.Proofs.YtpdcnikdoikldaaGreatDoor.Sv
open Go Go.RowKit
section
variable {P : Program} {ty : Ty} {n : Nat} {w0 : World} {S im0 bo im : Nat -> Prop} {V I : Env} {s : St} {a : Act} {w : World}
def Y42 (n :Nat) (w0:World) (S im0 bo:Nat->Prop) (V:Env) (s:St) (a:Act) (e:Eff) (r:Result Next):Prop:=
 ∃ v w',(r=.ok (.value v) w'\/(r=.ok .skip w'/\v=Go.undef))/\∃ im' Qa,Rel n w0 S im0 bo V im' Qa (s.setH e.sets) a w'/\R im' w' bo Qa e.val v
theorem Y1j (hr :Rel n w0 S im0 bo V im I s a w) {f:Sem Value} {d:D} {e:Eff} {l:Log} {v:Value} (h:eff d s=some (e,l)) (hf:f.run P w=.ok v w) (hv:R im w bo I d v):
   Y42 n w0 S im0 bo V s a e ((do pure (.value (<- f)):Sem Next).run P w):=by
 have h:=Y8 (s:=s) h
 subst h
 exact ⟨v,w,.inl (by simp [hf]),im,I,hr,hv⟩
theorem Ytd (hr :Rel n w0 S im0 bo V im I s a w) {f:Sem Next} {d:D} {e:Eff} {l:Log} {v:Value} (h:eff d s=some (e,l)) (hf:f.run P w=.ok (.value v) w) (hv:R im w bo I d v):Y42 n w0 S im0 bo V s a e (f.run P w):=by
 have h:=Y8 (s:=s) h
 subst h
 exact ⟨v,w,.inl hf,im,I,hr,hv⟩
theorem Ya0 {o :Oper} {b:Blk} {f:Nat->D} {e:Eff} {l:Log} (h:newAt o b f s=some (e,l)) (ho:l.ok):∃ m,s.slot m=none/\e={val:=f m,sets:=[(m,some b)]}:=by
 unfold newAt at h
 obtain ⟨m,l1,l2,h1,h2,ho1,ho2⟩:=M.bindO h ho
 obtain ⟨l3,h3,ho3⟩:=Y2e h2 ho2
 cases hs:s.slot m with
 | none=>rw [hs] at h3;exact ⟨m,hs,(Y8 (s:=s) h3).symm⟩
 | some x=>rw [hs] at h3;exact (M.fail_eq (s:=s) h3).elim
theorem Ybv (hr :Rel n w0 S im0 bo V im I s a w) {o:Oper} {b:Blk} {g:Nat->D} {e:Eff} {l:Log} (h:newAt o b g s=some (e,l)) (ho:l.ok) {c:Array Value} {el:TypeId} {fz:Nat× Nat} (hc:Rs im w (if b.pure then noB else bo) (if b.pure then Y1h else I) b.cs (c.toList.take b.cs.length))
   (hon:Y1r (c.toList.take b.cs.length)) (hl:b.cs.length<=c.size) (hf:fz.2<=fz.1\/c.size<=fz.1) {f:Sem Value} {v:Value} {wb:World} (hrun:f.run P wb=.ok v (w.alloc (.cells c el fz))) (hv:∀ m,(R im (w.alloc (.cells c el fz)) bo (I.upd m (.at_ w.heap.size 0 b.sz c.size)) (g m) v)) (hel:Ycg b.el 0 c.size el:=by first | exact .inl rfl | assumption):
   Y42 n w0 S im0 bo V s a e ((do pure (.value (<- f)):Sem Next).run P wb):=by
 obtain ⟨m,hm,rfl⟩:=Ya0 h ho
 exact ⟨v,_,.inl (by simp [hrun]),im,_,hr.new hm hl hf hon hc hel,hv m⟩
theorem Ywe (ht :Y2p P ty) (hr:Rel n w0 S im0 bo V im I s a w) {o:Oper} {t:Nat} {tl:Bool} {e:Eff} {l:Log} (h:(do let i <- ty.at t;test (!i.zero.isEmpty);newAt o {pure:=Ydx i,sz:=0,cs:=i.zero,el:=bif tl&&Nat.ble (t+1) 1000000 then 1000000*(i.size+1)+t+1 else 0} fun b=>.ptr b 0:M Eff) s=some (e,l)) (ho:l.ok):
   Y42 n w0 S im0 bo V s a e ((do pure (.value (<- Instr.alloc t true (.tuple #[]))):Sem Next).run P w):=by
 obtain ⟨i,hi,l1,h1,ho1⟩:=Yw ht h ho
 obtain ⟨hz,l2,h2,ho2⟩:=Yl h1 ho1
 obtain ⟨z,hz1,hz2,hz3,hz4⟩:=hi.zero (P:=P) (w:=w) (im:=im) (bo:=bo) (I:=I) (Ydv (by simpa using hz))
 have hl:i.zero.length=z.cells.size:=hz2.length.trans (by simp)
 have hel:Ycg (bif tl&&Nat.ble (t+1) 1000000 then 1000000*(i.size+1)+t+1 else 0) 0 z.cells.size t:=by
   cases hb:(tl&&Nat.ble (t+1) 1000000) with
   | false=>exact .inl rfl
   | true=>
     simp only [Bool.and_eq_true] at hb
     exact .inr ⟨rfl,Nat.le_of_ble_eq_true hb.2,.inr (by rw [<- hl,hz3];rfl)⟩
 refine Ybv (hel:=hel) hr h2 ho2 (c:=z.cells) (el:=t) (fz:=(0,0)) ?_ (hz4.take _) (by simp [hl]) (.inl (by simp)) (v:=.pointer (some ⟨w.heap.size,0,none⟩)) ?_ ?_
 . have e:z.cells.toList.take i.zero.length=z.cells.toList:=List.take_of_length_le (by simp [hl])
   simp only [e]
   exact hz2.pureOr (by
     unfold Ydx
     split
     . cases Y24 i.zero <;> rfl
     . rfl)
 . simp [Instr.alloc,hz1,newVar,newRow]
 . intro m
   exact .ptr (b:=m) (off:=0) (base:=0) (Env.upd_same _ _ _)
theorem Y175 (hr :Rel n w0 S im0 bo V im I s a w) {o:Oper} {t:Nat} {d:D} {v:Value} {e:Eff} {l:Log} (h:newAt o {pure:=false,sz:=0,cs:=d.cells} (fun b=>.ptr b 0) s=some (e,l)) (ho:l.ok) (hd:d.val=true) (hv:R im w bo I d v):
   Y42 n w0 S im0 bo V s a e ((do pure (.value (<- Instr.box t v)):Sem Next).run P w):=by
 obtain ⟨hc,hon⟩:=Ydy hv hd
 have hl:d.cells.length=v.cells.size:=hc.length.trans (by simp)
 refine Ybv hr h ho (c:=v.cells) (el:=t) (fz:=(0,0)) ?_ (hon.take _) (by simp [hl]) (.inl (by simp)) (v:=.pointer (some ⟨w.heap.size,0,none⟩)) ?_ ?_
 . have e:v.cells.toList.take d.cells.length=v.cells.toList:=List.take_of_length_le (by simp [hl])
   simpa [e] using hc
 . simp [Instr.box,newVar,newRow]
 . intro m
   exact .ptr (b:=m) (off:=0) (base:=0) (Env.upd_same _ _ _)
theorem Ygc (z :List D) (k:Nat):(Y4q z k).length=k*z.length:=by
 induction k with
 | zero=>simp [Y4q]
 | succ k ih=>simp [Y4q,ih,Nat.succ_mul,Nat.add_comm]
def Y64 (z :List Value):Nat->List Value
 | 0=>[]
 | k+1=>z++Y64 z k
theorem Yjt {ds :List D} {vs:List Value} (h:Rs im w bo I ds vs) (k:Nat):Rs im w bo I (Y4q ds k) (Y64 vs k):=by
 induction k with
 | zero=>exact .nil
 | succ k ih=>exact h.append ih
theorem Ygd {vs :List Value} (h:Y1r vs) (k:Nat):Y1r (Y64 vs k):=by
 induction k with
 | zero=>exact Y1r.nil
 | succ k ih=>exact h.append ih
theorem Y114 (z :List Value) (k:Nat):(Y64 z k).length=k*z.length:=by
 induction k with
 | zero=>simp [Y64]
 | succ k ih=>simp [Y64,ih,Nat.succ_mul,Nat.add_comm]
theorem Y115 (z :List Value) (hz:0< z.length):∀ (k i:Nat),i< k*z.length->(Y64 z k)[i]? =z[i % z.length]? :=by
 intro k
 induction k with
 | zero=>intro i h;simp at h
 | succ k ih=>
   intro i h
   simp only [Y64]
   rcases Nat.lt_or_ge i z.length with h' | h'
   . rw [List.getElem?_append_left h',Nat.mod_eq_of_lt h']
   . rw [List.getElem?_append_right h',ih _ (by rw [Nat.succ_mul] at h;omega),<- Nat.mod_eq_sub_mod h']
theorem Y8r (z :Array Value) (k:Nat):((Array.range (k*z.size)).map (z[· % z.size]!)).toList=Y64 z.toList k:=by
 apply List.ext_getElem?
 intro i
 by_cases h:i< k*z.size
 . have hz:0< z.size:=by
     rcases Nat.eq_zero_or_pos z.size with e | e
     . rw [e] at h;simp at h
     . exact e
   rw [Y115 _ (by simpa using hz) _ _ (by simpa using h)]
   have hm:i % z.size< z.size:=Nat.mod_lt _ hz
   simp [h,getElem!_pos z (i % z.size) hm,Array.getElem?_eq_getElem hm]
 . rw [List.getElem?_eq_none (by simp;omega),List.getElem?_eq_none (by rw [Y114];simp;omega)]
theorem Ywf (ht :Y2p P ty) {t:Nat} {ps:List (Nat× D)} {qs:Array (Nat× Value)} {d:D} {l:Log} (h:buildD ty t ps s=some (d,l)) (ho:l.ok) (hp:Par im bo w I ps qs.toList):
   ∃ v,(Instr.build t qs).run P w=.ok v w/\R im w bo I d v:=by
 unfold buildD at h
 obtain ⟨i,hi,l0,h0,ho0⟩:=Yw ht h ho
 obtain ⟨hz,l1,h1,ho1⟩:=Yl h0 ho0
 obtain ⟨z,hz1,hz2,hz3,hz4⟩:=hi.zero (P:=P) (w:=w) (im:=im) (bo:=bo) (I:=I) hz
 cases hk:i.kind with
 | struct fs=>
   rw [hk] at h1
   obtain ⟨gs,hu,hfs⟩:=hi.fields hk
   obtain ⟨pl,l2,l3,h2,h3,ho2,ho3⟩:=M.bindO h1 ho1
   obtain ⟨cs,l4,l5,h4,h5,ho4,ho5⟩:=M.bindO h3 ho3
   have h:=Y8 (s:=s) h5
   subst h
   have hpl:=Ymv (P:=P) (w:=w) ht h2 ho2 gs.toList hfs
   obtain ⟨us,hu1,hu2,hu3⟩:=Ydz (pl:=fun k=>pl[k]?) h4 ho4 hz2 hz4 hp
   refine ⟨.agg us,?_,?_⟩
   . have e:(gs.mapM (m:=Sem) fun f=>do pure (f.offset,<- sizeOf f.type)).run P w=.ok pl.toArray w:=by
       rw [Array.mapM_eq_mapM_toList]
       simp only [bind_pure_comp] at hpl ⊢
       simp [hpl]
     have e2:(fun k:Nat=>pl.toArray[k]?)=fun k:Nat=>pl[k]? :=by funext k;simp
     simp only [Instr.build,Sem.run_bind,hz1,Result.andThen_ok,run_underlying hu,e,e2,hu1,Sem.run_pure]
   . have:=R.agg hu3 hu2
     simpa using this
 | array m e=>
   rw [hk] at h1
   have hu:=hi.array hk
   obtain ⟨j,hj,l2,h2,ho2⟩:=Yw ht h1 ho1
   obtain ⟨cs,l4,l5,h4,h5,ho4,ho5⟩:=M.bindO h2 ho2
   have h:=Y8 (s:=s) h5
   subst h
   obtain ⟨us,hu1,hu2,hu3⟩:=Ydz (pl:=fun k=>some (k*j.size,j.size)) h4 ho4 hz2 hz4 hp
   refine ⟨.agg us,?_,?_⟩
   . simp only [Instr.build,Sem.run_bind,hz1,Result.andThen_ok,run_underlying hu,hj.sizeOf,hu1,Sem.run_pure]
   . have:=R.agg hu3 hu2
     simpa using this
 | _=>rw [hk] at h1;exact (M.fail_eq (s:=s) h1).elim
theorem Y176 {im bo :Nat->Prop} {I:Env} {m B sz lim k c:Nat} (h:c*sz<=lim) (hk:k<=c) (w':World) (cap:Nat) (hc:cap<=c):R im w' bo (I.upd m (.at_ B 0 sz lim)) (.ref m 0 k cap) (.slice (some ⟨B,0,none⟩) k c):=
 .ref (b:=m) (off:=0) (base:=0) (Env.upd_same _ _ _) hc (by omega)
theorem Yju (ht :Y2p P ty) (hr:Rel n w0 S im0 bo V im I s a w) {o:Oper} {t k:Nat} {ps:List (Nat× Operand)} {qs:Array (Nat× Value)} {e:Eff} {l:Log} (hq:qs.toList=ps.map fun x=>(x.1,a.eval x.2))
   (h:opD.bs ty o t k ps s=some (e,l)) (ho:l.ok):Y42 n w0 S im0 bo V s a e ((do pure (.value (<- Instr.buildSlice t k qs)):Sem Next).run P w):=by
 unfold opD.bs at h
 obtain ⟨i,hi,l0,h0,ho0⟩:=Yw ht h ho
 cases hk:i.kind with
 | slice el=>
   rw [hk] at h0
   have hu:=hi.slice hk
   obtain ⟨j,hj,l1,h1,ho1⟩:=Yw ht h0 ho0
   obtain ⟨hs,l2,h2,ho2⟩:=Yl h1 ho1
   obtain ⟨hz,l3,h3,ho3⟩:=Yl h2 ho2
   obtain ⟨ds,hd,l4,h4,ho4⟩:=Ymu hr h3 ho3
   obtain ⟨cs,l5,l6,h5,h6,ho5,ho6⟩:=M.bindO h4 ho4
   obtain ⟨hfl,l7,h7,ho7⟩:=Y9y h6 ho6
   have hs':¬ (k*j.size > 16777216):=by have:=Nat.le_of_ble_eq_true hs;omega
   obtain ⟨z,hz1,hz2,hz4,hz3⟩:∃ z:Array Value,(k*j.size=0/\z=#[]\/k*j.size≠0/\∃ zv,(zeroValue el).run P w=.ok zv w/\z=zv.cells)/\Rs im w bo I (Y4q j.zero k) ((Array.range (k*j.size)).map (z[· % z.size]!)).toList/\Y1r ((Array.range (k*j.size)).map (z[· % z.size]!)).toList/\(Y4q j.zero k).length=k*j.size:=by
     by_cases hk0:k=0
     . subst hk0
       exact ⟨#[],.inl ⟨Nat.zero_mul _,rfl⟩,by simpa [Y4q] using (Rs.nil:Rs im w bo I [] []),by simpa using Y1r.nil,by rw [Nat.zero_mul];rfl⟩
     . have hz':j.zero.isEmpty=false:=by
         have:Nat.beq k 0=false:=by cases k with | zero=>exact absurd rfl hk0 | succ k=>rfl
         simpa [this] using hz
       obtain ⟨z,z1,z2,z3,z4⟩:=hj.zero (P:=P) (w:=w) (im:=im) (bo:=bo) (I:=I) (Ydv hz')
       have zl:j.zero.length=z.cells.size:=z2.length.trans (by simp)
       have hpos:j.size≠0:=by
         rw [<- z3]
         intro e
         rw [List.length_eq_zero_iff.1 e] at hz'
         exact absurd hz' (by decide)
       have hne:¬ (k*j.size=0):=Nat.mul_ne_zero hk0 hpos
       refine ⟨z.cells,.inr ⟨hne,z,z1,rfl⟩,?_,?_,by rw [Ygc,z3]⟩
       . rw [<- z3,zl,Y8r]
         exact Yjt z2 k
       . rw [<- z3,zl,Y8r]
         exact Ygd z4 k
   obtain ⟨us,hu1,hu2,hu3⟩:=Ydz (pl:=fun q=>some (q*j.size,j.size)) h5 ho5 hz2 hz4 (hq ▸ hd)
   have hul:cs.length=us.size:=hu2.length.trans (by simp)
   have hlen:us.size=k*j.size:=by
     have e1:=Ywd h5 ho5
     omega
   refine Ybv hr h7 ho7 (c:=us) (el:=el) (fz:=(0,0)) ?_ (hu3.take _) (by simp [hul]) (.inl (by simp)) (v:=.slice (some ⟨w.heap.size,0,none⟩) k k) ?_ ?_
   . have e:us.toList.take cs.length=us.toList:=List.take_of_length_le (by simp [hul])
     simp only [e]
     exact hu2.pureOr (by
       cases hf:j.flat
       . cases Y24 cs <;> rfl
       . rw [hfl hf];rfl)
   . simp only [Instr.buildSlice,Sem.run_bind,run_underlying hu,Result.andThen_ok,hj.sizeOf]
     rw [if_neg (by simpa using hs')]
     rcases hz1 with ⟨e0,rfl⟩ | ⟨e0,zv,e1,rfl⟩
     . rw [if_pos e0]
       simp only [Sem.run_bind,Sem.run_pure,Result.andThen_ok,hu1,newRow,run_newObj]
       rfl
     . rw [if_neg e0]
       simp only [Sem.run_bind,Sem.run_pure,Result.andThen_ok,e1,hu1,newRow,run_newObj]
       rfl
   . intro m
     exact Y176 (by simp [hlen]) (Nat.le_refl _) _ k (Nat.le_refl _)
 | _=>rw [hk] at h0;exact (M.fail_eq (s:=s) h0).elim
end
end Go.Proofs.YtpdcnikdoikldaaGreatDoor.Sv
