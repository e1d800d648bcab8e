import Derived.Test.YtpdcnikdoikldaaGreatDoorSvWb
import Derived.Conc.LoneSelect
import Derived.KernelRfl
set_option linter.unusedVariables false
set_option linter.unusedSimpArgs false
namespace Go.Proofs.YtpdcnikdoikldaaGreatDoor.Sv
open Go Go.RowKit Go.Conc
theorem Y17e {P :Program} {b:Frame} {a:Act} {k:List Item} {cs:List Frame} {w:World} {ops:Array Oper} {i:Nat} {rest:List Nat} {o:Oper} {next:Act->World->Prop} (ho:ops[i]? =some o) (hw:Region.wanted o (yielded ops a.tmps)=true)
   (h:o.wp P a w next (fun _ _ _=>False)):∃ a' w',next a' w'/\Steps P (lone (b.at a (.inRegion ops (i :: rest) :: k)) cs w) (lone (b.at a' (.inRegion ops rest :: k)) cs w'):=by
 simp only [Oper.wp,Oper.upon] at h
 have hg:=stepG_op (P:=P) (b:=b) (k:=k) (cs:=cs) (w:=w) (rest:=rest) ho hw
 have hfin:∀ v,(b.at a (.inRegion ops (i :: rest) :: k)).finish v=b.at (a.put o.dst v) (.inRegion ops rest :: k):=by
   intro v;rw [Frame.finish_at,ho];rfl
 split at h
 . rename_i v w' hr
   refine ⟨_,_,h,.one (step_lone_go ?_)⟩
   rw [hg,<- hfin];simp [stepG.apply,hr]
 . rename_i w' hr
   refine ⟨_,_,h,.one (step_lone_go ?_)⟩
   rw [hg,<- hfin];simp [stepG.apply,hr]
 . rename_i d w' hr
   refine ⟨_,_,h,.one (step_lone_go ?_)⟩
   have:({b.at a (.inRegion ops (i :: rest) :: k) with defers:=d :: a.defers}:Frame).finish undef=
       b.at ({a with defers:=d :: a.defers}.put o.dst undef) (.inRegion ops rest :: k):=by
     have:=Frame.finish_at b {a with defers:=d :: a.defers} ops i rest k undef
     rw [ho] at this;exact this
   rw [hg];simp only [stepG.apply,Sem.runT_eq,hr,GStep.bare_after]
   exact congrArg (fun fr=>GStep.go {frame:=fr,callers:=cs,status:=.running,dying:=none} w') this
 . rename_i f args w' hr
   obtain ⟨e,w'',fr,hR,hsteps,_,hleave⟩:=h (b.at a (.inRegion ops (i :: rest) :: k) :: cs)
   have henter:step P (lone (b.at a (.inRegion ops (i :: rest) :: k)) cs w)=
       .next (lone (Frame.enter P f args .normal) (b.at a (.inRegion ops (i :: rest) :: k) :: cs) w'):=
     step_lone_go (by rw [hg];simp [stepG.apply,hr,Frame.at])
   cases e with
   | returned v=>exact ⟨_,_,hR,.head henter (hsteps.trans (.one (by rw [<- hfin];exact step_leave_returned hleave)))⟩
   | panicked chain=>exact hR.elim
   | outgrown=>obtain ⟨_,_,hq⟩:=hR;exact hq.elim
 . rename_i row args w' hr
   obtain ⟨v,w'',hR,hsteps⟩:=h (b.at a (.inRegion ops (i :: rest) :: k)) cs
   have henter:step P (lone (b.at a (.inRegion ops (i :: rest) :: k)) cs w)=
       .next (lone (Frame.ofRow P row args .normal) (b.at a (.inRegion ops (i :: rest) :: k) :: cs) w'):=
     step_lone_go (by rw [hg];simp [stepG.apply,hr,Frame.at])
   exact ⟨_,_,hR,.head henter (by rw [<- hfin];exact hsteps)⟩
 . exact h.elim
 . exact h.elim
section
variable {c : Cx}
theorem Cx.Goes.ops {ops :Array Oper} {res:List (Nat× Out)} {k:List Item} {l2:List Nat}:∀ {l:List Nat} {s s':St} {rs:List (Nat× Rec)} {os:List Prop},runL c.P c.ty c.n ops res l s=some (s',rs,os)->(∀ p,p∈os->p)->c.Goes (.inRegion ops l2 :: k) s'->c.Goes (.inRegion ops (l++l2) :: k) s:=by
 intro l
 induction l with
 | nil=>
   intro s s' rs os h ho hn
   simp only [runL,Option.some.injEq,Prod.mk.injEq] at h
   obtain ⟨rfl,_⟩:=h
   exact hn
 | cons i r ih=>
   intro s s' rs os h ho hn
   obtain ⟨o,e,l,rs',os',h1,h2,h3,h4,rfl,rfl⟩:=Yav h
   have hn':=ih h4 (fun p hp=>ho p (List.mem_append.2 (.inr hp))) hn
   intro im I a w hr b cs hf hk
   have:=Ye6 (ops:=ops) (next:=fun a' w'=>∃ im' Qa,c.Rel im' Qa (s.after o e) a' w') (Q:=fun _ _ _=>False) c.ok hr h3 (fun p hp=>ho p (List.mem_append.2 (.inl hp))) h2 fun a' w' im' Qa hr'=>⟨im',Qa,hr'⟩
   by_cases hw:Region.wanted o (yielded ops a.tmps)=true
   . rw [if_pos hw] at this
     rcases this with this | ⟨_,_,_,hq⟩
     . obtain ⟨a',w',⟨im',Qa,hr'⟩,hs⟩:=Y17e (b:=b) (k:=k) (cs:=cs) (rest:=r++l2) h1 hw this
       obtain ⟨e',w'',fr,g1,g2,g3,g4⟩:=hn' im' Qa a' w' hr' b cs hf hk
       exact ⟨e',w'',fr,g1,.of_steps hs g2,g3,g4⟩
     . exact hq.elim
   . rw [if_neg hw] at this
     obtain ⟨im',Qa,hr'⟩:=this
     obtain ⟨e',w'',fr,g1,g2,g3,g4⟩:=hn' im' Qa _ w hr' b cs hf hk
     have hs:=step_op_skip (P:=c.P) (b:=b) (a:=a) (k:=k) (cs:=cs) (w:=w) (ops:=ops) (i:=i) (rest:=r++l2) (by simp [h1];simpa using hw)
     rw [h1] at hs
     exact ⟨e',w'',fr,g1,.of_steps (.one hs) g2,g3,g4⟩
theorem Cx.Goes.enter {id :Nat} {ops:Array Oper} {k:List Item} {s:St} {l:List Nat} (hl:List.range ops.size=l) (h:c.Goes (.inRegion ops l :: k) s):c.Goes (.code (.region id ops false) :: k) s:=by
 subst hl
 exact h.steps fun _ _ _ _=>.one step_region
theorem Cx.Goes.done {ops :Array Oper} {k:List Item} {s:St} (h:c.Goes k s):c.Goes (.inRegion ops [] :: k) s:=h.steps fun _ _ _ _=>.one step_region_end
theorem Yry {im :Nat->Prop} {I:Env} {s:St} {a:Act} {w:World} (hr:c.Rel im I s a w) {b:Nat} {v:Value} {k:Blk} {n:Int} (hb:s.slot b=some (some k)) (hc:k.cs=[.int .i64 n]) (hv:Sv.R im w c.bo I (.chan b) v):
   ∃ B buf x y,v=.chan (some B)/\I b=some (.ch B k.sz)/\w.heap[B]? =some (.chan k.sz buf false x y false)/\(buf.size:Int)=n:=by
 cases hv with
 | chan hp=>
   obtain ⟨pl,h1,h2⟩:=hr.own.blk b k hb
   rw [hp] at h1
   obtain rfl:=Option.some.inj h1
   obtain ⟨buf,x,y,vs,k1,⟨k2,k3⟩,k4⟩:=h2
   subst k2
   rw [hc] at k4
   refine ⟨_,buf,x,y,rfl,hp,k1,?_⟩
   rcases k3 with rfl | rfl
   . cases k4
   . cases k4 with | cons k5 k6=>cases k5;rfl
theorem Yna {im :Nat->Prop} {I:Env} {s:St} {a:Act} {w:World} (hr:c.Rel im I s a w) {b:Nat} {k:Blk} {B:Nat} (hb:s.slot b=some (some k)) (hp:I b=some (.ch B k.sz)) (buf:Array Value) (x y:Nat) {m:Int} (hm:(buf.size:Int)=m):
   c.Rel im I (s.setH [(b,some ⟨true,k.sz,[.int .i64 m],0⟩)]) a (w.setChan B k.sz buf false x y false):=by
 subst hm
 have hlt:=Y3q hr hb hp rfl
 have ho:=hr.own.out b k _ B hb hp rfl
 refine hr.putO (pl0:=.ch B k.sz) (B:=B) (fun _ _ h=>h) hp rfl (fun _ _=>rfl) hlt (hr.owo b k _ B hb hp rfl) ho.1 ho.2 (fun b' k' pl hne hs hq e=>hne (hr.own.inj b' b k' k pl _ B hs hb hq hp e rfl)) ?_
 refine ⟨buf,x,y,[.int .i64 (buf.size:Int)],?_,⟨rfl,.inr rfl⟩,.cons (.int _ _) .nil⟩
 exact Ybe hlt
theorem Y11g {P :Program} {b:Frame} {a:Act} {k:List Item} {cs:List Frame} {w:World} {ops:Array Oper} {i:Nat} {rest:List Nat} {o:Oper} {x y:Operand} {el:TypeId} {z:Value} (ho:ops[i]? =some o) (hop:o.op=.select #[⟨x,some y,el⟩] false) (hg:o.guard=none) {B:Nat} (hx:a.eval x=.chan (some B)) (hz:(zeroValue el).run P w=.ok z w):
   ∃ es,stepG P true (G (b.at a (.inRegion ops (i :: rest) :: k)) cs) w=.comm (G (b.at a (.inRegion ops (i :: rest) :: k)) cs) #[scase B (a.eval y) z] false .select w es:=by
 have hw:Region.wanted o (yielded ops a.tmps)=true:=by simp [Region.wanted,hg]
 have hr:(execOp a.eval o).run P w=.ok (.comm #[scase B (a.eval y) z] false .select) w:=by
   simp [execOp,hop,hx,hz,scase]
 exact ⟨_,by rw [show G (b.at a (.inRegion ops (i :: rest) :: k)) cs={frame:=b.at a (.inRegion ops (i :: rest) :: k),callers:=cs,status:=.running,dying:=none} from rfl,stepG_op ho hw];simp [stepG.apply,hr,G];rfl⟩
theorem Cx.Goes.sel {ops :Array Oper} {k:List Item} {i:Nat} {rest:List Nat} {o:Oper} {x y:Operand} {el:TypeId} {z:Value} {s:St} {b cap:Nat} {n:Int} {l:Log} (ho:ops[i]? =some o) (hop:o.op=.select #[⟨x,some y,el⟩] false) (hg:o.guard=none) (hz:∀ w,(zeroValue el).run c.P w=.ok z w) (hd:Y70 c.n o=true)
   (hx:ev x s=some (.chan b,l)) (hb:s.slot b=some (some ⟨true,cap,[.int .i64 n],0⟩))
   (h1:n< (cap:Int)->c.Goes (.inRegion ops rest :: k) ((s.setH [(b,some ⟨true,cap,[.int .i64 (n+1)],0⟩)]).setO o.dst (.tup [.int .i64 0,.bool false])))
   (h2:¬ n< (cap:Int)->c.Goes (.inRegion ops rest :: k) (s.setO o.dst (.tup [.int .i64 (-1),.bool false]))):c.Goes (.inRegion ops (i :: rest) :: k) s:=by
 intro im I a w hr f cs hf hk
 obtain ⟨B,buf,p,q,e1,e2,e3,e4⟩:=Yry hr hb rfl (Ybt hr hx)
 obtain ⟨es,hs⟩:=Y11g (P:=c.P) (b:=f) (k:=k) (cs:=cs) (rest:=rest) ho hop hg e1 (hz w)
 have hfin:∀ v,(f.at a (.inRegion ops (i :: rest) :: k)).finish v=f.at (a.put o.dst v) (.inRegion ops rest :: k):=by
   intro v;rw [Frame.finish_at,ho];rfl
 by_cases hn:n< (cap:Int)
 . have hst:=step_lone_select_send_room hs e3 (show buf.size< cap by omega)
   rw [hfin] at hst
   have hr1:=Yna (m:=n+1) hr hb e2 (buf.push (a.eval y)) (p+1) q (by rw [Array.size_push];omega)
   have hr2:=hr1.setO (o:=o.dst) (d:=.tup [.int .i64 0,.bool false]) (v:=.tuple #[goInt 0,.bool false]) (.tup (vs:=[_,_]) (.cons (.int _ _) (.cons (.bool _) .nil))) (Ye5 hd)
   obtain ⟨e,w',fr,g1,g2,g3,g4⟩:=h1 hn im I _ _ hr2 f cs hf hk
   exact ⟨e,w',fr,g1,.of_steps (.one hst) g2,g3,g4⟩
 . have hst:=step_lone_select_send_full hs e3 (show cap<=buf.size by omega)
   rw [hfin] at hst
   have hr2:=hr.setO (o:=o.dst) (d:=.tup [.int .i64 (-1),.bool false]) (v:=.tuple #[goInt (-1),.bool false]) (.tup (vs:=[_,_]) (.cons (.int _ _) (.cons (.bool _) .nil))) (Ye5 hd)
   obtain ⟨e,w',fr,g1,g2,g3,g4⟩:=h2 hn im I _ _ hr2 f cs hf hk
   exact ⟨e,w',fr,g1,.of_steps (.one hst) g2,g3,g4⟩
theorem Ywr {P :Program} {b:Frame} {a:Act} {k:List Item} {cs:List Frame} {w:World} {ops:Array Oper} {i:Nat} {rest:List Nat} {o:Oper} {x:Operand} {t el:TypeId} {dir:ChanDir} {z:Value} (ho:ops[i]? =some o) (hop:o.op=.recv t x false) (hg:o.guard=none) {B:Nat} (hx:a.eval x=.chan (some B)) (ht:P.underlying t=some (.chan dir el)) (hz:(zeroValue el).run P w=.ok z w):
   ∃ es,stepG P true (G (b.at a (.inRegion ops (i :: rest) :: k)) cs) w=.comm (G (b.at a (.inRegion ops (i :: rest) :: k)) cs) #[rcase B z] true (.recv false) w es:=by
 have hw:Region.wanted o (yielded ops a.tmps)=true:=by simp [Region.wanted,hg]
 have hr:(execOp a.eval o).run P w=.ok (.comm #[rcase B z] true (.recv false)) w:=by
   simp [execOp,hop,hx,hz,rcase,run_underlying ht]
 exact ⟨_,by rw [show G (b.at a (.inRegion ops (i :: rest) :: k)) cs={frame:=b.at a (.inRegion ops (i :: rest) :: k),callers:=cs,status:=.running,dying:=none} from rfl,stepG_op ho hw];simp [stepG.apply,hr,G];rfl⟩
theorem Cx.Goes.recv {ops :Array Oper} {k:List Item} {i:Nat} {rest:List Nat} {o:Oper} {x:Operand} {t el:TypeId} {dir:ChanDir} {z:Value} {s:St} {b cap:Nat} {n:Int} {l:Log} (ho:ops[i]? =some o) (hop:o.op=.recv t x false) (hg:o.guard=none) (ht:c.P.underlying t=some (.chan dir el)) (hz:∀ w,(zeroValue el).run c.P w=.ok z w) (hd:Y70 c.n o=true)
   (hx:ev x s=some (.chan b,l)) (hb:s.slot b=some (some ⟨true,cap,[.int .i64 n],0⟩)) (hn:0< n)
   (h1:c.Goes (.inRegion ops rest :: k) ((s.setH [(b,some ⟨true,cap,[.int .i64 (n - 1)],0⟩)]).setO o.dst .undef)):c.Goes (.inRegion ops (i :: rest) :: k) s:=by
 intro im I a w hr f cs hf hk
 obtain ⟨B,buf,p,q,e1,e2,e3,e4⟩:=Yry hr hb rfl (Ybt hr hx)
 obtain ⟨es,hs⟩:=Ywr (P:=c.P) (b:=f) (k:=k) (cs:=cs) (rest:=rest) ho hop hg e1 ht (hz w)
 have hfin:∀ v,(f.at a (.inRegion ops (i :: rest) :: k)).finish v=f.at (a.put o.dst v) (.inRegion ops rest :: k):=by
   intro v;rw [Frame.finish_at,ho];rfl
 have hst:=step_lone_recv_buf false hs e3 (show 0< buf.size by omega)
 rw [hfin] at hst
 have hr1:=Yna (m:=n - 1) hr hb e2 (buf.extract 1 buf.size) p (q+1) (by rw [Array.size_extract];omega)
 have hr2:=hr1.setO (o:=o.dst) (d:=.undef) (v:=got false (buf.getD 0 undef) true) (.undef _) (Ye5 hd)
 obtain ⟨e,w',fr,g1,g2,g3,g4⟩:=h1 im I _ _ hr2 f cs hf hk
 exact ⟨e,w',fr,g1,.of_steps (.one hst) g2,g3,g4⟩
end
def Yed (P :Program) (ty:Ty) (n:Nat) (res:List (Nat× Out)) (j:Nat) (x:Option (List Item× St)):Option (Array Oper× List Item× St× List Prop× Oper):=match x with
 | some (.code (.region _ ops false) :: k,s)=>(match runL P ty n ops res (List.range j) s,ops[j]? with
   | some (s1,_,os),some o=>bif o.guard.isNone&&(Y70 n o&&Nat.ble (j+1) ops.size) then some (ops,k,s1,os,o) else none
   | _,_=>none)
 | _=>none
def Ya4 (P :Program) (ty:Ty) (n:Nat) (res:List (Nat× Out)) (j:Nat) (ops:Array Oper) (k:List Item) (s:St):Option (List Item× St× List Prop):=match runL P ty n ops res ((List.range ops.size).drop (j+1)) s with
 | some (s',_,os)=>some (k,s',os)
 | none=>none
def Ya5 (b :Nat) (s:St):Option (Nat× Int):=match s.slot b with
 | some (some ⟨true,cap,[.int .i64 n],0⟩)=>some (cap,n)
 | _=>none
theorem Yl1 {b cap :Nat} {n:Int} {s:St} (h:Ya5 b s=some (cap,n)):s.slot b=some (some ⟨true,cap,[.int .i64 n],0⟩):=by
 unfold Ya5 at h
 split at h
 . rename_i c m he
   simp only [Option.some.injEq,Prod.mk.injEq] at h
   obtain ⟨rfl,rfl⟩:=h
   exact he
 . simp at h
def Yc1 (P :Program) (el:TypeId):Bool:=match P.info? el with
 | some i=>i.zero.isSome
 | none=>false
theorem Yl2 {P :Program} {el:TypeId} (h:Yc1 P el=true):∃ z,∀ w,(zeroValue el).run P w=.ok z w:=by
 unfold Yc1 at h
 split at h
 . rename_i i hi
   obtain ⟨z,hz⟩:=Option.isSome_iff_exists.1 h
   exact ⟨z,fun w=>by simp [zeroValue,typeInfo,hi,hz]⟩
 . simp at h
def Y15i (P :Program) (ty:Ty) (n:Nat) (res:List (Nat× Out)) (j:Nat) (x:Option (List Item× St)):Option (Nat× Int× List Prop):=match Yed P ty n res j x with
 | some (_,_,s,os,o)=>(match o.op with
   | .select ⟨[⟨x,some _,el⟩]⟩ false=>(match ev x s with
     | some (.chan b,_)=>(match Ya5 b s with
       | some (cap,m)=>bif Yc1 P el then some (cap,m,os) else none
       | none=>none)
     | _=>none)
   | _=>none)
 | none=>none
def Yhs (P :Program) (ty:Ty) (n:Nat) (res:List (Nat× Out)) (j:Nat) (room:Bool) (x:Option (List Item× St)):Option (List Item× St× List Prop):=match Yed P ty n res j x with
 | some (ops,k,s,_,o)=>(match o.op with
   | .select ⟨[⟨x,some _,_⟩]⟩ false=>(match ev x s with
     | some (.chan b,_)=>(match Ya5 b s with
       | some (cap,m)=>Ya4 P ty n res j ops k (bif room then ((s.setH [(b,some ⟨true,cap,[.int .i64 (m+1)],0⟩)]).setO o.dst (.tup [.int .i64 0,.bool false])) else s.setO o.dst (.tup [.int .i64 (-1),.bool false]))
       | none=>none)
     | _=>none)
   | _=>none)
 | none=>none
def nx2 (x :Option (List Item× St× List Prop)):Option (List Item× St):=match x with
 | some (k,s,_)=>some (k,s)
 | none=>none
def nx3 (x :Option (List Item× St× List Prop)):Option (List Prop):=match x with
 | some (_,_,os)=>some os
 | none=>none
theorem Y11h {n j :Nat} (h:j< n):List.range n=List.range j++j :: (List.range n).drop (j+1):=by
 have h1:(List.range n).take j=List.range j:=by rw [List.take_range,Nat.min_eq_left (Nat.le_of_lt h)]
 have h2:(List.range n).drop j=j :: (List.range n).drop (j+1):=by
   rw [List.drop_eq_getElem_cons (by simpa using h)]
   simp
 rw [<- h1,<- h2,List.take_append_drop]
theorem Yrz {c :Cx} {res:List (Nat× Out)} {j:Nat} {K:List Item} {s:St} {ops:Array Oper} {k:List Item} {s1:St} {os:List Prop} {o:Oper} (h:Yed c.P c.ty c.n res j (some (K,s))=some (ops,k,s1,os,o)) (ho:Os os)
   (hn:ops[j]? =some o->o.guard=none->Y70 c.n o=true->c.Goes (.inRegion ops (j :: (List.range ops.size).drop (j+1)) :: k) s1):c.Goes K s:=by
 unfold Yed at h
 split at h
 . rename_i id ops' k' s' heq
   simp only [Option.some.injEq,Prod.mk.injEq] at heq
   obtain ⟨rfl,rfl⟩:=heq
   split at h
   . rename_i s1' rs os' o' h1 h2
     cases hc:(o'.guard.isNone&&(Y70 c.n o'&&Nat.ble (j+1) ops'.size)) with
     | false=>rw [hc] at h;simp at h
     | true=>
       rw [hc] at h
       simp only [cond_true,Option.some.injEq,Prod.mk.injEq] at h
       obtain ⟨rfl,rfl,rfl,rfl,rfl⟩:=h
       simp only [Bool.and_eq_true,Option.isNone_iff_eq_none] at hc
       refine Cx.Goes.enter (Y11h (Nat.le_of_ble_eq_true hc.2.2)) (Cx.Goes.ops h1 (fun p hp=>Y66 ho.all p hp) (hn h2 hc.1 hc.2.1))
   . simp at h
 . simp at h
theorem Yee {c :Cx} {res:List (Nat× Out)} {j:Nat} {ops:Array Oper} {k k':List Item} {s s':St} {os:List Prop} (h:Ya4 c.P c.ty c.n res j ops k s=some (k',s',os)) (ho:Os os) (hn:c.Goes k' s'):c.Goes (.inRegion ops ((List.range ops.size).drop (j+1)) :: k) s:=by
 unfold Ya4 at h
 split at h
 . rename_i s1 rs os' h1
   simp only [Option.some.injEq,Prod.mk.injEq] at h
   obtain ⟨rfl,rfl,rfl⟩:=h
   have:=Cx.Goes.ops (l2:=[]) h1 (fun p hp=>Y66 ho.all p hp) (Cx.Goes.done hn)
   simpa using this
 . simp at h
section
variable {P : Program} {ty : Ty} {f : FuncId} {fn : Func} {F : Cx -> Prop}
theorem Z.sel {x :Option (List Item× St)} (z:Z P ty f fn F) (res:List (Nat× Out)) (j:Nat) {cap:Nat} {m:Int} {os os1 os2:List Prop} (ho:Os os)
   (h1:m< (cap:Int)->Os os1/\z.X (nx2 (Yhs P ty fn.ntmps res j true x))) (h2:¬ m< (cap:Int)->Os os2/\z.X (nx2 (Yhs P ty fn.ntmps res j false x)))
   (ha:Y15i P ty fn.ntmps res j x=some (cap,m,os):=by kernel_rfl) (hb:nx3 (Yhs P ty fn.ntmps res j true x)=some os1:=by kernel_rfl) (hc:nx3 (Yhs P ty fn.ntmps res j false x)=some os2:=by kernel_rfl):z.X x:=by
 rintro K s rfl
 obtain ⟨c,⟨e1,e2,e3,e4⟩,hf,fin⟩:=z
 subst e1;subst e2;subst e3
 simp only [Z.X] at h1 h2 ⊢
 rw [<- e4] at h1 h2 ha hb hc
 unfold Y15i at ha
 unfold Yhs at h1 h2 hb hc
 cases h:Yed c.P c.ty c.n res j (some (K,s)) with
 | none=>rw [h] at ha;simp at ha
 | some q=>
 obtain ⟨ops,k,s1,os0,o⟩:=q
 rw [h] at ha h1 h2 hb hc
 simp only at ha h1 h2 hb hc
 split at ha
 . rename_i x' y' el hop
   rw [hop] at h1 h2 hb hc
   simp only at h1 h2 hb hc
   split at ha
   . rename_i b lg hev
     rw [hev] at h1 h2 hb hc
     simp only at h1 h2 hb hc
     cases hco:Ya5 b s1 with
     | none=>rw [hco] at ha;simp at ha
     | some q=>
     obtain ⟨cap',m'⟩:=q
     rw [hco] at ha h1 h2 hb hc
     simp only at ha h1 h2 hb hc
     cases hz:Yc1 c.P el with
     | false=>rw [hz] at ha;simp at ha
     | true=>
     rw [hz] at ha
     simp only [cond_true,Option.some.injEq,Prod.mk.injEq] at ha
     obtain ⟨rfl,rfl,rfl⟩:=ha
     obtain ⟨zv,hzv⟩:=Yl2 hz
     refine Yrz h ho fun g1 g2 g3=> ?_
     refine Cx.Goes.sel (el:=el) (y:=y') g1 (by rw [hop]) g2 hzv g3 hev (Yl1 hco) (fun hlt=> ?_) (fun hlt=> ?_)
     . obtain ⟨ho1,hx⟩:=h1 hlt
       simp only [cond_true] at hx hb
       cases hp:Ya4 c.P c.ty c.n res j ops k ((s1.setH [(b,some ⟨true,cap',[.int .i64 (m'+1)],0⟩)]).setO o.dst (.tup [.int .i64 0,.bool false])) with
       | none=>rw [hp] at hb;simp [nx3] at hb
       | some q=>
       obtain ⟨k',s',os'⟩:=q
       rw [hp] at hb hx
       simp only [nx3,Option.some.injEq] at hb
       subst hb
       exact Yee hp ho1 (hx _ _ rfl)
     . obtain ⟨ho1,hx⟩:=h2 hlt
       simp only [cond_false] at hx hc
       cases hp:Ya4 c.P c.ty c.n res j ops k (s1.setO o.dst (.tup [.int .i64 (-1),.bool false])) with
       | none=>rw [hp] at hc;simp [nx3] at hc
       | some q=>
       obtain ⟨k',s',os'⟩:=q
       rw [hp] at hc hx
       simp only [nx3,Option.some.injEq] at hc
       subst hc
       exact Yee hp ho1 (hx _ _ rfl)
   . simp at ha
 . simp at ha
def Yws (P :Program) (ty:Ty) (n:Nat) (res:List (Nat× Out)) (j:Nat) (x:Option (List Item× St)):Option (Int× List Prop):=match Yed P ty n res j x with
 | some (_,_,s,os,o)=>(match o.op with
   | .recv t x false=>(match ev x s with
     | some (.chan b,_)=>(match Ya5 b s,P.underlying t with
       | some (_,m),some (.chan _ el)=>bif Yc1 P el then some (m,os) else none
       | _,_=>none)
     | _=>none)
   | _=>none)
 | none=>none
def Ynb (P :Program) (ty:Ty) (n:Nat) (res:List (Nat× Out)) (j:Nat) (x:Option (List Item× St)):Option (List Item× St× List Prop):=match Yed P ty n res j x with
 | some (ops,k,s,_,o)=>(match o.op with
   | .recv _ x false=>(match ev x s with
     | some (.chan b,_)=>(match Ya5 b s with
       | some (cap,m)=>Ya4 P ty n res j ops k ((s.setH [(b,some ⟨true,cap,[.int .i64 (m - 1)],0⟩)]).setO o.dst .undef)
       | none=>none)
     | _=>none)
   | _=>none)
 | none=>none
theorem Z.recv {x :Option (List Item× St)} (z:Z P ty f fn F) (res:List (Nat× Out)) (j:Nat) {m:Int} {os os1:List Prop} (ho:Os os) (hm:0< m) (ho1:Os os1) (hx:z.X (nx2 (Ynb P ty fn.ntmps res j x)))
   (ha:Yws P ty fn.ntmps res j x=some (m,os):=by kernel_rfl) (hb:nx3 (Ynb P ty fn.ntmps res j x)=some os1:=by kernel_rfl):z.X x:=by
 rintro K s rfl
 obtain ⟨c,⟨e1,e2,e3,e4⟩,hf,fin⟩:=z
 subst e1;subst e2;subst e3
 simp only [Z.X] at hx ⊢
 rw [<- e4] at hx ha hb
 unfold Yws at ha
 unfold Ynb at hx hb
 cases h:Yed c.P c.ty c.n res j (some (K,s)) with
 | none=>rw [h] at ha;simp at ha
 | some q=>
 obtain ⟨ops,k,s1,os0,o⟩:=q
 rw [h] at ha hx hb
 simp only at ha hx hb
 split at ha
 . rename_i t x' hop
   rw [hop] at hx hb
   simp only at hx hb
   split at ha
   . rename_i b lg hev
     rw [hev] at hx hb
     simp only at hx hb
     split at ha
     . rename_i cap' m' dir el hco hut
       rw [hco] at hx hb
       simp only at hx hb
       cases hz:Yc1 c.P el with
       | false=>rw [hz] at ha;simp at ha
       | true=>
       rw [hz] at ha
       simp only [cond_true,Option.some.injEq,Prod.mk.injEq] at ha
       obtain ⟨rfl,rfl⟩:=ha
       obtain ⟨zv,hzv⟩:=Yl2 hz
       refine Yrz h ho fun g1 g2 g3=> ?_
       refine Cx.Goes.recv g1 hop g2 hut hzv g3 hev (Yl1 hco) hm ?_
       cases hp:Ya4 c.P c.ty c.n res j ops k ((s1.setH [(b,some ⟨true,cap',[.int .i64 (m' - 1)],0⟩)]).setO o.dst .undef) with
       | none=>rw [hp] at hb;simp [nx3] at hb
       | some q=>
       obtain ⟨k',s',os'⟩:=q
       rw [hp] at hb hx
       simp only [nx3,Option.some.injEq] at hb
       subst hb
       exact Yee hp ho1 (hx _ _ rfl)
     . simp at ha
   . simp at ha
 . simp at ha
end
section
variable {C : Prop} {Qb : Type} {r : Qb}
theorem brt {b :Bool} {x y:Option Qb} (hb:b=true) (h:(bif b then x else y)=some r) (k:x=some r->C):C:=by subst hb;exact k h
theorem brf {b :Bool} {x y:Option Qb} (hb:b=false) (h:(bif b then x else y)=some r) (k:y=some r->C):C:=by subst hb;exact k h
end
section
variable {U : Type} {e : U -> List D} {sz : Nat}
theorem Y19h (he :∀ x,(e x).length=sz) {xs:List U} {i n c:Nat} (h:i+n<=c/\i+n<=xs.length):i+n<=c/\0+(i+n)*sz<=(eL e xs).length:=by
 refine ⟨h.1,?_⟩
 rw [Y54 he,Nat.zero_add];exact Nat.mul_le_mul_right _ h.2
theorem Y19i (he :∀ x,(e x).length=sz) {xs:List U} {off i lo n c:Nat} (ho:off=lo*sz) (h:lo+n<=xs.length) (h':i+n<=c/\i+n<=xs.length):
   Y2g (eL e xs) (0+i*sz) (((eL e xs).drop off).take (n*sz))=eL e (xs.take i++(xs.drop lo).take n++xs.drop (i+n)):=by
 have h1:(eL e ((xs.drop lo).take n)).length=n*sz:=by rw [Y54 he,List.length_take,List.length_drop];congr 1;omega
 rw [ho,Y7f he,Y7g he,Nat.zero_add,Y2g,h1,<- Nat.add_mul,Y7g he,Y7f he,Y38,Y38]
theorem Ywt {z :U} {cs:List D} (hz:e z=cs):∀ n,Y4q cs n=eL e (List.replicate n z)
 | 0=>Eq.refl _
 | n+1=>by rw [List.replicate_succ];show cs++Y4q cs n=e z++eL e (List.replicate n z);rw [hz,Ywt hz n]
theorem Y19j (he :∀ x,(e x).length=sz) {xs:List U} {z:U} {off lo n:Nat} {cs:List D} (hz:e z=cs) (ho:off=lo*sz) (h:lo+n<=xs.length):
   Y2g (eL e xs) off (Y4q cs n)=eL e (xs.take lo++List.replicate n z++xs.drop (lo+n)):=by
 have h1:(eL e (List.replicate n z)).length=n*sz:=by rw [Y54 he,List.length_replicate]
 rw [Ywt hz,ho,Y2g,h1,<- Nat.add_mul,Y7g he,Y7f he,Y38,Y38]
end
theorem Le.pn0 {b :Nat}:Le .nilp (.pn b):=fun _ _ _ _ _ h=>by cases h;exact .pn0
theorem Le.pns {b :Nat}:Le (.ptr b 0) (.pn b):=fun _ _ _ _ _ h=>by
 cases h with
 | ptr h=>exact .pn h
theorem Own.swap {im bo :Nat->Prop} {I:Env} {w:World} {k k':Blk} {H:List (Nat× Blk)} (h:Own im bo I w (Y2h ((0,k) :: H))) (hk:∀ pl,I 0=some pl->Y49 im bo I w k pl->Y49 im bo I w k' pl):Own im bo I w (Y2h ((0,k') :: H)):=by
 have hs:∀ b x,Y2h ((0,k') :: H) b=some (some x)->∃ y,Y2h ((0,k) :: H) b=some (some y)/\(x=y\/b=0/\x=k'/\y=k):=by
   intro b x hx
   unfold Y2h look at hx ⊢
   cases hb:Nat.beq 0 b with
   | true=>rw [hb] at hx;exact ⟨k,rfl,.inr ⟨(Nat.eq_of_beq_eq_true hb).symm,by simpa using hx.symm,rfl⟩⟩
   | false=>rw [hb] at hx;exact ⟨x,hx,.inl rfl⟩
 refine ⟨fun b x hx=> ?_,fun b x pl B hx=> ?_,fun b c x y pl pl' B hx hy=> ?_⟩
 . obtain ⟨y,hy,hxy⟩:=hs b x hx
   obtain ⟨pl,h1,h2⟩:=h.blk b y hy
   rcases hxy with rfl | ⟨rfl,rfl,rfl⟩
   . exact ⟨pl,h1,h2⟩
   . exact ⟨pl,h1,hk pl h1 h2⟩
 . obtain ⟨y,hy,_⟩:=hs b x hx
   exact h.out b y pl B hy
 . obtain ⟨x',hx',_⟩:=hs b x hx
   obtain ⟨y',hy',_⟩:=hs c y hy
   exact h.inj b c x' y' pl pl' B hx' hy'
theorem Y3z.swap {I :Env} {k k':Blk} {H:List (Nat× Blk)}:Y3z I (Y2h ((0,k) :: H))=Y3z I (Y2h ((0,k') :: H)):=by
 have hs:∀ (k k':Blk) b x,Y2h ((0,k') :: H) b=some (some x)->∃ y,Y2h ((0,k) :: H) b=some (some y):=by
   intro k k' b x hx
   unfold Y2h look at hx ⊢
   cases hb:Nat.beq 0 b with
   | true=>exact ⟨k,rfl⟩
   | false=>rw [hb] at hx;exact ⟨x,hx⟩
 funext B
 refine propext ⟨fun ⟨b,x,pl,h1,h2⟩=> ?_,fun ⟨b,x,pl,h1,h2⟩=> ?_⟩
 . obtain ⟨y,hy⟩:=hs k' k b x h1;exact ⟨b,y,pl,hy,h2⟩
 . obtain ⟨y,hy⟩:=hs k k' b x h1;exact ⟨b,y,pl,hy,h2⟩
theorem Con.pn {P :Program} {f:FuncId} {ds:List D} {sz el:Nat} {cs:List D} {H:List (Nat× Blk)} {r:D} {H':List (Nat× Option Blk)}
   (hA:Con P f ds ((0,⟨false,sz,.nilp :: cs,el⟩) :: H) r H') (hB:Con P f ds ((0,⟨false,sz,.ptr 0 0 :: cs,el⟩) :: H) r H'):Con P f ds ((0,⟨false,sz,.pn 0 :: cs,el⟩) :: H) r H':=by
 refine ⟨hA.1,fun im bo I w vs a b c d=> ?_⟩
 have hb':∀ k:Blk,∀ b,look ((0,k) :: H) b=none->I b=none:=fun k q hq=>b q (by
   unfold look at hq ⊢
   cases hb:Nat.beq 0 q with
   | true=>rw [hb] at hq;cases hq
   | false=>rw [hb] at hq;exact hq)
 obtain ⟨pl,h1,h2⟩:=c.blk 0 _ rfl
 have key:∀ k':Blk,Own im bo I w (Y2h ((0,k') :: H))->(Own im bo I w (Y2h ((0,k') :: H))->Con P f ds ((0,k') :: H) r H')->Calls P f vs.toArray w fun e w'=>∃ v im' Qa,e=.returned v/\Ymp (Y3z I (Y2h ((0,⟨false,sz,.pn 0 :: cs,el⟩) :: H))) w w'/\
     (∀ b,im b->im' b)/\(∀ b,im' b->im b\/Y3z I (Y2h ((0,⟨false,sz,.pn 0 :: cs,el⟩) :: H)) b\/w.heap.size<=b)/\(∀ b,im' b->b< w'.heap.size)/\
     (∀ b,b< 1000->Qa b=I b)/\(∀ b,1000<=b->look H' b=none->Qa b=none)/\
     Own im' bo Qa w' (look H')/\(∀ B,Y3z Qa (look H') B->Y3z I (Y2h ((0,⟨false,sz,.pn 0 :: cs,el⟩) :: H)) B\/w.heap.size<=B)/\R im' w' bo Qa r v:=by
   intro k' ho hc
   have:=(hc ho).2 im bo I w vs a (hb' k') ho d
   rw [Y3z.swap (k:=k') (k':=⟨false,sz,.pn 0 :: cs,el⟩)] at this
   exact this
 cases pl with
 | nil=>cases h2
 | ch B cap=>
   obtain ⟨_,_,_,vs',_,⟨_,h4 | h4⟩,h5⟩:=h2
   . subst h4;cases h5
   . subst h4
     cases h5 with
     | cons h6 _=>cases h6
 | at_ B base sz' lim=>
   obtain ⟨c',el',fz,g1,g2,g3,g4,g5,g6,g7⟩:=h2
   simp only [List.length_cons] at g3 g6 g7
   cases hvs:(c'.toList.drop base).take (cs.length+1) with
   | nil=>rw [hvs] at g7;cases g7
   | cons v vs'=>
     rw [hvs] at g7
     cases g7 with
     | cons g8 g9=>
     cases g8 with
     | pn0=>
       refine key _ (c.swap fun pl' h1' h2'=> ?_) fun _=>hA
       rw [h1] at h1'
       cases h1'
       exact ⟨c',el',fz,g1,g2,by simpa using g3,g4,g5,by simpa using g6,by
         simp only [List.length_cons]
         rw [hvs]
         exact .cons .nilp g9⟩
     | pn h=>
       refine key _ (c.swap fun pl' h1' h2'=> ?_) fun _=>hB
       rw [h1] at h1'
       cases h1'
       exact ⟨c',el',fz,g1,g2,by simpa using g3,g4,g5,by simpa using g6,by
         simp only [List.length_cons]
         rw [hvs]
         exact .cons (.ptr (off:=0) h) g9⟩
theorem Y19k (xs :List Int) (s:ByteArray):(eL (Y1d .u8) xs).take (xs.length*1)++Y63 s=eL (Y1d .u8) (xs++Y12 s):=by rw [Yby (Y16 _),Ywp,Y38]
theorem Ywu (xs :List Int) (s:ByteArray):(xs++Y12 s).length=xs.length+s.size:=by rw [List.length_append,Y4v]
theorem Y17f (xs :List Int) {n:Int} (h:(0:Int)< n/\n=((xs.length:Nat):Int)/\n<=9223372036854775807):0< n/\n.toNat<=(eL (Y1d .u8) xs).length/\n<=9223372036854775807/\∀ d,d∈(eL (Y1d .u8) xs).take n.toNat->d.byte:=by
 have e:n.toNat=xs.length:=by rw [h.2.1];rfl
 exact ⟨h.1,(Yn6 xs e).1,h.2.2,(Yn6 xs e).2⟩
theorem Y1et (xs :List Int) {n:Int} (h:(0:Int)< n/\n=((xs.length:Nat):Int)/\n<=9223372036854775807):Y6v ((eL (Y1d .u8) xs).take n.toNat)=mkS xs:=
 Yto xs (by rw [h.2.1];rfl)
theorem Le.sll {g :Bool} {cs cs':List D} {n c:Nat} (h:Les cs cs'):Le (.sl g cs n c) (.sl g cs' n c):=fun im w bo I v k=>by
 cases k with
 | sl0 a c hc=>exact .sl0 a c hc
 | sl k1 k2 k3 k4 k5 k6=>exact .sl k1 k2 k3 (by rw [<- h.len];exact k4) k5 (h.rs k6)
abbrev tI (size bytes :Nat) (kind:TK) (zero:List D) (eq:List Nat) (flat:Bool):TI:={size:=size,bytes:=bytes,kind:=kind,zero:=zero,eq:=eq,flat:=flat}
theorem Les.r {d :D} {ds ds':List D} (h:Les ds ds'):Les (d :: ds) (d :: ds'):=.cons Le.rfl h
theorem LeT.r {t :Nat} {d:D} {l l':List (Nat× D)} (h:LeT l l'):LeT ((t,d) :: l) ((t,d) :: l'):=.cons Le.rfl h
theorem Le.k {d d' :D} (h:d=d':=by kernel_rfl):Le d d':=Le.of h
end Go.Proofs.YtpdcnikdoikldaaGreatDoor.Sv
