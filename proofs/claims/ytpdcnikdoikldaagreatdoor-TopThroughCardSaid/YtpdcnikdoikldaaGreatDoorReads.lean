import Derived.Test.YtpdcnikdoikldaaGreatDoorSvWc
import Derived.Deep.Slices
import Derived.SizedLaws
import Derived.ProofKit
set_option linter.unusedVariables false
set_option linter.unusedSimpArgs false
namespace Go.Proofs.YtpdcnikdoikldaaGreatDoor.Sv
open Go Go.RowKit Go.ChangeShapes Go.WideShapes Go.Deep
def RdQ (P :Program) (t:TypeId) (k:Nat) (Q:List D->Prop):Prop:=
 P.cellsOf t=k/\(∀ ds,Q ds->ds.length=k)/\∀ {H:Type} {enc:TypeId× Value->H} {w:World} {base:Nat} {spare:Nat->Bool} {held:Bool} {fuel:Nat} {cs:List Value} {x:DataW H× List MemPlace},
   DataW.trod enc P w base spare held fuel t cs=some x->(x.1.weights P t).all (· <=reachBytes)=true->∃ ds,Q ds/\Y1r cs/\Rs (fun b=>b< w.heap.size) w noB Y1h ds cs
def Is1 {U :Type} (e:U->List D) (B:U->Prop) (ds:List D):Prop:=∃ a,ds=e a/\B a
abbrev Rd (P :Program) (t:TypeId) (k:Nat) {U:Type} (e:U->List D) (B:U->Prop):Prop:=RdQ P t k (Is1 e B)
theorem Rd.int {P :Program} {t:TypeId} {k:IntKind} (ht:P.underlying t=some (.int k)) (hc:P.cellsOf t=1):Rd P t 1 (Y1d k) (fun a=>(Lit.int k a).wf=true):=by
 refine ⟨hc,fun ds ⟨a,h,_⟩=>by rw [h];rfl,?_⟩
 intro H enc w base spare held fuel cs x h _
 obtain ⟨a,rfl,_,wa⟩:=DataW.trod_int ht h
 exact ⟨_,⟨a,rfl,wa⟩,by intro v hv;simp only [List.mem_singleton] at hv;subst hv;rfl,.cons (.int _ _) .nil⟩
theorem Rd.bool {P :Program} {t:TypeId} (ht:P.underlying t=some .bool) (hc:P.cellsOf t=1):Rd P t 1 Y1es (fun _=>True):=by
 refine ⟨hc,fun ds ⟨a,h,_⟩=>by rw [h];rfl,?_⟩
 intro H enc w base spare held fuel cs x h _
 obtain ⟨a,rfl,_⟩:=DataW.trod_bool ht h
 exact ⟨_,⟨a,rfl,trivial⟩,by intro v hv;simp only [List.mem_singleton] at hv;subst hv;rfl,.cons (.bool _) .nil⟩
theorem Rd.str {P :Program} {t:TypeId} (ht:P.underlying t=some .string) (hc:P.cellsOf t=1):Rd P t 1 Y1i (fun a=>a.size<=140737488355328):=by
 refine ⟨hc,fun ds ⟨a,h,_⟩=>by rw [h];rfl,?_⟩
 intro H enc w base spare held fuel cs x h hw
 obtain ⟨a,rfl,rfl,_⟩:=DataW.trod_string ht h
 refine ⟨_,⟨a,rfl,?_⟩,by intro v hv;simp only [List.mem_singleton] at hv;subst hv;rfl,.cons (.str _) .nil⟩
 have:=List.all_eq_true.1 hw a.data.toList.length (by simp only [DataW.weights,List.mem_singleton])
 have k:reachBytes< 2 ^ 47:=reachBytes_lt
 have e:a.data.toList.length=a.size:=Array.length_toList
 simp only [decide_eq_true_eq] at this
 omega
theorem Yc7 {H :Type} {P:Program} {e:TypeId} {d:DataW H}:∀ {l:List (DataW H)},d∈l->∀ n∈d.weights P e,n∈DataW.weightsAll P e l
 | [],h,_,_=>by simp at h
 | d0 :: l,h,n,hn=>by
   simp only [DataW.weightsAll,List.mem_append]
   rcases List.mem_cons.1 h with rfl | h
   . exact .inl hn
   . exact .inr (Yc7 h n hn)
theorem Ys9 {U :Type} {e:U->List D} {B:U->Prop} {im:Nat->Prop} {w:World} {l:List Value} {k:Nat}:∀ (n o:Nat),
   (∀ i,i< n->∃ a,B a/\Y1r ((l.drop (o+i*k)).take k)/\Rs im w noB Y1h (e a) ((l.drop (o+i*k)).take k))->
   ∃ xs:List U,xs.length=n/\(∀ x∈xs,B x)/\Y1r ((l.drop o).take (n*k))/\Rs im w noB Y1h (eL e xs) ((l.drop o).take (n*k))
 | 0,o,_=>⟨[],rfl,fun x h=>by simp at h,by simpa using Y1r.nil,by simpa [eL] using (Rs.nil:Rs im w noB Y1h [] [])⟩
 | n+1,o,h=>by
   obtain ⟨a,ba,oa,ra⟩:=h 0 (by omega)
   rw [Nat.zero_mul,Nat.add_zero] at oa ra
   obtain ⟨xs,h1,h2,h3,h4⟩:=Ys9 (B:=B) (im:=im) (w:=w) (l:=l) n (o+k) (fun i hi=>by
     have:=h (i+1) (by omega)
     rwa [show o+(i+1)*k=o+k+i*k by rw [Nat.add_mul];omega] at this)
   have e1:(l.drop o).take ((n+1)*k)=(l.drop o).take k++(l.drop (o+k)).take (n*k):=by
     rw [Nat.add_mul,Nat.one_mul,Nat.add_comm (n*k) k,List.take_add,List.drop_drop]
   refine ⟨a :: xs,by simp [h1],?_,?_,?_⟩
   . intro x hx
     rcases List.mem_cons.1 hx with rfl | hx
     . exact ba
     . exact h2 x hx
   . rw [e1];exact oa.append h3
   . rw [e1];exact ra.append h4
theorem Rd.sliceB {P :Program} {t s:TypeId} {k b:Nat} {U:Type} {e:U->List D} {B:U->Prop} (ht:P.underlying t=some (.slice s)) (hc:P.cellsOf t=1) (hs:Rd P s k e B) (hk:0< k) (hb:P.bytesOf s=b) (hb0:0< b):
   Rd P t 1 (fun xs=>[.sl true (eL e xs) xs.length xs.length]) (fun xs=>xs.length*b<=reachBytes/\∀ x∈xs,B x):=by
 refine ⟨hc,fun ds ⟨a,h,_⟩=>by rw [h];rfl,?_⟩
 intro H enc w base spare held fuel cs x h hw
 have one:∀ v:Value,(∃ a n c,v=.slice a n c)->Y1r [v]:=by
   rintro v ⟨a,n,c,rfl⟩ u hu
   simp only [List.mem_singleton] at hu;subst hu;rfl
 rcases open_slice ht h with ⟨rfl,_⟩ | ⟨a,len,cap,m,n,Dt,Pl,rfl,_,hl,_,hm,rfl,hx⟩
 . exact ⟨_,⟨[],rfl,by simp,fun x hx=>by simp at hx⟩,one _ ⟨_,_,_,rfl⟩,.cons (.sl0 _ _ (fun _=>rfl)) .nil⟩
 have hlm:len<=m:=by rw [hm];split <;> omega
 have hsz:len*b<=reachBytes:=by
   have:=List.all_eq_true.1 hw ((((List.range len).map Dt).length+((List.range (m - len)).map fun j=>Dt (len+j)).length)*P.bytesOf s) (by simp only [DataW.weights,ht];exact List.mem_cons_self)
   simp only [decide_eq_true_eq,List.length_map,List.length_range,hb] at this
   exact Nat.le_trans (Nat.mul_le_mul_right _ (by omega)) this
 have hwi:∀ i,i< len->((Dt i).weights P s).all (· <=reachBytes)=true:=by
   intro i hi
   rw [List.all_eq_true]
   intro n hn
   refine List.all_eq_true.1 hw n ?_
   simp only [DataW.weights,ht,List.mem_cons,List.mem_append]
   exact .inr (.inl (Yc7 (List.mem_map.2 ⟨i,List.mem_range.2 hi,rfl⟩) n hn))
 obtain ⟨B0,o,sp⟩:=a
 cases len with
 | zero=>
   refine ⟨_,⟨[],rfl,by simp,fun x hx=>by simp at hx⟩,one _ ⟨_,_,_,rfl⟩,.cons (.sl0 _ _ (fun e=>by simp at e)) .nil⟩
 | succ len=>
 obtain ⟨cs0,q0,_⟩:=hx 0 (by omega)
 rw [hs.1,Nat.zero_mul] at q0
 obtain ⟨_,q1,q2⟩:=World.cells?_some q0
 have q3:=q2 0 hk
 have e0:((⟨B0,o,sp⟩:Addr).add 0).add 0=⟨B0,o,sp⟩:=by rfl
 rw [e0] at q3
 have q4:∃ v,w.cell? ⟨B0,o,sp⟩=some v:=⟨cs0[0]'(by omega),by rw [q3];simp⟩
 obtain ⟨v0,q4⟩:=q4
 unfold World.cell? at q4
 simp only at q4
 cases hbk:w.heap[B0]? with
 | none=>rw [hbk] at q4;simp at q4
 | some blk=>
 rw [hbk] at q4
 cases blk with
 | cells c el fz=>
   cases sp with
   | some x=>simp at q4
   | none=>
     have hlt:B0< w.heap.size:=by
       rcases Nat.lt_or_ge B0 w.heap.size with hh | hh
       . exact hh
       . rw [Array.getElem?_eq_none hh] at hbk;simp at hbk
     have ea:∀ j,(⟨B0,o,none⟩:Addr).add j=⟨B0,o+j,none⟩:=by
       intro j
       unfold Addr.add
       split
       . rename_i q;subst q;rfl
       . rfl
     have hcell:∀ j v,w.cell? ⟨B0,o+j,none⟩=some v->c.toList[o+j]? =some v:=by
       intro j v hk
       unfold World.cell? at hk
       simp only [hbk] at hk
       simpa using hk
     have each:∀ i,i< len+1->∃ a,B a/\Y1r ((c.toList.drop (o+i*k)).take k)/\Rs (fun b=>b< w.heap.size) w noB Y1h (e a) ((c.toList.drop (o+i*k)).take k):=by
       intro i hi
       obtain ⟨cs',r1,r2⟩:=hx i (by omega)
       rw [hs.1] at r1
       obtain ⟨_,r3,r4⟩:=World.cells?_some r1
       obtain ⟨ds,⟨a,rfl,ba⟩,g2,g3⟩:=hs.2.2 r2 (hwi i hi)
       have ecs:(c.toList.drop (o+i*k)).take k=cs':=by
         apply List.ext_getElem?
         intro j
         by_cases hj:j< k
         . have g:=r4 j hj
           have g':cs'[j]? =some (cs'[j]'(by omega)):=List.getElem?_eq_getElem (by omega)
           rw [ea,show (⟨B0,o+i*k,none⟩:Addr).add j=⟨B0,o+(i*k+j),none⟩ by
             unfold Addr.add;split
             . rename_i q;subst q;rfl
             . simp [Nat.add_assoc],g'] at g
           rw [List.getElem?_take,if_pos hj,List.getElem?_drop,Nat.add_assoc,hcell _ _ g,g']
         . rw [List.getElem?_eq_none (by rw [List.length_take];omega),List.getElem?_eq_none (by omega)]
       rw [ecs]
       exact ⟨a,ba,g2,g3⟩
     have hz:∀ x,B x->(e x).length=k:=fun x hx=>hs.2.1 _ ⟨x,rfl,hx⟩
     obtain ⟨xs,x1,x2,x3,x4⟩:=Ys9 (l:=c.toList) (k:=k) (len+1) o each
     refine ⟨_,⟨xs,rfl,by rw [x1];exact hsz,x2⟩,one _ ⟨_,_,_,rfl⟩,.cons ?_ .nil⟩
     rw [x1]
     have hL:(eL e xs).length=(len+1)*k:=by
       rw [<- x1]
       clear x1 x3 x4
       induction xs with
       | nil=>simp [eL]
       | cons x xs ih=>
         show (e x++eL e xs).length=_
         rw [List.length_append,hz x (x2 x List.mem_cons_self),ih fun y hy=>x2 y (List.mem_cons_of_mem _ hy),List.length_cons,Nat.add_mul]
         omega
     exact .sl (B:=B0) (o:=o) (.inl hlt) hl hbk (by rw [hL]) x3 x4
 | _=>simp at q4
theorem Rd.slice {P :Program} {t s:TypeId} {k b:Nat} {U:Type} {e:U->List D} {B:U->Prop} (ht:P.underlying t=some (.slice s)) (hc:P.cellsOf t=1) (hs:Rd P s k e B) (hk:0< k) (hb:P.bytesOf s=b) (hb0:0< b):
   Rd P t 1 (fun xs=>[.sl true (eL e xs) xs.length xs.length]) (fun xs=>xs.length<=140737488355328/\∀ x∈xs,B x):=by
 refine ⟨hc,fun ds ⟨a,h,_⟩=>by rw [h];rfl,?_⟩
 intro H enc w base spare held fuel cs x h hw
 obtain ⟨ds,⟨a,q1,q2⟩,q3⟩:=(Rd.sliceB ht hc hs hk hb hb0).2.2 h hw
 refine ⟨ds,⟨a,q1,?_,q2.2⟩,q3⟩
 have k1:reachBytes< 2 ^ 47:=reachBytes_lt
 have:=Nat.le_mul_of_pos_right a.length hb0
 have:=q2.1
 omega
inductive Fit :List (List D->Prop)->List (List D)->Prop
 | nil:Fit [] []
 | cons {Q:List D->Prop} {ds:List D} {Qs:List (List D->Prop)} {dss:List (List D)}:Q ds->Fit Qs dss->Fit (Q :: Qs) (ds :: dss)
inductive Ypp (P :Program):Nat->List Field->List (List D->Prop)->Nat->Prop
 | nil {o:Nat}:Ypp P o [] [] o
 | cons {o k o':Nat} {f:Field} {fs:List Field} {Q:List D->Prop} {Qs:List (List D->Prop)}:f.offset=o->RdQ P f.type k Q->Ypp P (o+k) fs Qs o'->Ypp P o (f :: fs) (Q :: Qs) o'
theorem Yl3 {P :Program} {H:Type} {enc:TypeId× Value->H} {w:World} {base:Nat} {spare:Nat->Bool} {held:Bool} {n:Nat} {cs:List Value}:∀ {fs:List Field} {o o':Nat} {Qs:List (List D->Prop)} {xs:List (DataW H× List MemPlace)},
   Ypp P o fs Qs o'->xs.length=fs.length->(∀ (i:Nat) (f:Field),fs[i]? =some f->DataW.trod enc P w base spare held n f.type ((cs.drop f.offset).take (P.cellsOf f.type))=xs[i]?)->
   (DataW.weightsEach P (fs.map (·.type)) (xs.map (·.1))).all (· <=reachBytes)=true->cs.length=o'->
   ∃ dss,Fit Qs dss/\Y1r (cs.drop o)/\Rs (fun b=>b< w.heap.size) w noB Y1h dss.flatten (cs.drop o)
 | [],o,o',Qs,xs,hf,hl,hx,hw,hc=>by
   cases hf
   rw [List.drop_of_length_le (by omega)]
   exact ⟨[],.nil,Y1r.nil,.nil⟩
 | f :: fs,o,o',Qs,xs,hf,hl,hx,hw,hc=>by
   cases hf with
   | cons h1 h2 h3=>
   rename_i k Q Qs
   match xs,hl with
   | x :: xs,hl=>
   have g:=hx 0 f rfl
   simp only [List.getElem?_cons_zero] at g
   simp only [List.map_cons,DataW.weightsEach,List.all_append,Bool.and_eq_true] at hw
   obtain ⟨ds,q,o1,r1⟩:=h2.2.2 g hw.1
   obtain ⟨dss,f1,o2,r2⟩:=Yl3 h3 (by simpa using hl) (fun i f' hf'=>by
     have:=hx (i+1) f' (by simpa using hf')
     simpa using this) hw.2 hc
   rw [h1,h2.1] at o1 r1
   have e1:cs.drop o=(cs.drop o).take k++cs.drop (o+k):=by rw [<- List.drop_drop,List.take_append_drop]
   refine ⟨ds :: dss,.cons q f1,?_,?_⟩
   . rw [e1];exact o1.append o2
   . rw [e1,List.flatten_cons];exact r1.append r2
theorem Rd.struct {P :Program} {t:TypeId} {k:Nat} {fs:Array Field} {Qs:List (List D->Prop)} {Q:List D->Prop} (ht:P.underlying t=some (.struct fs)) (hc:P.cellsOf t=k) (hf:Ypp P 0 fs.toList Qs k) (hq:∀ dss,Fit Qs dss->Q dss.flatten)
   (hQ:∀ ds,Q ds->ds.length=k):RdQ P t k Q:=by
 refine ⟨hc,hQ,?_⟩
 intro H enc w base spare held fuel cs x h hw
 obtain ⟨xs,n,_,rfl,hlen,hl,hg⟩:=DataW.trod_struct ht h
 simp only [DataW.weights,ht] at hw
 obtain ⟨dss,f1,o1,r1⟩:=Yl3 hf (by simpa using hl) (fun i f hf=>hg i f (by simpa using hf)) hw (by rw [hlen,hc])
 rw [List.drop_zero] at o1 r1
 exact ⟨_,hq _ f1,o1,r1⟩
theorem Rd.arg {P :Program} {t:TypeId} {k:Nat} {Q:List D->Prop} {fs:Array Field} (hr:RdQ P t k Q) (ht:P.underlying t=some (.struct fs)) {H:Type} {enc:TypeId× Value->H} {w:World} {base:Nat} {spare:Nat->Bool} {held:Bool} {r:Reach} {b0:Nat} {v:Value} {d:DataW H} {p:List MemPlace}
   (hv:Value.okWide P w r b0 t v) (h:DataW.Trod enc P w base spare held t v d p) {ts:List TypeId} {dd:List (DataW H)} {j:Nat} (hsz:(DataW.weightsEach P ts dd).all (· <=reachBytes)=true) (hj:ts[j]? =some t) (hd:dd[j]? =some d):
   ∃ ds,Q ds/\R (fun b=>b< w.heap.size) w noB Y1h (.agg ds) v:=by
 obtain ⟨cs,rfl,hsz'⟩:=okWide_struct ht hv
 obtain ⟨fuel,hf⟩:=h
 obtain ⟨ds,q,o1,r1⟩:=hr.2.2 hf (List.all_eq_true.2 fun n hn=>List.all_eq_true.1 hsz n (DataW.weights_mem_each hj hd n hn))
 obtain ⟨l⟩:=cs
 exact ⟨ds,q,.agg o1 r1⟩
theorem Rd.arg1 {P :Program} {t:TypeId} {Q:List D->Prop} (hr:RdQ P t 1 Q) {H:Type} {enc:TypeId× Value->H} {w:World} {base:Nat} {spare:Nat->Bool} {held:Bool} {v:Value} {d:DataW H} {p:List MemPlace} (hv:v.cells.toList=[v])
   (h:DataW.Trod enc P w base spare held t v d p) {ts:List TypeId} {dd:List (DataW H)} {j:Nat} (hsz:(DataW.weightsEach P ts dd).all (· <=reachBytes)=true) (hj:ts[j]? =some t) (hd:dd[j]? =some d):
   ∃ ds,Q ds/\Rs (fun b=>b< w.heap.size) w noB Y1h ds [v]:=by
 obtain ⟨fuel,hf⟩:=h
 obtain ⟨ds,q,o1,r1⟩:=hr.2.2 hf (List.all_eq_true.2 fun n hn=>List.all_eq_true.1 hsz n (DataW.weights_mem_each hj hd n hn))
 rw [hv] at r1
 exact ⟨ds,q,r1⟩
end Go.Proofs.YtpdcnikdoikldaaGreatDoor.Sv
