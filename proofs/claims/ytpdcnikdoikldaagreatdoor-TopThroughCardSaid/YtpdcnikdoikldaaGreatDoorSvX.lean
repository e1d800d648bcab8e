import Derived.Test.YtpdcnikdoikldaaGreatDoorSvV
set_option linter.unusedVariables false
set_option linter.unusedSimpArgs false
namespace Go.Proofs.YtpdcnikdoikldaaGreatDoor.Sv
open Go Go.RowKit
structure Cx where
 P:Program
 ty:Ty
 f:FuncId
 n:Nat
 w0:World
 S:Nat->Prop
 im0:Nat->Prop
 bo:Nat->Prop
 V:Env
 R:Ending->World->Prop
 ok:Y2p P ty
 mix:P.follows .mixedOrders=true
 a0:∀ b p,V b=some p->b< 100
abbrev Cx.Rel (c :Cx) (im:Nat->Prop) (I:Env) (s:St) (a:Act) (w:World):Prop:=Sv.Rel c.n c.w0 c.S c.im0 c.bo c.V im I s a w
def Cx.Goes (c :Cx) (K:List Item) (s:St):Prop:=∀ im I a w,c.Rel im I s a w->∀ (b:Frame) (cs:List Frame),b.fn=c.f->b.kind=.normal->
 ∃ e w' fr,c.R e w'/\Comes c.P (lone (b.at a K) cs w) (lone fr cs w') e/\fr.fn=c.f/\fr.leaving c.P w' e
def adv1 (P :Program) (ty:Ty) (n:Nat) (orc:List (Nat× List (Nat× Out))) (K:List Item) (s:St):Option (List Item× St× List Prop):=
 match K with
 | .code .skip :: k=>some (k,s,[])
 | .code (.label _) :: k=>some (k,s,[])
 | .inBlock _ :: k=>some (k,s,[])
 | .code (.seq a b) :: k=>some (.code a :: .code b :: k,s,[])
 | .code (.block id c) :: k=>some (.code c :: .inBlock id :: k,s,[])
 | .code (.loop c) :: k=>some (.code c :: .inLoop c :: k,s,[])
 | .inLoop c :: k=>some (.code c :: .inLoop c :: k,s,[])
 | .code (.exit id) :: k=>match exitTo id k with | some k'=>some (k',s,[]) | none=>none
 | .code (.cond c x y) :: k=>match ev c s with
   | some (.bool true,_)=>some (.code x :: k,s,[])
   | some (.bool false,_)=>some (.code y :: k,s,[])
   | _=>none
 | .code (.region id ops draw) :: k=>match Yfk P ty n ops draw ((look orc id).getD []) s with
   | some (s',os)=>some (k,s',os)
   | none=>none
 | _=>none
def adv (P :Program) (ty:Ty) (n:Nat) (orc:List (Nat× List (Nat× Out))):Nat->List Item->St->Option (List Item× St× List Prop)
 | 0,K,s=>some (K,s,[])
 | m+1,K,s=>match adv1 P ty n orc K s with
   | none=>none
   | some (K',s',os)=>match adv P ty n orc m K' s' with
     | none=>none
     | some (K'',s'',os')=>some (K'',s'',os++os')
theorem Yr9 {a b :List Prop} (h:Ya3 (a++b)):Ya3 a/\Ya3 b:=by
 have h':=fun p hp=>Y66 h p hp
 have mk:∀ (l:List Prop),(∀ p,p∈l->p)->Ya3 l:=by
   intro l
   induction l with
   | nil=>intro _;trivial
   | cons p l ih=>
     intro h
     cases l with
     | nil=>exact h p List.mem_cons_self
     | cons q l=>exact ⟨h p List.mem_cons_self,ih fun r hr=>h r (List.mem_cons_of_mem _ hr)⟩
 exact ⟨mk a fun p hp=>h' p (List.mem_append.2 (.inl hp)),mk b fun p hp=>h' p (List.mem_append.2 (.inr hp))⟩
section
variable {c : Cx}
theorem Cx.Goes.steps {K K' :List Item} {s:St} (h:c.Goes K' s) (hs:∀ (b:Frame) (a:Act) (cs:List Frame) (w:World),Steps c.P (lone (b.at a K) cs w) (lone (b.at a K') cs w)):c.Goes K s:=by
 intro im I a w hr b cs hf hk
 obtain ⟨e,w',fr,h1,h2,h3,h4⟩:=h im I a w hr b cs hf hk
 exact ⟨e,w',fr,h1,.of_steps (hs b a cs w) h2,h3,h4⟩
theorem Yhn {n :Nat} {w0:World} {S im0 bo im:Nat->Prop} {V I:Env} {s:St} {a:Act} {w:World} (hr:Rel n w0 S im0 bo V im I s a w) {x:Operand} {b:Bool} {l:Log} (h:ev x s=some (.bool b,l)):a.eval x=.bool b:=(Ybt hr h).boolV
theorem Cx.Goes.adv1 {orc :List (Nat× List (Nat× Out))} {K K':List Item} {s s':St} {os:List Prop} (h:adv1 c.P c.ty c.n orc K s=some (K',s',os)) (ho:Ya3 os) (hn:c.Goes K' s'):c.Goes K s:=by
 unfold Sv.adv1 at h
 split at h
 . simp only [Option.some.injEq,Prod.mk.injEq] at h;obtain ⟨rfl,rfl,_⟩:=h;exact hn.steps fun _ _ _ _=>.one step_skip
 . simp only [Option.some.injEq,Prod.mk.injEq] at h;obtain ⟨rfl,rfl,_⟩:=h;exact hn.steps fun _ _ _ _=>.one step_label
 . simp only [Option.some.injEq,Prod.mk.injEq] at h;obtain ⟨rfl,rfl,_⟩:=h;exact hn.steps fun _ _ _ _=>.one step_inBlock
 . simp only [Option.some.injEq,Prod.mk.injEq] at h;obtain ⟨rfl,rfl,_⟩:=h;exact hn.steps fun _ _ _ _=>.one step_seq
 . simp only [Option.some.injEq,Prod.mk.injEq] at h;obtain ⟨rfl,rfl,_⟩:=h;exact hn.steps fun _ _ _ _=>.one step_block
 . simp only [Option.some.injEq,Prod.mk.injEq] at h;obtain ⟨rfl,rfl,_⟩:=h;exact hn.steps fun _ _ _ _=>.one step_loop
 . simp only [Option.some.injEq,Prod.mk.injEq] at h;obtain ⟨rfl,rfl,_⟩:=h;exact hn.steps fun _ _ _ _=>.one step_inLoop
 . rename_i id k
   cases he:exitTo id k with
   | none=>rw [he] at h;simp at h
   | some k'=>
     rw [he] at h
     simp only [Option.some.injEq,Prod.mk.injEq] at h;obtain ⟨rfl,rfl,_⟩:=h
     exact hn.steps fun _ _ _ _=>.one (step_exit he)
 . rename_i x cx cy k
   split at h
   . rename_i l he
     simp only [Option.some.injEq,Prod.mk.injEq] at h;obtain ⟨rfl,rfl,_⟩:=h
     intro im I a w hr b cs hf hk
     obtain ⟨e,w',fr,h1,h2,h3,h4⟩:=hn im I a w hr b cs hf hk
     exact ⟨e,w',fr,h1,.of_steps (.one (step_cond (t:=true) (Yhn hr he))) h2,h3,h4⟩
   . rename_i l he
     simp only [Option.some.injEq,Prod.mk.injEq] at h;obtain ⟨rfl,rfl,_⟩:=h
     intro im I a w hr b cs hf hk
     obtain ⟨e,w',fr,h1,h2,h3,h4⟩:=hn im I a w hr b cs hf hk
     exact ⟨e,w',fr,h1,.of_steps (.one (step_cond (t:=false) (Yhn hr he))) h2,h3,h4⟩
   . simp at h
 . rename_i id ops draw k
   cases hreg:Yfk c.P c.ty c.n ops draw ((look orc id).getD []) s with
   | none=>rw [hreg] at h;simp at h
   | some p=>
     obtain ⟨s1,os1⟩:=p
     rw [hreg] at h
     simp only [Option.some.injEq,Prod.mk.injEq] at h;obtain ⟨rfl,rfl,rfl⟩:=h
     intro im I a w hr b cs hf hk
     have hwp:=Yr8 (id:=id) (Q:=fun e a' w'=>e=.normal/\∃ im' Qa,c.Rel im' Qa s1 a' w') c.ok c.mix hreg ho hr (fun a' w' im' Qa hr'=>⟨rfl,im',Qa,hr'⟩)
     obtain ⟨e,a',w',⟨rfl,im',Qa,hr'⟩,harr⟩:=hwp b k cs
     obtain ⟨e,w'',fr,h1,h2,h3,h4⟩:=hn im' Qa a' w' hr' b cs hf hk
     exact ⟨e,w'',fr,h1,.of_steps harr h2,h3,h4⟩
 . simp at h
theorem Cx.Goes.adv {orc :List (Nat× List (Nat× Out))}:∀ {m:Nat} {K K':List Item} {s s':St} {os:List Prop},adv c.P c.ty c.n orc m K s=some (K',s',os)->Ya3 os->c.Goes K' s'->c.Goes K s
 | 0,K,K',s,s',os,h,ho,hn=>by
   simp only [Sv.adv,Option.some.injEq,Prod.mk.injEq] at h;obtain ⟨rfl,rfl,_⟩:=h;exact hn
 | m+1,K,K',s,s',os,h,ho,hn=>by
   simp only [Sv.adv] at h
   cases h1:Sv.adv1 c.P c.ty c.n orc K s with
   | none=>rw [h1] at h;simp at h
   | some p=>
   obtain ⟨K1,s1,os1⟩:=p
   rw [h1] at h
   simp only at h
   cases h2:Sv.adv c.P c.ty c.n orc m K1 s1 with
   | none=>rw [h2] at h;simp at h
   | some q=>
   obtain ⟨K2,s2,os2⟩:=q
   rw [h2] at h
   simp only [Option.some.injEq,Prod.mk.injEq] at h;obtain ⟨rfl,rfl,rfl⟩:=h
   obtain ⟨o1,o2⟩:=Yr9 ho
   exact Cx.Goes.adv1 h1 o1 (Cx.Goes.adv h2 o2 hn)
theorem Cx.Goes.cond {x :Operand} {cx cy:Code} {k:List Item} {s:St} {b:Bool} (h:(ev x s).map (·.1)=some (.bool b)) (ht:b=true->c.Goes (.code cx :: k) s) (hf:b=false->c.Goes (.code cy :: k) s):c.Goes (.code (.cond x cx cy) :: k) s:=by
 intro im I a w hr fr cs hfn hk
 cases he:ev x s with
 | none=>rw [he] at h;simp at h
 | some p=>
 obtain ⟨d,l⟩:=p
 rw [he] at h
 simp only [Option.map_some,Option.some.injEq] at h
 subst h
 cases hb:b with
 | true=>
   obtain ⟨e,w',fr',h1,h2,h3,h4⟩:=ht hb im I a w hr fr cs hfn hk
   exact ⟨e,w',fr',h1,.of_steps (.one (step_cond (t:=true) (by rw [Yhn hr he,hb]))) h2,h3,h4⟩
 | false=>
   obtain ⟨e,w',fr',h1,h2,h3,h4⟩:=hf hb im I a w hr fr cs hfn hk
   exact ⟨e,w',fr',h1,.of_steps (.one (step_cond (t:=false) (by rw [Yhn hr he,hb]))) h2,h3,h4⟩
end
def mem (ks :List Nat) (b:Nat):Bool:=ks.any (Nat.beq b)
theorem Y4r {ks :List Nat} {b:Nat}:mem ks b=true↔b∈ks:=by
 unfold mem
 rw [List.any_eq_true]
 constructor
 . rintro ⟨x,h1,h2⟩;rw [Nat.eq_of_beq_eq_true h2];exact h1
 . intro h;exact ⟨b,h,Nat.beq_refl b⟩
mutual
def D.inn (ks :List Nat):D->Bool
 | .agg cs=>Y7p ks cs
 | .tup cs=>Y7p ks cs
 | .fn _ cs=>Y7p ks cs
 | .ptr b _=>mem ks b
 | .ref b _ _ _=>mem ks b
 | .chan b=>mem ks b
 | .pn b=>mem ks b
 | .undef=>true
 | .bool _=>true
 | .int _ _=>true
 | .str _=>true
 | .nilp=>true
 | .ip _ _=>true
 | .nils=>true
 | .z0=>true
 | .e0=>true
 | .sl _ _ _ _=>true
 | .nilf=>true
def Y7p (ks :List Nat):List D->Bool
 | []=>true
 | d :: ds=>d.inn ks&&Y7p ks ds
end
mutual
theorem R.mapIn {im bo :Nat->Prop} {w:World} {I Qa:Env} {J:Nat->Nat} {ks:List Nat} (hp:∀ b,b∈ks->∀ p,I b=some p->Qa (J b)=some p):∀ {d:D} {v:Value},R im w bo I d v->d.inn ks=true->R im w bo Qa (d.map J) v
 | _,_,.undef v,_=>.undef v
 | _,_,.bool b,_=>.bool b
 | _,_,.int k n,_=>.int k n
 | _,_,.str s,_=>.str s
 | _,_,.agg o h,k=>.agg o (Rs.mapIn hp h k)
 | _,_,.tup h,k=>.tup (Rs.mapIn hp h k)
 | _,_,.nilp,_=>.nilp
 | _,_,.ptr h,k=>.ptr (hp _ (Y4r.1 k) _ h)
 | _,_,.ip h1 h2 h3 o h4,_=>.ip h1 h2 h3 o h4
 | _,_,.nils,_=>.nils
 | _,_,.z0 a,_=>.z0 a
 | _,_,.e0 a c,_=>.e0 a c
 | _,_,.sl0 a c h,_=>.sl0 a c h
 | _,_,.sl h1 h2 h3 h4 o h5,_=>.sl h1 h2 h3 h4 o h5
 | _,_,.ref0 a h,k=>.ref0 a (hp _ (Y4r.1 k) _ h)
 | _,_,.refz a h,k=>.refz a (hp _ (Y4r.1 k) _ h)
 | _,_,.ref h1 h2 h3,k=>.ref (hp _ (Y4r.1 k) _ h1) h2 h3
 | _,_,.chan h,k=>.chan (hp _ (Y4r.1 k) _ h)
 | _,_,.pn0,_=>.pn0
 | _,_,.pn h,k=>.pn (hp _ (Y4r.1 k) _ h)
 | _,_,.fn h,k=>.fn (Rs.mapIn hp h k)
 | _,_,.nilf,_=>.nilf
theorem Rs.mapIn {im bo :Nat->Prop} {w:World} {I Qa:Env} {J:Nat->Nat} {ks:List Nat} (hp:∀ b,b∈ks->∀ p,I b=some p->Qa (J b)=some p):∀ {ds:List D} {vs:List Value},Rs im w bo I ds vs->Y7p ks ds=true->Rs im w bo Qa (Y7l J ds) vs
 | _,_,.nil,_=>.nil
 | _,_,.cons h t,k=>.cons (R.mapIn hp h ((Bool.and_eq_true _ _).mp k).1) (Rs.mapIn hp t ((Bool.and_eq_true _ _).mp k).2)
end
def Y9v (J :Nat->Nat) (s:St) (x:Nat):Option Blk:=match s.slot x with | some (some blk)=>some (blk.map J) | _=>none
def src (b :Nat):Nat:=if 1000000<=b then b - 1000000 else b
def prune (kt :List Nat) (kh:List (Nat× Nat)) (s:St):Option St:=
 let ks:=kh.map (·.1)
 let J:=fun b=>(look kh b).getD b
 bif Y3k ks&&Y3k (kh.map (·.2))&&kt.all (fun t=>(s.tmp t).inn ks)&&
   ks.all (fun b=>match s.slot b with | some (some blk)=>blk.pure||Y7p ks blk.cs | some none=> !(Nat.ble 1000000 b) | none=>Nat.ble 1000000 b)&&
   s.H.all (fun p=> !(Nat.ble (p.1+1) 100)||(Nat.beq ((look kh p.1).getD 100) p.1||Nat.beq ((look kh (1000000+p.1)).getD 100) p.1))&&
   s.H.all (fun p=>Nat.ble (p.1+1) 1000000)
 then some {T:=kt.map fun t=>(t,(s.tmp t).map J),H:=kh.map fun p=>(p.2,Y9v J s p.1)} else none
end Go.Proofs.YtpdcnikdoikldaaGreatDoor.Sv
namespace Go.Proofs.YtpdcnikdoikldaaGreatDoor.Sv
open Go Go.RowKit
theorem Yra {kh :List (Nat× Nat)} (h:Y3k (kh.map (·.2))=true) {a b x:Nat} (ha:(a,x)∈kh) (hb:(b,x)∈kh):a=b:=by
 obtain ⟨i,hi⟩:=List.getElem?_of_mem ha
 obtain ⟨j,hj⟩:=List.getElem?_of_mem hb
 have:=Y9e h (i:=i) (j:=j) (n:=x) (by rw [List.getElem?_map,hi];rfl) (by rw [List.getElem?_map,hj];rfl)
 subst this
 rw [hi] at hj
 simpa using hj
theorem Ykx {U :Type} (f:Nat->U):∀ (kt:List Nat) (t:Nat),look (kt.map fun t=>(t,f t)) t=if t∈kt then some (f t) else none
 | [],t=>by simp [look]
 | k :: kt,t=>by
   rw [List.map_cons,Y1t,Ykx f kt t]
   by_cases h:k=t
   . subst h;simp
   . rw [if_neg h]
     by_cases h':t∈kt
     . rw [if_pos h',if_pos (List.mem_cons_of_mem _ h')]
     . rw [if_neg h',if_neg (by simp [h',Ne.symm h])]
theorem Ye8 {U :Type} (f:Nat->U):∀ {kh:List (Nat× Nat)},Y3k (kh.map (·.2))=true->∀ b,look (kh.map fun p=>(p.2,f p.1)) b=match kh.find? (fun p=>Nat.beq p.2 b) with | some p=>some (f p.1) | none=>none
 | [],h,b=>by simp [look]
 | (x,y) :: kh,h,b=>by
   simp only [List.map_cons,Y3k,Bool.and_eq_true] at h
   rw [List.map_cons,Y1t,List.find?_cons,Ye8 f h.2 b]
   by_cases e:y=b
   . subst e;simp
   . have:Nat.beq y b=false:=by
       cases hb:Nat.beq y b with
       | false=>rfl
       | true=>exact absurd (Nat.eq_of_beq_eq_true hb) e
     rw [if_neg e,this]
theorem Yn2 (J :Nat->Nat):∀ (ds:List D),(Y7l J ds).length=ds.length
 | []=>rfl
 | d :: ds=>by simp [Y7l,Yn2 J ds]
theorem Blk.map_len (J :Nat->Nat) (b:Blk):(b.map J).cs.length=b.cs.length:=by
 unfold Blk.map
 cases hp:b.pure <;> simp [Yn2]
theorem Y49.mapIn {im bo :Nat->Prop} {I Qa:Env} {w:World} {blk:Blk} {pl:Pl} {J:Nat->Nat} {ks:List Nat} (hp:∀ b,b∈ks->∀ p,I b=some p->Qa (J b)=some p) (h:Y49 im bo I w blk pl) (hk:(blk.pure||Y7p ks blk.cs)=true):Y49 im bo Qa w (blk.map J) pl:=by
 cases pl with
 | nil=>
   have hc:blk.cs=[]:=h
   show (blk.map J).cs=[]
   exact List.eq_nil_of_length_eq_zero (by rw [Blk.map_len,hc];rfl)
 | ch B cap=>
   obtain ⟨buf,s0,r0,vs0,k1,k2,k6⟩:=h
   refine ⟨buf,s0,r0,vs0,k1,k2,?_⟩
   cases hpu:blk.pure with
   | true=>
     simp only [hpu,if_true] at k6
     simpa [Blk.map,hpu] using k6
   | false=>
     simp only [hpu,Bool.false_eq_true,if_false] at k6
     have:=k6.mapIn hp (by simpa [hpu] using hk)
     simpa [Blk.map,hpu] using this
 | at_ B base sz lim=>
   obtain ⟨c,el,fz,k1,k2,k3,k4,k5,k7,k6⟩:=h
   refine ⟨c,el,fz,k1,k2,by rw [Blk.map_len];exact k3,k4,k5,by rw [Blk.map_len];exact k7,?_⟩
   rw [Blk.map_len]
   cases hpu:blk.pure with
   | true=>
     simp only [hpu,if_true] at k6
     simpa [Blk.map,hpu] using k6
   | false=>
     simp only [hpu,Bool.false_eq_true,if_false] at k6
     have:=k6.mapIn hp (by simpa [hpu] using hk)
     simpa [Blk.map,hpu] using this
section
variable {c : Cx}
theorem Cx.Goes.prune {kt :List Nat} {kh:List (Nat× Nat)} {K:List Item} {s s':St} (h:Sv.prune kt kh s=some s') (hn:c.Goes K s'):c.Goes K s:=by
 unfold Sv.prune at h
 simp only at h
 rw [Bool.cond_eq_ite] at h
 split at h <;> rename_i hc
 rotate_left
 . simp at h
 simp only [Option.some.injEq] at h
 subst h
 intro im I a w hr b cs hf hk
 refine hn im (fun b'=>match kh.find? (fun p=>Nat.beq p.2 b') with | some p=>I (src p.1) | none=>none) a w ?_ b cs hf hk
 simp only [Bool.and_eq_true] at hc
 obtain ⟨⟨⟨⟨⟨c1,c2⟩,c3⟩,c4⟩,c5⟩,c6⟩:=hc
 have hreal:∀ x,s.slot x≠none->src x=x:=by
   intro x hx
   cases hsl:s.slot x with
   | none=>exact absurd hsl hx
   | some z=>
     have:=Nat.le_of_ble_eq_true (List.all_eq_true.1 c6 (x,z) (Y2i hsl))
     unfold src
     rw [if_neg (by simp only at this;omega)]
 have hlook:∀ x y,(x,y)∈kh->look kh x=some y:=by
   intro x y hm
   obtain ⟨z,hz⟩:=Ygf hm
   obtain ⟨i,hi⟩:=List.getElem?_of_mem hm
   obtain ⟨j,hj⟩:=List.getElem?_of_mem (Y2i hz)
   have:=Y9e c1 (i:=i) (j:=j) (n:=x) (by rw [List.getElem?_map,hi];rfl) (by rw [List.getElem?_map,hj];rfl)
   subst this
   rw [hi] at hj
   simp only [Option.some.injEq,Prod.mk.injEq,true_and] at hj
   rw [hz,hj]
 have hfind:∀ x y,(x,y)∈kh->kh.find? (fun p=>Nat.beq p.2 y)=some (x,y):=by
   intro x y hm
   cases hfd:kh.find? (fun p=>Nat.beq p.2 y) with
   | none=>
     rw [List.find?_eq_none] at hfd
     exact absurd (Nat.beq_refl y) (hfd _ hm)
   | some p=>
     obtain ⟨x',y'⟩:=p
     have h1:=List.mem_of_find?_eq_some hfd
     have h2:=Nat.eq_of_beq_eq_true (List.find?_some (p:=fun p:Nat× Nat=>Nat.beq p.2 y) hfd)
     simp only at h2
     subst h2
     rw [Yra c2 h1 hm]
 have hmap:∀ x,x∈kh.map (·.1)->∀ p,I x=some p->(match kh.find? (fun p=>Nat.beq p.2 ((look kh x).getD x)) with | some p=>I (src p.1) | none=>none)=some p:=by
   intro x hx p hp
   have hx0:s.slot x≠none:=fun e=>by rw [hr.dom x e] at hp;simp at hp
   obtain ⟨⟨x',y⟩,hm,rfl⟩:=List.mem_map.1 hx
   rw [hlook _ _ hm]
   simp only [Option.getD_some]
   rw [hfind _ _ hm]
   show I (src x')=some p
   rw [hreal x' hx0]
   exact hp
 have hslot:∀ y k,look (kh.map fun p=>(p.2,Y9v (fun b=>(look kh b).getD b) s p.1)) y=some (some k)->∃ x blk,(x,y)∈kh/\s.slot x=some (some blk)/\k=blk.map (fun b=>(look kh b).getD b):=by
   intro y k hy
   rw [Ye8 (Y9v (fun b=>(look kh b).getD b) s) c2] at hy
   cases hfd:kh.find? (fun p=>Nat.beq p.2 y) with
   | none=>rw [hfd] at hy;simp at hy
   | some p=>
     obtain ⟨x,y'⟩:=p
     have h1:=List.mem_of_find?_eq_some hfd
     have h2:=Nat.eq_of_beq_eq_true (List.find?_some (p:=fun p:Nat× Nat=>Nat.beq p.2 y) hfd)
     simp only at h2
     subst h2
     rw [hfd] at hy
     simp only [Option.some.injEq] at hy
     unfold Y9v at hy
     cases hs:s.slot x with
     | none=>rw [hs] at hy;simp at hy
     | some z=>
       cases z with
       | none=>rw [hs] at hy;simp at hy
       | some blk=>
         rw [hs] at hy
         simp only [Option.some.injEq] at hy
         exact ⟨x,blk,h1,hs,hy.symm⟩
 have hin:∀ x y blk,(x,y)∈kh->s.slot x=some (some blk)->(blk.pure||Y7p (kh.map (·.1)) blk.cs)=true:=by
   intro x y blk hm hs
   have:=List.all_eq_true.1 c4 x (List.mem_map.2 ⟨_,hm,rfl⟩)
   rw [hs] at this
   exact this
 refine {hr with tmp:= ?_,own:=⟨?_,?_,?_⟩,owo:= ?_,dom:= ?_,arg:= ?_}
 . intro t
   show Sv.R im w c.bo _ ((look (kt.map fun t=>(t,(s.tmp t).map fun b=>(look kh b).getD b)) t).getD .undef) _
   rw [Ykx (fun t=>(s.tmp t).map fun b=>(look kh b).getD b)]
   split
   . rename_i ht
     exact (hr.tmp t).mapIn hmap (List.all_eq_true.1 c3 t ht)
   . exact .undef _
 . intro y k hs
   obtain ⟨x,blk,hm,h1,rfl⟩:=hslot y k hs
   obtain ⟨pl,h2,h3⟩:=hr.own.blk x blk h1
   refine ⟨pl,?_,h3.mapIn hmap (hin x y blk hm h1)⟩
   rw [hfind _ _ hm]
   show I (src x)=some pl
   rw [hreal x (by rw [h1];simp)]
   exact h2
 . intro y k pl B hs hp hB
   obtain ⟨x,blk,hm,h1,rfl⟩:=hslot y k hs
   rw [hfind _ _ hm] at hp
   replace hp:I (src x)=_:=hp
   rw [hreal x (by rw [h1];simp)] at hp
   exact hr.own.out x blk pl B h1 hp hB
 . intro y y' k k' pl pl' B hs hs' hp hp' hB hB'
   obtain ⟨x,blk,hm,h1,rfl⟩:=hslot y k hs
   obtain ⟨x',blk',hm',h1',rfl⟩:=hslot y' k' hs'
   rw [hfind _ _ hm] at hp
   rw [hfind _ _ hm'] at hp'
   replace hp:I (src x)=_:=hp
   replace hp':I (src x')=_:=hp'
   rw [hreal x (by rw [h1];simp)] at hp
   rw [hreal x' (by rw [h1'];simp)] at hp'
   have:=hr.own.inj _ _ _ _ _ _ _ h1 h1' hp hp' hB hB'
   subst this
   have e1:=hlook _ _ hm
   rw [hlook _ _ hm'] at e1
   exact (Option.some.inj e1).symm
 . intro y k pl B hs hp hB
   obtain ⟨x,blk,hm,h1,rfl⟩:=hslot y k hs
   rw [hfind _ _ hm] at hp
   replace hp:I (src x)=_:=hp
   rw [hreal x (by rw [h1];simp)] at hp
   exact hr.owo x blk pl B h1 hp hB
 . intro y hs
   have h2:look (kh.map fun p=>(p.2,Y9v (fun b=>(look kh b).getD b) s p.1)) y=none:=hs
   rw [Ye8 (Y9v (fun b=>(look kh b).getD b) s) c2] at h2
   cases hfd:kh.find? (fun p=>Nat.beq p.2 y) with
   | none=>rfl
   | some p=>rw [hfd] at h2;simp at h2
 . intro b' p hb
   have hlt:=c.a0 b' p hb
   have hφ:=hr.arg b' p hb
   have hs:s.slot b'≠none:=fun e=>by rw [hr.dom b' e] at hφ;simp at hφ
   cases hsl:s.slot b' with
   | none=>exact absurd hsl hs
   | some z=>
     have:=List.all_eq_true.1 c5 (b',z) (Y2i hsl)
     simp only [Nat.ble_eq_true_of_le (show b'+1<=100 by omega),Bool.not_true,Bool.false_or,Bool.or_eq_true] at this
     rcases this with this | this
     . have e:=Nat.eq_of_beq_eq_true this
       cases hl:look kh b' with
       | none=>rw [hl] at e;simp at e;omega
       | some y=>
         rw [hl] at e
         simp only [Option.getD_some] at e
         subst e
         rw [hfind _ _ (Y2i hl)]
         show I (src y)=_
         rw [hreal y hs]
         exact hφ
     . have e:=Nat.eq_of_beq_eq_true this
       cases hl:look kh (1000000+b') with
       | none=>rw [hl] at e;simp at e;omega
       | some y=>
         rw [hl] at e
         simp only [Option.getD_some] at e
         subst e
         rw [hfind _ _ (Y2i hl)]
         show I (src (1000000+y))=_
         have:src (1000000+y)=y:=by unfold src;rw [if_pos (by omega)];omega
         rw [this]
         exact hφ
def Y97 (ty :Ty):List ResultVar->M (List D)
 | []=>M.pure []
 | .tmp t :: r=>do
   let d <- getT t
   let ds <- Y97 ty r
   M.pure (d :: ds)
 | .cell a t :: r=>do
   let x <- getT a
   let d <- loadD ty t x false
   let ds <- Y97 ty r
   M.pure (d :: ds)
def Ybj :List D->D
 | [d]=>d
 | ds=>.tup ds
def Yho (tmps :Array Value):ResultVar->Sem Value
 | .tmp t=>pure (tmps.getD t Go.undef)
 | .cell x t=>do loadVar t (<- asAddr (tmps.getD x Go.undef))
theorem Yhp (fn :Func) (tmps:Array Value):results fn tmps=(fn.results.mapM (Yho tmps) >>= fun vs=>pure (if h:vs.size=1 then vs[0] else .tuple vs)):=rfl
theorem Ygi {P :Program} {ty:Ty} {n:Nat} {w0:World} {S im0 bo im:Nat->Prop} {V I:Env} {s:St} {a:Act} {w:World} (ht:Y2p P ty) (hr:Rel n w0 S im0 bo V im I s a w):∀ {rs:List ResultVar} {ds:List D} {l:Log},Y97 ty rs s=some (ds,l)->l.ok->
   ∃ vs,(rs.mapM (m:=Sem) (Yho a.tmps)).run P w=.ok vs w/\Rs im w bo I ds vs
 | [],ds,l,h,ho=>by
   have e:=Y8 (s:=s) h
   subst e
   exact ⟨[],by simp,.nil⟩
 | .tmp t :: r,ds,l,h,ho=>by
   obtain ⟨d,l1,l2,h1,h2,ho1,ho2⟩:=M.bindO h ho
   obtain ⟨es,l3,l4,h3,h4,ho3,ho4⟩:=M.bindO h2 ho2
   have e:=Y8 (s:=s) h4
   subst e
   obtain ⟨vs,hv,hR⟩:=Ygi ht hr h3 ho3
   refine ⟨a.tmps.getD t Go.undef :: vs,?_,.cons (by rw [Yfg h1];exact hr.tmp t) hR⟩
   rw [List.mapM_cons]
   simp only [Yho,Sem.run_bind,Sem.run_pure,Result.andThen_ok]
   simp only [hv,Sem.run_pure,Result.andThen_ok]
 | .cell x t :: r,ds,l,h,ho=>by
   obtain ⟨d0,l0,l00,h0,h00,_,ho00⟩:=M.bindO h ho
   obtain ⟨d,l1,l2,h1,h2,ho1,ho2⟩:=M.bindO h00 ho00
   obtain ⟨es,l3,l4,h3,h4,ho3,ho4⟩:=M.bindO h2 ho2
   have e:=Y8 (s:=s) h4
   subst e
   obtain ⟨vs,hv,hR⟩:=Ygi ht hr h3 ho3
   have hx:=hr.tmp x
   rw [<- Yfg h0] at hx
   obtain ⟨v,hrun,hv2⟩:=Ykq ht hr h1 ho1 hx
   have hp:∃ ad,a.tmps.getD x Go.undef=.pointer (some ad):=by
     have hh:=h1
     unfold loadD at hh
     obtain ⟨i,_,q,hh,hoh⟩:=Yw ht hh ho1
     obtain ⟨cs,q1,q2,hh1,hh2,hoh1,_⟩:=M.bindO hh hoh
     obtain ⟨ad,_,e,_⟩:=Yhk hr hh1 hoh1 hx
     exact ⟨ad,e⟩
   obtain ⟨ad,hp⟩:=hp
   refine ⟨v :: vs,?_,.cons hv2 hR⟩
   rw [hp] at hrun
   have hrun':(loadVar t ad).run P w=.ok v w:=by simpa [Instr.loadAt,Instr.sureAddr] using hrun
   rw [List.mapM_cons]
   have hp':(asAddr (a.tmps.getD x Go.undef)).run P w=.ok ad w:=by rw [hp];rfl
   have e1:(Yho a.tmps (.cell x t)).run P w=.ok v w:=by
     show (asAddr (a.tmps.getD x Go.undef) >>= fun q=>loadVar t q).run P w=_
     rw [Sem.run_bind,hp']
     exact hrun'
   simp only [Sem.run_bind,e1,Result.andThen_ok,hv,Sem.run_pure]
theorem Yrb {P :Program} {ty:Ty} {n:Nat} {w0:World} {S im0 bo im:Nat->Prop} {V I:Env} {s:St} {a:Act} {w:World} (ht:Y2p P ty) (hr:Rel n w0 S im0 bo V im I s a w) {fn:Func} {ds:List D} {l:Log} (h:Y97 ty fn.results.toList s=some (ds,l)) (ho:l.ok):
   ∃ v,(results fn a.tmps).run P w=.ok v w/\R im w bo I (Ybj ds) v:=by
 obtain ⟨vs,hv,hR⟩:=Ygi ht hr h ho
 have hm:(fn.results.mapM (Yho a.tmps)).run P w=.ok vs.toArray w:=by
   rw [Array.mapM_eq_mapM_toList]
   rw [Sem.run_map,hv]
   rfl
 by_cases h1:∃ d,ds=[d]
 . obtain ⟨d,rfl⟩:=h1
   cases hR with
   | cons k1 k2=>
     cases k2
     refine ⟨_,?_,k1⟩
     rw [Yhp,Sem.run_bind,hm]
     rfl
 . have e:Ybj ds=.tup ds:=by
     match ds,h1 with
     | [],_=>rfl
     | [d],h1=>exact absurd ⟨d,rfl⟩ h1
     | _ :: _ :: _,_=>rfl
   refine ⟨.tuple vs.toArray,?_,by rw [e];exact .tup hR⟩
   rw [Yhp,Sem.run_bind,hm,Result.andThen_ok]
   rw [dif_neg]
   . rfl
   . intro hs
     apply h1
     have hl:=hR.length
     have:vs.length=1:=by simpa using hs
     rw [this] at hl
     exact List.length_eq_one_iff.1 hl
theorem Cx.Goes.ret0 {K :List Item} {s:St} {fn:Func} (hf:c.P.funcs[c.f]? =some fn) (hK:K=[]\/∃ k,K=.code .ret :: k) {ds:List D} {l:Log} (h:Y97 c.ty fn.results.toList s=some (ds,l)) (ho:l.ok)
   (hR:∀ im I a w v,c.Rel im I s a w->Sv.R im w c.bo I (Ybj ds) v->c.R (.returned v) w):c.Goes K s:=by
 intro im I a w hr b cs hfn hk
 obtain ⟨v,hv,hR'⟩:=Yrb c.ok hr h ho
 rcases hK with rfl | ⟨k,rfl⟩
 . refine ⟨.returned v,w,{b.at a [] with mode:=.returning},hR im I a w v hr hR',.one step_end,hfn,rfl,hr.defers,hk,fn,?_,hv⟩
   show c.P.funcs[b.fn]? =some fn
   rw [hfn];exact hf
 . refine ⟨.returned v,w,{b.at a (.code .ret :: k) with mode:=.returning},hR im I a w v hr hR',.one step_ret,hfn,rfl,hr.defers,hk,fn,?_,hv⟩
   show c.P.funcs[b.fn]? =some fn
   rw [hfn];exact hf
end
end Go.Proofs.YtpdcnikdoikldaaGreatDoor.Sv
namespace Go.Proofs.YtpdcnikdoikldaaGreatDoor.Sv
open Go Go.RowKit
mutual
theorem R.unmap {im bo :Nat->Prop} {w:World} {I Qa:Env} {J:Nat->Nat} {ks:List Nat} (hp:∀ b,b∈ks->Qa b=I (J b)):∀ (d:D) {v:Value},R im w bo I (d.map J) v->d.inn ks=true->R im w bo Qa d v
 | .undef,v,_,_=>.undef v
 | .bool b,v,h,_=>by cases h;exact .bool _
 | .int k n,v,h,_=>by cases h;exact .int _ _
 | .str s,v,h,_=>by cases h;exact .str _
 | .agg cs,v,h,k=>by cases h with | agg o h'=>exact .agg o (Rs.unmap hp cs h' k)
 | .tup cs,v,h,k=>by cases h with | tup h'=>exact .tup (Rs.unmap hp cs h' k)
 | .nilp,v,h,_=>by cases h;exact .nilp
 | .ptr b off,v,h,k=>by cases h with | ptr h'=>exact .ptr ((hp _ (Y4r.1 k)).trans h')
 | .ip g cs,v,h,_=>by cases h with | ip h1 h2 h3 o h4=>exact .ip h1 h2 h3 o h4
 | .nils,v,h,_=>by cases h;exact .nils
 | .z0,v,h,_=>by cases h;exact .z0 _
 | .e0,v,h,_=>by cases h;exact .e0 _ _
 | .sl g cs len cap,v,h,_=>by
   cases h with
   | sl0 a c h=>exact .sl0 a c h
   | sl h1 h2 h3 h4 o h5=>exact .sl h1 h2 h3 h4 o h5
 | .ref b off len cap,v,h,k=>by
   cases h with
   | ref0 a h'=>exact .ref0 a ((hp _ (Y4r.1 k)).trans h')
   | refz a h'=>exact .refz a ((hp _ (Y4r.1 k)).trans h')
   | ref h1 h2 h3=>exact .ref ((hp _ (Y4r.1 k)).trans h1) h2 h3
 | .pn b,v,h,k=>by
   cases h with
   | pn0=>exact .pn0
   | pn h'=>exact .pn ((hp _ (Y4r.1 k)).trans h')
 | .chan b,v,h,k=>by cases h with | chan h'=>exact .chan ((hp _ (Y4r.1 k)).trans h')
 | .fn f cs,v,h,k=>by cases h with | fn h'=>exact .fn (Rs.unmap hp cs h' k)
 | .nilf,v,h,_=>by cases h;exact .nilf
theorem Rs.unmap {im bo :Nat->Prop} {w:World} {I Qa:Env} {J:Nat->Nat} {ks:List Nat} (hp:∀ b,b∈ks->Qa b=I (J b)):∀ (ds:List D) {vs:List Value},Rs im w bo I (Y7l J ds) vs->Y7p ks ds=true->Rs im w bo Qa ds vs
 | [],vs,h,_=>by cases h;exact .nil
 | d :: ds,vs,h,k=>by
   cases h with
   | cons h1 h2=>exact .cons (R.unmap hp d h1 ((Bool.and_eq_true _ _).mp k).1) (Rs.unmap hp ds h2 ((Bool.and_eq_true _ _).mp k).2)
end
theorem Y49.unmap {im bo :Nat->Prop} {I Qa:Env} {w:World} {blk:Blk} {pl:Pl} {J:Nat->Nat} {ks:List Nat} (hp:∀ b,b∈ks->Qa b=I (J b)) (h:Y49 im bo I w (blk.map J) pl) (hk:(blk.pure||Y7p ks blk.cs)=true):Y49 im bo Qa w blk pl:=by
 cases pl with
 | nil=>
   have hc:(blk.map J).cs=[]:=h
   show blk.cs=[]
   exact List.eq_nil_of_length_eq_zero (by rw [<- Blk.map_len J,hc];rfl)
 | ch B cap=>
   obtain ⟨buf,s0,r0,vs0,k1,k2,k6⟩:=h
   refine ⟨buf,s0,r0,vs0,k1,k2,?_⟩
   cases hpu:blk.pure with
   | true=>
     simp only [Blk.map,hpu,if_true] at k6
     simpa using k6
   | false=>
     simp only [Blk.map,hpu,Bool.false_eq_true,if_false] at k6
     simpa using Rs.unmap hp _ k6 (by simpa [hpu] using hk)
 | at_ B base sz lim=>
   obtain ⟨c,el,fz,k1,k2,k3,k4,k5,k7,k6⟩:=h
   rw [Blk.map_len] at k3 k7 k6
   refine ⟨c,el,fz,k1,k2,k3,k4,k5,k7,?_⟩
   cases hpu:blk.pure with
   | true=>
     simp only [Blk.map,hpu,if_true] at k6
     simpa using k6
   | false=>
     simp only [Blk.map,hpu,Bool.false_eq_true,if_false] at k6
     simpa using Rs.unmap hp _ k6 (by simpa [hpu] using hk)
def ren (l :List (Nat× Nat)) (b:Nat):Nat:=(look l b).getD b
def Y6i (H' :List (Nat× Option Blk)):List (Nat× Blk):=H'.filterMap fun p=>p.2.map fun b=>(p.1,b)
theorem Ye9 {H' :List (Nat× Option Blk)} {b:Nat} {k:Blk} (h:(b,some k)∈H'):(b,k)∈Y6i H':=List.mem_filterMap.2 ⟨_,h,rfl⟩
structure Ytm (H :List (Nat× Blk)) (r:D) (H':List (Nat× Option Blk)) (l:List (Nat× Nat)) (s:St):Prop where
 keys:(H'.all fun p=>bif Nat.ble 1000 p.1 then true else (look H p.1).isSome)=true
 lkeys:(l.all fun p=>Nat.ble 1000 p.1)=true
 nodup:Y3k ((Y6i H').map fun p=>ren l p.1)=true
 slots:((Y6i H').map fun p=>s.slot (ren l p.1))=(Y6i H').map fun p=>some (some (p.2.map (ren l)))
 names:(r.inn (H'.map (·.1))&&H'.all fun p=>match p.2 with | some b=>b.pure||Y7p (H'.map (·.1)) b.cs | none=>true)=true
def Cx.Fin (c :Cx) (H:List (Nat× Blk)) (r:D) (H':List (Nat× Option Blk)):Prop:=
 ∀ im I a w s v l,c.Rel im I s a w->Sv.R im w c.bo I (r.map (ren l)) v->Ytm H r H' l s->c.R (.returned v) w
def st0 (ds :List D) (H:List (Nat× Blk)):St:={T:=ds.zipIdx.map fun p=>(p.2,p.1),H:=H.map fun p=>(p.1,some p.2)}
theorem Yrt :∀ (ds:List D) (k t:Nat),(look ((ds.zipIdx k).map fun p=>(p.2,p.1)) t).getD .undef=if k<=t then ds.getD (t - k) .undef else .undef
 | [],k,t=>by simp [look]
 | d :: ds,k,t=>by
   rw [List.zipIdx_cons,List.map_cons,Y1t]
   by_cases h:k=t
   . subst h;simp
   . rw [if_neg h,Yrt ds (k+1) t]
     by_cases h1:k+1<=t
     . rw [if_pos h1,if_pos (by omega),show t - k=(t - (k+1))+1 by omega]
       simp
     . rw [if_neg h1,if_neg (by omega)]
theorem Yea (H :List (Nat× Blk)) (b:Nat):look (H.map fun p=>(p.1,some p.2)) b=Y2h H b:=by
 unfold Y2h
 induction H with
 | nil=>rfl
 | cons p H ih=>
   obtain ⟨k,x⟩:=p
   rw [List.map_cons,Y1t,Y1t]
   split
   . rfl
   . exact ih
theorem Ym1 {c :Cx} {P:Program} {f:FuncId} {fn:Func} {body:Code} (hf:P.funcs[f]? =some fn) (hb:fn.body=some body) {s:St} (h:c.Goes [.code body] s) (hP:c.P=P) (hfc:c.f=f) (im:Nat->Prop) (I:Env) (w:World) (vs:List Value)
   (hr:c.Rel im I s {tmps:=vs.toArray++Array.replicate (fn.ntmps - vs.toArray.size) Go.undef,defers:=[]} w):Calls P f vs.toArray w c.R:=by
 subst hP
 subst hfc
 intro cs
 have henter:Frame.enter c.P c.f vs.toArray .normal=({(default:Frame) with fn:=c.f,kind:=.normal}:Frame).at {tmps:=vs.toArray++Array.replicate (fn.ntmps - vs.toArray.size) Go.undef,defers:=[]} [.code body]:=by
   simp [Frame.enter,Frame.at,hf,hb]
 obtain ⟨e,w',fr,h1,h2,h3,h4⟩:=h im I _ w hr {(default:Frame) with fn:=c.f,kind:=.normal} cs rfl rfl
 rw [henter]
 exact ⟨e,w',fr,h1,h2,h3,h4⟩
theorem Ywo {P :Program} {ty:Ty} {f:FuncId} {fn:Func} {body:Code} {ds:List D} {H:List (Nat× Blk)} {r:D} {H':List (Nat× Option Blk)} (ok:Y2p P ty) (mix:P.follows .mixedOrders=true) (hf:P.funcs[f]? =some fn) (hb:fn.body=some body)
   (hname:(fn.name== "runtime.NumGoroutine")=false) (hk:(H.all fun p=>Nat.ble (p.1+1) 100)=true) (hn:ds.length<=fn.ntmps)
   (h:∀ c:Cx,c.P=P->c.ty=ty->c.f=f->c.n=fn.ntmps->c.Fin H r H'->c.Goes [.code body] (st0 ds H)):Con P f ds H r H':=by
 refine ⟨⟨fn,hf,by rw [hb];rfl,hname⟩,?_⟩
 intro im bo I w vs hlt hdom hown hargs
 have hkeys:∀ b,(look H b).isSome=true->b< 100:=by
   intro b hs
   obtain ⟨x,hx⟩:=Option.isSome_iff_exists.1 hs
   exact Nat.le_of_ble_eq_true (List.all_eq_true.1 hk _ (Y2i hx))
 have ha0:∀ b p,I b=some p->b< 100:=by
   intro b p hp
   cases hl:look H b with
   | none=>rw [hdom b hl] at hp;simp at hp
   | some x=>exact hkeys b (by rw [hl];rfl)
 let c:Cx:=Cx.mk P ty f fn.ntmps w (Y3z I (Y2h H)) im bo I (fun e w'=>∃ v im' Qa,e=.returned v/\Ymp (Y3z I (Y2h H)) w w'/\
     (∀ b,im b->im' b)/\(∀ b,im' b->im b\/Y3z I (Y2h H) b\/w.heap.size<=b)/\(∀ b,im' b->b< w'.heap.size)/\
     (∀ b,b< 1000->Qa b=I b)/\(∀ b,1000<=b->look H' b=none->Qa b=none)/\
     Own im' bo Qa w' (look H')/\(∀ B,Y3z Qa (look H') B->Y3z I (Y2h H) B\/w.heap.size<=B)/\R im' w' bo Qa r v) ok mix ha0
 have hfin:c.Fin H r H':=by
   intro im' Qf a w' s v l hr hR fo
   have hren:∀ b,b< 1000->ren l b=b:=by
     intro b hb
     unfold ren
     cases hl:look l b with
     | none=>rfl
     | some x=>
       have:=Nat.le_of_ble_eq_true (List.all_eq_true.1 fo.lkeys _ (Y2i hl))
       simp only at this
       omega
   have hkey:∀ b x,look H' b=some x->b< 1000->(look H b).isSome=true:=by
     intro b x hx hb
     have:=List.all_eq_true.1 fo.keys _ (Y2i hx)
     simp only at this
     cases hbl:Nat.ble 1000 b with
     | true=>exact absurd (Nat.le_of_ble_eq_true hbl) (by omega)
     | false=>rw [hbl] at this;exact this
   let Qa:Env:=fun b=>if b< 1000 then I b else if (look H' b).isSome then Qf (ren l b) else none
   have hφ:∀ b,b∈H'.map (·.1)->Qa b=Qf (ren l b):=by
     intro b hb
     obtain ⟨⟨b',x0⟩,hm,rfl⟩:=List.mem_map.1 hb
     obtain ⟨x,hx⟩:=Ygf hm
     simp only
     show (if b'< 1000 then I b' else if (look H' b').isSome then Qf (ren l b') else none)=_
     split
     . rename_i hlt'
       rw [hren b' hlt']
       obtain ⟨y,hy⟩:=Option.isSome_iff_exists.1 (hkey b' x hx hlt')
       obtain ⟨pl,hpl,_⟩:=hown.blk b' y (by simp [Y2h,hy])
       rw [hpl]
       exact (hr.arg b' pl hpl).symm
     . rw [hx];rfl
   have hsl:∀ b x,look H' b=some (some x)->s.slot (ren l b)=some (some (x.map (ren l))):=by
     intro b x hx
     obtain ⟨i,hi⟩:=List.getElem?_of_mem (Ye9 (Y2i hx))
     have:=congrArg (·[i]?) fo.slots
     simp only [List.getElem?_map,hi,Option.map_some,Option.some.injEq] at this
     exact this
   have hnm:=fo.names
   simp only [Bool.and_eq_true] at hnm
   have hinj:∀ b b' x x',look H' b=some (some x)->look H' b'=some (some x')->ren l b=ren l b'->b=b':=by
     intro b b' x x' hx hx' e
     have hnd:=fo.nodup
     obtain ⟨i,hi⟩:=List.getElem?_of_mem (Ye9 (Y2i hx))
     obtain ⟨j,hj⟩:=List.getElem?_of_mem (Ye9 (Y2i hx'))
     have:=Y9e hnd (i:=i) (j:=j) (n:=ren l b) (by rw [List.getElem?_map,hi];rfl) (by rw [List.getElem?_map,hj,e];rfl)
     subst this
     rw [hi] at hj
     simp only [Option.some.injEq,Prod.mk.injEq] at hj
     exact hj.1
   have hmem:∀ b x,look H' b=some x->b∈H'.map (·.1):=fun b x hx=>List.mem_map.2 ⟨_,Y2i hx,rfl⟩
   refine ⟨v,im',Qa,rfl,hr.kept,hr.imo,hr.imn,hr.imlt,?_,?_,⟨?_,?_,?_⟩,?_,?_⟩
   . intro b hb
     show (if b< 1000 then I b else _)=_
     rw [if_pos hb]
   . intro b hb hl
     show (if b< 1000 then I b else if (look H' b).isSome then Qf (ren l b) else none)=none
     rw [if_neg (by omega),hl]
     rfl
   . intro b k hb
     obtain ⟨pl,h1,h2⟩:=hr.own.blk _ _ (hsl b _ hb)
     refine ⟨pl,(hφ b (hmem b _ hb)).trans h1,h2.unmap hφ ?_⟩
     have:=List.all_eq_true.1 hnm.2 _ (Y2i hb)
     exact this
   . intro b k pl B hb hp hB
     rw [hφ b (hmem b _ hb)] at hp
     exact hr.own.out _ _ _ _ (hsl b _ hb) hp hB
   . intro b b' k k' pl pl' B hb hb' hp hp' hB hB'
     rw [hφ b (hmem b _ hb)] at hp
     rw [hφ b' (hmem b' _ hb')] at hp'
     exact hinj b b' _ _ hb hb' (hr.own.inj _ _ _ _ _ _ _ (hsl b _ hb) (hsl b' _ hb') hp hp' hB hB')
   . rintro B ⟨b,k,pl,hb,hp,hB⟩
     rw [hφ b (hmem b _ hb)] at hp
     exact hr.owo _ _ _ _ (hsl b _ hb) hp hB
   . exact R.unmap hφ r hR hnm.1
 refine Ym1 hf hb (h c rfl rfl rfl rfl hfin) rfl rfl im I w vs ?_
 have hlen:=hargs.length
 have hsize:(vs.toArray++Array.replicate (fn.ntmps - vs.toArray.size) Go.undef).size=fn.ntmps:=by
   simp
   omega
 refine {base:=⟨hlt,?_⟩,size:=hsize,defers:=rfl,tmp:= ?_,own:= ?_,kept:=⟨rfl,rfl,rfl,Nat.le_refl _,fun _ _ _=>rfl⟩,imlt:=fun b h=>hlt b (.inl h),imo:=fun _ h=>h,imn:=fun _ h=>.inl h,owo:= ?_,dom:= ?_,arg:=fun _ _ h=>h}
 . rintro b hb ⟨b',k,pl,h1,h2,h3⟩
   have:=hown.out _ _ _ _ h1 h2 h3
   exact hb.elim this.1 this.2
 . intro t
   unfold St.tmp st0
   rw [Yrt ds 0 t,if_pos (Nat.zero_le _),Nat.sub_zero]
   rw [List.getD_eq_getElem?_getD]
   cases hd:ds[t]? with
   | none=>exact .undef _
   | some d=>
     obtain ⟨v,hv,hR⟩:=hargs.get hd
     have hlt':t< vs.length:=by
       rcases Nat.lt_or_ge t vs.length with h' | h'
       . exact h'
       . rw [List.getElem?_eq_none h'] at hv;simp at hv
     have e:(vs.toArray++Array.replicate (fn.ntmps - vs.toArray.size) Go.undef).getD t Go.undef=v:=by
       rw [Array.getD_eq_getD_getElem?,Array.getElem?_append_left (by simpa using hlt')]
       simp [hv]
     show R im w bo I d _
     rw [e]
     exact hR
 . have e:(st0 ds H).slot=Y2h H:=by
     funext b
     exact Yea H b
   rw [e]
   exact hown
 . intro b k pl B hb hp hB
   have e:(st0 ds H).slot b=Y2h H b:=Yea H b
   rw [e] at hb
   exact .inl ⟨b,k,pl,hb,hp,hB⟩
 . intro b hb
   have e:(st0 ds H).slot b=Y2h H b:=Yea H b
   rw [e] at hb
   apply hdom
   unfold Y2h at hb
   cases hl:look H b with
   | none=>rfl
   | some x=>rw [hl] at hb;simp at hb
theorem Cx.Goes.ret {c :Cx} {K:List Item} {s:St} {fn:Func} {H:List (Nat× Blk)} {r:D} {H':List (Nat× Option Blk)} (hfin:c.Fin H r H') (l:List (Nat× Nat)) (hf:c.P.funcs[c.f]? =some fn) (hK:K=[]\/∃ k,K=.code .ret :: k) {ds:List D} {lg:Log}
   (h:Y97 c.ty fn.results.toList s=some (ds,lg)) (ho:Ya3 lg.o) (e:Ybj ds=r.map (ren l)) (fo:Ytm H r H' l s):c.Goes K s:=
 Cx.Goes.ret0 hf hK h (fun p hp=>Y66 ho p hp) fun im I a w v hr hR=>hfin im I a w s v l hr (e ▸ hR) fo
end Go.Proofs.YtpdcnikdoikldaaGreatDoor.Sv
namespace Go.Proofs.YtpdcnikdoikldaaGreatDoor.Sv
open Go Go.RowKit
def sub :Code->Nat->Code
 | .seq a b,p=>bif Nat.beq p 1 then .seq a b else bif Nat.beq (p % 2) 1 then sub b (p / 2) else sub a (p / 2)
 | .cond c a b,p=>bif Nat.beq p 1 then .cond c a b else bif Nat.beq (p % 2) 1 then sub b (p / 2) else sub a (p / 2)
 | .block i a,p=>bif Nat.beq p 1 then .block i a else sub a (p / 2)
 | .loop a,p=>bif Nat.beq p 1 then .loop a else sub a (p / 2)
 | .scope a,p=>bif Nat.beq p 1 then .scope a else sub a (p / 2)
 | c,_=>c
inductive Kt where
 | c (p:Nat)
 | b (id:Nat)
 | l (p:Nat)
def Yax (body :Code):List Kt->List Item
 | []=>[]
 | .c p :: r=>.code (sub body p) :: Yax body r
 | .b id :: r=>.inBlock id :: Yax body r
 | .l p :: r=>.inLoop (sub body p) :: Yax body r
def Y68 (f :Func):Code:=f.body.getD .skip
structure Is (c :Cx) (P:Program) (ty:Ty) (f n:Nat):Prop where
 P:c.P=P
 ty:c.ty=ty
 f:c.f=f
 n:c.n=n
inductive Os :List Prop->Prop
 | nil:Os []
 | cons {p:Prop} {ps:List Prop}:p->Os ps->Os (p :: ps)
theorem Os.all {ps :List Prop} (h:Os ps):Ya3 ps:=by
 induction h with
 | nil=>trivial
 | cons h t ih=>
   rename_i p qs
   cases qs with
   | nil=>exact h
   | cons q r=>exact ⟨h,ih⟩
theorem Os.append {ps qs :List Prop} (h:Os (ps++qs)):Os ps/\Os qs:=by
 induction ps with
 | nil=>exact ⟨.nil,h⟩
 | cons p ps ih=>
   cases h with
   | cons a b=>exact ⟨.cons a (ih b).1,(ih b).2⟩
def Yn3 (P :Program) (ty:Ty) (n:Nat) (orc:List (Nat× List (Nat× Out))) (m:Nat) (kt:List Nat) (kh:List (Nat× Nat)) (K:List Item) (s:St):Option (List Item× St× List Prop):=
 match adv P ty n orc m K s with
 | none=>none
 | some (K',s',os)=>match prune kt kh s' with
   | none=>none
   | some s''=>some (K',s'',os)
def Yn4 (P :Program) (ty:Ty) (n:Nat) (rs:List ResultVar) (orc:List (Nat× List (Nat× Out))) (m:Nat) (K:List Item) (s:St):Option (D× List Prop):=
 match adv P ty n orc m K s with
 | some ([],s',os)=>(match Y97 ty rs s' with
   | some (ds,l)=>some (Ybj ds,os++l.o)
   | none=>none)
 | some (.code .ret :: _,s',os)=>(match Y97 ty rs s' with
   | some (ds,l)=>some (Ybj ds,os++l.o)
   | none=>none)
 | _=>none
def Ytn (P :Program) (ty:Ty) (n:Nat) (rs:List ResultVar) (orc:List (Nat× List (Nat× Out))) (m:Nat) (l:List (Nat× Nat)) (hs:List Nat) (K:List Item) (s:St):Option (D× List (Option (Option Blk))× List Prop):=
 match adv P ty n orc m K s with
 | some ([],s',os)=>(match Y97 ty rs s' with
   | some (ds,lg)=>some (Ybj ds,hs.map (fun h=>s'.slot (ren l h)),os++lg.o)
   | none=>none)
 | some (.code .ret :: _,s',os)=>(match Y97 ty rs s' with
   | some (ds,lg)=>some (Ybj ds,hs.map (fun h=>s'.slot (ren l h)),os++lg.o)
   | none=>none)
 | _=>none
theorem Le.rfl {d :D}:Le d d:=fun _ _ _ _ _ h=>h
theorem Le.of {d d' :D} (h:d=d'):Le d d':=h ▸ Le.rfl
theorem Le.tt {b :Bool} (h:b=true):Le (.bool b) (.bool true):=Le.of (by rw [h])
theorem Le.ff {b :Bool} (h:b=false):Le (.bool b) (.bool false):=Le.of (by rw [h])
theorem Le.int {k :IntKind} {a b:Int} (h:a=b):Le (.int k a) (.int k b):=Le.of (by rw [h])
theorem Le.boo {a b :Bool} (h:a=b):Le (.bool a) (.bool b):=Le.of (by rw [h])
theorem Le.str {a b :ByteArray} (h:a=b):Le (.str a) (.str b):=Le.of (by rw [h])
theorem Le.nils {g :Bool}:Le .nils (.sl g [] 0 0):=fun _ _ _ _ _ h=>by cases h;exact .sl0 _ _ (fun _=>Eq.refl _)
theorem Le.z0 {g :Bool}:Le .z0 (.sl g [] 0 0):=fun _ _ _ _ _ h=>by cases h;exact .sl0 _ _ (fun _=>Eq.refl _)
theorem Le.e0 {g :Bool}:Le .e0 (.sl g [] 0 0):=fun _ _ _ _ _ h=>by cases h;exact .sl0 _ _ (fun e=>by simp at e)
def via {U Qb :Type} (a:U) (f:U->Option Qb):Option Qb:=f a
theorem chk {p :Prop} [Decidable p] {Qb:Type} {a:Option Qb} {r:Qb} (h:(if p then a else none)=some r):p/\a=some r:=by
 split at h
 . exact ⟨by assumption,h⟩
 . simp at h
def Y1d (k :IntKind) (x:Int):List D:=[.int k x]
def Y1es (x :Bool):List D:=[.bool x]
def Y1i (x :ByteArray):List D:=[.str x]
def eL {U :Type} (e:U->List D):List U->List D
 | []=>[]
 | x :: r=>e x++eL e r
def Y2f (k :IntKind) (x y:Int):Int:=k.wrap (BitVec.ofInt k.bits x &&& BitVec.ofInt k.bits y).toNat
def bOr (k :IntKind) (x y:Int):Int:=k.wrap (BitVec.ofInt k.bits x ||| BitVec.ofInt k.bits y).toNat
def Y8b (k :IntKind) (x y:Int):Int:=k.wrap (BitVec.ofInt k.bits x ^^^ BitVec.ofInt k.bits y).toNat
def Yru (k :IntKind) (x y:Int):Int:=k.wrap (BitVec.ofInt k.bits x &&& ~~~BitVec.ofInt k.bits y).toNat
section
variable {c : Cx} {P : Program} {ty : Ty} {f n : Nat}
theorem Is.go (hc :Is c P ty f n) {orc:List (Nat× List (Nat× Out))} {m:Nat} {K K':List Item} {s s':St} {os:List Prop} (h:adv P ty n orc m K s=some (K',s',os)) (ho:Os os) (hn:c.Goes K' s'):c.Goes K s:=by
 obtain ⟨rfl,rfl,rfl,rfl⟩:=hc
 exact Cx.Goes.adv h ho.all hn
theorem Is.jump (hc :Is c P ty f n) {orc:List (Nat× List (Nat× Out))} {m:Nat} {kt:List Nat} {kh:List (Nat× Nat)} {K K':List Item} {s s':St} {os:List Prop} (h:Yn3 P ty n orc m kt kh K s=some (K',s',os)) (ho:Os os) (hn:c.Goes K' s'):c.Goes K s:=by
 unfold Yn3 at h
 cases h1:adv P ty n orc m K s with
 | none=>rw [h1] at h;simp at h
 | some p=>
 obtain ⟨K1,s1,os1⟩:=p
 rw [h1] at h
 simp only at h
 cases h2:prune kt kh s1 with
 | none=>rw [h2] at h;simp at h
 | some s2=>
 rw [h2] at h
 simp only [Option.some.injEq,Prod.mk.injEq] at h
 obtain ⟨rfl,rfl,rfl⟩:=h
 exact hc.go h1 ho (Cx.Goes.prune h2 hn)
theorem Y17b {rs :List ResultVar} {orc:List (Nat× List (Nat× Out))} {m:Nat} {K:List Item} {s:St} {d:D} {os:List Prop} (h:Yn4 P ty n rs orc m K s=some (d,os)):
   ∃ K' s' os1 ds l,adv P ty n orc m K s=some (K',s',os1)/\(K'=[]\/∃ k,K'=.code .ret :: k)/\Y97 ty rs s'=some (ds,l)/\Ybj ds=d/\os=os1++l.o:=by
 unfold Yn4 at h
 split at h
 . rename_i s' os1 he
   split at h
   . rename_i ds l hr
     simp only [Option.some.injEq,Prod.mk.injEq] at h
     exact ⟨_,s',os1,ds,l,he,.inl rfl,hr,h.1,h.2.symm⟩
   . simp at h
 . rename_i k s' os1 he
   split at h
   . rename_i ds l hr
     simp only [Option.some.injEq,Prod.mk.injEq] at h
     exact ⟨_,s',os1,ds,l,he,.inr ⟨k,rfl⟩,hr,h.1,h.2.symm⟩
   . simp at h
 . simp at h
theorem Cx.Fin.le {H :List (Nat× Blk)} {r:D} {H':List (Nat× Option Blk)} (hfin:c.Fin H r H') {im:Nat->Prop} {I:Env} {s:St} {a:Act} {w:World} (hr:c.Rel im I s a w) {v:Value} {d:D} {l:List (Nat× Nat)} (hv:Sv.R im w c.bo I d v) (h:Le d (r.map (ren l))) (fo:Ytm H r H' l s):c.R (.returned v) w:=
 hfin im I a w s v l hr (h _ _ _ _ _ hv) fo
mutual
theorem D.map_inn {J :Nat->Nat}:∀ (d:D),d.inn []=true->d.map J=d
 | .agg cs,h=>by simp only [D.map,Ycl cs h]
 | .tup cs,h=>by simp only [D.map,Ycl cs h]
 | .fn f cs,h=>by simp only [D.map,Ycl cs h]
 | .ptr b _,h=>by simp [D.inn,mem] at h
 | .ref b _ _ _,h=>by simp [D.inn,mem] at h
 | .undef,_=>rfl
 | .bool _,_=>rfl
 | .int _ _,_=>rfl
 | .str _,_=>rfl
 | .nilp,_=>rfl
 | .ip _ _,_=>rfl
 | .nils,_=>rfl
 | .z0,_=>rfl
 | .e0,_=>rfl
 | .sl _ _ _ _,_=>rfl
 | .nilf,_=>rfl
theorem Ycl {J :Nat->Nat}:∀ (ds:List D),Y7p [] ds=true->Y7l J ds=ds
 | [],_=>rfl
 | d :: ds,h=>by
   simp only [Y7p,Bool.and_eq_true] at h
   simp only [Y7l,D.map_inn d h.1,Ycl ds h.2]
end
theorem Is.ret (hc :Is c P ty f n) {H:List (Nat× Blk)} {r:D} (hfin:c.Fin H r []) {fn:Func} (hf:P.funcs[f]? =some fn) {orc:List (Nat× List (Nat× Out))} {m:Nat} {K:List Item} {s:St} {d:D} {os:List Prop}
   (h:Yn4 P ty n fn.results.toList orc m K s=some (d,os)) (ho:Os os) (hle:Le d r) (hi:r.inn []=true):c.Goes K s:=by
 obtain ⟨K',s',os1,ds,l,h1,h2,h3,h4,rfl⟩:=Y17b h
 obtain ⟨o1,o2⟩:=ho.append
 obtain ⟨rfl,rfl,rfl,rfl⟩:=hc
 refine Cx.Goes.adv h1 o1.all (Cx.Goes.ret0 hf h2 h3 (fun p hp=>Y66 o2.all p hp) fun im I a w v hr hR=>hfin im I a w s' v [] hr ?_ ⟨rfl,rfl,rfl,rfl,?_⟩)
 . rw [D.map_inn r hi]
   exact hle _ _ _ _ _ (h4 ▸ hR)
 . simp [hi]
theorem Y17c {rs :List ResultVar} {orc:List (Nat× List (Nat× Out))} {m:Nat} {lr:List (Nat× Nat)} {hs:List Nat} {K:List Item} {s:St} {d:D} {bs:List (Option (Option Blk))} {os:List Prop} (h:Ytn P ty n rs orc m lr hs K s=some (d,bs,os)):
   ∃ K' s' os1 ds l,adv P ty n orc m K s=some (K',s',os1)/\(K'=[]\/∃ k,K'=.code .ret :: k)/\Y97 ty rs s'=some (ds,l)/\Ybj ds=d/\hs.map (fun h=>s'.slot (ren lr h))=bs/\os=os1++l.o:=by
 unfold Ytn at h
 split at h
 . rename_i s' os1 he
   split at h
   . rename_i ds l hr
     simp only [Option.some.injEq,Prod.mk.injEq] at h
     exact ⟨_,s',os1,ds,l,he,.inl rfl,hr,h.1,h.2.1,h.2.2.symm⟩
   . simp at h
 . rename_i k s' os1 he
   split at h
   . rename_i ds l hr
     simp only [Option.some.injEq,Prod.mk.injEq] at h
     exact ⟨_,s',os1,ds,l,he,.inr ⟨k,rfl⟩,hr,h.1,h.2.1,h.2.2.symm⟩
   . simp at h
 . simp at h
def Yn5 (H :List (Nat× Blk)) (r:D) (H':List (Nat× Option Blk)) (l:List (Nat× Nat)):Bool:=
 (H'.all fun p=>bif Nat.ble 1000 p.1 then true else (look H p.1).isSome)&&(l.all fun p=>Nat.ble 1000 p.1)&&Y3k ((Y6i H').map fun p=>ren l p.1)&&
 (r.inn (H'.map (·.1))&&H'.all fun p=>match p.2 with | some b=>b.pure||Y7p (H'.map (·.1)) b.cs | none=>true)
theorem Is.retB (hc :Is c P ty f n) {H:List (Nat× Blk)} {r:D} {H':List (Nat× Option Blk)} (hfin:c.Fin H r H') (l:List (Nat× Nat)) {fn:Func} (hf:P.funcs[f]? =some fn) {orc:List (Nat× List (Nat× Out))} {m:Nat} {K:List Item} {s:St} {d:D} {os:List Prop}
   (h:Ytn P ty n fn.results.toList orc m l ((Y6i H').map (·.1)) K s=some (d,(Y6i H').map (fun p=>some (some (p.2.map (ren l)))),os)) (ho:Os os) (hle:Le d (r.map (ren l))) (hi:Yn5 H r H' l=true):c.Goes K s:=by
 obtain ⟨K',s',os1,ds,lg,h1,h2,h3,h4,h5,rfl⟩:=Y17c h
 obtain ⟨o1,o2⟩:=ho.append
 obtain ⟨rfl,rfl,rfl,rfl⟩:=hc
 unfold Yn5 at hi
 rw [Bool.and_eq_true,Bool.and_eq_true,Bool.and_eq_true] at hi
 refine Cx.Goes.adv h1 o1.all (Cx.Goes.ret0 hf h2 h3 (fun p hp=>Y66 o2.all p hp) fun im I a w v hr hR=>hfin im I a w s' v l hr ?_ ⟨hi.1.1.1,hi.1.1.2,hi.1.2,?_,hi.2⟩)
 . exact hle _ _ _ _ _ (h4 ▸ hR)
 . rw [List.map_map] at h5
   exact h5
end
end Go.Proofs.YtpdcnikdoikldaaGreatDoor.Sv
