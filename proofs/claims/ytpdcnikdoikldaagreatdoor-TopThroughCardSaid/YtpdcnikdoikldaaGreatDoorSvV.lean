import Derived.Test.YtpdcnikdoikldaaGreatDoorSvU
set_option linter.unusedVariables false
set_option linter.unusedSimpArgs false
namespace Go.Proofs.YtpdcnikdoikldaaGreatDoor.Sv
open Go Go.RowKit
def Yhm (ops :Array Oper) (acc:List Nat):Prop:=∀ (i:Nat),i< acc.length->∀ (o:Oper),ops[i]? =some o->∀ j,(acc.getD i 0).testBit j=true->∃ e,e∈o.after.toList/\Region.binds .any e=true/\(j=e.on\/(acc.getD e.on 0).testBit j=true)
theorem Ytl (acc :List Nat) (o:Oper) (j:Nat) (h:(Ye4 acc o).testBit j=true):∃ e,e∈o.after.toList/\Region.binds .any e=true/\(j=e.on\/(acc.getD e.on 0).testBit j=true):=by
 unfold Ye4 at h
 have key:∀ (l:List Edge) (m:Nat),(l.foldl (fun m e=>bif Region.binds .any e then m ||| 2 ^ e.on ||| acc.getD e.on 0 else m) m).testBit j=true->m.testBit j=true\/∃ e,e∈l/\Region.binds .any e=true/\(j=e.on\/(acc.getD e.on 0).testBit j=true):=by
   intro l
   induction l with
   | nil=>intro m h;exact .inl h
   | cons e l ih=>
     intro m h
     rw [List.foldl_cons] at h
     rcases ih _ h with h | ⟨e',h1,h2,h3⟩
     . cases hb:Region.binds .any e with
       | false=>rw [hb] at h;exact .inl h
       | true=>
         rw [hb] at h
         simp only [cond_true,Nat.testBit_or,Bool.or_eq_true,Nat.testBit_two_pow,decide_eq_true_eq] at h
         rcases h with (h | h) | h
         . exact .inl h
         . exact .inr ⟨e,List.mem_cons_self,hb,.inl h.symm⟩
         . exact .inr ⟨e,List.mem_cons_self,hb,.inr h⟩
     . exact .inr ⟨e',List.mem_cons_of_mem _ h1,h2,h3⟩
 rcases key o.after.toList 0 h with h | h
 . simp at h
 . exact h
theorem Yg4 {acc :List Nat} {x k:Nat} (h:k< acc.length):(acc++[x]).getD k 0=acc.getD k 0:=by
 rw [List.getD_eq_getElem?_getD,List.getD_eq_getElem?_getD,List.getElem?_append_left h]
theorem Y11d {acc :List Nat} {k:Nat} (h:acc.length<=k):acc.getD k 0=0:=by
 rw [List.getD_eq_getElem?_getD,List.getElem?_eq_none h];rfl
theorem Yn1 (ops :Array Oper):∀ (l:List Oper) (acc:List Nat),(∀ (k:Nat) (o:Oper),l[k]? =some o->ops[acc.length+k]? =some o)->Yhm ops acc->Yhm ops (Yck l acc)
 | [],acc,h,hm=>hm
 | o :: l,acc,h,hm=>by
   refine Yn1 ops l (acc++[Ye4 acc o]) (fun k o' hk=> ?_) ?_
   . rw [List.length_append,List.length_singleton,Nat.add_assoc,Nat.add_comm 1 k]
     exact h (k+1) o' (by simpa using hk)
   . intro i hi o' ho' j hj
     have lift:∀ k,(acc.getD k 0).testBit j=true->((acc++[Ye4 acc o]).getD k 0).testBit j=true:=by
       intro k hk
       rcases Nat.lt_or_ge k acc.length with h' | h'
       . rwa [Yg4 h']
       . rw [Y11d h'] at hk;simp at hk
     rw [List.length_append,List.length_singleton] at hi
     rcases Nat.lt_or_ge i acc.length with h' | h'
     . rw [Yg4 h'] at hj
       obtain ⟨e,e1,e2,e3⟩:=hm i h' o' ho' j hj
       exact ⟨e,e1,e2,e3.imp id (lift _)⟩
     . have hi':i=acc.length:=by omega
       subst hi'
       have ho:=h 0 o (by simp)
       rw [Nat.add_zero,ho'] at ho
       obtain rfl:=Option.some.inj ho
       rw [List.getD_eq_getElem?_getD,List.getElem?_append_right (Nat.le_refl _),Nat.sub_self] at hj
       obtain ⟨e,e1,e2,e3⟩:=Ytl acc o' j (by simpa using hj)
       exact ⟨e,e1,e2,e3.imp id (lift _)⟩
theorem Ydt :∀ {l:List Oper} {k:Nat},Y8u l k=true->∀ (i:Nat) (o:Oper),l[i]? =some o->∀ e,e∈o.after.toList->Region.binds .any e=true->e.on< k+i
 | [],k,h,i,o,hi,e,he,hb=>by simp at hi
 | x :: l,k,h,i,o,hi,e,he,hb=>by
   simp only [Y8u,Bool.and_eq_true] at h
   cases i with
   | zero=>
     simp only [List.getElem?_cons_zero,Option.some.injEq] at hi
     subst hi
     have:=List.all_eq_true.1 h.1 e he
     rw [hb] at this
     simp only [Bool.not_true,Bool.false_or] at this
     exact Nat.le_of_ble_eq_true this
   | succ i=>
     have:=Ydt h.2 i o (by simpa using hi) e he hb
     omega
theorem Yg5 {ms :List Nat}:∀ {rs:List (Nat× Rec)},Ybx ms rs=true->∀ (A B:List (Nat× Rec)) (p q:Nat× Rec),rs=A++q :: B->p∈A->(ms.getD q.1 0).testBit p.1=true\/Yfj p.2 q.2=true
 | [],h,A,B,p,q,e,hp=>by simp at e
 | (j,rj) :: rest,h,A,B,p,q,e,hp=>by
   simp only [Ybx,Bool.and_eq_true] at h
   cases A with
   | nil=>simp at hp
   | cons x A=>
     simp only [List.cons_append,List.cons.injEq] at e
     obtain ⟨rfl,e⟩:=e
     rcases List.mem_cons.1 hp with rfl | hp
     . have:=List.all_eq_true.1 h.1 q (by rw [e];simp)
       simpa using this
     . exact Yg5 h.2 A B p q e hp
section
variable {P : Program} {ty : Ty} {n : Nat} {w0 : World} {S im0 bo : Nat -> Prop} {V : Env} {ops : Array Oper} {res : List (Nat × Out)} {F : Nat -> Rec}
def Down (ops :Array Oper) (listed:Array Bool):Prop:=∀ (i:Nat) (o:Oper),listed.getD i false=true->ops[i]? =some o->∀ e,e∈o.after.toList->Region.binds .any e=true->listed.getD e.on false=true
theorem Ywn {ms :List Nat} (hm:Yhm ops ms) (hb:∀ (i:Nat) (o:Oper),ops[i]? =some o->∀ e,e∈o.after.toList->Region.binds .any e=true->e.on< i) (hl:ms.length=ops.size) {listed:Array Bool} (hd:Down ops listed):
   ∀ (i:Nat) (o:Oper),ops[i]? =some o->(∀ e,e∈o.after.toList->Region.binds .any e=true->listed.getD e.on false=true)->∀ j,(ms.getD i 0).testBit j=true->listed.getD j false=true:=by
 intro i
 induction i using Nat.strongRecOn with
 | _ i ih=>
   intro o ho he j hj
   have hi:i< ops.size:=by
     rcases Nat.lt_or_ge i ops.size with h | h
     . exact h
     . rw [Array.getElem?_eq_none h] at ho;simp at ho
   obtain ⟨e,e1,e2,e3⟩:=hm i (by omega) o ho j hj
   have hon:=he e e1 e2
   rcases e3 with rfl | e3
   . exact hon
   . have hlt:=hb i o ho e e1 e2
     have ho':ops[e.on]? =some ops[e.on]:=Array.getElem?_eq_getElem (by omega)
     exact ih e.on hlt _ ho' (fun e' h1 h2=>hd e.on _ hon ho' e' h1 h2) j e3
theorem Ye7 :∀ (l:List Oper) (acc:List Nat),(Yck l acc).length=acc.length+l.length
 | [],acc=>by simp [Yck]
 | o :: l,acc=>by simp [Yck,Ye7 l];omega
theorem getD_set {a :Array Bool} {i j:Nat} (hi:i< a.size):(a.setIfInBounds i true).getD j false=(if i=j then true else a.getD j false):=by
 simp only [Array.getD,Array.size_setIfInBounds]
 by_cases h:j< a.size
 . simp only [h,dite_true]
   by_cases e:i=j
   . subst e
     simp
   . rw [if_neg e]
     show (a.setIfInBounds i true)[j]'(by simpa using h)=a[j]
     rw [Array.getElem_setIfInBounds,if_neg e]
 . simp only [h,dite_false]
   rw [if_neg (by omega)]
theorem Yg6 {N i :Nat} (h:i< N):∃ l1 l2,List.range N=l1++i :: l2/\(∀ a,a∈l1->a< i)/\(∀ a,a∈l2->i< a):=by
 obtain ⟨l1,l2,e⟩:=List.append_of_mem (List.mem_range.2 h)
 have hp:List.Pairwise (· <·) (l1++i :: l2):=e ▸ List.pairwise_lt_range
 rw [List.pairwise_append,List.pairwise_cons] at hp
 exact ⟨l1,l2,e,fun a ha=>hp.2.2 a ha i List.mem_cons_self,fun a ha=>hp.2.1.1 a ha⟩
theorem Y17a (ht :Y2p P ty) {sF:St} {Q:Exit->Act->World->Prop} {ms:List Nat} (hm:Yhm ops ms) (hl:ms.length=ops.size) (hb:∀ (i:Nat) (o:Oper),ops[i]? =some o->∀ e,e∈o.after.toList->Region.binds .any e=true->e.on< i)
   (hpair:∀ a i,a< i->i< ops.size->(ms.getD i 0).testBit a=true\/Yfj (F a) (F i)=true) (hq:∀ a' w' im' Qa,Rel n w0 S im0 bo V im' Qa sF a' w'->Q .normal a' w'):
   ∀ (fuel:Nat) (listed:Array Bool) (s:St) (im:Nat->Prop) (I:Env) (a:Act) (w:World),listed.size=ops.size->((List.range ops.size).filter fun i=> !listed.getD i false).length<=fuel->Down ops listed->
     Ybi P ty n ops res F ((List.range ops.size).filter fun i=> !listed.getD i false) s sF->Rel n w0 S im0 bo V im I s a w->wpAny P .any ops Q fuel listed a w:=by
 have hready:∀ (listed:Array Bool),listed.size=ops.size->Down ops listed->Region.ready .any ops listed=[]->((List.range ops.size).filter fun i=> !listed.getD i false)=[]:=by
   intro listed hs hd hr
   rw [List.filter_eq_nil_iff]
   intro i hi
   rw [List.mem_range] at hi
   induction i using Nat.strongRecOn with
   | _ i ih=>
     intro hc
     have:i∈Region.ready .any ops listed:=by
       unfold Region.ready
       rw [List.mem_filter,List.mem_range]
       refine ⟨hi,?_⟩
       have ho:ops[i]? =some ops[i]:=Array.getElem?_eq_getElem hi
       have hc':listed.getD i true=false:=by
         simp only [Array.getD] at hc ⊢
         rw [dif_pos (by omega)] at hc ⊢
         simpa using hc
       simp only [hc',Bool.not_false,Bool.true_and,ho,Option.map_some,Option.getD_some]
       rw [Array.all_eq_true_iff_forall_mem]
       intro e he
       have he':e∈ops[i].after.toList:=Array.mem_toList_iff.2 he
       cases hbe:Region.binds .any e with
       | false=>simp
       | true=>
         have hlt:=hb i _ ho e he' hbe
         have:=ih e.on hlt (by omega)
         simpa using this
     rw [hr] at this
     simp at this
 intro fuel
 induction fuel with
 | zero=>
   intro listed s im I a w hs hlen hd hrun hrel
   have hnil:((List.range ops.size).filter fun i=> !listed.getD i false)=[]:=List.eq_nil_of_length_eq_zero (by omega)
   refine ⟨?_,?_⟩
   . unfold Region.ready
     rw [List.filter_eq_nil_iff] at hnil ⊢
     intro i hi hc
     have:=hnil i hi
     rw [List.mem_range] at hi
     simp only [Bool.and_eq_true] at hc
     apply this
     have h1:=hc.1
     simp only [Array.getD] at h1 ⊢
     rw [dif_pos (by omega)] at h1 ⊢
     exact h1
   . rw [hnil] at hrun
     exact hq _ _ _ _ (hrel.same_st hrun)
 | succ fuel ih=>
   intro listed s im I a w hs hlen hd hrun hrel
   refine ⟨fun hr=> ?_,fun i hi=> ?_⟩
   . rw [hready listed hs hd hr] at hrun
     exact hq _ _ _ _ (hrel.same_st hrun)
   . unfold Region.ready at hi
     rw [List.mem_filter,List.mem_range] at hi
     obtain ⟨hiN,hc⟩:=hi
     simp only [Bool.and_eq_true] at hc
     have ho:ops[i]? =some ops[i]:=Array.getElem?_eq_getElem hiN
     have hli:listed.getD i false=false:=by
       have h1:=hc.1
       simp only [Array.getD] at h1 ⊢
       rw [dif_pos (by omega)] at h1 ⊢
       simpa using h1
     have hedge:∀ e,e∈ops[i].after.toList->Region.binds .any e=true->listed.getD e.on false=true:=by
       intro e he hbe
       have h2:=hc.2
       rw [ho] at h2
       simp only [Option.map_some,Option.getD_some] at h2
       rw [Array.all_eq_true_iff_forall_mem] at h2
       have:=h2 e (Array.mem_toList_iff.1 he)
       rw [hbe] at this
       simpa using this
     obtain ⟨l1,l2,hsplit,hlt1,hlt2⟩:=Yg6 hiN
     have hfil:((List.range ops.size).filter fun i=> !listed.getD i false)=(l1.filter fun i=> !listed.getD i false)++i :: (l2.filter fun i=> !listed.getD i false):=by
       rw [hsplit,List.filter_append,List.filter_cons,if_pos (by simp [hli])]
     rw [hfil] at hrun hlen
     have hfront:=hrun.front (fun x hx=>by
       rw [List.mem_filter] at hx
       have hxi:=hlt1 x hx.1
       rcases hpair x i hxi hiN with h | h
       . have:=Ywn hm hb hl hd i _ ho hedge x h
         rw [this] at hx
         simp at hx
       . exact h)
     obtain ⟨o,e,l,g1,g2,g3,g4,g5,g6⟩:=hfront
     rw [ho] at g1
     obtain rfl:=Option.some.inj g1
     have hnew:((List.range ops.size).filter fun k=> !(listed.setIfInBounds i true).getD k false)=(l1.filter fun i=> !listed.getD i false)++(l2.filter fun i=> !listed.getD i false):=by
       rw [hsplit,List.filter_append,List.filter_cons,if_neg (by rw [getD_set (by omega)];simp)]
       congr 1
       . apply List.filter_congr
         intro x hx
         rw [getD_set (by omega),if_neg (by have:=hlt1 x hx;omega)]
       . apply List.filter_congr
         intro x hx
         rw [getD_set (by omega),if_neg (by have:=hlt2 x hx;omega)]
     unfold wpOp
     rw [ho]
     simp only
     refine Ye6 ht hrel g3 g4 g2 fun a' w' im' Qa hr'=> ?_
     refine ih (listed.setIfInBounds i true) (s.after ops[i] e) im' Qa a' w' (by simpa using hs) ?_ ?_ ?_ hr'
     . rw [hnew]
       simp only [List.length_append,List.length_cons] at hlen ⊢
       omega
     . intro k o' hk ho' e' he' hbe
       rw [getD_set (by omega)] at hk ⊢
       by_cases hki:i=k
       . subst hki
         rw [ho] at ho'
         obtain rfl:=Option.some.inj ho'
         split
         . rfl
         . exact hedge e' he' hbe
       . rw [if_neg hki] at hk
         split
         . rfl
         . exact hd k o' hk ho' e' he' hbe
     . rw [hnew]
       exact g6
theorem Yr8 (ht :Y2p P ty) (hmix:P.follows .mixedOrders=true) {id:Nat} {draw:Bool} {s s':St} {os:List Prop} {im:Nat->Prop} {I:Env} {a:Act} {w:World} {Q:Exit->Act->World->Prop} (h:Yfk P ty n ops draw res s=some (s',os)) (ho:Ya3 os)
   (hr:Rel n w0 S im0 bo V im I s a w) (hq:∀ a' w' im' Qa,Rel n w0 S im0 bo V im' Qa s' a' w'->Q .normal a' w'):(Code.region id ops draw).wp P Q a w:=by
 unfold Yfk at h
 cases hrun:runL P ty n ops res (List.range ops.size) s with
 | none=>rw [hrun] at h;simp at h
 | some p=>
 obtain ⟨s1,rs,os1⟩:=p
 rw [hrun] at h
 simp only at h
 cases hc:(!draw||(Y8u ops.toList 0&&Ybx (Yck ops.toList []) rs)) with
 | false=>rw [hc] at h;simp at h
 | true=>
 rw [hc] at h
 simp only [cond_true,Option.some.injEq,Prod.mk.injEq] at h
 obtain ⟨rfl,rfl⟩:=h
 have hos:=fun p hp=>Y66 ho p hp
 cases draw with
 | false=>exact wp_region (Y11b ht hrun hos hr hq)
 | true=>
   simp only [Bool.not_true,Bool.false_or,Bool.and_eq_true] at hc
   have hb:∀ (i:Nat) (o:Oper),ops[i]? =some o->∀ e,e∈o.after.toList->Region.binds .any e=true->e.on< i:=by
     intro i o hi e he hbe
     have:=Ydt hc.1 i o (by rwa [Array.getElem?_toList]) e he hbe
     omega
   have hkeys:=Ykw hrun
   have hF:∀ p,p∈rs->((look rs p.1).getD default)=p.2:=by
     intro p hp
     obtain ⟨A,B,e⟩:=List.append_of_mem hp
     have hnd:(rs.map (·.1)).Nodup:=hkeys ▸ List.nodup_range
     rw [e,List.map_append,List.map_cons,List.nodup_append,List.nodup_cons] at hnd
     have h1:look A p.1=none:=Yaw fun hm=>hnd.2.2 _ hm _ List.mem_cons_self rfl
     rw [e,Yg2,h1]
     obtain ⟨k,r⟩:=p
     simp [Y1t]
   refine wp_region_any hmix (Y17a (F:=fun i=>(look rs i).getD default) (sF:=s1) (res:=res) ht (Yn1 ops ops.toList [] (fun k o hk=>by simpa using hk) (fun i hi=>by simp at hi)) (by rw [Ye7];simp) hb ?_ hq ops.size _ s im I a _ (by simp) ?_ ?_ ?_ (hr.same rfl rfl rfl rfl))
   . intro x i hxi hi
     have hr1:∀ k,k< ops.size->∃ r,(k,r)∈rs/\(look rs k).getD default=r:=by
       intro k hk
       have:k∈rs.map (·.1):=by rw [hkeys];exact List.mem_range.2 hk
       obtain ⟨⟨k',r⟩,h1,rfl⟩:=List.mem_map.1 this
       exact ⟨r,h1,hF _ h1⟩
     obtain ⟨l1,l2,hsplit,hlt1,hlt2⟩:=Yg6 hi
     obtain ⟨ri,hri,ei⟩:=hr1 i hi
     obtain ⟨rx,hrx,ex⟩:=hr1 x (by omega)
     obtain ⟨A,B,e⟩:=List.append_of_mem hri
     have hAk:∀ k,k∈A.map (·.1)↔k∈l1:=by
       have h1:=hkeys
       rw [e,List.map_append,List.map_cons,hsplit] at h1
       have h2:A.map (·.1)=l1:=by
         have hnd:(l1++i :: l2).Nodup:=hsplit ▸ List.nodup_range
         clear hrun hr1 hF e hri hrx
         generalize A.map (·.1)=A' at h1 ⊢
         generalize B.map (·.1)=B' at h1
         have hA:i ∉ A':=by
           rw [<- h1,List.nodup_append] at hnd
           intro hm
           exact hnd.2.2 i hm i List.mem_cons_self rfl
         have hL:i ∉ l1:=fun hm=>Nat.lt_irrefl _ (hlt1 i hm)
         clear hnd hsplit hlt1 hlt2
         induction A' generalizing l1 with
         | nil=>
           cases l1 with
           | nil=>rfl
           | cons y l1=>
             simp only [List.nil_append,List.cons_append,List.cons.injEq] at h1
             exact absurd (by rw [<- h1.1];exact List.mem_cons_self) hL
         | cons z A' ih'=>
           cases l1 with
           | nil=>
             simp only [List.nil_append,List.cons_append,List.cons.injEq] at h1
             exact absurd (by rw [h1.1];exact List.mem_cons_self) hA
           | cons y l1=>
             simp only [List.cons_append,List.cons.injEq] at h1
             rw [h1.1,ih' (l1:=l1) h1.2 (fun h=>hA (List.mem_cons_of_mem _ h)) (fun h=>hL (List.mem_cons_of_mem _ h))]
       intro k;rw [h2]
     have hxA:(x,rx)∈A:=by
       rw [e] at hrx
       rcases List.mem_append.1 hrx with h | h
       . exact h
       . exfalso
         have hxl:x∈l1:=by
           have:x∈List.range ops.size:=List.mem_range.2 (by omega)
           rw [hsplit] at this
           rcases List.mem_append.1 this with h' | h'
           . exact h'
           . rcases List.mem_cons.1 h' with h' | h'
             . omega
             . have:=hlt2 x h';omega
         obtain ⟨⟨x',r'⟩,hm,hx'⟩:=List.mem_map.1 ((hAk x).2 hxl)
         simp only at hx'
         subst hx'
         have hnd:(rs.map (·.1)).Nodup:=hkeys ▸ List.nodup_range
         rw [e,List.map_append,List.nodup_append] at hnd
         exact hnd.2.2 x' (List.mem_map.2 ⟨_,hm,rfl⟩) x' (List.mem_map.2 ⟨_,h,rfl⟩) rfl
     have:=Yg5 hc.2 A B (x,rx) (i,ri) e hxA
     rw [ex,ei]
     exact this
   . have:((List.range ops.size).filter fun i=> !(Array.replicate ops.size false).getD i false).length<=(List.range ops.size).length:=List.length_filter_le _ _
     simpa using this
   . intro i o hi
     simp only [Array.getD] at hi
     split at hi <;> simp at hi
   . have e:((List.range ops.size).filter fun i=> !(Array.replicate ops.size false).getD i false)=List.range ops.size:=by
       rw [List.filter_eq_self]
       intro i hi
       simp only [Array.getD]
       split <;> simp
     rw [e]
     exact Yrs hrun hos hF
end
end Go.Proofs.YtpdcnikdoikldaaGreatDoor.Sv
