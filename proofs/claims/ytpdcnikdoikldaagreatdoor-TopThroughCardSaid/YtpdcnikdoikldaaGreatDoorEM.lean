import Derived.Test.YtpdcnikdoikldaaGreatDoorEP0
set_option linter.unusedVariables false
set_option linter.unusedSimpArgs false
namespace Go.Proofs.YtpdcnikdoikldaaGreatDoor.Pu
open Go Go.RowKit Go.Proofs.YtpdcnikdoikldaaGreatDoor.Sv Go.Proofs.YtpdcnikdoikldaaGreatDoor.Lf
def Y5l (cs :List Y3) (i:Nat):Bool:=
 !decide (0<=(cs.getD i default).Id/\(cs.getD i default).Id< 256)||(!decide (1<=(cs.getD i default).Weight/\(cs.getD i default).Weight<=16)||(decide (0< i)&&decide ((cs.getD (i - 1) default).Id>=(cs.getD i default).Id)))
def Y9d (cs :List Y3):Bool:=((List.range' 0 cs.length).all fun j=> !Y5l cs j)&&decide (cs.length<=16)
theorem Yzr (N :Nat) (w:Int):J7d N w=some (decide (1<=w/\w<=16)):=by
 unfold J7d J7c
 rw [Y8i]
 congr 1
 by_cases a:w>=1 <;> by_cases b:w<=16 <;> simp [a,b] <;> omega
theorem Y147 (N :Nat) (cs:List Y3) (hc:cs.length<=140737488355328):∀ (d fuel i:Nat),cs.length=i+d->d< fuel->
   J1l N fuel cs cs (cs.length:Int) (i:Int)=some (((List.range' i d).all fun j=> !Y5l cs j)&&decide (cs.length<=16)):=by
 intro d
 induction d with
 | zero=>
   intro fuel i hi hf
   obtain ⟨fuel,rfl⟩:∃ f,fuel=f+1:=⟨fuel - 1,by omega⟩
   rw [J1l]
   refine Yt (by omega) ?_
   simp only [List.range'_zero,List.all_nil,Bool.true_and]
   congr 1
   exact decide_eq_decide.2 (by omega)
 | succ d ih=>
   intro fuel i hi hf
   obtain ⟨fuel,rfl⟩:∃ f,fuel=f+1:=⟨fuel - 1,by omega⟩
   rw [J1l,List.range'_succ,List.all_cons,Bool.and_assoc]
   unfold J3y
   refine Yj (by omega) (Yb (by omega) ?_)
   rw [Int.toNat_natCast,in8,Yzr]
   have hn:=ih fuel (i+1) (by omega) (by omega)
   have w1:IntKind.i64.wrap ((i:Int)+1)=((i+1:Nat):Int):=by rw [w64 (by omega) (by omega)];omega
   rw [w1]
   by_cases a:0<=(cs.getD i default).Id/\(cs.getD i default).Id< 256
   . by_cases b:1<=(cs.getD i default).Weight/\(cs.getD i default).Weight<=16
     . rw [decide_eq_true a,decide_eq_true b]
       refine stB rfl (Yi (stB rfl (Yi ?_)))
       by_cases c:0< i
       . have w2:(IntKind.i64.wrap ((i:Int) - 1)).toNat=i - 1:=by rw [w64 (by omega) (by omega)];omega
         have w3:IntKind.i64.wrap ((i:Int) - 1)=((i - 1:Nat):Int):=by rw [w64 (by omega) (by omega)];omega
         refine Yj (by omega) (Yb (by rw [w3];omega) (Y15 ?_))
         rw [w2]
         by_cases e:(cs.getD (i - 1) default).Id>=(cs.getD i default).Id
         . rw [decide_eq_true e,show Y5l cs i=true by unfold Y5l;rw [decide_eq_true a,decide_eq_true b,decide_eq_true c,decide_eq_true e];rfl]
           rfl
         . rw [decide_eq_false e,show Y5l cs i=false by unfold Y5l;rw [decide_eq_true a,decide_eq_true b,decide_eq_true c,decide_eq_false e];rfl]
           exact hn
       . refine Yt (by omega) ?_
         rw [show Y5l cs i=false by unfold Y5l;rw [decide_eq_true a,decide_eq_true b,decide_eq_false c];rfl]
         exact hn
     . rw [decide_eq_true a,decide_eq_false b,show Y5l cs i=true by unfold Y5l;rw [decide_eq_true a,decide_eq_false b];rfl]
       rfl
   . rw [decide_eq_false a,show Y5l cs i=true by unfold Y5l;rw [decide_eq_false a];rfl]
     rfl
theorem Ysg (N :Nat) (cs:List Y3) (hc:cs.length<=140737488355328) (hN:cs.length< N):Jb0 N cs=some (Y9d cs):=Y147 N cs hc cs.length N 0 (by omega) hN
def okW (r :Yh):Prop:=∃ a s:Nat,a< 31/\1<=s/\s<=30/\r=⟨(a:Int),(s:Int)⟩
def Yh2 (rows :List Yh):Prop:=∀ r∈rows,okW r
theorem Yq7 {rows :List Yh} (h:Yh2 rows) (i:Nat) {r:Yh} (hr:okW r):Yh2 (rows.set i r):=by
 intro x hx
 rcases List.mem_or_eq_of_mem_set hx with h' | rfl
 . exact h x h'
 . exact hr
theorem Y180 {rows :List Yh} (h:Yh2 rows) {i:Nat} (hi:i< rows.length):okW (rows.getD i default):=by
 rw [List.getD_eq_getElem?_getD,List.getElem?_eq_getElem hi]
 exact h _ (List.getElem_mem _)
theorem getD_set {U :Type} [Inhabited U] (l:List U) (i:Nat) (x:U) (h:i< l.length):(l.set i x).getD i default=x:=by
 rw [List.getD_eq_getElem?_getD,List.getElem?_set_self h]
 rfl
theorem set_set {U :Type} (l:List U) (i:Nat) (x y:U):(l.set i x).set i y=l.set i y:=by rw [List.set_set]
theorem Y181 :∀ d:Fin 31,∀ s:Fin 31,s.val≠0->∃ j:Fin 31,(j.val*s.val) % 31=d.val:=by decide +kernel
theorem Y1fw {a s q :Nat} (ha:a< 31) (hs:1<=s) (hs2:s<=30) (hq:q< 31):∃ j,j< 31/\(a+j*s) % 31=q:=by
 obtain ⟨j,hj⟩:=Y181 ⟨(q+31 - a) % 31,Nat.mod_lt _ (by decide)⟩ ⟨s,by omega⟩ (by simp;omega)
 refine ⟨j.val,j.isLt,?_⟩
 simp only at hj
 rw [Nat.add_mod,hj]
 omega
theorem Yzs {N :Nat} (T:List Int) (hT:T.length=31) (id:Int) (i:Nat):∀ (j fuel:Nat) (rows:List Yh),Yh2 rows->i< rows.length->∀ a s:Nat,rows.getD i default=⟨(a:Int),(s:Int)⟩->a< 31->1<=s->s<=30->T.getD ((a+j*s) % 31) default= -1->j< fuel->
   ∃ p,p< 31/\T.getD p default= -1/\J2o N fuel i rows T id=some (rows.set i ⟨(p:Int),(s:Int)⟩,T.set p id):=by
 intro j
 induction j with
 | zero=>
   intro fuel rows hr hi a s hrow ha hs hs2 hq hf
   obtain ⟨fuel,rfl⟩:∃ f,fuel=f+1:=⟨fuel - 1,by omega⟩
   rw [Nat.zero_mul,Nat.add_zero,Nat.mod_eq_of_lt ha] at hq
   refine ⟨a,ha,hq,?_⟩
   rw [J2o]
   simp only [hrow,Int.toNat_natCast]
   refine Yb (by omega) (Yb (by omega) (Y1p hq (Yb (by omega) ?_)))
   have:rows.set i ⟨(a:Int),(s:Int)⟩=rows:=by
     rw [<- hrow,List.getD_eq_getElem?_getD,List.getElem?_eq_getElem hi]
     exact List.set_getElem_self hi
   rw [this]
 | succ j ih=>
   intro fuel rows hr hi a s hrow ha hs hs2 hq hf
   obtain ⟨fuel,rfl⟩:∃ f,fuel=f+1:=⟨fuel - 1,by omega⟩
   by_cases c:T.getD a default= -1
   . refine ⟨a,ha,c,?_⟩
     rw [J2o]
     simp only [hrow,Int.toNat_natCast]
     refine Yb (by omega) (Yb (by omega) (Y1p c (Yb (by omega) ?_)))
     have:rows.set i ⟨(a:Int),(s:Int)⟩=rows:=by
       rw [<- hrow,List.getD_eq_getElem?_getD,List.getElem?_eq_getElem hi]
       exact List.set_getElem_self hi
     rw [this]
   . have hn:J7g N i rows=some (rows.set i ⟨(((a+s) % 31:Nat):Int),(s:Int)⟩):=by
       unfold J7g
       simp only [hrow]
       refine Yb (by omega) (Y15 ?_)
       rw [w64 (by omega) (by omega),Int.tmod_eq_emod_of_nonneg (by omega)]
       rfl
     have hw:okW ⟨(((a+s) % 31:Nat):Int),(s:Int)⟩:=⟨_,_,Nat.mod_lt _ (by decide),hs,hs2,rfl⟩
     obtain ⟨p,p1,p2,p3⟩:=ih fuel (rows.set i ⟨(((a+s) % 31:Nat):Int),(s:Int)⟩) (Yq7 hr i hw) (by rw [List.length_set];exact hi) ((a+s) % 31) s (getD_set _ _ _ hi) (Nat.mod_lt _ (by decide)) hs hs2 (by
       have:((a+s) % 31+j*s) % 31=(a+(j+1)*s) % 31:=by rw [Nat.succ_mul];omega
       rw [this];exact hq) (by omega)
     refine ⟨p,p1,p2,?_⟩
     rw [J2o]
     simp only [hrow,Int.toNat_natCast]
     refine Yb (by omega) (Yb (by omega) (Y25 c (stB hn (Yb (by rw [List.length_set]) ?_))))
     rw [p3,set_set]
structure Inv (n :Nat) (T:List Int) (rows:List Yh) (left:Nat):Prop where
 tl:T.length=31
 n:rows.length=n
 ok:Yh2 rows
 left:T.count (-1)=left
theorem Y182 {N :Nat} (hN:1000<=N) {n left:Nat} {T:List Int} {rows:List Yh} (h:Inv n T rows (left+1)) {i:Nat} (hi:i< n) {id:Int} (hid:0<=id):
   ∃ T' rows',J7h N i rows T id=some (rows',T')/\Inv n T' rows' left/\T'.count id=T.count id+1/\∀ x,x≠id->x≠-1->T'.count x=T.count x:=by
 have hir:i< rows.length:=by rw [h.n];exact hi
 obtain ⟨a,s,ha,hs,hs2,hrow⟩:=Y180 h.ok hir
 have hmem:(-1:Int)∈T:=List.count_pos_iff.1 (by rw [h.left];omega)
 obtain ⟨q,hq,hq2⟩:=List.getElem_of_mem hmem
 obtain ⟨j,hj,hj2⟩:=Y1fw ha hs hs2 (show q< 31 by rw [<- h.tl];exact hq)
 obtain ⟨p,p1,p2,p3⟩:=Yzs (N:=N) T h.tl id i j N rows h.ok hir a s hrow ha hs hs2 (by rw [hj2,List.getD_eq_getElem?_getD,List.getElem?_eq_getElem hq,hq2];rfl) (by omega)
 have hp:p< T.length:=by rw [h.tl];exact p1
 have hTp:T[p]= -1:=by rw [List.getD_eq_getElem?_getD,List.getElem?_eq_getElem hp] at p2;exact p2
 refine ⟨T.set p id,rows.set i ⟨(p:Int),(s:Int)⟩,?_,⟨by rw [List.length_set];exact h.tl,by rw [List.length_set];exact h.n,Yq7 h.ok i ⟨p,s,p1,hs,hs2,rfl⟩,?_⟩,?_,?_⟩
 . unfold J7h
   exact Yb (by omega) p3
 . rw [List.count_set hp,hTp,h.left]
   have:(id==(-1:Int))=false:=by rw [beq_eq_false_iff_ne];omega
   rw [this]
   simp
 . rw [List.count_set hp,hTp]
   have:((-1:Int)==id)=false:=by rw [beq_eq_false_iff_ne];omega
   rw [this]
   simp
 . intro x hx hx2
   rw [List.count_set hp,hTp]
   have e1:((-1:Int)==x)=false:=by rw [beq_eq_false_iff_ne];omega
   have e2:(id==x)=false:=by rw [beq_eq_false_iff_ne];exact fun e=>hx e.symm
   rw [e1,e2]
   simp
end Go.Proofs.YtpdcnikdoikldaaGreatDoor.Pu
namespace Go.Proofs.YtpdcnikdoikldaaGreatDoor.Pu
open Go Go.RowKit Go.Proofs.YtpdcnikdoikldaaGreatDoor.Sv Go.Proofs.YtpdcnikdoikldaaGreatDoor.Lf
theorem Y183 {N :Nat} (hN:1000<=N) {n:Nat} (r2:List Y3->List Int->List Yh->Int->Option (List Int× Int)) (r3:List Y3->List Int->List Yh->Int->List Y3->Int->Int->Option (List Int× Int)) (cs:List Y3) {i:Nat} (hi:i< n) {id:Int} (W:Int) (hid:0<=id) (t34:List Y3) (t35 t36:Int):
   ∀ (k fuel left:Nat) (T:List Int) (rows:List Yh),Inv n T rows (left+k)->k< fuel->left+k<=31->
   ∃ T' rows',Inv n T' rows' left/\T'.count id=T.count id+k/\(∀ x,x≠id->x≠-1->T'.count x=T.count x)/\
     J3z N r2 r3 fuel cs T rows ((left+k:Nat):Int) (i:Int) id W (k:Int) t34 t35 t36=r3 cs T' rows' (left:Int) t34 t35 (IntKind.i64.wrap (t36+1)):=by
 intro k
 induction k with
 | zero=>
   intro fuel left T rows h hf hl
   obtain ⟨fuel,rfl⟩:∃ f,fuel=f+1:=⟨fuel - 1,by omega⟩
   refine ⟨T,rows,h,by omega,fun _ _ _=>rfl,?_⟩
   rw [J3z]
   exact Yt (by omega) rfl
 | succ k ih=>
   intro fuel left T rows h hf hl
   obtain ⟨fuel,rfl⟩:∃ f,fuel=f+1:=⟨fuel - 1,by omega⟩
   obtain ⟨T1,rows1,e1,h1,c1,o1⟩:=Y182 hN (left:=left+k) h hi hid
   obtain ⟨T2,rows2,h2,c2,o2,e2⟩:=ih fuel left T1 rows1 h1 (by omega) (by omega)
   refine ⟨T2,rows2,h2,by omega,fun x hx hx2=>(o2 x hx hx2).trans (o1 x hx hx2),?_⟩
   rw [J3z]
   have w1:IntKind.i64.wrap (((left+(k+1):Nat):Int) - 1)=((left+k:Nat):Int):=by rw [w64 (by omega) (by omega)];omega
   have w2:IntKind.i64.wrap (((k+1:Nat):Int) - 1)=(k:Int):=by rw [w64 (by omega) (by omega)];omega
   have hr:=h.n
   refine Yj (by omega) (Yb (by omega) ?_)
   rw [Int.toNat_natCast,w1,w2]
   refine stB e1 (Yb (by rw [h1.n,h.n]) (Yb (by rw [h1.tl,h.tl]) ?_))
   exact e2
def rd :List Nat->Nat->Nat× List Nat->Nat× List Nat
 | [],_,s=>s
 | w :: ws,i,(l,c)=>rd ws (i+1) (l - min w l,c.set i (c.getD i 0+min w l))
def Y58 (ws :List Nat):Nat->Nat× List Nat->List Nat
 | 0,s=>s.2
 | _+1,(0,c)=>c
 | f+1,(l+1,c)=>Y58 ws f (rd ws 0 (l+1,c))
theorem Y16t :∀ (ws:List Nat) (i l:Nat) (c:List Nat),(rd ws i (l,c)).1<=l
 | [],i,l,c=>Nat.le_refl _
 | w :: ws,i,l,c=>Nat.le_trans (Y16t ws (i+1) _ _) (Nat.sub_le _ _)
theorem rd_len :∀ (ws:List Nat) (i l:Nat) (c:List Nat),(rd ws i (l,c)).2.length=c.length
 | [],i,l,c=>rfl
 | w :: ws,i,l,c=>(rd_len ws (i+1) _ _).trans (by rw [List.length_set])
structure Good (cs :List Y3):Prop where
 len:cs.length<=16
 id:∀ i,i< cs.length->0<=(cs.getD i default).Id/\(cs.getD i default).Id< 256
 w:∀ i,i< cs.length->1<=(cs.getD i default).Weight/\(cs.getD i default).Weight<=16
 up:∀ j i,i< j->j< cs.length->(cs.getD i default).Id< (cs.getD j default).Id
theorem Ysh {cs :List Y3} (h:Y9d cs=true):Good cs:=by
 unfold Y9d at h
 rw [Bool.and_eq_true,List.all_eq_true,decide_eq_true_eq] at h
 have hb:∀ i,i< cs.length->Y5l cs i=false:=fun i hi=>by
   have:=h.1 i (by rw [List.mem_range'_1];omega)
   simpa using this
 have hp:∀ i,i< cs.length->(0<=(cs.getD i default).Id/\(cs.getD i default).Id< 256)/\(1<=(cs.getD i default).Weight/\(cs.getD i default).Weight<=16)/\(0< i->(cs.getD (i - 1) default).Id< (cs.getD i default).Id):=fun i hi=>by
   have:=hb i hi
   unfold Y5l at this
   simp only [Bool.or_eq_false_iff,Bool.and_eq_false_iff,Bool.not_eq_false',decide_eq_true_eq,decide_eq_false_iff_not] at this
   omega
 refine ⟨h.2,fun i hi=>(hp i hi).1,fun i hi=>(hp i hi).2.1,?_⟩
 intro j
 induction j with
 | zero=>intro i hi;omega
 | succ j ih=>
   intro i hi hj
   have h1:=(hp (j+1) hj).2.2 (by omega)
   rw [Nat.add_sub_cancel] at h1
   by_cases c:i=j
   . rw [c];exact h1
   . exact Int.lt_trans (ih i (by omega) (by omega)) h1
theorem Good.ne {cs :List Y3} (h:Good cs) {i j:Nat} (hi:i< cs.length) (hj:j< cs.length) (hij:i≠j):(cs.getD i default).Id≠(cs.getD j default).Id:=by
 rcases Nat.lt_or_gt_of_ne hij with c | c
 . have:=h.up j i c hj;omega
 . have:=h.up i j c hi;omega
structure Cnt (cs :List Y3) (T:List Int) (c:List Nat):Prop where
 len:c.length=cs.length
 at_:∀ j,j< cs.length->T.count (cs.getD j default).Id=c.getD j 0
def wts (cs :List Y3):List Nat:=cs.map fun c=>c.Weight.toNat
theorem Yq8 (cs :List Y3) {i:Nat} (hi:i< cs.length):(wts cs).drop i=(cs.getD i default).Weight.toNat :: (wts cs).drop (i+1):=by
 unfold wts
 rw [List.drop_eq_getElem_cons (by rw [List.length_map];exact hi)]
 simp [List.getD_eq_getElem?_getD,List.getElem?_eq_getElem hi]
theorem Y184 {N :Nat} (hN:1000<=N) {cs:List Y3} (hg:Good cs) (r2:List Y3->List Int->List Yh->Int->Option (List Int× Int)):
   ∀ (d fuel i left:Nat) (T:List Int) (rows:List Yh) (c:List Nat),cs.length=i+d->d< fuel->Inv cs.length T rows left->Cnt cs T c->left<=31->
   ∃ T' rows',Inv cs.length T' rows' (rd ((wts cs).drop i) i (left,c)).1/\Cnt cs T' (rd ((wts cs).drop i) i (left,c)).2/\
     J2p N r2 fuel cs T rows (left:Int) cs (cs.length:Int) (i:Int)=r2 cs T' rows' ((rd ((wts cs).drop i) i (left,c)).1:Int):=by
 intro d
 induction d with
 | zero=>
   intro fuel i left T rows c hi hf hI hC hl
   obtain ⟨fuel,rfl⟩:∃ f,fuel=f+1:=⟨fuel - 1,by omega⟩
   have e:(wts cs).drop i=[]:=List.drop_eq_nil_of_le (by unfold wts;rw [List.length_map];omega)
   rw [e]
   refine ⟨T,rows,hI,hC,?_⟩
   rw [J2p]
   exact Yt (by omega) rfl
 | succ d ih=>
   intro fuel i left T rows c hi hf hI hC hl
   obtain ⟨fuel,rfl⟩:∃ f,fuel=f+1:=⟨fuel - 1,by omega⟩
   have hil:i< cs.length:=by omega
   obtain ⟨hw0,hw1⟩:=hg.w i hil
   obtain ⟨hd0,hd1⟩:=hg.id i hil
   have hlen:=hg.len
   rw [Yq8 cs hil]
   unfold rd
   generalize hk:min (cs.getD i default).Weight.toNat left=k
   have hkl:k<=left:=by omega
   obtain ⟨T1,rows1,h1,c1,o1,e1⟩:=Y183 hN r2 (J2p N r2 fuel) cs hil (cs.getD i default).Weight hd0 cs (cs.length:Int) (i:Int) k N (left - k) T rows (by rw [Nat.sub_add_cancel hkl];exact hI) (by omega) (by omega)
   have hC1:Cnt cs T1 (c.set i (c.getD i 0+k)):=by
     refine ⟨by rw [List.length_set];exact hC.len,fun j hj=> ?_⟩
     by_cases e:j=i
     . subst e
       rw [c1,hC.at_ j hj,List.getD_eq_getElem?_getD (l:=c.set j _),List.getElem?_set_self (by rw [hC.len];exact hj)]
       rfl
     . have hne:=hg.ne hj hil e
       have hjd:=(hg.id j hj).1
       rw [o1 _ hne (by omega),hC.at_ j hj,List.getD_eq_getElem?_getD,List.getD_eq_getElem?_getD,List.getElem?_set_ne (fun x=>e x.symm)]
   obtain ⟨T2,rows2,h2,C2,e2⟩:=ih fuel (i+1) (left - k) T1 rows1 _ (by omega) (by omega) h1 hC1 (by omega)
   refine ⟨T2,rows2,h2,C2,?_⟩
   rw [J2p]
   refine Yj (by omega) (Yb (by omega) (Y15 ?_))
   rw [Int.toNat_natCast]
   have hv:(if decide ((left:Int)< (cs.getD i default).Weight)=true then (left:Int) else (cs.getD i default).Weight)=(k:Int):=by
     by_cases q:(left:Int)< (cs.getD i default).Weight
     . rw [if_pos (decide_eq_true q)];omega
     . rw [if_neg (by rw [decide_eq_true_eq];exact q)];omega
   rw [hv]
   rw [Nat.sub_add_cancel hkl] at e1
   rw [e1,w64 (by omega) (by omega)]
   exact e2
theorem Y185 {N :Nat} (hN:1000<=N) {cs:List Y3} (hg:Good cs) (hne:0< cs.length):
   ∀ (f fuel left:Nat) (T:List Int) (rows:List Yh) (c:List Nat),left<=f->f< fuel->Inv cs.length T rows left->Cnt cs T c->left<=31->
   ∃ T',T'.length=31/\T'.count (-1)=0/\Cnt cs T' (Y58 (wts cs) f (left,c))/\J1m N fuel cs T rows (left:Int)=some (T',0):=by
 intro f
 induction f with
 | zero=>
   intro fuel left T rows c hl hf hI hC h31
   obtain ⟨fuel,rfl⟩:∃ f,fuel=f+1:=⟨fuel - 1,by omega⟩
   obtain rfl:left=0:=by omega
   refine ⟨T,hI.tl,hI.left,hC,?_⟩
   rw [J1m]
   exact Yt (by decide) rfl
 | succ f ih=>
   intro fuel left T rows c hl hf hI hC h31
   obtain ⟨fuel,rfl⟩:∃ f,fuel=f+1:=⟨fuel - 1,by omega⟩
   cases left with
   | zero=>
     refine ⟨T,hI.tl,hI.left,hC,?_⟩
     rw [J1m]
     exact Yt (by decide) rfl
   | succ left=>
     have hlen:=hg.len
     obtain ⟨T1,rows1,h1,C1,e1⟩:=Y184 hN hg (J1m N fuel) cs.length N 0 (left+1) T rows c (by omega) (by omega) hI hC h31
     rw [List.drop_zero] at h1 C1 e1
     have hle:(rd (wts cs) 0 (left+1,c)).1<=left:=by
       have hw:=Yq8 cs hne
       rw [List.drop_zero] at hw
       rw [hw]
       unfold rd
       obtain ⟨w0,_⟩:=hg.w 0 hne
       refine Nat.le_trans (Y16t _ _ _ _) ?_
       omega
     obtain ⟨T2,l2,m2,C2,e2⟩:=ih fuel _ T1 rows1 _ (by omega) (by omega) h1 C1 (by omega)
     refine ⟨T2,l2,m2,C2,?_⟩
     rw [J1m]
     exact Yj (by omega) (e1.trans e2)
def Yvg (id :Int):Yh:=⟨((Yh1 1 id.toNat % 31:Nat):Int),((1+Yh1 2 id.toNat % 30:Nat):Int)⟩
theorem Y148 (N :Nat) (id:Int) (h0:0<=id) (h1:id< 256):J7f N id=some (Yvg id):=by
 obtain ⟨x,rfl⟩:=Int.eq_ofNat_of_zero_le h0
 have m1:=Yfu 1 x
 have m2:=Yfu 2 x
 unfold J7f Yvg
 refine stB (Yzq N 1 x (by decide) (by omega)) (stB (Yzq N 2 x (by decide) (by omega)) (Y15 ?_))
 rw [Int.toNat_natCast,Int.tmod_eq_emod_of_nonneg (by omega),Int.tmod_eq_emod_of_nonneg (by omega),w64 (by omega) (by omega)]
 congr 2
theorem Y186 (id :Int):okW (Yvg id):=⟨_,_,Nat.mod_lt _ (by decide),by omega,by omega,rfl⟩
theorem Y187 {N :Nat} {cs:List Y3} (hg:Good cs) (T:List Int):∀ (d fuel i:Nat) (rows:List Yh),cs.length=i+d->d< fuel->rows.length=i->Yh2 rows->
   ∃ rows',rows'.length=cs.length/\Yh2 rows'/\J40 N fuel cs T rows cs (cs.length:Int) (i:Int)=J1m N N cs T rows' 31:=by
 intro d
 induction d with
 | zero=>
   intro fuel i rows hi hf hr ho
   obtain ⟨fuel,rfl⟩:∃ f,fuel=f+1:=⟨fuel - 1,by omega⟩
   refine ⟨rows,by omega,ho,?_⟩
   rw [J40]
   exact Yt (by omega) rfl
 | succ d ih=>
   intro fuel i rows hi hf hr ho
   obtain ⟨fuel,rfl⟩:∃ f,fuel=f+1:=⟨fuel - 1,by omega⟩
   have hlen:=hg.len
   obtain ⟨d0,d1⟩:=hg.id i (by omega)
   obtain ⟨rows',l1,o1,e1⟩:=ih fuel (i+1) (rows++[Yvg (cs.getD i default).Id]) (by omega) (by omega) (by simp [hr]) (by
     intro x hx
     rcases List.mem_append.1 hx with h | h
     . exact ho x h
     . rw [List.mem_singleton.1 h];exact Y186 _)
   refine ⟨rows',l1,o1,?_⟩
   rw [J40]
   refine Yj (by omega) (Yb (by omega) ?_)
   rw [Int.toNat_natCast,w64 (by omega) (by omega)]
   refine stB (Y148 N _ d0 d1) (Yb ⟨by omega,by omega⟩ ?_)
   exact e1
theorem Yzt :Jb2 281474976710656 (-1) 31=some (List.replicate 31 (-1)):=by decide +kernel
theorem Yvh :J2q 281474976710656 []=some ([],0):=by
 unfold J2q
 refine stB (Ysg _ [] (by decide) (by decide)) ?_
 rfl
theorem Y149 {cs :List Y3} (h:Y9d cs=true) (hne:0< cs.length):
   ∃ T,J2q 281474976710656 cs=some (T,0)/\T.length=31/\T.count (-1)=0/\Cnt cs T (Y58 (wts cs) 31 (31,List.replicate cs.length 0)):=by
 have hg:=Ysh h
 have hlen:=hg.len
 obtain ⟨rows,r1,r2,e1⟩:=Y187 (N:=281474976710656) hg (List.replicate 31 (-1)) cs.length 281474976710656 0 [] (by omega) (by omega) rfl (fun x hx=>by simp at hx)
 obtain ⟨T,t1,t2,t3,e2⟩:=Y185 (N:=281474976710656) (by decide) hg hne 31 281474976710656 31 (List.replicate 31 (-1)) rows (List.replicate cs.length 0) (by omega) (by omega) ⟨by simp,r1,r2,by decide⟩ ⟨by simp,fun j hj=>by
   have:=(hg.id j hj).1
   rw [List.count_replicate,if_neg (by rw [beq_iff_eq];omega),List.getD_eq_getElem?_getD]
   simp [hj]⟩ (by decide)
 refine ⟨T,?_,t1,t2,t3⟩
 unfold J2q
 refine stB (Ysg _ cs (by omega) (by omega)) ?_
 rw [h]
 refine Yi (Yo (by omega) (stB Yzt ?_))
 exact e1.trans e2
end Go.Proofs.YtpdcnikdoikldaaGreatDoor.Pu
namespace Go.Proofs.YtpdcnikdoikldaaGreatDoor.Pu
open Go Go.RowKit Go.Proofs.YtpdcnikdoikldaaGreatDoor.Sv Go.Proofs.YtpdcnikdoikldaaGreatDoor.Lf
theorem Ysi :∀ (c:List Nat) (i x:Nat),i< c.length->(c.set i x).sum+c.getD i 0=c.sum+x
 | [],i,x,h=>by simp at h
 | a :: c,0,x,h=>by simp;omega
 | a :: c,i+1,x,h=>by
   have:=Ysi c i x (by simpa using h)
   simp only [List.set_cons_succ,List.sum_cons,List.getD_cons_succ]
   omega
theorem Yg8 (c :List Nat) {i j:Nat} (x:Nat) (h:j≠i):(c.set i x).getD j 0=c.getD j 0:=by
 rw [List.getD_eq_getElem?_getD,List.getD_eq_getElem?_getD,List.getElem?_set_ne (fun e=>h e.symm)]
theorem Yrf (c :List Nat) {i:Nat} (x:Nat) (h:i< c.length):(c.set i x).getD i 0=x:=by
 rw [List.getD_eq_getElem?_getD,List.getElem?_set_self h]
 rfl
theorem Ysj :∀ (ws:List Nat) (i l:Nat) (c:List Nat),i+ws.length<=c.length->
   (rd ws i (l,c)).1=l - ws.sum/\(rd ws i (l,c)).2.sum+(rd ws i (l,c)).1=c.sum+l/\(∀ j,j< i->(rd ws i (l,c)).2.getD j 0=c.getD j 0)/\
     ∀ t,t< ws.length->∃ k,k<=ws.getD t 0/\(ws.sum<=l->k=ws.getD t 0)/\(rd ws i (l,c)).2.getD (i+t) 0=c.getD (i+t) 0+k
 | [],i,l,c,h=>⟨by simp [rd],rfl,fun _ _=>rfl,fun t ht=>by simp at ht⟩
 | w :: ws,i,l,c,h=>by
   simp only [List.length_cons] at h
   unfold rd
   generalize hk:min w l=k
   obtain ⟨h1,h2,h3,h4⟩:=Ysj ws (i+1) (l - k) (c.set i (c.getD i 0+k)) (by rw [List.length_set];omega)
   have hs:=Ysi c i (c.getD i 0+k) (by omega)
   refine ⟨by rw [h1,List.sum_cons];omega,by rw [h2];omega,?_,?_⟩
   . intro j hj
     rw [h3 j (by omega),Yg8 _ _ (by omega)]
   . intro t ht
     cases t with
     | zero=>
       refine ⟨k,by rw [List.getD_cons_zero];omega,fun hl=>by rw [List.sum_cons] at hl;rw [List.getD_cons_zero];omega,?_⟩
       simp only [Nat.add_zero]
       rw [h3 i (by omega),Yrf _ _ (by omega)]
     | succ t=>
       simp only [List.length_cons] at ht
       obtain ⟨q,q1,q2,q3⟩:=h4 t (by omega)
       refine ⟨q,by rw [List.getD_cons_succ];exact q1,fun hl=>by rw [List.sum_cons] at hl;rw [List.getD_cons_succ];exact q2 (by omega),?_⟩
       rw [show i+(t+1)=i+1+t by omega,q3,Yg8 _ _ (by omega)]
theorem Yrg (ws :List Nat) (hS:0< ws.sum):∀ (f l r:Nat) (c:List Nat),l<=f->c.length=ws.length->(∀ j,j< ws.length->c.getD j 0=r*ws.getD j 0)->l+r*ws.sum=31->c.sum+l=31->
   (Y58 ws f (l,c)).length=ws.length/\(Y58 ws f (l,c)).sum=31/\∀ j,j< ws.length->31 / ws.sum*ws.getD j 0<=(Y58 ws f (l,c)).getD j 0/\(Y58 ws f (l,c)).getD j 0<=(31 / ws.sum+1)*ws.getD j 0:=by
 intro f
 induction f with
 | zero=>
   intro l r c hl hc hcj hr hs
   obtain rfl:l=0:=by omega
   have hR:31 / ws.sum=r:=by rw [<- hr,Nat.zero_add];exact Nat.mul_div_cancel _ hS
   refine ⟨hc,by show c.sum=31;omega,fun j hj=> ?_⟩
   show _<=c.getD j 0/\c.getD j 0<=_
   rw [hR,hcj j hj,Nat.succ_mul]
   omega
 | succ f ih=>
   intro l r c hl hc hcj hr hs
   cases l with
   | zero=>
     have hR:31 / ws.sum=r:=by rw [<- hr,Nat.zero_add];exact Nat.mul_div_cancel _ hS
     refine ⟨hc,by show c.sum=31;omega,fun j hj=> ?_⟩
     show _<=c.getD j 0/\c.getD j 0<=_
     rw [hR,hcj j hj,Nat.succ_mul]
     omega
   | succ l=>
     obtain ⟨h1,h2,_,h4⟩:=Ysj ws 0 (l+1) c (by omega)
     have h5:=rd_len ws 0 (l+1) c
     show (Y58 ws f (rd ws 0 (l+1,c))).length=_/\(Y58 ws f (rd ws 0 (l+1,c))).sum=_/\∀ j,_->_<=(Y58 ws f (rd ws 0 (l+1,c))).getD j 0/\(Y58 ws f (rd ws 0 (l+1,c))).getD j 0<=_
     generalize rd ws 0 (l+1,c)=s at*
     obtain ⟨l',c'⟩:=s
     simp only at h1 h2 h4 h5
     by_cases hle:ws.sum<=l+1
     . refine ih l' (r+1) c' (by omega) (by omega) ?_ (by rw [Nat.succ_mul];omega) (by omega)
       intro j hj
       obtain ⟨k,_,k2,k3⟩:=h4 j hj
       rw [Nat.zero_add] at k3
       rw [k3,hcj j hj,k2 hle,Nat.succ_mul]
     . obtain rfl:l'=0:=by omega
       have hR:31 / ws.sum=r:=by
         rw [<- hr,Nat.add_mul_div_right _ _ hS,Nat.div_eq_of_lt (by omega),Nat.zero_add]
       have e:Y58 ws f (0,c')=c':=by cases f <;> rfl
       rw [e]
       refine ⟨by omega,by omega,fun j hj=> ?_⟩
       obtain ⟨k,k1,_,k3⟩:=h4 j hj
       rw [Nat.zero_add] at k3
       rw [hR,k3,hcj j hj,Nat.succ_mul]
       omega
theorem Y188 (cs :List Y3):(wts cs).length=cs.length:=by unfold wts;rw [List.length_map]
theorem Y189 {cs :List Y3} {T:List Int} (h:J2q 281474976710656 cs=some (T,0)) (hT:T.length=31) (x:Int) (hx:0<=x):J41 281474976710656 cs x=some (T.getD (x % 31).toNat default,true,0):=by
 unfold J41 J5d
 refine stB h (Y1p rfl ?_)
 rw [decide_eq_false (show ¬ x< 0 by omega),Int.tmod_eq_emod_of_nonneg hx]
 refine Yk (Yo (by dsimp only;omega) (Yb (by dsimp only;omega) rfl))
theorem Yzu (x :Int) (hx:0<=x):J41 281474976710656 [] x=some (0,false,0):=by
 unfold J41 J5d
 refine stB Yvh (Y1p rfl ?_)
 rw [decide_eq_false (show ¬ x< 0 by omega)]
 rfl
end Go.Proofs.YtpdcnikdoikldaaGreatDoor.Pu
namespace Go.Proofs.YtpdcnikdoikldaaGreatDoor.Pu
open Go Go.RowKit Go.Proofs.YtpdcnikdoikldaaGreatDoor.Sv Go.Proofs.YtpdcnikdoikldaaGreatDoor.Lf
theorem Ymi (N :Nat) (x m:Int):J3b N x m=some (decide (0<=x/\x<=m)):=by
 unfold J3b J9g
 rw [Y8i]
 congr 1
 by_cases h:x>=0 <;> by_cases k:x<=m <;> simp [h,k] <;> omega
def Y20 (t :Int):Bool:=decide (0<=t/\t<=1048576)
theorem Y5u (N :Nat) (t:Int):J10 N t=some (Y20 t):=stB (Ymi N t 1048576) rfl
theorem Yag (N :Nat) (x:Int):J22 N x=some (decide (0<=x/\x< 3)):=by
 unfold J22 J9h
 rw [Y8i]
 congr 1
 by_cases h:x>=0 <;> by_cases k:x< 3 <;> simp [h,k] <;> omega
theorem Y2w {U :Type} [Inhabited U] {xs:List U} {i:Nat} (h:i< xs.length):xs.drop i=xs.getD i default :: xs.drop (i+1):=Ygj h
def Y6y (b :Y2a):Bool:=decide (0<=b.Weight/\b.Weight<=16)
def Y40 (s :Yf):Bool:=s.Backs.all Y6y&&(decide (0<=s.Weight/\s.Weight<=16)&&(decide (0<=s.Cap/\s.Cap<=8)&&decide ((s.Backs.length:Int)<=4)))
theorem Yzv (N :Nat) (s:Yf) (hs:s.Backs.length<=140737488355328):∀ (d fuel i:Nat),s.Backs.length=i+d->d< fuel->
   J4i N fuel s s.Backs (s.Backs.length:Int) (i:Int)=some ((s.Backs.drop i).all Y6y&&(decide (0<=s.Weight/\s.Weight<=16)&&(decide (0<=s.Cap/\s.Cap<=8)&&decide ((s.Backs.length:Int)<=4)))):=by
 intro d
 induction d with
 | zero=>
   intro fuel i hi hf
   obtain ⟨fuel,rfl⟩:∃ f,fuel=f+1:=⟨fuel - 1,by omega⟩
   rw [J4i,List.drop_of_length_le (by omega),List.all_nil,Bool.true_and]
   unfold J6e
   refine Yt (by omega) (stB (Ymi N _ _) ?_)
   rw [Ymi]
   by_cases a:0<=s.Weight/\s.Weight<=16
   . rw [decide_eq_true a]
     by_cases b:0<=s.Cap/\s.Cap<=8
     . rw [decide_eq_true b];rfl
     . rw [decide_eq_false b];rfl
   . rw [decide_eq_false a];rfl
 | succ d ih=>
   intro fuel i hi hf
   obtain ⟨fuel,rfl⟩:∃ f,fuel=f+1:=⟨fuel - 1,by omega⟩
   rw [J4i,Y2w (show i< s.Backs.length by omega),List.all_cons,Int.toNat_natCast,w64 (n:=(i:Int)+1) (by omega) (by omega)]
   refine Yj (by omega) (Yb (by omega) (stB (Ymi N _ _) ?_))
   by_cases a:0<=(s.Backs.getD i default).Weight/\(s.Backs.getD i default).Weight<=16
   . rw [decide_eq_true a,show Y6y (s.Backs.getD i default)=true from decide_eq_true a,Bool.true_and]
     exact ih fuel (i+1) (by omega) (by omega)
   . rw [decide_eq_false a,show Y6y (s.Backs.getD i default)=false from decide_eq_false a]
     rfl
theorem Y18a {N :Nat} (s:Yf) (hs:s.Backs.length<=140737488355328) (hN:s.Backs.length< N):Jbm N s=some (Y40 s):=Yzv N s hs s.Backs.length N 0 (by omega) hN
def Y19 (c :Y7):Bool:=c.Sites.all Y40&&(Y20 c.Version&&decide ((c.Sites.length:Int)<=3))
theorem Yzw {N :Nat} (v:Int) (ss:List Yf) (hs:ss.length<=140737488355328) (hb:∀ y∈ss,y.Backs.length<=140737488355328/\y.Backs.length< N):∀ (d fuel i:Nat),ss.length=i+d->d< fuel->
   J4j N fuel v ss (ss.length:Int) (i:Int)=some ((ss.drop i).all Y40&&(Y20 v&&decide ((ss.length:Int)<=3))):=by
 intro d
 induction d with
 | zero=>
   intro fuel i hi hf
   obtain ⟨fuel,rfl⟩:∃ f,fuel=f+1:=⟨fuel - 1,by omega⟩
   rw [J4j,List.drop_of_length_le (by omega),List.all_nil,Bool.true_and]
   unfold J9i
   refine Yt (by omega) (stB (Y5u N v) ?_)
   cases Y20 v <;> rfl
 | succ d ih=>
   intro fuel i hi hf
   obtain ⟨fuel,rfl⟩:∃ f,fuel=f+1:=⟨fuel - 1,by omega⟩
   have hil:i< ss.length:=by omega
   have hm:ss.getD i default∈ss:=by rw [List.getD_eq_getElem?_getD,List.getElem?_eq_getElem hil];exact List.getElem_mem _
   obtain ⟨b1,b2⟩:=hb _ hm
   rw [J4j,Y2w hil,List.all_cons,Int.toNat_natCast,w64 (n:=(i:Int)+1) (by omega) (by omega)]
   refine Yj (by omega) (Yb (by omega) (stB (Y18a _ b1 b2) ?_))
   cases Y40 (ss.getD i default) with
   | true=>rw [Bool.true_and];exact ih fuel (i+1) (by omega) (by omega)
   | false=>rfl
def BdC (c :Y7):Prop:=c.Sites.length<=140737488355328/\∀ y∈c.Sites,y.Backs.length<=140737488355328
theorem Y31 {N :Nat} (hN:140737488355328< N) (c:Y7) (h:BdC c):Jz N c=some (Y19 c):=
 Yzw c.Version c.Sites h.1 (fun y hy=>⟨h.2 y hy,Nat.lt_of_le_of_lt (h.2 y hy) hN⟩) c.Sites.length N 0 (by omega) (by have:=h.1;omega)
def hOk (h :Y5):Bool:=decide (0<=h.Count/\h.Count< 3)
theorem Ysk (N :Nat) (h:Y5):J6f N h=some (hOk h):=by
 have ht:J39 N h=some 3:=by unfold J39;cases h.Up <;> rfl
 unfold J6f J9j hOk
 rw [ht,Option.bind_some,Y8i]
 congr 1
 by_cases a:h.Count>=0 <;> by_cases b:h.Count< 3 <;> simp [a,b] <;> omega
def Y6c (hs :List Y5) (n:Int):Bool:=hs.all hOk&&((hs.length:Int)==n)
theorem Y18b (N :Nat) (hs:List Y5) (n:Int) (hb:hs.length<=140737488355328):∀ (d fuel i:Nat),hs.length=i+d->d< fuel->
   J4k N fuel hs n hs (hs.length:Int) (i:Int)=some ((hs.drop i).all hOk&&((hs.length:Int)==n)):=by
 intro d
 induction d with
 | zero=>
   intro fuel i hi hf
   obtain ⟨fuel,rfl⟩:∃ f,fuel=f+1:=⟨fuel - 1,by omega⟩
   rw [J4k,List.drop_of_length_le (by omega),List.all_nil,Bool.true_and]
   exact Yt (by omega) rfl
 | succ d ih=>
   intro fuel i hi hf
   obtain ⟨fuel,rfl⟩:∃ f,fuel=f+1:=⟨fuel - 1,by omega⟩
   rw [J4k,Y2w (show i< hs.length by omega),List.all_cons,Int.toNat_natCast,w64 (n:=(i:Int)+1) (by omega) (by omega)]
   refine Yj (by omega) (Yb (by omega) (stB (Ysk N _) ?_))
   cases hOk (hs.getD i default) with
   | true=>rw [Bool.true_and];exact ih fuel (i+1) (by omega) (by omega)
   | false=>rfl
theorem Yc8 {N :Nat} (hN:140737488355328< N) (hs:List Y5) (n:Int) (hb:hs.length<=140737488355328):J3o N hs n=some (Y6c hs n):=Y18b N hs n hb hs.length N 0 (by omega) (by omega)
def eqF (a b :Y9):Bool:=(a.Src==b.Src)&&((a.Dst==b.Dst)&&((a.Proto==b.Proto)&&((a.Sport==b.Sport)&&((a.Dport==b.Dport)&&true))))
theorem Yc9 {a b :Y9}:eqF a b=true↔a=b:=by
 obtain ⟨a1,a2,a3,a4,a5⟩:=a
 obtain ⟨b1,b2,b3,b4,b5⟩:=b
 unfold eqF
 simp only [Bool.and_eq_true,beq_iff_eq,Bool.and_true,Y9.mk.injEq]
theorem Y18c (a :Y9):eqF a a=true:=Yc9.2 rfl
theorem Yh3 (N :Nat) (p:Int):J3w N p=some (decide (0<=p/\p<=2)):=by
 unfold J3w J9k
 rw [Y8i]
 congr 1
 by_cases a:p>=0 <;> by_cases b:p<=2 <;> simp [a,b] <;> omega
def Y32 (e :Y0):Bool:=Y47 e.Flow&&(decide (0<=e.To/\e.To< 256)&&(decide (0<=e.Phase/\e.Phase<=2)&&Y20 e.Used))
theorem Yfv (N :Nat) (e:Y0):J2m N e=some (Y32 e):=by
 unfold J2m J4l Y32
 rw [Yj1,in8,Yh3,Y5u,Option.bind_some]
 cases Y47 e.Flow with
 | false=>rfl
 | true=>
   cases decide (0<=e.To/\e.To< 256) with
   | false=>rfl
   | true=>cases decide (0<=e.Phase/\e.Phase<=2) <;> rfl
def at_ (f :Y9):List Y0->Nat->Int
 | [],_=> -1
 | e :: es,i=>if eqF e.Flow f=true then (i:Int) else at_ f es (i+1)
theorem Y18d (N :Nat) (es:List Y0) (f:Y9) (hb:es.length<=140737488355328):∀ (d fuel i:Nat),es.length=i+d->d< fuel->
   J4m N fuel es f.Src f.Dst f.Proto f.Sport f.Dport (es.length:Int) (i:Int)=some (at_ f (es.drop i) i):=by
 intro d
 induction d with
 | zero=>
   intro fuel i hi hf
   obtain ⟨fuel,rfl⟩:∃ f,fuel=f+1:=⟨fuel - 1,by omega⟩
   rw [J4m,List.drop_of_length_le (by omega)]
   exact Yt (by omega) rfl
 | succ d ih=>
   intro fuel i hi hf
   obtain ⟨fuel,rfl⟩:∃ f,fuel=f+1:=⟨fuel - 1,by omega⟩
   rw [J4m,Y2w (show i< es.length by omega),Int.toNat_natCast,w64 (n:=(i:Int)+1) (by omega) (by omega)]
   unfold at_
   refine Yj (by omega) (Yb (by omega) (stB (x:=eqF (es.getD i default).Flow f) rfl ?_))
   cases eqF (es.getD i default).Flow f with
   | true=>rfl
   | false=>rw [if_neg (by decide)];exact ih fuel (i+1) (by omega) (by omega)
theorem Y16u {N :Nat} (hN:140737488355328< N) (es:List Y0) (f:Y9) (hb:es.length<=140737488355328):J79 N es f=some (at_ f es 0):=
 stB (Y18d N es f hb es.length N 0 (by omega) (by omega)) rfl
def Yf2 (es :List Y0) (i:Nat):Bool:=Y32 (es.getD i default)&& !(at_ (es.getD i default).Flow es 0 != (i:Int))
def Y3c (es :List Y0):Bool:=((List.range' 0 es.length).all (Yf2 es))&&decide ((es.length:Int)<=8)
theorem Yvi {N :Nat} (hN:140737488355328< N) (es:List Y0) (hb:es.length<=140737488355328):∀ (d fuel i:Nat),es.length=i+d->d< fuel->
   J3c N fuel es es (es.length:Int) (i:Int)=some ((List.range' i d).all (Yf2 es)&&decide ((es.length:Int)<=8)):=by
 intro d
 induction d with
 | zero=>
   intro fuel i hi hf
   obtain ⟨fuel,rfl⟩:∃ f,fuel=f+1:=⟨fuel - 1,by omega⟩
   rw [J3c,List.range'_zero,List.all_nil,Bool.true_and]
   exact Yt (by omega) rfl
 | succ d ih=>
   intro fuel i hi hf
   obtain ⟨fuel,rfl⟩:∃ f,fuel=f+1:=⟨fuel - 1,by omega⟩
   rw [J3c,List.range'_succ,List.all_cons,Int.toNat_natCast]
   unfold J9l
   refine Yj (by omega) (Yb (by omega) (stB (Yfv N _) ?_))
   rw [w64 (n:=(i:Int)+1) (by omega) (by omega),Y16u hN es _ hb]
   unfold Yf2
   cases Y32 (es.getD i default) with
   | false=>rfl
   | true=>
     refine Yi (stB rfl ?_)
     cases at_ (es.getD i default).Flow es 0 != (i:Int) with
     | true=>rfl
     | false=>exact ih fuel (i+1) (by omega) (by omega)
theorem Yca {N :Nat} (hN:140737488355328< N) (es:List Y0) (hb:es.length<=140737488355328):J2n N es=some (Y3c es):=Yvi hN es hb es.length N 0 (by omega) (by omega)
def Ymj (x :Y0):Bool:= !x.Away&&decide (0<=x.To/\x.To< 3)
def Yq9 (e :Yq):Bool:=e.Flows.all Ymj&&(decide (0<=e.Id/\e.Id< 2)&&(Y19 e.Config&&(Y6c e.Health 3&&Y3c e.Flows)))
def BdE (e :Yq):Prop:=BdC e.Config/\e.Health.length<=140737488355328/\e.Flows.length<=140737488355328
theorem Yzx {N :Nat} (hN:140737488355328< N) (e:Yq) (h:BdE e):∀ (d fuel i:Nat),e.Flows.length=i+d->d< fuel->
   J3d N fuel e.Id e.Config.Version e.Config.Sites e.Health e.Flows e.Flows (e.Flows.length:Int) (i:Int)=some ((e.Flows.drop i).all Ymj&&(decide (0<=e.Id/\e.Id< 2)&&(Y19 e.Config&&(Y6c e.Health 3&&Y3c e.Flows)))):=by
 obtain ⟨h1,h2,h3⟩:=h
 intro d
 induction d with
 | zero=>
   intro fuel i hi hf
   obtain ⟨fuel,rfl⟩:∃ f,fuel=f+1:=⟨fuel - 1,by omega⟩
   rw [J3d,List.drop_of_length_le (by omega),List.all_nil,Bool.true_and]
   unfold J3e
   rw [show Y7.mk e.Config.Version e.Config.Sites=e.Config from rfl,Y31 hN _ h1,Yc8 hN _ _ h2,Yca hN _ h3,Option.bind_some]
   refine Yt (by omega) ?_
   by_cases a:e.Id>=0
   . refine Yj a ?_
     by_cases b:e.Id< 2
     . refine Yj b ?_
       rw [decide_eq_true (show 0<=e.Id/\e.Id< 2 by omega)]
       cases Y19 e.Config with
       | false=>rfl
       | true=>cases Y6c e.Health 3 <;> rfl
     . refine Yt b ?_
       rw [decide_eq_false (show ¬ (0<=e.Id/\e.Id< 2) by omega)];rfl
   . refine Yt a ?_
     rw [decide_eq_false (show ¬ (0<=e.Id/\e.Id< 2) by omega)];rfl
 | succ d ih=>
   intro fuel i hi hf
   obtain ⟨fuel,rfl⟩:∃ f,fuel=f+1:=⟨fuel - 1,by omega⟩
   rw [J3d,Y2w (show i< e.Flows.length by omega),List.all_cons,Int.toNat_natCast]
   unfold J9m
   rw [w64 (n:=(i:Int)+1) (by omega) (by omega),Yag,Option.bind_some]
   refine Yj (by omega) (Yb (by omega) ?_)
   unfold Ymj
   cases (e.Flows.getD i default).Away with
   | true=>rfl
   | false=>
     refine Yk ?_
     cases decide (0<=(e.Flows.getD i default).To/\(e.Flows.getD i default).To< 3) with
     | false=>rfl
     | true=>exact ih fuel (i+1) (by omega) (by omega)
theorem Yj4 {N :Nat} (hN:140737488355328< N) (e:Yq) (h:BdE e):J7s N e=some (Yq9 e):=Yzx hN e h e.Flows.length N 0 (by omega) (by have:=h.2.2;omega)
end Go.Proofs.YtpdcnikdoikldaaGreatDoor.Pu
namespace Go.Proofs.YtpdcnikdoikldaaGreatDoor.Pu
open Go Go.RowKit Go.Proofs.YtpdcnikdoikldaaGreatDoor.Sv Go.Proofs.YtpdcnikdoikldaaGreatDoor.Lf
theorem Y3t {U :Type} [Inhabited U] {l:List U} {i:Nat} (h:i< l.length):l.getD i default∈l:=by
 rw [List.getD_eq_getElem?_getD,List.getElem?_eq_getElem h];exact List.getElem_mem _
theorem Y4i {U :Type} [Inhabited U] {l:List U} {i:Nat} (h:i< l.length):l.getD i default=l[i]:=by
 rw [List.getD_eq_getElem?_getD,List.getElem?_eq_getElem h];rfl
theorem Y16v (f :Y9):∀ (es:List Y0) (k j:Nat),j< es.length->eqF (es.getD j default).Flow f=true->at_ f es k<=((k+j:Nat):Int)
 | [],k,j,h,_=>by simp at h
 | e :: es,k,0,h,hf=>by unfold at_;rw [if_pos (by simpa using hf)];omega
 | e :: es,k,j+1,h,hf=>by
   unfold at_
   split
   . omega
   . have:=Y16v f es (k+1) j (by simpa using h) (by simpa using hf)
     omega
theorem Y16w (f :Y9):∀ (es:List Y0) (k i:Nat),i< es.length->eqF (es.getD i default).Flow f=true->(∀ j,j< i->eqF (es.getD j default).Flow f=false)->at_ f es k=((k+i:Nat):Int)
 | [],k,i,h,_,_=>by simp at h
 | e :: es,k,0,h,hf,_=>by unfold at_;rw [if_pos (by simpa using hf)];omega
 | e :: es,k,i+1,h,hf,hj=>by
   unfold at_
   have h0:=hj 0 (by omega)
   rw [if_neg (by simpa using h0)]
   have:=Y16w f es (k+1) i (by simpa using h) (by simpa using hf) (fun j hj'=>by simpa using hj (j+1) (by omega))
   rw [this]
   omega
theorem Yh4 (f :Y9):∀ (es:List Y0) (k:Nat),(at_ f es k= -1/\∀ e∈es,eqF e.Flow f=false)\/∃ i,i< es.length/\at_ f es k=((k+i:Nat):Int)/\eqF (es.getD i default).Flow f=true
 | [],_=>.inl ⟨rfl,fun e h=>by simp at h⟩
 | e :: es,k=>by
   unfold at_
   cases hq:eqF e.Flow f with
   | true=>exact .inr ⟨0,by simp,by rw [if_pos rfl];omega,by simpa using hq⟩
   | false=>
     rw [if_neg (by decide)]
     rcases Yh4 f es (k+1) with ⟨h1,h2⟩ | ⟨i,h1,h2,h3⟩
     . refine .inl ⟨h1,fun x hx=> ?_⟩
       rcases List.mem_cons.1 hx with rfl | hx
       . exact hq
       . exact h2 x hx
     . exact .inr ⟨i+1,by simpa using h1,by rw [h2];omega,by simpa using h3⟩
def Yvj (es :List Y0):Prop:=es.Pairwise fun a b=>a.Flow≠b.Flow
theorem Y28 (es :List Y0):Y3c es=true↔(∀ e∈es,Y32 e=true)/\Yvj es/\es.length<=8:=by
 unfold Y3c
 rw [Bool.and_eq_true,List.all_eq_true,decide_eq_true_eq]
 constructor
 . rintro ⟨h,hl⟩
   have hg:∀ i,i< es.length->Y32 (es.getD i default)=true/\at_ (es.getD i default).Flow es 0=(i:Int):=by
     intro i hi
     have:=h i (by rw [List.mem_range'_1];omega)
     unfold Yf2 at this
     simp only [Bool.and_eq_true,Bool.not_eq_true',bne_eq_false_iff_eq] at this
     exact this
   refine ⟨?_,?_,by omega⟩
   . intro e he
     obtain ⟨i,hi,rfl⟩:=List.getElem_of_mem he
     rw [<- Y4i hi]
     exact (hg i hi).1
   . unfold Yvj
     rw [List.pairwise_iff_getElem]
     intro i j hi hj hij e
     have h2:=(hg j hj).2
     have h3:=Y16v (es.getD j default).Flow es 0 i hi (by rw [Yc9,Y4i hi,Y4i hj];exact e)
     omega
 . rintro ⟨h1,h2,h3⟩
   refine ⟨fun i hi=> ?_,by omega⟩
   rw [List.mem_range'_1] at hi
   have hil:i< es.length:=by omega
   unfold Yf2
   rw [h1 _ (Y3t hil),Y16w _ es 0 i hil (Y18c _) (fun j hj=>by
     rw [<- Bool.not_eq_true,Yc9,Y4i hil,Y4i (show j< es.length by omega)]
     exact List.pairwise_iff_getElem.1 h2 j i (by omega) hil hj)]
   simp
def zE :Y0:=⟨⟨0,0,0,0,0⟩,0,false,0,0⟩
def Yh5 (p :Int):Int:=if p=0 then 40 else 6
def Y59 (e :Y0) (now:Int):Bool:= !Y32 e||decide (now>=e.Used+Yh5 e.Phase)
theorem Y3x {e :Y0} (h:Y32 e=true):Y47 e.Flow=true/\(0<=e.To/\e.To< 256)/\(0<=e.Phase/\e.Phase<=2)/\(0<=e.Used/\e.Used<=1048576):=by
 unfold Y32 Y20 at h
 simpa only [Bool.and_eq_true,decide_eq_true_eq] using h
theorem Yzy (N :Nat) (e:Y0) (now:Int):J57 N e now=some (Y59 e now):=by
 unfold J57 J78 Y59
 have hl:∃ p,J77 N e.Phase=some p/\(Y32 e=true->p.1=Yh5 e.Phase):=by
   unfold J77
   rw [Yh3,Option.bind_some]
   by_cases a:0<=e.Phase/\e.Phase<=2
   . rw [decide_eq_true a]
     by_cases b:e.Phase=0
     . exact ⟨_,Yi (Yr b rfl),fun _=>by unfold Yh5;rw [if_pos b]⟩
     . exact ⟨_,Yi (Yo b rfl),fun _=>by unfold Yh5;rw [if_neg b]⟩
   . rw [decide_eq_false a]
     exact ⟨_,Y1k rfl,fun h=>absurd (Y3x h).2.2.1 a⟩
 obtain ⟨p,h1,h2⟩:=hl
 refine stB h1 (stB (Yfv N e) ?_)
 cases he:Y32 e with
 | false=>rfl
 | true=>
   have hu:=(Y3x he).2.2.2
   have hp:0<=Yh5 e.Phase/\Yh5 e.Phase<=40:=by unfold Yh5;split <;> omega
   rw [h2 he,w64 (by omega) (by omega)]
   rfl
def Y2n (es :List Y0) (f:Y9) (now:Int):Y0× Bool:=
 if at_ f es 0< 0 then (zE,false) else if Y59 (es.getD (at_ f es 0).toNat default) now=true then (zE,false) else (es.getD (at_ f es 0).toNat default,true)
theorem Ysl {N :Nat} (hN:140737488355328< N) (es:List Y0) (f:Y9) (now:Int) (h:Y3c es=true):J59 N es f now=some (Y2n es f now):=by
 have hl:=((Y28 es).1 h).2.2
 unfold J59 Y2n J58
 refine stB (Y16u hN es f (by omega)) ?_
 by_cases a:at_ f es 0< 0
 . rw [if_pos a];exact Yj a rfl
 . rw [if_neg a]
   have hr:0<=at_ f es 0/\at_ f es 0< (es.length:Int):=by
     rcases Yh4 f es 0 with ⟨q,_⟩ | ⟨i,q1,q2,_⟩ <;> omega
   refine Yt a (stB (Yca hN es (by omega)) ?_)
   rw [h]
   refine Yi (Yb hr (stB (Yzy N _ now) ?_))
   show (bif Y59 (es.getD (at_ f es 0).toNat default) now then _ else _)=_
   cases Y59 (es.getD (at_ f es 0).toNat default) now with
   | true=>rfl
   | false=>exact Yk (Yb hr rfl)
def rest (es :List Y0) (f:Y9):List Y0:=es.filter fun e=> !eqF e.Flow f
theorem Yvk (N :Nat) (x:Y0) (es:List Y0) (hb:es.length<=1000):∀ (d fuel i:Nat) (a b:List Y0),es.length=i+d->d< fuel->a.length<=i->b.length<=i->
   ∃ Y,J2s N fuel x.Flow.Src x.Flow.Dst x.Flow.Proto x.Flow.Sport x.Flow.Dport x.To x.Away x.Phase x.Used a b es (es.length:Int) (i:Int)=some (Y,b++rest (es.drop i) x.Flow):=by
 intro d
 induction d with
 | zero=>
   intro fuel i a b hi hf ha hb'
   obtain ⟨fuel,rfl⟩:∃ f,fuel=f+1:=⟨fuel - 1,by omega⟩
   rw [J2s,List.drop_of_length_le (by omega)]
   refine ⟨a,Yt (by omega) ?_⟩
   unfold rest
   rw [List.filter_nil,List.append_nil]
 | succ d ih=>
   intro fuel i a b hi hf ha hb'
   obtain ⟨fuel,rfl⟩:∃ f,fuel=f+1:=⟨fuel - 1,by omega⟩
   have hil:i< es.length:=by omega
   rw [J2s,Y2w hil,Int.toNat_natCast]
   unfold J7n
   rw [w64 (n:=(i:Int)+1) (by omega) (by omega)]
   have hr:rest (es.getD i default :: es.drop (i+1)) x.Flow=bif eqF (es.getD i default).Flow x.Flow then rest (es.drop (i+1)) x.Flow else es.getD i default :: rest (es.drop (i+1)) x.Flow:=by
     unfold rest
     cases h:eqF (es.getD i default).Flow x.Flow with
     | true=>rw [List.filter_cons_of_neg (by rw [h];decide)];rfl
     | false=>rw [List.filter_cons_of_pos (by rw [h];decide)];rfl
   rw [hr]
   cases h:eqF (es.getD i default).Flow x.Flow with
   | true=>
     obtain ⟨Y,hY⟩:=ih fuel (i+1) (a++[es.getD i default]) b (by omega) (by omega) (by rw [List.length_append,List.length_singleton];omega) (by omega)
     refine ⟨Y,Yj (by omega) (Yb (by omega) (stB (x:=true) (congrArg some h) (Ym (Yb ⟨by omega,by omega⟩ ?_))))⟩
     exact hY
   | false=>
     obtain ⟨Y,hY⟩:=ih fuel (i+1) a (b++[es.getD i default]) (by omega) (by omega) (by omega) (by rw [List.length_append,List.length_singleton];omega)
     refine ⟨Y,Yj (by omega) (Yb (by omega) (stB (x:=false) (congrArg some h) (Yk (Yb ⟨by omega,by omega⟩ ?_))))⟩
     refine hY.trans ?_
     rw [List.append_assoc]
     rfl
def Y86 (es :List Y0) (x:Y0):List Y0× Y0× Bool× Int:=
 if 8< (rest es x.Flow).length+1 then ((rest es x.Flow++[x]).drop 1,(rest es x.Flow++[x]).getD 0 default,true,0) else (rest es x.Flow++[x],zE,false,0)
theorem Ysm (es :List Y0) (f:Y9):(rest es f).length<=es.length:=List.length_filter_le ..
theorem Y18e {N :Nat} (hN:140737488355328< N) (es:List Y0) (x:Y0) (h:Y3c es=true) (hx:Y32 x=true):J7p N es x=some (Y86 es x):=by
 have hl:=((Y28 es).1 h).2.2
 obtain ⟨Y,hY⟩:=Yvk N x es (by omega) es.length N 0 [] [] (by omega) (by omega) (by simp) (by simp)
 rw [List.nil_append,List.drop_zero] at hY
 have hr:=Ysm es x.Flow
 unfold J7p J7o Y86
 refine stB (Yca hN es (by omega)) ?_
 rw [h]
 refine Yi (stB (Yfv N x) ?_)
 rw [hx]
 refine Yi (stB (x:=(Y,rest es x.Flow)) hY ?_)
 dsimp only
 have hlen:(rest es x.Flow++[x]).length=(rest es x.Flow).length+1:=by rw [List.length_append,List.length_singleton]
 have hx':(⟨⟨x.Flow.Src,x.Flow.Dst,x.Flow.Proto,x.Flow.Sport,x.Flow.Dport⟩,x.To,x.Away,x.Phase,x.Used⟩:Y0)=x:=rfl
 rw [hx']
 refine Yb ⟨by omega,by omega⟩ (Y15 ?_)
 generalize rest es x.Flow++[x]=O at*
 by_cases c:8< (rest es x.Flow).length+1
 . rw [if_pos c]
   refine Yj (by omega) (Yb ⟨by omega,by omega,by omega,by omega,by omega⟩ (Yb ⟨by omega,by omega⟩ ?_))
   rw [List.take_of_length_le (by rw [List.length_drop];omega)]
   rfl
 . rw [if_neg c]
   exact Yt (by omega) rfl
theorem Yzz {es :List Y0} {x:Y0} (h:Y3c es=true) (hx:Y32 x=true):Y3c (Y86 es x).1=true:=by
 obtain ⟨h1,h2,h3⟩:=(Y28 es).1 h
 have hr:=Ysm es x.Flow
 have hsub:(rest es x.Flow).Sublist es:=List.filter_sublist
 have hne:∀ e∈rest es x.Flow,e.Flow≠x.Flow:=by
   intro e he
   have:=(List.mem_filter.1 he).2
   rw [Bool.not_eq_true'] at this
   rw [<- Bool.not_eq_true,Yc9] at this
   exact this
 have ha:Yvj (rest es x.Flow++[x]):=by
   refine List.pairwise_append.2 ⟨List.Pairwise.sublist hsub h2,List.pairwise_singleton _ _,?_⟩
   intro a ha b hb
   rw [List.mem_singleton.1 hb]
   exact hne a ha
 have he:∀ e∈rest es x.Flow++[x],Y32 e=true:=by
   intro e he
   rcases List.mem_append.1 he with he | he
   . exact h1 e (hsub.subset he)
   . rw [List.mem_singleton.1 he];exact hx
 have hlen:(rest es x.Flow++[x]).length=(rest es x.Flow).length+1:=by rw [List.length_append,List.length_singleton]
 unfold Y86
 rw [Y28]
 split
 . refine ⟨fun e h'=>he e (List.mem_of_mem_drop h'),List.Pairwise.sublist (List.drop_sublist _ _) ha,?_⟩
   show (List.drop 1 _).length<=8
   rw [List.length_drop];omega
 . exact ⟨he,ha,by show (rest es x.Flow++[x]).length<=8;omega⟩
theorem Y3p {b n :Nat} (hb:b<=1000) (hn:n<=1000):Y1a b n:=by
 have:=Nat.mul_le_mul (Nat.mul_le_mul_left 2 hn) hb
 exact ⟨Nat.le_trans this (by decide),by omega⟩
theorem Yvl {N :Nat} (v:Int) (ss:List Yf) (hs:ss.length<=100) (hb:∀ y∈ss,y.Backs.length<=100) (ss0:List Yf) (z:Int):∀ (d fuel i:Nat) (b:List Yf),ss.length=i+d->d< fuel->b.length=i->
   J4n N fuel v ss0 z b ss (ss.length:Int) (i:Int)=some ⟨v,b++ss.drop i⟩:=by
 intro d
 induction d with
 | zero=>
   intro fuel i b hi hf hl
   obtain ⟨fuel,rfl⟩:∃ f,fuel=f+1:=⟨fuel - 1,by omega⟩
   rw [J4n,List.drop_of_length_le (by omega),List.append_nil]
   exact Yt (by omega) rfl
 | succ d ih=>
   intro fuel i b hi hf hl
   obtain ⟨fuel,rfl⟩:∃ f,fuel=f+1:=⟨fuel - 1,by omega⟩
   have hil:i< ss.length:=by omega
   have hm:=hb _ (Y3t hil)
   rw [J4n,Int.toNat_natCast,w64 (n:=(i:Int)+1) (by omega) (by omega)]
   refine Yj (by omega) (Yb (by omega) (Yb (Y3p (by omega) (by omega)) (Yb (Y3p (by omega) (by omega)) ?_)))
   refine (ih fuel (i+1) (b++[ss.getD i default]) (by omega) (by omega) (by rw [List.length_append,hl];rfl)).trans ?_
   rw [List.append_assoc,Y2w hil]
   rfl
theorem Yh6 {N :Nat} (hN:1000<=N) (c:Y7) (hs:c.Sites.length<=100) (hb:∀ y∈c.Sites,y.Backs.length<=100):Jl N c=some c:=
 Yvl c.Version c.Sites hs hb c.Sites 0 c.Sites.length N 0 [] (by omega) (by omega) rfl
theorem Yld (N :Nat) (hs:List Y5) (hl:hs.length<=100):J1x N hs=some hs:=by
 unfold J1x J3t J75
 by_cases h:hs.length=0
 . rw [if_pos h,List.eq_nil_of_length_eq_zero h]
 . rw [if_neg h]
   exact Yb h (Yb (Y3p (by omega) (by omega)) rfl)
theorem Yle (N :Nat) (hs:List Y0) (hl:hs.length<=100):J3u N hs=some hs:=by
 unfold J3u J76 Jaz
 by_cases h:hs.length=0
 . rw [if_pos h,List.eq_nil_of_length_eq_zero h]
 . rw [if_neg h]
   exact Yb h (Yb (Y3p (by omega) (by omega)) rfl)
theorem Y1x {c :Y7} (h:Y19 c=true):c.Sites.length<=3/\∀ y∈c.Sites,Y40 y=true/\y.Backs.length<=4:=by
 unfold Y19 at h
 simp only [Bool.and_eq_true,List.all_eq_true,decide_eq_true_eq] at h
 refine ⟨by omega,fun y hy=>⟨h.1 y hy,?_⟩⟩
 have:=h.1 y hy
 unfold Y40 at this
 simp only [Bool.and_eq_true,List.all_eq_true,decide_eq_true_eq] at this
 omega
theorem Y50 {hs :List Y5} {n:Int} (h:Y6c hs n=true):(hs.length:Int)=n:=by
 unfold Y6c at h
 simp only [Bool.and_eq_true,beq_iff_eq] at h
 exact h.2
structure Y2u (e :Yq):Prop where
 pin:∀ x∈e.Flows,x.Away=false/\0<=x.To/\x.To< 3
 id:0<=e.Id/\e.Id< 2
 conf:Y19 e.Config=true
 hs:Y6c e.Health 3=true
 cache:Y3c e.Flows=true
theorem Yj5 (e :Yq):Yq9 e=true↔Y2u e:=by
 unfold Yq9 Ymj
 simp only [Bool.and_eq_true,List.all_eq_true,decide_eq_true_eq,Bool.not_eq_true']
 exact ⟨fun h=>⟨h.1,h.2.1,h.2.2.1,h.2.2.2.1,h.2.2.2.2⟩,fun h=>⟨h.pin,h.id,h.conf,h.hs,h.cache⟩⟩
theorem Y14a {N :Nat} (hN:1000<=N) {e:Yq} (h:Y2u e):J2l N e=some e:=by
 obtain ⟨s1,s2⟩:=Y1x h.conf
 have s3:=Y50 h.hs
 have s4:=((Y28 _).1 h.cache).2.2
 unfold J2l
 exact stB (Yh6 hN _ (by omega) (fun y hy=>by have:=(s2 y hy).2;omega)) (stB (Yld N _ (by omega)) (stB (Yle N _ (by omega)) rfl))
end Go.Proofs.YtpdcnikdoikldaaGreatDoor.Pu
namespace Go.Proofs.YtpdcnikdoikldaaGreatDoor.Pu
open Go Go.RowKit Go.Proofs.YtpdcnikdoikldaaGreatDoor.Sv Go.Proofs.YtpdcnikdoikldaaGreatDoor.Lf
def Y8y (s :Yf) (h:Y5):Bool:=h.Up&&(!s.Drain&&decide (0< s.Weight))
def Y7b (hs :List Y5):List Yf->Nat->List Y3
 | [],_=>[]
 | s :: ss,i=>bif Y8y s (hs.getD i default) then ⟨(i:Int),s.Weight⟩ :: Y7b hs ss (i+1) else Y7b hs ss (i+1)
theorem Y100 (N :Nat) (b:List Y3) (i w:Int) (d:Bool) (h:Y5) (hb:b.length<=100):
   J2i N b i w d h=some (bif h.Up&&(!d&&decide (0< w)) then (b++[⟨i,w⟩],[],false) else (b,b,true)):=by
 unfold J2i J6g
 have hg:=Y3p (b:=16) (n:=b.length+1) (by decide) (by omega)
 cases h.Up with
 | false=>rfl
 | true=>
   cases d with
   | true=>rfl
   | false=>
     by_cases c:w<=0
     . rw [decide_eq_true c,decide_eq_false (show ¬ 0< w by omega)];rfl
     . rw [decide_eq_false c,decide_eq_true (show 0< w by omega)]
       exact Yk (Yk (Yk (Yb hg rfl)))
theorem Y101 {N :Nat} (hs:List Y5) (ss:List Yf) (hl:ss.length<=90) (hh:ss.length<=hs.length):∀ (d fuel i:Nat) (b:List Y3),ss.length=i+d->d< fuel->b.length<=i->
   J3f N fuel hs b ss (ss.length:Int) (i:Int)=some (b++Y7b hs (ss.drop i) i,0):=by
 intro d
 induction d with
 | zero=>
   intro fuel i b hi hf hb
   obtain ⟨fuel,rfl⟩:∃ f,fuel=f+1:=⟨fuel - 1,by omega⟩
   rw [J3f,List.drop_of_length_le (by omega)]
   refine Yt (by omega) ?_
   unfold Y7b
   rw [List.append_nil]
 | succ d ih=>
   intro fuel i b hi hf hb
   obtain ⟨fuel,rfl⟩:∃ f,fuel=f+1:=⟨fuel - 1,by omega⟩
   rw [J3f,Y2w (show i< ss.length by omega),Int.toNat_natCast,w64 (n:=(i:Int)+1) (by omega) (by omega)]
   unfold Y7b
   have hadd:=Y100 N b (i:Int) (ss.getD i default).Weight (ss.getD i default).Drain (hs.getD i default) (by omega)
   have hcc:((hs.getD i default).Up&&(!(ss.getD i default).Drain&&decide (0< (ss.getD i default).Weight)))=Y8y (ss.getD i default) (hs.getD i default):=rfl
   rw [hcc] at hadd
   refine Yj (by omega) (Yb (by omega) (Yb (by omega) ?_))
   cases hq:Y8y (ss.getD i default) (hs.getD i default) with
   | true=>
     rw [hq] at hadd
     refine stB hadd (Yk ((ih fuel (i+1) (b++[⟨(i:Int),(ss.getD i default).Weight⟩]) (by omega) (by omega) (by rw [List.length_append,List.length_singleton];omega)).trans ?_))
     rw [List.append_assoc]
     rfl
   | false=>
     rw [hq] at hadd
     exact stB hadd (Ym (Yb rfl (ih fuel (i+1) b (by omega) (by omega) (by omega))))
def Y9p (c :Y7) (hs:List Y5):List Y3:=Y7b hs c.Sites 0
theorem Y14b {N :Nat} (hN:140737488355328< N) {c:Y7} {hs:List Y5} (hc:Y19 c=true) (hh:Y6c hs 3=true):J5e N c hs=some (Y9p c hs,0):=by
 obtain ⟨s1,s2⟩:=Y1x hc
 have s3:=Y50 hh
 unfold J5e J9n
 refine stB (Y31 hN c ⟨by omega,fun y hy=>by have:=(s2 y hy).2;omega⟩) ?_
 rw [hc]
 refine Yi (stB (Yc8 hN hs 3 (by omega)) ?_)
 rw [hh]
 exact Yk ((Y101 hs c.Sites (by omega) (by omega) c.Sites.length N 0 [] (by omega) (by omega) (by simp)).trans (by rw [List.nil_append,List.drop_zero];rfl))
theorem Yah (hs :List Y5):∀ (ss:List Yf) (i:Nat) (c:Y3),c∈Y7b hs ss i->∃ j,j< ss.length/\c=⟨((i+j:Nat):Int),(ss.getD j default).Weight⟩/\Y8y (ss.getD j default) (hs.getD (i+j) default)=true
 | [],i,c,h=>by simp [Y7b] at h
 | s :: ss,i,c,h=>by
   unfold Y7b at h
   cases hq:Y8y s (hs.getD i default) with
   | true=>
     rw [hq,cond_true] at h
     rcases List.mem_cons.1 h with rfl | h
     . exact ⟨0,by simp,rfl,hq⟩
     . obtain ⟨j,h1,h2,h3⟩:=Yah hs ss (i+1) c h
       refine ⟨j+1,by simpa using h1,?_,?_⟩
       . rw [h2,show i+1+j=i+(j+1) by omega];rfl
       . rw [show i+(j+1)=i+1+j by omega];exact h3
   | false=>
     rw [hq,cond_false] at h
     obtain ⟨j,h1,h2,h3⟩:=Yah hs ss (i+1) c h
     refine ⟨j+1,by simpa using h1,?_,?_⟩
     . rw [h2,show i+1+j=i+(j+1) by omega];rfl
     . rw [show i+(j+1)=i+1+j by omega];exact h3
theorem Ykf (hs :List Y5):∀ (ss:List Yf) (i:Nat),(Y7b hs ss i).Pairwise fun a b=>a.Id< b.Id
 | [],i=>by unfold Y7b;exact List.Pairwise.nil
 | s :: ss,i=>by
   unfold Y7b
   cases Y8y s (hs.getD i default) with
   | true=>
     refine List.Pairwise.cons (fun c hc=> ?_) (Ykf hs ss (i+1))
     obtain ⟨j,_,h2,_⟩:=Yah hs ss (i+1) c hc
     rw [h2]
     show (i:Int)< ((i+1+j:Nat):Int)
     omega
   | false=>exact Ykf hs ss (i+1)
theorem Yqa (hs :List Y5):∀ (ss:List Yf) (i:Nat),(Y7b hs ss i).length<=ss.length
 | [],i=>by simp [Y7b]
 | s :: ss,i=>by
   unfold Y7b
   have:=Yqa hs ss (i+1)
   cases Y8y s (hs.getD i default) with
   | true=>rw [cond_true,List.length_cons,List.length_cons];omega
   | false=>rw [cond_false,List.length_cons];omega
theorem Ykg {cs :List Y3} (h:∀ c∈cs,(0<=c.Id/\c.Id< 256)/\(1<=c.Weight/\c.Weight<=16)) (hp:cs.Pairwise fun a b=>a.Id< b.Id) (hl:cs.length<=16):Y9d cs=true:=by
 unfold Y9d
 rw [Bool.and_eq_true,List.all_eq_true,decide_eq_true_eq]
 refine ⟨fun i hi=> ?_,hl⟩
 rw [List.mem_range'_1] at hi
 have hil:i< cs.length:=by omega
 obtain ⟨h1,h2⟩:=h _ (Y3t hil)
 unfold Y5l
 rw [decide_eq_true h1,decide_eq_true h2]
 by_cases c:0< i
 . have h0:i - 1< cs.length:=by omega
   have:=List.pairwise_iff_getElem.1 hp (i - 1) i h0 hil (by omega)
   rw [<- Y4i h0,<- Y4i hil] at this
   rw [decide_eq_false (show ¬ ((cs.getD (i - 1) default).Id>=(cs.getD i default).Id) by omega)]
   simp
 . rw [decide_eq_false c];rfl
theorem Ylf {c :Y7} {hs:List Y5} (hc:Y19 c=true):Y9d (Y9p c hs)=true:=by
 obtain ⟨s1,s2⟩:=Y1x hc
 refine Ykg (fun x hx=> ?_) (Ykf hs c.Sites 0) (Nat.le_trans (Yqa hs c.Sites 0) (by omega))
 obtain ⟨j,h1,h2,h3⟩:=Yah hs c.Sites 0 x hx
 have hs:=(s2 _ (Y3t h1)).1
 unfold Y40 at hs
 unfold Y8y at h3
 simp only [Bool.and_eq_true,decide_eq_true_eq] at hs h3
 rw [h2]
 refine ⟨⟨by show (0:Int)<=((0+j:Nat):Int);omega,by show ((0+j:Nat):Int)< 256;omega⟩,?_⟩
 exact ⟨by have:=h3.2.2;show 1<=(c.Sites.getD j default).Weight;omega,hs.2.1.2⟩
theorem Y102 (N :Nat) (l:List Int) (hl:l.length<=100):∀ (d fuel i k:Nat),l.length=i+d->d< fuel->k< 4294967296->
   ∃ h:Nat,h< 4294967296/\J3x N fuel (k:Int) l (l.length:Int) (i:Int)=some ((h:Int),0):=by
 intro d
 induction d with
 | zero=>
   intro fuel i k hi hf hk
   obtain ⟨fuel,rfl⟩:∃ f,fuel=f+1:=⟨fuel - 1,by omega⟩
   rw [J3x]
   refine ⟨k,hk,Yt (by omega) ?_⟩
   rw [w64 (by omega) (by omega)]
 | succ d ih=>
   intro fuel i k hi hf hk
   obtain ⟨fuel,rfl⟩:∃ f,fuel=f+1:=⟨fuel - 1,by omega⟩
   obtain ⟨x,hx⟩:=Int.eq_ofNat_of_zero_le (show 0<=IntKind.u32.wrap (l.getD i default) by rw [Ydb];omega)
   have hx3:IntKind.u32.wrap (l.getD i default)< 4294967296:=by rw [Ydb];omega
   have hx2:x< 4294967296:=by omega
   obtain ⟨h,h1,h2⟩:=ih fuel (i+1) (Yh1 k x) (by omega) (by omega) (Yfu k x)
   rw [J3x,Int.toNat_natCast,w64 (n:=(i:Int)+1) (by omega) (by omega),hx]
   exact ⟨h,h1,Yj (by omega) (Yb (by omega) (Y15 (stB (Yzp N k x hk hx2) h2)))⟩
theorem Y14c {N :Nat} (hN:1000<=N) {f:Y9} (hf:Y47 f=true) (key:Int) (hk:0<=key/\key< 4294967296):∃ h:Nat,h< 4294967296/\J7b N key f=some ((h:Int),0):=by
 obtain ⟨k,rfl⟩:=Int.eq_ofNat_of_zero_le hk.1
 unfold J7b J7a
 rw [Ygv,decide_eq_true hk,Yj1,hf]
 obtain ⟨h,h1,h2⟩:=Y102 N [f.Src,f.Dst,f.Proto,bOr .i64 (IntKind.i64.wrap (f.Sport*2 ^ 16)) f.Dport] (by simp) 4 N 0 k rfl (by omega) (by omega)
 have wk:IntKind.u32.wrap (k:Int)=(k:Int):=by rw [Ydb];omega
 refine ⟨h,h1,stB rfl (Yi (stB rfl (Yk (Y15 ?_))))⟩
 rw [wk]
 exact h2
theorem Ylg :∀ (T ids:List Int) (x:Int),ids.Nodup->x ∉ ids->(ids.map fun a=>T.count a).sum+T.count x<=T.length
 | [],ids,x,_,_=>by
   have:∀ l:List Int,(l.map fun a=>([]:List Int).count a).sum=0:=by
     intro l
     induction l with
     | nil=>rfl
     | cons a l ih=>rw [List.map_cons,List.sum_cons,ih,List.count_nil]
   rw [this,List.count_nil]
   exact Nat.le_refl _
 | t :: T,ids,x,hn,hx=>by
   have ih:=Ylg T ids x hn hx
   have hs:∀ l:List Int,(l.map fun a=>(t :: T).count a).sum=(l.map fun a=>T.count a).sum+l.count t:=by
     intro l
     induction l with
     | nil=>rfl
     | cons a l il=>
       simp only [List.map_cons,List.sum_cons,List.count_cons] at il ⊢
       rw [il]
       have:(if (t==a)=true then 1 else 0)=(if (a==t)=true then 1 else 0):=by
         by_cases e:t=a
         . subst e;rfl
         . rw [if_neg (by simpa using e),if_neg (by simpa using fun h=>e h.symm)]
       omega
   rw [hs,List.count_cons,List.length_cons]
   have h1:ids.count t<=1:=List.nodup_iff_count.1 hn t
   by_cases e:t=x
   . subst e
     have:ids.count t=0:=List.count_eq_zero.2 hx
     rw [if_pos (by simp)]
     omega
   . rw [if_neg (by simpa using e)]
     omega
theorem Y103 :∀ {cs:List Y3},cs.Pairwise (fun a b=>a.Id< b.Id)->(cs.map fun c=>c.Id).Nodup:=by
 intro cs h
 rw [List.Nodup,List.pairwise_map]
 exact h.imp fun h=>Int.ne_of_lt h
theorem Y18f {cs :List Y3} (hg:Good cs):cs.Pairwise fun a b=>a.Id< b.Id:=by
 rw [List.pairwise_iff_getElem]
 intro i j hi hj hij
 have:=hg.up j i hij hj
 rwa [Y4i hi,Y4i hj] at this
theorem Y18g {cs :List Y3} {T:List Int} {c:List Nat} (h:Cnt cs T c):((cs.map fun x=>x.Id).map fun a=>T.count a).sum=c.sum:=by
 congr 1
 apply List.ext_getElem (by simp [h.len])
 intro i h1 h2
 have hi:i< cs.length:=by simpa using h1
 have:=h.at_ i hi
 rw [Y4i hi,List.getD_eq_getElem?_getD,List.getElem?_eq_getElem h2] at this
 simpa using this
theorem Yrh {cs :List Y3} (hg:Good cs) (hne:0< cs.length):0< (wts cs).sum:=by
 have h0:=Yq8 cs hne
 rw [List.drop_zero] at h0
 rw [h0,List.sum_cons]
 have:=(hg.w 0 hne).1
 omega
theorem Y18h {cs :List Y3} {T:List Int} (h:Y9d cs=true) (hne:0< cs.length) (hT:T.length=31) (hC:Cnt cs T (Y58 (wts cs) 31 (31,List.replicate cs.length 0))):∀ x∈T,∃ c∈cs,c.Id=x:=by
 have hg:=Ysh h
 have hS:=Yrh hg hne
 obtain ⟨r1,r2,r3⟩:=Yrg (wts cs) hS 31 31 0 (List.replicate cs.length 0) (by decide) (by rw [List.length_replicate,Y188]) (fun j hj=>by
   rw [List.getD_eq_getElem?_getD,List.getElem?_replicate]
   split <;> simp) (by simp) (by simp)
 intro x hx
 by_cases c:x∈cs.map fun c=>c.Id
 . obtain ⟨q,q1,q2⟩:=List.mem_map.1 c
   exact ⟨q,q1,q2⟩
 . have:=Ylg T (cs.map fun c=>c.Id) x (Y103 (Y18f hg)) c
   rw [Y18g hC,r2,hT] at this
   have:=List.count_pos_iff.2 hx
   omega
theorem Y104 {cs :List Y3} (hc:Y9d cs=true) {f:Y9} (hf:Y47 f=true) (key:Int) (hk:0<=key/\key< 4294967296):
   ∃ id is,J20 281474976710656 cs key f=some (id,is)/\(is=true->∃ c∈cs,c.Id=id)/\(is=false->cs=[]):=by
 obtain ⟨h,h1,h2⟩:=Y14c (N:=281474976710656) (by decide) hf key hk
 unfold J20
 cases cs with
 | nil=>
   exact ⟨0,false,stB h2 (stB (Yzu _ (by show (0:Int)<=(h:Int);omega)) rfl),fun e=>absurd e (by decide),fun _=>rfl⟩
 | cons c cs=>
   obtain ⟨T,t1,t2,t3,t4⟩:=Y149 hc (by simp)
   refine ⟨_,true,stB h2 (stB (Y189 t1 t2 _ (by show (0:Int)<=(h:Int);omega)) rfl),fun _=>Y18h hc (by simp) t2 t4 _ (Y3t (by rw [t2];omega)),fun e=>absurd e (by decide)⟩
end Go.Proofs.YtpdcnikdoikldaaGreatDoor.Pu
