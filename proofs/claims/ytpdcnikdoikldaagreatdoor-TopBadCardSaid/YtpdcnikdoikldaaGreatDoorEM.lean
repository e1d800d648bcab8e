import Derived.Test.YtpdcnikdoikldaaGreatDoorEP0
set_option linter.unusedVariables false
set_option linter.unusedSimpArgs false
namespace Go.Proofs.YtpdcnikdoikldaaGreatDoor.Pu
open Go Go.RowKit Go.Proofs.YtpdcnikdoikldaaGreatDoor.Sv Go.Proofs.YtpdcnikdoikldaaGreatDoor.Lf
def Y4w (cs :List Y3) (i:Nat):Bool:=
 !decide (0≤(cs.getD i default).Id∧(cs.getD i default).Id< 256)||(!decide (1≤(cs.getD i default).Weight∧(cs.getD i default).Weight≤16)||(decide (0< i)&&decide ((cs.getD (i - 1) default).Id≥(cs.getD i default).Id)))
def Y8f (cs :List Y3):Bool:=((List.range' 0 cs.length).all fun j=> !Y4w cs j)&&decide (cs.length≤16)
theorem Yxe (N :Nat) (w:Int):J7g N w=some (decide (1≤w∧w≤16)):=by
 unfold J7g J7f
 rw [Y8d]
 congr 1
 by_cases a:w≥1 <;> by_cases b:w≤16 <;> simp [a,b] <;> omega
theorem Y11e (N :Nat) (cs:List Y3) (hc:cs.length≤140737488355328):∀ (d fuel i:Nat),cs.length=i+d→d< fuel→
   J1h N fuel cs cs (cs.length:Int) (i:Int)=some (((List.range' i d).all fun j=> !Y4w cs j)&&decide (cs.length≤16)):=by
 intro d
 induction d with
 | zero=>
   intro fuel i hi hf
   obtain ⟨fuel,rfl⟩:∃ f,fuel=f+1:=⟨fuel - 1,by omega⟩
   rw [J1h]
   refine Yo (by omega) ?_
   simp only [List.range'_zero,List.all_nil,Bool.true_and]
   congr 1
   exact decide_eq_decide.2 (by omega)
 | succ d ih=>
   intro fuel i hi hf
   obtain ⟨fuel,rfl⟩:∃ f,fuel=f+1:=⟨fuel - 1,by omega⟩
   rw [J1h,List.range'_succ,List.all_cons,Bool.and_assoc]
   unfold J41
   refine Yi (by omega) (Y8 (by omega) ?_)
   rw [Int.toNat_natCast,in8,Yxe]
   have hn:=ih fuel (i+1) (by omega) (by omega)
   have w1:IntKind.i64.wrap ((i:Int)+1)=((i+1:Nat):Int):=by rw [w64 (by omega) (by omega)];omega
   rw [w1]
   by_cases a:0≤(cs.getD i default).Id∧(cs.getD i default).Id< 256
   · by_cases b:1≤(cs.getD i default).Weight∧(cs.getD i default).Weight≤16
     · rw [decide_eq_true a,decide_eq_true b]
       refine stB rfl (Yc (stB rfl (Yc ?_)))
       by_cases c:0< i
       · have w2:(IntKind.i64.wrap ((i:Int) - 1)).toNat=i - 1:=by rw [w64 (by omega) (by omega)];omega
         have w3:IntKind.i64.wrap ((i:Int) - 1)=((i - 1:Nat):Int):=by rw [w64 (by omega) (by omega)];omega
         refine Yi (by omega) (Y8 (by rw [w3];omega) (Yx ?_))
         rw [w2]
         by_cases e:(cs.getD (i - 1) default).Id≥(cs.getD i default).Id
         · rw [decide_eq_true e,show Y4w cs i=true by unfold Y4w;rw [decide_eq_true a,decide_eq_true b,decide_eq_true c,decide_eq_true e];rfl]
           rfl
         · rw [decide_eq_false e,show Y4w cs i=false by unfold Y4w;rw [decide_eq_true a,decide_eq_true b,decide_eq_true c,decide_eq_false e];rfl]
           exact hn
       · refine Yo (by omega) ?_
         rw [show Y4w cs i=false by unfold Y4w;rw [decide_eq_true a,decide_eq_true b,decide_eq_false c];rfl]
         exact hn
     · rw [decide_eq_true a,decide_eq_false b,show Y4w cs i=true by unfold Y4w;rw [decide_eq_true a,decide_eq_false b];rfl]
       rfl
   · rw [decide_eq_false a,show Y4w cs i=true by unfold Y4w;rw [decide_eq_false a];rfl]
     rfl
theorem Yq5 (N :Nat) (cs:List Y3) (hc:cs.length≤140737488355328) (hN:cs.length< N):Jb3 N cs=some (Y8f cs):=Y11e N cs hc cs.length N 0 (by omega) hN
def okW (r :Yn):Prop:=∃ a s:Nat,a< 31∧1≤s∧s≤30∧r=⟨(a:Int),(s:Int)⟩
def Yfq (rows :List Yn):Prop:=∀ r∈rows,okW r
theorem Yo6 {rows :List Yn} (h:Yfq rows) (i:Nat) {r:Yn} (hr:okW r):Yfq (rows.set i r):=by
 intro x hx
 rcases List.mem_or_eq_of_mem_set hx with h' | rfl
 · exact h x h'
 · exact hr
theorem Y14y {rows :List Yn} (h:Yfq rows) {i:Nat} (hi:i< rows.length):okW (rows.getD i default):=by
 rw [List.getD_eq_getElem?_getD,List.getElem?_eq_getElem hi]
 exact h _ (List.getElem_mem _)
theorem getD_set {α :Type} [Inhabited α] (l:List α) (i:Nat) (x:α) (h:i< l.length):(l.set i x).getD i default=x:=by
 rw [List.getD_eq_getElem?_getD,List.getElem?_set_self h]
 rfl
theorem set_set {α :Type} (l:List α) (i:Nat) (x y:α):(l.set i x).set i y=l.set i y:=by rw [List.set_set]
theorem Y14z :∀ d:Fin 31,∀ s:Fin 31,s.val≠0→∃ j:Fin 31,(j.val*s.val) % 31=d.val:=by decide +kernel
theorem Y1ck {a s q :Nat} (ha:a< 31) (hs:1≤s) (hs2:s≤30) (hq:q< 31):∃ j,j< 31∧(a+j*s) % 31=q:=by
 obtain ⟨j,hj⟩:=Y14z ⟨(q+31 - a) % 31,Nat.mod_lt _ (by decide)⟩ ⟨s,by omega⟩ (by simp;omega)
 refine ⟨j.val,j.isLt,?_⟩
 simp only at hj
 rw [Nat.add_mod,hj]
 omega
theorem Yxf {N :Nat} (T:List Int) (hT:T.length=31) (id:Int) (i:Nat):∀ (j fuel:Nat) (rows:List Yn),Yfq rows→i< rows.length→∀ a s:Nat,rows.getD i default=⟨(a:Int),(s:Int)⟩→a< 31→1≤s→s≤30→T.getD ((a+j*s) % 31) default= -1→j< fuel→
   ∃ p,p< 31∧T.getD p default= -1∧J2p N fuel i rows T id=some (rows.set i ⟨(p:Int),(s:Int)⟩,T.set p id):=by
 intro j
 induction j with
 | zero=>
   intro fuel rows hr hi a s hrow ha hs hs2 hq hf
   obtain ⟨fuel,rfl⟩:∃ f,fuel=f+1:=⟨fuel - 1,by omega⟩
   rw [Nat.zero_mul,Nat.add_zero,Nat.mod_eq_of_lt ha] at hq
   refine ⟨a,ha,hq,?_⟩
   rw [J2p]
   simp only [hrow,Int.toNat_natCast]
   refine Y8 (by omega) (Y8 (by omega) (Y13 hq (Y8 (by omega) ?_)))
   have:rows.set i ⟨(a:Int),(s:Int)⟩=rows:=by
     rw [← hrow,List.getD_eq_getElem?_getD,List.getElem?_eq_getElem hi]
     exact List.set_getElem_self hi
   rw [this]
 | succ j ih=>
   intro fuel rows hr hi a s hrow ha hs hs2 hq hf
   obtain ⟨fuel,rfl⟩:∃ f,fuel=f+1:=⟨fuel - 1,by omega⟩
   by_cases c:T.getD a default= -1
   · refine ⟨a,ha,c,?_⟩
     rw [J2p]
     simp only [hrow,Int.toNat_natCast]
     refine Y8 (by omega) (Y8 (by omega) (Y13 c (Y8 (by omega) ?_)))
     have:rows.set i ⟨(a:Int),(s:Int)⟩=rows:=by
       rw [← hrow,List.getD_eq_getElem?_getD,List.getElem?_eq_getElem hi]
       exact List.set_getElem_self hi
     rw [this]
   · have hn:J7j N i rows=some (rows.set i ⟨(((a+s) % 31:Nat):Int),(s:Int)⟩):=by
       unfold J7j
       simp only [hrow]
       refine Y8 (by omega) (Yx ?_)
       rw [w64 (by omega) (by omega),Int.tmod_eq_emod_of_nonneg (by omega)]
       rfl
     have hw:okW ⟨(((a+s) % 31:Nat):Int),(s:Int)⟩:=⟨_,_,Nat.mod_lt _ (by decide),hs,hs2,rfl⟩
     obtain ⟨p,p1,p2,p3⟩:=ih fuel (rows.set i ⟨(((a+s) % 31:Nat):Int),(s:Int)⟩) (Yo6 hr i hw) (by rw [List.length_set];exact hi) ((a+s) % 31) s (getD_set _ _ _ hi) (Nat.mod_lt _ (by decide)) hs hs2 (by
       have:((a+s) % 31+j*s) % 31=(a+(j+1)*s) % 31:=by rw [Nat.succ_mul];omega
       rw [this];exact hq) (by omega)
     refine ⟨p,p1,p2,?_⟩
     rw [J2p]
     simp only [hrow,Int.toNat_natCast]
     refine Y8 (by omega) (Y8 (by omega) (Y1c c (stB hn (Y8 (by rw [List.length_set]) ?_))))
     rw [p3,set_set]
structure Inv (n :Nat) (T:List Int) (rows:List Yn) (left:Nat):Prop where
 tl:T.length=31
 n:rows.length=n
 ok:Yfq rows
 left:T.count (-1)=left
theorem Y150 {N :Nat} (hN:1000≤N) {n left:Nat} {T:List Int} {rows:List Yn} (h:Inv n T rows (left+1)) {i:Nat} (hi:i< n) {id:Int} (hid:0≤id):
   ∃ T' rows',J7k N i rows T id=some (rows',T')∧Inv n T' rows' left∧T'.count id=T.count id+1∧∀ x,x≠id→x≠-1→T'.count x=T.count x:=by
 have hir:i< rows.length:=by rw [h.n];exact hi
 obtain ⟨a,s,ha,hs,hs2,hrow⟩:=Y14y h.ok hir
 have hmem:(-1:Int)∈T:=List.count_pos_iff.1 (by rw [h.left];omega)
 obtain ⟨q,hq,hq2⟩:=List.getElem_of_mem hmem
 obtain ⟨j,hj,hj2⟩:=Y1ck ha hs hs2 (show q< 31 by rw [← h.tl];exact hq)
 obtain ⟨p,p1,p2,p3⟩:=Yxf (N:=N) T h.tl id i j N rows h.ok hir a s hrow ha hs hs2 (by rw [hj2,List.getD_eq_getElem?_getD,List.getElem?_eq_getElem hq,hq2];rfl) (by omega)
 have hp:p< T.length:=by rw [h.tl];exact p1
 have hTp:T[p]= -1:=by rw [List.getD_eq_getElem?_getD,List.getElem?_eq_getElem hp] at p2;exact p2
 refine ⟨T.set p id,rows.set i ⟨(p:Int),(s:Int)⟩,?_,⟨by rw [List.length_set];exact h.tl,by rw [List.length_set];exact h.n,Yo6 h.ok i ⟨p,s,p1,hs,hs2,rfl⟩,?_⟩,?_,?_⟩
 · unfold J7k
   exact Y8 (by omega) p3
 · rw [List.count_set hp,hTp,h.left]
   have:(id==(-1:Int))=false:=by rw [beq_eq_false_iff_ne];omega
   rw [this]
   simp
 · rw [List.count_set hp,hTp]
   have:((-1:Int)==id)=false:=by rw [beq_eq_false_iff_ne];omega
   rw [this]
   simp
 · intro x hx hx2
   rw [List.count_set hp,hTp]
   have e1:((-1:Int)==x)=false:=by rw [beq_eq_false_iff_ne];omega
   have e2:(id==x)=false:=by rw [beq_eq_false_iff_ne];exact fun e=>hx e.symm
   rw [e1,e2]
   simp
end Go.Proofs.YtpdcnikdoikldaaGreatDoor.Pu
namespace Go.Proofs.YtpdcnikdoikldaaGreatDoor.Pu
open Go Go.RowKit Go.Proofs.YtpdcnikdoikldaaGreatDoor.Sv Go.Proofs.YtpdcnikdoikldaaGreatDoor.Lf
theorem Y151 {N :Nat} (hN:1000≤N) {n:Nat} (r2:List Y3→List Int→List Yn→Int→Option (List Int× Int)) (r3:List Y3→List Int→List Yn→Int→List Y3→Int→Int→Option (List Int× Int)) (cs:List Y3) {i:Nat} (hi:i< n) {id:Int} (W:Int) (hid:0≤id) (t34:List Y3) (t35 t36:Int):
   ∀ (k fuel left:Nat) (T:List Int) (rows:List Yn),Inv n T rows (left+k)→k< fuel→left+k≤31→
   ∃ T' rows',Inv n T' rows' left∧T'.count id=T.count id+k∧(∀ x,x≠id→x≠-1→T'.count x=T.count x)∧
     J42 N r2 r3 fuel cs T rows ((left+k:Nat):Int) (i:Int) id W (k:Int) t34 t35 t36=r3 cs T' rows' (left:Int) t34 t35 (IntKind.i64.wrap (t36+1)):=by
 intro k
 induction k with
 | zero=>
   intro fuel left T rows h hf hl
   obtain ⟨fuel,rfl⟩:∃ f,fuel=f+1:=⟨fuel - 1,by omega⟩
   refine ⟨T,rows,h,by omega,fun _ _ _=>rfl,?_⟩
   rw [J42]
   exact Yo (by omega) rfl
 | succ k ih=>
   intro fuel left T rows h hf hl
   obtain ⟨fuel,rfl⟩:∃ f,fuel=f+1:=⟨fuel - 1,by omega⟩
   obtain ⟨T1,rows1,e1,h1,c1,o1⟩:=Y150 hN (left:=left+k) h hi hid
   obtain ⟨T2,rows2,h2,c2,o2,e2⟩:=ih fuel left T1 rows1 h1 (by omega) (by omega)
   refine ⟨T2,rows2,h2,by omega,fun x hx hx2=>(o2 x hx hx2).trans (o1 x hx hx2),?_⟩
   rw [J42]
   have w1:IntKind.i64.wrap (((left+(k+1):Nat):Int) - 1)=((left+k:Nat):Int):=by rw [w64 (by omega) (by omega)];omega
   have w2:IntKind.i64.wrap (((k+1:Nat):Int) - 1)=(k:Int):=by rw [w64 (by omega) (by omega)];omega
   have hr:=h.n
   refine Yi (by omega) (Y8 (by omega) ?_)
   rw [Int.toNat_natCast,w1,w2]
   refine stB e1 (Y8 (by rw [h1.n,h.n]) (Y8 (by rw [h1.tl,h.tl]) ?_))
   exact e2
def rd :List Nat→Nat→Nat× List Nat→Nat× List Nat
 | [],_,s=>s
 | w :: ws,i,(l,c)=>rd ws (i+1) (l - min w l,c.set i (c.getD i 0+min w l))
def Y4m (ws :List Nat):Nat→Nat× List Nat→List Nat
 | 0,s=>s.2
 | _+1,(0,c)=>c
 | f+1,(l+1,c)=>Y4m ws f (rd ws 0 (l+1,c))
theorem Y13z :∀ (ws:List Nat) (i l:Nat) (c:List Nat),(rd ws i (l,c)).1≤l
 | [],i,l,c=>Nat.le_refl _
 | w :: ws,i,l,c=>Nat.le_trans (Y13z ws (i+1) _ _) (Nat.sub_le _ _)
theorem rd_len :∀ (ws:List Nat) (i l:Nat) (c:List Nat),(rd ws i (l,c)).2.length=c.length
 | [],i,l,c=>rfl
 | w :: ws,i,l,c=>(rd_len ws (i+1) _ _).trans (by rw [List.length_set])
structure Good (cs :List Y3):Prop where
 len:cs.length≤16
 id:∀ i,i< cs.length→0≤(cs.getD i default).Id∧(cs.getD i default).Id< 256
 w:∀ i,i< cs.length→1≤(cs.getD i default).Weight∧(cs.getD i default).Weight≤16
 up:∀ j i,i< j→j< cs.length→(cs.getD i default).Id< (cs.getD j default).Id
theorem Yq6 {cs :List Y3} (h:Y8f cs=true):Good cs:=by
 unfold Y8f at h
 rw [Bool.and_eq_true,List.all_eq_true,decide_eq_true_eq] at h
 have hb:∀ i,i< cs.length→Y4w cs i=false:=fun i hi=>by
   have:=h.1 i (by rw [List.mem_range'_1];omega)
   simpa using this
 have hp:∀ i,i< cs.length→(0≤(cs.getD i default).Id∧(cs.getD i default).Id< 256)∧(1≤(cs.getD i default).Weight∧(cs.getD i default).Weight≤16)∧(0< i→(cs.getD (i - 1) default).Id< (cs.getD i default).Id):=fun i hi=>by
   have:=hb i hi
   unfold Y4w at this
   simp only [Bool.or_eq_false_iff,Bool.and_eq_false_iff,Bool.not_eq_false',decide_eq_true_eq,decide_eq_false_iff_not] at this
   omega
 refine ⟨h.2,fun i hi=>(hp i hi).1,fun i hi=>(hp i hi).2.1,?_⟩
 intro j
 induction j with
 | zero=>intro i hi;omega
 | succ j ih=>
   intro i hi hj
   have h1:=(hp (j+1) hj).2.2 (by omega)
   rw [Nat.add_sub_cancel] at h1
   by_cases c:i=j
   · rw [c];exact h1
   · exact Int.lt_trans (ih i (by omega) (by omega)) h1
theorem Good.ne {cs :List Y3} (h:Good cs) {i j:Nat} (hi:i< cs.length) (hj:j< cs.length) (hij:i≠j):(cs.getD i default).Id≠(cs.getD j default).Id:=by
 rcases Nat.lt_or_gt_of_ne hij with c | c
 · have:=h.up j i c hj;omega
 · have:=h.up i j c hi;omega
structure Cnt (cs :List Y3) (T:List Int) (c:List Nat):Prop where
 len:c.length=cs.length
 at_:∀ j,j< cs.length→T.count (cs.getD j default).Id=c.getD j 0
def wts (cs :List Y3):List Nat:=cs.map fun c=>c.Weight.toNat
theorem Yo7 (cs :List Y3) {i:Nat} (hi:i< cs.length):(wts cs).drop i=(cs.getD i default).Weight.toNat :: (wts cs).drop (i+1):=by
 unfold wts
 rw [List.drop_eq_getElem_cons (by rw [List.length_map];exact hi)]
 simp [List.getD_eq_getElem?_getD,List.getElem?_eq_getElem hi]
theorem Y152 {N :Nat} (hN:1000≤N) {cs:List Y3} (hg:Good cs) (r2:List Y3→List Int→List Yn→Int→Option (List Int× Int)):
   ∀ (d fuel i left:Nat) (T:List Int) (rows:List Yn) (c:List Nat),cs.length=i+d→d< fuel→Inv cs.length T rows left→Cnt cs T c→left≤31→
   ∃ T' rows',Inv cs.length T' rows' (rd ((wts cs).drop i) i (left,c)).1∧Cnt cs T' (rd ((wts cs).drop i) i (left,c)).2∧
     J2q N r2 fuel cs T rows (left:Int) cs (cs.length:Int) (i:Int)=r2 cs T' rows' ((rd ((wts cs).drop i) i (left,c)).1:Int):=by
 intro d
 induction d with
 | zero=>
   intro fuel i left T rows c hi hf hI hC hl
   obtain ⟨fuel,rfl⟩:∃ f,fuel=f+1:=⟨fuel - 1,by omega⟩
   have e:(wts cs).drop i=[]:=List.drop_eq_nil_of_le (by unfold wts;rw [List.length_map];omega)
   rw [e]
   refine ⟨T,rows,hI,hC,?_⟩
   rw [J2q]
   exact Yo (by omega) rfl
 | succ d ih=>
   intro fuel i left T rows c hi hf hI hC hl
   obtain ⟨fuel,rfl⟩:∃ f,fuel=f+1:=⟨fuel - 1,by omega⟩
   have hil:i< cs.length:=by omega
   obtain ⟨hw0,hw1⟩:=hg.w i hil
   obtain ⟨hd0,hd1⟩:=hg.id i hil
   have hlen:=hg.len
   rw [Yo7 cs hil]
   unfold rd
   generalize hk:min (cs.getD i default).Weight.toNat left=k
   have hkl:k≤left:=by omega
   obtain ⟨T1,rows1,h1,c1,o1,e1⟩:=Y151 hN r2 (J2q N r2 fuel) cs hil (cs.getD i default).Weight hd0 cs (cs.length:Int) (i:Int) k N (left - k) T rows (by rw [Nat.sub_add_cancel hkl];exact hI) (by omega) (by omega)
   have hC1:Cnt cs T1 (c.set i (c.getD i 0+k)):=by
     refine ⟨by rw [List.length_set];exact hC.len,fun j hj=> ?_⟩
     by_cases e:j=i
     · subst e
       rw [c1,hC.at_ j hj,List.getD_eq_getElem?_getD (l:=c.set j _),List.getElem?_set_self (by rw [hC.len];exact hj)]
       rfl
     · have hne:=hg.ne hj hil e
       have hjd:=(hg.id j hj).1
       rw [o1 _ hne (by omega),hC.at_ j hj,List.getD_eq_getElem?_getD,List.getD_eq_getElem?_getD,List.getElem?_set_ne (fun x=>e x.symm)]
   obtain ⟨T2,rows2,h2,C2,e2⟩:=ih fuel (i+1) (left - k) T1 rows1 _ (by omega) (by omega) h1 hC1 (by omega)
   refine ⟨T2,rows2,h2,C2,?_⟩
   rw [J2q]
   refine Yi (by omega) (Y8 (by omega) (Yx ?_))
   rw [Int.toNat_natCast]
   have hv:(if decide ((left:Int)< (cs.getD i default).Weight)=true then (left:Int) else (cs.getD i default).Weight)=(k:Int):=by
     by_cases q:(left:Int)< (cs.getD i default).Weight
     · rw [if_pos (decide_eq_true q)];omega
     · rw [if_neg (by rw [decide_eq_true_eq];exact q)];omega
   rw [hv]
   rw [Nat.sub_add_cancel hkl] at e1
   rw [e1,w64 (by omega) (by omega)]
   exact e2
theorem Y153 {N :Nat} (hN:1000≤N) {cs:List Y3} (hg:Good cs) (hne:0< cs.length):
   ∀ (f fuel left:Nat) (T:List Int) (rows:List Yn) (c:List Nat),left≤f→f< fuel→Inv cs.length T rows left→Cnt cs T c→left≤31→
   ∃ T',T'.length=31∧T'.count (-1)=0∧Cnt cs T' (Y4m (wts cs) f (left,c))∧J1i N fuel cs T rows (left:Int)=some (T',0):=by
 intro f
 induction f with
 | zero=>
   intro fuel left T rows c hl hf hI hC h31
   obtain ⟨fuel,rfl⟩:∃ f,fuel=f+1:=⟨fuel - 1,by omega⟩
   obtain rfl:left=0:=by omega
   refine ⟨T,hI.tl,hI.left,hC,?_⟩
   rw [J1i]
   exact Yo (by decide) rfl
 | succ f ih=>
   intro fuel left T rows c hl hf hI hC h31
   obtain ⟨fuel,rfl⟩:∃ f,fuel=f+1:=⟨fuel - 1,by omega⟩
   cases left with
   | zero=>
     refine ⟨T,hI.tl,hI.left,hC,?_⟩
     rw [J1i]
     exact Yo (by decide) rfl
   | succ left=>
     have hlen:=hg.len
     obtain ⟨T1,rows1,h1,C1,e1⟩:=Y152 hN hg (J1i N fuel) cs.length N 0 (left+1) T rows c (by omega) (by omega) hI hC h31
     rw [List.drop_zero] at h1 C1 e1
     have hle:(rd (wts cs) 0 (left+1,c)).1≤left:=by
       have hw:=Yo7 cs hne
       rw [List.drop_zero] at hw
       rw [hw]
       unfold rd
       obtain ⟨w0,_⟩:=hg.w 0 hne
       refine Nat.le_trans (Y13z _ _ _ _) ?_
       omega
     obtain ⟨T2,l2,m2,C2,e2⟩:=ih fuel _ T1 rows1 _ (by omega) (by omega) h1 C1 (by omega)
     refine ⟨T2,l2,m2,C2,?_⟩
     rw [J1i]
     exact Yi (by omega) (e1.trans e2)
def Yt1 (id :Int):Yn:=⟨((Yfp 1 id.toNat % 31:Nat):Int),((1+Yfp 2 id.toNat % 30:Nat):Int)⟩
theorem Y11f (N :Nat) (id:Int) (h0:0≤id) (h1:id< 256):J7i N id=some (Yt1 id):=by
 obtain ⟨x,rfl⟩:=Int.eq_ofNat_of_zero_le h0
 have m1:=Yem 1 x
 have m2:=Yem 2 x
 unfold J7i Yt1
 refine stB (Yxd N 1 x (by decide) (by omega)) (stB (Yxd N 2 x (by decide) (by omega)) (Yx ?_))
 rw [Int.toNat_natCast,Int.tmod_eq_emod_of_nonneg (by omega),Int.tmod_eq_emod_of_nonneg (by omega),w64 (by omega) (by omega)]
 congr 2
theorem Y154 (id :Int):okW (Yt1 id):=⟨_,_,Nat.mod_lt _ (by decide),by omega,by omega,rfl⟩
theorem Y155 {N :Nat} {cs:List Y3} (hg:Good cs) (T:List Int):∀ (d fuel i:Nat) (rows:List Yn),cs.length=i+d→d< fuel→rows.length=i→Yfq rows→
   ∃ rows',rows'.length=cs.length∧Yfq rows'∧J43 N fuel cs T rows cs (cs.length:Int) (i:Int)=J1i N N cs T rows' 31:=by
 intro d
 induction d with
 | zero=>
   intro fuel i rows hi hf hr ho
   obtain ⟨fuel,rfl⟩:∃ f,fuel=f+1:=⟨fuel - 1,by omega⟩
   refine ⟨rows,by omega,ho,?_⟩
   rw [J43]
   exact Yo (by omega) rfl
 | succ d ih=>
   intro fuel i rows hi hf hr ho
   obtain ⟨fuel,rfl⟩:∃ f,fuel=f+1:=⟨fuel - 1,by omega⟩
   have hlen:=hg.len
   obtain ⟨d0,d1⟩:=hg.id i (by omega)
   obtain ⟨rows',l1,o1,e1⟩:=ih fuel (i+1) (rows++[Yt1 (cs.getD i default).Id]) (by omega) (by omega) (by simp [hr]) (by
     intro x hx
     rcases List.mem_append.1 hx with h | h
     · exact ho x h
     · rw [List.mem_singleton.1 h];exact Y154 _)
   refine ⟨rows',l1,o1,?_⟩
   rw [J43]
   refine Yi (by omega) (Y8 (by omega) ?_)
   rw [Int.toNat_natCast,w64 (by omega) (by omega)]
   refine stB (Y11f N _ d0 d1) (Y8 ⟨by omega,by omega⟩ ?_)
   exact e1
theorem Yxg :Jb5 281474976710656 (-1) 31=some (List.replicate 31 (-1)):=by decide +kernel
theorem Yt2 :J2r 281474976710656 []=some ([],0):=by
 unfold J2r
 refine stB (Yq5 _ [] (by decide) (by decide)) ?_
 rfl
theorem Y11g {cs :List Y3} (h:Y8f cs=true) (hne:0< cs.length):
   ∃ T,J2r 281474976710656 cs=some (T,0)∧T.length=31∧T.count (-1)=0∧Cnt cs T (Y4m (wts cs) 31 (31,List.replicate cs.length 0)):=by
 have hg:=Yq6 h
 have hlen:=hg.len
 obtain ⟨rows,r1,r2,e1⟩:=Y155 (N:=281474976710656) hg (List.replicate 31 (-1)) cs.length 281474976710656 0 [] (by omega) (by omega) rfl (fun x hx=>by simp at hx)
 obtain ⟨T,t1,t2,t3,e2⟩:=Y153 (N:=281474976710656) (by decide) hg hne 31 281474976710656 31 (List.replicate 31 (-1)) rows (List.replicate cs.length 0) (by omega) (by omega) ⟨by simp,r1,r2,by decide⟩ ⟨by simp,fun j hj=>by
   have:=(hg.id j hj).1
   rw [List.count_replicate,if_neg (by rw [beq_iff_eq];omega),List.getD_eq_getElem?_getD]
   simp [hj]⟩ (by decide)
 refine ⟨T,?_,t1,t2,t3⟩
 unfold J2r
 refine stB (Yq5 _ cs (by omega) (by omega)) ?_
 rw [h]
 refine Yc (Yl (by omega) (stB Yxg ?_))
 exact e1.trans e2
end Go.Proofs.YtpdcnikdoikldaaGreatDoor.Pu
namespace Go.Proofs.YtpdcnikdoikldaaGreatDoor.Pu
open Go Go.RowKit Go.Proofs.YtpdcnikdoikldaaGreatDoor.Sv Go.Proofs.YtpdcnikdoikldaaGreatDoor.Lf
theorem Yq7 :∀ (c:List Nat) (i x:Nat),i< c.length→(c.set i x).sum+c.getD i 0=c.sum+x
 | [],i,x,h=>by simp at h
 | a :: c,0,x,h=>by simp;omega
 | a :: c,i+1,x,h=>by
   have:=Yq7 c i x (by simpa using h)
   simp only [List.set_cons_succ,List.sum_cons,List.getD_cons_succ]
   omega
theorem Yey (c :List Nat) {i j:Nat} (x:Nat) (h:j≠i):(c.set i x).getD j 0=c.getD j 0:=by
 rw [List.getD_eq_getElem?_getD,List.getD_eq_getElem?_getD,List.getElem?_set_ne (fun e=>h e.symm)]
theorem Yp2 (c :List Nat) {i:Nat} (x:Nat) (h:i< c.length):(c.set i x).getD i 0=x:=by
 rw [List.getD_eq_getElem?_getD,List.getElem?_set_self h]
 rfl
theorem Yq8 :∀ (ws:List Nat) (i l:Nat) (c:List Nat),i+ws.length≤c.length→
   (rd ws i (l,c)).1=l - ws.sum∧(rd ws i (l,c)).2.sum+(rd ws i (l,c)).1=c.sum+l∧(∀ j,j< i→(rd ws i (l,c)).2.getD j 0=c.getD j 0)∧
     ∀ t,t< ws.length→∃ k,k≤ws.getD t 0∧(ws.sum≤l→k=ws.getD t 0)∧(rd ws i (l,c)).2.getD (i+t) 0=c.getD (i+t) 0+k
 | [],i,l,c,h=>⟨by simp [rd],rfl,fun _ _=>rfl,fun t ht=>by simp at ht⟩
 | w :: ws,i,l,c,h=>by
   simp only [List.length_cons] at h
   unfold rd
   generalize hk:min w l=k
   obtain ⟨h1,h2,h3,h4⟩:=Yq8 ws (i+1) (l - k) (c.set i (c.getD i 0+k)) (by rw [List.length_set];omega)
   have hs:=Yq7 c i (c.getD i 0+k) (by omega)
   refine ⟨by rw [h1,List.sum_cons];omega,by rw [h2];omega,?_,?_⟩
   · intro j hj
     rw [h3 j (by omega),Yey _ _ (by omega)]
   · intro t ht
     cases t with
     | zero=>
       refine ⟨k,by rw [List.getD_cons_zero];omega,fun hl=>by rw [List.sum_cons] at hl;rw [List.getD_cons_zero];omega,?_⟩
       simp only [Nat.add_zero]
       rw [h3 i (by omega),Yp2 _ _ (by omega)]
     | succ t=>
       simp only [List.length_cons] at ht
       obtain ⟨q,q1,q2,q3⟩:=h4 t (by omega)
       refine ⟨q,by rw [List.getD_cons_succ];exact q1,fun hl=>by rw [List.sum_cons] at hl;rw [List.getD_cons_succ];exact q2 (by omega),?_⟩
       rw [show i+(t+1)=i+1+t by omega,q3,Yey _ _ (by omega)]
theorem Yp3 (ws :List Nat) (hS:0< ws.sum):∀ (f l r:Nat) (c:List Nat),l≤f→c.length=ws.length→(∀ j,j< ws.length→c.getD j 0=r*ws.getD j 0)→l+r*ws.sum=31→c.sum+l=31→
   (Y4m ws f (l,c)).length=ws.length∧(Y4m ws f (l,c)).sum=31∧∀ j,j< ws.length→31 / ws.sum*ws.getD j 0≤(Y4m ws f (l,c)).getD j 0∧(Y4m ws f (l,c)).getD j 0≤(31 / ws.sum+1)*ws.getD j 0:=by
 intro f
 induction f with
 | zero=>
   intro l r c hl hc hcj hr hs
   obtain rfl:l=0:=by omega
   have hR:31 / ws.sum=r:=by rw [← hr,Nat.zero_add];exact Nat.mul_div_cancel _ hS
   refine ⟨hc,by show c.sum=31;omega,fun j hj=> ?_⟩
   show _≤c.getD j 0∧c.getD j 0≤_
   rw [hR,hcj j hj,Nat.succ_mul]
   omega
 | succ f ih=>
   intro l r c hl hc hcj hr hs
   cases l with
   | zero=>
     have hR:31 / ws.sum=r:=by rw [← hr,Nat.zero_add];exact Nat.mul_div_cancel _ hS
     refine ⟨hc,by show c.sum=31;omega,fun j hj=> ?_⟩
     show _≤c.getD j 0∧c.getD j 0≤_
     rw [hR,hcj j hj,Nat.succ_mul]
     omega
   | succ l=>
     obtain ⟨h1,h2,_,h4⟩:=Yq8 ws 0 (l+1) c (by omega)
     have h5:=rd_len ws 0 (l+1) c
     show (Y4m ws f (rd ws 0 (l+1,c))).length=_∧(Y4m ws f (rd ws 0 (l+1,c))).sum=_∧∀ j,_→_≤(Y4m ws f (rd ws 0 (l+1,c))).getD j 0∧(Y4m ws f (rd ws 0 (l+1,c))).getD j 0≤_
     generalize rd ws 0 (l+1,c)=s at*
     obtain ⟨l',c'⟩:=s
     simp only at h1 h2 h4 h5
     by_cases hle:ws.sum≤l+1
     · refine ih l' (r+1) c' (by omega) (by omega) ?_ (by rw [Nat.succ_mul];omega) (by omega)
       intro j hj
       obtain ⟨k,_,k2,k3⟩:=h4 j hj
       rw [Nat.zero_add] at k3
       rw [k3,hcj j hj,k2 hle,Nat.succ_mul]
     · obtain rfl:l'=0:=by omega
       have hR:31 / ws.sum=r:=by
         rw [← hr,Nat.add_mul_div_right _ _ hS,Nat.div_eq_of_lt (by omega),Nat.zero_add]
       have e:Y4m ws f (0,c')=c':=by cases f <;> rfl
       rw [e]
       refine ⟨by omega,by omega,fun j hj=> ?_⟩
       obtain ⟨k,k1,_,k3⟩:=h4 j hj
       rw [Nat.zero_add] at k3
       rw [hR,k3,hcj j hj,Nat.succ_mul]
       omega
theorem Y156 (cs :List Y3):(wts cs).length=cs.length:=by unfold wts;rw [List.length_map]
theorem Y157 {cs :List Y3} {T:List Int} (h:J2r 281474976710656 cs=some (T,0)) (hT:T.length=31) (x:Int) (hx:0≤x):J44 281474976710656 cs x=some (T.getD (x % 31).toNat default,true,0):=by
 unfold J44 J5j
 refine stB h (Y13 rfl ?_)
 rw [decide_eq_false (show ¬ x< 0 by omega),Int.tmod_eq_emod_of_nonneg hx]
 refine Yj (Yl (by dsimp only;omega) (Y8 (by dsimp only;omega) rfl))
theorem Yxh (x :Int) (hx:0≤x):J44 281474976710656 [] x=some (0,false,0):=by
 unfold J44 J5j
 refine stB Yt2 (Y13 rfl ?_)
 rw [decide_eq_false (show ¬ x< 0 by omega)]
 rfl
end Go.Proofs.YtpdcnikdoikldaaGreatDoor.Pu
namespace Go.Proofs.YtpdcnikdoikldaaGreatDoor.Pu
open Go Go.RowKit Go.Proofs.YtpdcnikdoikldaaGreatDoor.Sv Go.Proofs.YtpdcnikdoikldaaGreatDoor.Lf
theorem Ykp (N :Nat) (x m:Int):J3c N x m=some (decide (0≤x∧x≤m)):=by
 unfold J3c J9o
 rw [Y8d]
 congr 1
 by_cases h:x≥0 <;> by_cases k:x≤m <;> simp [h,k] <;> omega
def Y28 (t :Int):Bool:=decide (0≤t∧t≤1048576)
theorem Y51 (N :Nat) (t:Int):Jz N t=some (Y28 t):=stB (Ykp N t 1048576) rfl
theorem Y9i (N :Nat) (x:Int):J1z N x=some (decide (0≤x∧x< 3)):=by
 unfold J1z J9p
 rw [Y8d]
 congr 1
 by_cases h:x≥0 <;> by_cases k:x< 3 <;> simp [h,k] <;> omega
theorem Y2r {α :Type} [Inhabited α] {xs:List α} {i:Nat} (h:i< xs.length):xs.drop i=xs.getD i default :: xs.drop (i+1):=Yf8 h
def Y6b (b :Y23):Bool:=decide (0≤b.Weight∧b.Weight≤16)
def Y3n (s :Yg):Bool:=s.Backs.all Y6b&&(decide (0≤s.Weight∧s.Weight≤16)&&(decide (0≤s.Cap∧s.Cap≤8)&&decide ((s.Backs.length:Int)≤4)))
theorem Yxi (N :Nat) (s:Yg) (hs:s.Backs.length≤140737488355328):∀ (d fuel i:Nat),s.Backs.length=i+d→d< fuel→
   J4q N fuel s s.Backs (s.Backs.length:Int) (i:Int)=some ((s.Backs.drop i).all Y6b&&(decide (0≤s.Weight∧s.Weight≤16)&&(decide (0≤s.Cap∧s.Cap≤8)&&decide ((s.Backs.length:Int)≤4)))):=by
 intro d
 induction d with
 | zero=>
   intro fuel i hi hf
   obtain ⟨fuel,rfl⟩:∃ f,fuel=f+1:=⟨fuel - 1,by omega⟩
   rw [J4q,List.drop_of_length_le (by omega),List.all_nil,Bool.true_and]
   unfold J6l
   refine Yo (by omega) (stB (Ykp N _ _) ?_)
   rw [Ykp]
   by_cases a:0≤s.Weight∧s.Weight≤16
   · rw [decide_eq_true a]
     by_cases b:0≤s.Cap∧s.Cap≤8
     · rw [decide_eq_true b];rfl
     · rw [decide_eq_false b];rfl
   · rw [decide_eq_false a];rfl
 | succ d ih=>
   intro fuel i hi hf
   obtain ⟨fuel,rfl⟩:∃ f,fuel=f+1:=⟨fuel - 1,by omega⟩
   rw [J4q,Y2r (show i< s.Backs.length by omega),List.all_cons,Int.toNat_natCast,w64 (n:=(i:Int)+1) (by omega) (by omega)]
   refine Yi (by omega) (Y8 (by omega) (stB (Ykp N _ _) ?_))
   by_cases a:0≤(s.Backs.getD i default).Weight∧(s.Backs.getD i default).Weight≤16
   · rw [decide_eq_true a,show Y6b (s.Backs.getD i default)=true from decide_eq_true a,Bool.true_and]
     exact ih fuel (i+1) (by omega) (by omega)
   · rw [decide_eq_false a,show Y6b (s.Backs.getD i default)=false from decide_eq_false a]
     rfl
theorem Y158 {N :Nat} (s:Yg) (hs:s.Backs.length≤140737488355328) (hN:s.Backs.length< N):Jbp N s=some (Y3n s):=Yxi N s hs s.Backs.length N 0 (by omega) hN
def Y1a (c :Y7):Bool:=c.Sites.all Y3n&&(Y28 c.Version&&decide ((c.Sites.length:Int)≤3))
theorem Yxj {N :Nat} (v:Int) (ss:List Yg) (hs:ss.length≤140737488355328) (hb:∀ y∈ss,y.Backs.length≤140737488355328∧y.Backs.length< N):∀ (d fuel i:Nat),ss.length=i+d→d< fuel→
   J4r N fuel v ss (ss.length:Int) (i:Int)=some ((ss.drop i).all Y3n&&(Y28 v&&decide ((ss.length:Int)≤3))):=by
 intro d
 induction d with
 | zero=>
   intro fuel i hi hf
   obtain ⟨fuel,rfl⟩:∃ f,fuel=f+1:=⟨fuel - 1,by omega⟩
   rw [J4r,List.drop_of_length_le (by omega),List.all_nil,Bool.true_and]
   unfold J9q
   refine Yo (by omega) (stB (Y51 N v) ?_)
   cases Y28 v <;> rfl
 | succ d ih=>
   intro fuel i hi hf
   obtain ⟨fuel,rfl⟩:∃ f,fuel=f+1:=⟨fuel - 1,by omega⟩
   have hil:i< ss.length:=by omega
   have hm:ss.getD i default∈ss:=by rw [List.getD_eq_getElem?_getD,List.getElem?_eq_getElem hil];exact List.getElem_mem _
   obtain ⟨b1,b2⟩:=hb _ hm
   rw [J4r,Y2r hil,List.all_cons,Int.toNat_natCast,w64 (n:=(i:Int)+1) (by omega) (by omega)]
   refine Yi (by omega) (Y8 (by omega) (stB (Y158 _ b1 b2) ?_))
   cases Y3n (ss.getD i default) with
   | true=>rw [Bool.true_and];exact ih fuel (i+1) (by omega) (by omega)
   | false=>rfl
def BdC (c :Y7):Prop:=c.Sites.length≤140737488355328∧∀ y∈c.Sites,y.Backs.length≤140737488355328
theorem Y2x {N :Nat} (hN:140737488355328< N) (c:Y7) (h:BdC c):Jy N c=some (Y1a c):=
 Yxj c.Version c.Sites h.1 (fun y hy=>⟨h.2 y hy,Nat.lt_of_le_of_lt (h.2 y hy) hN⟩) c.Sites.length N 0 (by omega) (by have:=h.1;omega)
def hOk (h :Y5):Bool:=decide (0≤h.Count∧h.Count< 3)
theorem Yq9 (N :Nat) (h:Y5):J6m N h=some (hOk h):=by
 have ht:J3a N h=some 3:=by unfold J3a;cases h.Up <;> rfl
 unfold J6m J9r hOk
 rw [ht,Option.bind_some,Y8d]
 congr 1
 by_cases a:h.Count≥0 <;> by_cases b:h.Count< 3 <;> simp [a,b] <;> omega
def Y5n (hs :List Y5) (n:Int):Bool:=hs.all hOk&&((hs.length:Int)==n)
theorem Y159 (N :Nat) (hs:List Y5) (n:Int) (hb:hs.length≤140737488355328):∀ (d fuel i:Nat),hs.length=i+d→d< fuel→
   J4s N fuel hs n hs (hs.length:Int) (i:Int)=some ((hs.drop i).all hOk&&((hs.length:Int)==n)):=by
 intro d
 induction d with
 | zero=>
   intro fuel i hi hf
   obtain ⟨fuel,rfl⟩:∃ f,fuel=f+1:=⟨fuel - 1,by omega⟩
   rw [J4s,List.drop_of_length_le (by omega),List.all_nil,Bool.true_and]
   exact Yo (by omega) rfl
 | succ d ih=>
   intro fuel i hi hf
   obtain ⟨fuel,rfl⟩:∃ f,fuel=f+1:=⟨fuel - 1,by omega⟩
   rw [J4s,Y2r (show i< hs.length by omega),List.all_cons,Int.toNat_natCast,w64 (n:=(i:Int)+1) (by omega) (by omega)]
   refine Yi (by omega) (Y8 (by omega) (stB (Yq9 N _) ?_))
   cases hOk (hs.getD i default) with
   | true=>rw [Bool.true_and];exact ih fuel (i+1) (by omega) (by omega)
   | false=>rfl
theorem Yb4 {N :Nat} (hN:140737488355328< N) (hs:List Y5) (n:Int) (hb:hs.length≤140737488355328):J3p N hs n=some (Y5n hs n):=Y159 N hs n hb hs.length N 0 (by omega) (by omega)
def eqF (a b :Ye):Bool:=(a.Src==b.Src)&&((a.Dst==b.Dst)&&((a.Proto==b.Proto)&&((a.Sport==b.Sport)&&((a.Dport==b.Dport)&&true))))
theorem Yb5 {a b :Ye}:eqF a b=true↔a=b:=by
 obtain ⟨a1,a2,a3,a4,a5⟩:=a
 obtain ⟨b1,b2,b3,b4,b5⟩:=b
 unfold eqF
 simp only [Bool.and_eq_true,beq_iff_eq,Bool.and_true,Ye.mk.injEq]
theorem Y15a (a :Ye):eqF a a=true:=Yb5.2 rfl
theorem Yfr (N :Nat) (p:Int):J3z N p=some (decide (0≤p∧p≤2)):=by
 unfold J3z J9s
 rw [Y8d]
 congr 1
 by_cases a:p≥0 <;> by_cases b:p≤2 <;> simp [a,b] <;> omega
def Y2y (e :Y0):Bool:=Y57 e.Flow&&(decide (0≤e.To∧e.To< 256)&&(decide (0≤e.Phase∧e.Phase≤2)&&Y28 e.Used))
theorem Yen (N :Nat) (e:Y0):J2n N e=some (Y2y e):=by
 unfold J2n J4t Y2y
 rw [Yhs,in8,Yfr,Y51,Option.bind_some]
 cases Y57 e.Flow with
 | false=>rfl
 | true=>
   cases decide (0≤e.To∧e.To< 256) with
   | false=>rfl
   | true=>cases decide (0≤e.Phase∧e.Phase≤2) <;> rfl
def at_ (f :Ye):List Y0→Nat→Int
 | [],_=> -1
 | e :: es,i=>if eqF e.Flow f=true then (i:Int) else at_ f es (i+1)
theorem Y15b (N :Nat) (es:List Y0) (f:Ye) (hb:es.length≤140737488355328):∀ (d fuel i:Nat),es.length=i+d→d< fuel→
   J4u N fuel es f.Src f.Dst f.Proto f.Sport f.Dport (es.length:Int) (i:Int)=some (at_ f (es.drop i) i):=by
 intro d
 induction d with
 | zero=>
   intro fuel i hi hf
   obtain ⟨fuel,rfl⟩:∃ f,fuel=f+1:=⟨fuel - 1,by omega⟩
   rw [J4u,List.drop_of_length_le (by omega)]
   exact Yo (by omega) rfl
 | succ d ih=>
   intro fuel i hi hf
   obtain ⟨fuel,rfl⟩:∃ f,fuel=f+1:=⟨fuel - 1,by omega⟩
   rw [J4u,Y2r (show i< es.length by omega),Int.toNat_natCast,w64 (n:=(i:Int)+1) (by omega) (by omega)]
   unfold at_
   refine Yi (by omega) (Y8 (by omega) (stB (x:=eqF (es.getD i default).Flow f) rfl ?_))
   cases eqF (es.getD i default).Flow f with
   | true=>rfl
   | false=>rw [if_neg (by decide)];exact ih fuel (i+1) (by omega) (by omega)
theorem Y140 {N :Nat} (hN:140737488355328< N) (es:List Y0) (f:Ye) (hb:es.length≤140737488355328):J7c N es f=some (at_ f es 0):=
 stB (Y15b N es f hb es.length N 0 (by omega) (by omega)) rfl
def Ydt (es :List Y0) (i:Nat):Bool:=Y2y (es.getD i default)&& !(at_ (es.getD i default).Flow es 0 != (i:Int))
def Y37 (es :List Y0):Bool:=((List.range' 0 es.length).all (Ydt es))&&decide ((es.length:Int)≤8)
theorem Yt3 {N :Nat} (hN:140737488355328< N) (es:List Y0) (hb:es.length≤140737488355328):∀ (d fuel i:Nat),es.length=i+d→d< fuel→
   J3d N fuel es es (es.length:Int) (i:Int)=some ((List.range' i d).all (Ydt es)&&decide ((es.length:Int)≤8)):=by
 intro d
 induction d with
 | zero=>
   intro fuel i hi hf
   obtain ⟨fuel,rfl⟩:∃ f,fuel=f+1:=⟨fuel - 1,by omega⟩
   rw [J3d,List.range'_zero,List.all_nil,Bool.true_and]
   exact Yo (by omega) rfl
 | succ d ih=>
   intro fuel i hi hf
   obtain ⟨fuel,rfl⟩:∃ f,fuel=f+1:=⟨fuel - 1,by omega⟩
   rw [J3d,List.range'_succ,List.all_cons,Int.toNat_natCast]
   unfold J9t
   refine Yi (by omega) (Y8 (by omega) (stB (Yen N _) ?_))
   rw [w64 (n:=(i:Int)+1) (by omega) (by omega),Y140 hN es _ hb]
   unfold Ydt
   cases Y2y (es.getD i default) with
   | false=>rfl
   | true=>
     refine Yc (stB rfl ?_)
     cases at_ (es.getD i default).Flow es 0 != (i:Int) with
     | true=>rfl
     | false=>exact ih fuel (i+1) (by omega) (by omega)
theorem Yb6 {N :Nat} (hN:140737488355328< N) (es:List Y0) (hb:es.length≤140737488355328):J2o N es=some (Y37 es):=Yt3 hN es hb es.length N 0 (by omega) (by omega)
def Ykq (x :Y0):Bool:= !x.Away&&decide (0≤x.To∧x.To< 3)
def Yo8 (e :Ys):Bool:=e.Flows.all Ykq&&(decide (0≤e.Id∧e.Id< 2)&&(Y1a e.Config&&(Y5n e.Health 3&&Y37 e.Flows)))
def BdE (e :Ys):Prop:=BdC e.Config∧e.Health.length≤140737488355328∧e.Flows.length≤140737488355328
theorem Yxk {N :Nat} (hN:140737488355328< N) (e:Ys) (h:BdE e):∀ (d fuel i:Nat),e.Flows.length=i+d→d< fuel→
   J3e N fuel e.Id e.Config.Version e.Config.Sites e.Health e.Flows e.Flows (e.Flows.length:Int) (i:Int)=some ((e.Flows.drop i).all Ykq&&(decide (0≤e.Id∧e.Id< 2)&&(Y1a e.Config&&(Y5n e.Health 3&&Y37 e.Flows)))):=by
 obtain ⟨h1,h2,h3⟩:=h
 intro d
 induction d with
 | zero=>
   intro fuel i hi hf
   obtain ⟨fuel,rfl⟩:∃ f,fuel=f+1:=⟨fuel - 1,by omega⟩
   rw [J3e,List.drop_of_length_le (by omega),List.all_nil,Bool.true_and]
   unfold J3f
   rw [show Y7.mk e.Config.Version e.Config.Sites=e.Config from rfl,Y2x hN _ h1,Yb4 hN _ _ h2,Yb6 hN _ h3,Option.bind_some]
   refine Yo (by omega) ?_
   by_cases a:e.Id≥0
   · refine Yi a ?_
     by_cases b:e.Id< 2
     · refine Yi b ?_
       rw [decide_eq_true (show 0≤e.Id∧e.Id< 2 by omega)]
       cases Y1a e.Config with
       | false=>rfl
       | true=>cases Y5n e.Health 3 <;> rfl
     · refine Yo b ?_
       rw [decide_eq_false (show ¬ (0≤e.Id∧e.Id< 2) by omega)];rfl
   · refine Yo a ?_
     rw [decide_eq_false (show ¬ (0≤e.Id∧e.Id< 2) by omega)];rfl
 | succ d ih=>
   intro fuel i hi hf
   obtain ⟨fuel,rfl⟩:∃ f,fuel=f+1:=⟨fuel - 1,by omega⟩
   rw [J3e,Y2r (show i< e.Flows.length by omega),List.all_cons,Int.toNat_natCast]
   unfold J9u
   rw [w64 (n:=(i:Int)+1) (by omega) (by omega),Y9i,Option.bind_some]
   refine Yi (by omega) (Y8 (by omega) ?_)
   unfold Ykq
   cases (e.Flows.getD i default).Away with
   | true=>rfl
   | false=>
     refine Yj ?_
     cases decide (0≤(e.Flows.getD i default).To∧(e.Flows.getD i default).To< 3) with
     | false=>rfl
     | true=>exact ih fuel (i+1) (by omega) (by omega)
theorem Yhu {N :Nat} (hN:140737488355328< N) (e:Ys) (h:BdE e):J7v N e=some (Yo8 e):=Yxk hN e h e.Flows.length N 0 (by omega) (by have:=h.2.2;omega)
end Go.Proofs.YtpdcnikdoikldaaGreatDoor.Pu
namespace Go.Proofs.YtpdcnikdoikldaaGreatDoor.Pu
open Go Go.RowKit Go.Proofs.YtpdcnikdoikldaaGreatDoor.Sv Go.Proofs.YtpdcnikdoikldaaGreatDoor.Lf
theorem Y3f {α :Type} [Inhabited α] {l:List α} {i:Nat} (h:i< l.length):l.getD i default∈l:=by
 rw [List.getD_eq_getElem?_getD,List.getElem?_eq_getElem h];exact List.getElem_mem _
theorem Y41 {α :Type} [Inhabited α] {l:List α} {i:Nat} (h:i< l.length):l.getD i default=l[i]:=by
 rw [List.getD_eq_getElem?_getD,List.getElem?_eq_getElem h];rfl
theorem Y141 (f :Ye):∀ (es:List Y0) (k j:Nat),j< es.length→eqF (es.getD j default).Flow f=true→at_ f es k≤((k+j:Nat):Int)
 | [],k,j,h,_=>by simp at h
 | e :: es,k,0,h,hf=>by unfold at_;rw [if_pos (by simpa using hf)];omega
 | e :: es,k,j+1,h,hf=>by
   unfold at_
   split
   · omega
   · have:=Y141 f es (k+1) j (by simpa using h) (by simpa using hf)
     omega
theorem Y142 (f :Ye):∀ (es:List Y0) (k i:Nat),i< es.length→eqF (es.getD i default).Flow f=true→(∀ j,j< i→eqF (es.getD j default).Flow f=false)→at_ f es k=((k+i:Nat):Int)
 | [],k,i,h,_,_=>by simp at h
 | e :: es,k,0,h,hf,_=>by unfold at_;rw [if_pos (by simpa using hf)];omega
 | e :: es,k,i+1,h,hf,hj=>by
   unfold at_
   have h0:=hj 0 (by omega)
   rw [if_neg (by simpa using h0)]
   have:=Y142 f es (k+1) i (by simpa using h) (by simpa using hf) (fun j hj'=>by simpa using hj (j+1) (by omega))
   rw [this]
   omega
theorem Yfs (f :Ye):∀ (es:List Y0) (k:Nat),(at_ f es k= -1∧∀ e∈es,eqF e.Flow f=false)∨∃ i,i< es.length∧at_ f es k=((k+i:Nat):Int)∧eqF (es.getD i default).Flow f=true
 | [],_=>.inl ⟨rfl,fun e h=>by simp at h⟩
 | e :: es,k=>by
   unfold at_
   cases hq:eqF e.Flow f with
   | true=>exact .inr ⟨0,by simp,by rw [if_pos rfl];omega,by simpa using hq⟩
   | false=>
     rw [if_neg (by decide)]
     rcases Yfs f es (k+1) with ⟨h1,h2⟩ | ⟨i,h1,h2,h3⟩
     · refine .inl ⟨h1,fun x hx=> ?_⟩
       rcases List.mem_cons.1 hx with rfl | hx
       · exact hq
       · exact h2 x hx
     · exact .inr ⟨i+1,by simpa using h1,by rw [h2];omega,by simpa using h3⟩
def Yt4 (es :List Y0):Prop:=es.Pairwise fun a b=>a.Flow≠b.Flow
theorem Y20 (es :List Y0):Y37 es=true↔(∀ e∈es,Y2y e=true)∧Yt4 es∧es.length≤8:=by
 unfold Y37
 rw [Bool.and_eq_true,List.all_eq_true,decide_eq_true_eq]
 constructor
 · rintro ⟨h,hl⟩
   have hg:∀ i,i< es.length→Y2y (es.getD i default)=true∧at_ (es.getD i default).Flow es 0=(i:Int):=by
     intro i hi
     have:=h i (by rw [List.mem_range'_1];omega)
     unfold Ydt at this
     simp only [Bool.and_eq_true,Bool.not_eq_true',bne_eq_false_iff_eq] at this
     exact this
   refine ⟨?_,?_,by omega⟩
   · intro e he
     obtain ⟨i,hi,rfl⟩:=List.getElem_of_mem he
     rw [← Y41 hi]
     exact (hg i hi).1
   · unfold Yt4
     rw [List.pairwise_iff_getElem]
     intro i j hi hj hij e
     have h2:=(hg j hj).2
     have h3:=Y141 (es.getD j default).Flow es 0 i hi (by rw [Yb5,Y41 hi,Y41 hj];exact e)
     omega
 · rintro ⟨h1,h2,h3⟩
   refine ⟨fun i hi=> ?_,by omega⟩
   rw [List.mem_range'_1] at hi
   have hil:i< es.length:=by omega
   unfold Ydt
   rw [h1 _ (Y3f hil),Y142 _ es 0 i hil (Y15a _) (fun j hj=>by
     rw [← Bool.not_eq_true,Yb5,Y41 hil,Y41 (show j< es.length by omega)]
     exact List.pairwise_iff_getElem.1 h2 j i (by omega) hil hj)]
   simp
def zE :Y0:=⟨⟨0,0,0,0,0⟩,0,false,0,0⟩
def Yft (p :Int):Int:=if p=0 then 40 else 6
def Y4n (e :Y0) (now:Int):Bool:= !Y2y e||decide (now≥e.Used+Yft e.Phase)
theorem Y4g {e :Y0} (h:Y2y e=true):Y57 e.Flow=true∧(0≤e.To∧e.To< 256)∧(0≤e.Phase∧e.Phase≤2)∧(0≤e.Used∧e.Used≤1048576):=by
 unfold Y2y Y28 at h
 simpa only [Bool.and_eq_true,decide_eq_true_eq] using h
theorem Yxl (N :Nat) (e:Y0) (now:Int):J5d N e now=some (Y4n e now):=by
 unfold J5d J7b Y4n
 have hl:∃ p,J7a N e.Phase=some p∧(Y2y e=true→p.1=Yft e.Phase):=by
   unfold J7a
   rw [Yfr,Option.bind_some]
   by_cases a:0≤e.Phase∧e.Phase≤2
   · rw [decide_eq_true a]
     by_cases b:e.Phase=0
     · exact ⟨_,Yc (Ym b rfl),fun _=>by unfold Yft;rw [if_pos b]⟩
     · exact ⟨_,Yc (Yl b rfl),fun _=>by unfold Yft;rw [if_neg b]⟩
   · rw [decide_eq_false a]
     exact ⟨_,Y14 rfl,fun h=>absurd (Y4g h).2.2.1 a⟩
 obtain ⟨p,h1,h2⟩:=hl
 refine stB h1 (stB (Yen N e) ?_)
 cases he:Y2y e with
 | false=>rfl
 | true=>
   have hu:=(Y4g he).2.2.2
   have hp:0≤Yft e.Phase∧Yft e.Phase≤40:=by unfold Yft;split <;> omega
   rw [h2 he,w64 (by omega) (by omega)]
   rfl
def Y2o (es :List Y0) (f:Ye) (now:Int):Y0× Bool:=
 if at_ f es 0< 0 then (zE,false) else if Y4n (es.getD (at_ f es 0).toNat default) now=true then (zE,false) else (es.getD (at_ f es 0).toNat default,true)
theorem Yqa {N :Nat} (hN:140737488355328< N) (es:List Y0) (f:Ye) (now:Int) (h:Y37 es=true):J5f N es f now=some (Y2o es f now):=by
 have hl:=((Y20 es).1 h).2.2
 unfold J5f Y2o J5e
 refine stB (Y140 hN es f (by omega)) ?_
 by_cases a:at_ f es 0< 0
 · rw [if_pos a];exact Yi a rfl
 · rw [if_neg a]
   have hr:0≤at_ f es 0∧at_ f es 0< (es.length:Int):=by
     rcases Yfs f es 0 with ⟨q,_⟩ | ⟨i,q1,q2,_⟩ <;> omega
   refine Yo a (stB (Yb6 hN es (by omega)) ?_)
   rw [h]
   refine Yc (Y8 hr (stB (Yxl N _ now) ?_))
   show (bif Y4n (es.getD (at_ f es 0).toNat default) now then _ else _)=_
   cases Y4n (es.getD (at_ f es 0).toNat default) now with
   | true=>rfl
   | false=>exact Yj (Y8 hr rfl)
def rest (es :List Y0) (f:Ye):List Y0:=es.filter fun e=> !eqF e.Flow f
theorem Yt5 (N :Nat) (x:Y0) (es:List Y0) (hb:es.length≤1000):∀ (d fuel i:Nat) (a b:List Y0),es.length=i+d→d< fuel→a.length≤i→b.length≤i→
   ∃ Y,J2t N fuel x.Flow.Src x.Flow.Dst x.Flow.Proto x.Flow.Sport x.Flow.Dport x.To x.Away x.Phase x.Used a b es (es.length:Int) (i:Int)=some (Y,b++rest (es.drop i) x.Flow):=by
 intro d
 induction d with
 | zero=>
   intro fuel i a b hi hf ha hb'
   obtain ⟨fuel,rfl⟩:∃ f,fuel=f+1:=⟨fuel - 1,by omega⟩
   rw [J2t,List.drop_of_length_le (by omega)]
   refine ⟨a,Yo (by omega) ?_⟩
   unfold rest
   rw [List.filter_nil,List.append_nil]
 | succ d ih=>
   intro fuel i a b hi hf ha hb'
   obtain ⟨fuel,rfl⟩:∃ f,fuel=f+1:=⟨fuel - 1,by omega⟩
   have hil:i< es.length:=by omega
   rw [J2t,Y2r hil,Int.toNat_natCast]
   unfold J7q
   rw [w64 (n:=(i:Int)+1) (by omega) (by omega)]
   have hr:rest (es.getD i default :: es.drop (i+1)) x.Flow=bif eqF (es.getD i default).Flow x.Flow then rest (es.drop (i+1)) x.Flow else es.getD i default :: rest (es.drop (i+1)) x.Flow:=by
     unfold rest
     cases h:eqF (es.getD i default).Flow x.Flow with
     | true=>rw [List.filter_cons_of_neg (by rw [h];decide)];rfl
     | false=>rw [List.filter_cons_of_pos (by rw [h];decide)];rfl
   rw [hr]
   cases h:eqF (es.getD i default).Flow x.Flow with
   | true=>
     obtain ⟨Y,hY⟩:=ih fuel (i+1) (a++[es.getD i default]) b (by omega) (by omega) (by rw [List.length_append,List.length_singleton];omega) (by omega)
     refine ⟨Y,Yi (by omega) (Y8 (by omega) (stB (x:=true) (congrArg some h) (Yk (Y8 ⟨by omega,by omega⟩ ?_))))⟩
     exact hY
   | false=>
     obtain ⟨Y,hY⟩:=ih fuel (i+1) a (b++[es.getD i default]) (by omega) (by omega) (by omega) (by rw [List.length_append,List.length_singleton];omega)
     refine ⟨Y,Yi (by omega) (Y8 (by omega) (stB (x:=false) (congrArg some h) (Yj (Y8 ⟨by omega,by omega⟩ ?_))))⟩
     refine hY.trans ?_
     rw [List.append_assoc]
     rfl
def Y7r (es :List Y0) (x:Y0):List Y0× Y0× Bool× Int:=
 if 8< (rest es x.Flow).length+1 then ((rest es x.Flow++[x]).drop 1,(rest es x.Flow++[x]).getD 0 default,true,0) else (rest es x.Flow++[x],zE,false,0)
theorem Yqb (es :List Y0) (f:Ye):(rest es f).length≤es.length:=List.length_filter_le ..
theorem Y15c {N :Nat} (hN:140737488355328< N) (es:List Y0) (x:Y0) (h:Y37 es=true) (hx:Y2y x=true):J7s N es x=some (Y7r es x):=by
 have hl:=((Y20 es).1 h).2.2
 obtain ⟨Y,hY⟩:=Yt5 N x es (by omega) es.length N 0 [] [] (by omega) (by omega) (by simp) (by simp)
 rw [List.nil_append,List.drop_zero] at hY
 have hr:=Yqb es x.Flow
 unfold J7s J7r Y7r
 refine stB (Yb6 hN es (by omega)) ?_
 rw [h]
 refine Yc (stB (Yen N x) ?_)
 rw [hx]
 refine Yc (stB (x:=(Y,rest es x.Flow)) hY ?_)
 dsimp only
 have hlen:(rest es x.Flow++[x]).length=(rest es x.Flow).length+1:=by rw [List.length_append,List.length_singleton]
 have hx':(⟨⟨x.Flow.Src,x.Flow.Dst,x.Flow.Proto,x.Flow.Sport,x.Flow.Dport⟩,x.To,x.Away,x.Phase,x.Used⟩:Y0)=x:=rfl
 rw [hx']
 refine Y8 ⟨by omega,by omega⟩ (Yx ?_)
 generalize rest es x.Flow++[x]=O at*
 by_cases c:8< (rest es x.Flow).length+1
 · rw [if_pos c]
   refine Yi (by omega) (Y8 ⟨by omega,by omega,by omega,by omega,by omega⟩ (Y8 ⟨by omega,by omega⟩ ?_))
   rw [List.take_of_length_le (by rw [List.length_drop];omega)]
   rfl
 · rw [if_neg c]
   exact Yo (by omega) rfl
theorem Yxm {es :List Y0} {x:Y0} (h:Y37 es=true) (hx:Y2y x=true):Y37 (Y7r es x).1=true:=by
 obtain ⟨h1,h2,h3⟩:=(Y20 es).1 h
 have hr:=Yqb es x.Flow
 have hsub:(rest es x.Flow).Sublist es:=List.filter_sublist
 have hne:∀ e∈rest es x.Flow,e.Flow≠x.Flow:=by
   intro e he
   have:=(List.mem_filter.1 he).2
   rw [Bool.not_eq_true'] at this
   rw [← Bool.not_eq_true,Yb5] at this
   exact this
 have ha:Yt4 (rest es x.Flow++[x]):=by
   refine List.pairwise_append.2 ⟨List.Pairwise.sublist hsub h2,List.pairwise_singleton _ _,?_⟩
   intro a ha b hb
   rw [List.mem_singleton.1 hb]
   exact hne a ha
 have he:∀ e∈rest es x.Flow++[x],Y2y e=true:=by
   intro e he
   rcases List.mem_append.1 he with he | he
   · exact h1 e (hsub.subset he)
   · rw [List.mem_singleton.1 he];exact hx
 have hlen:(rest es x.Flow++[x]).length=(rest es x.Flow).length+1:=by rw [List.length_append,List.length_singleton]
 unfold Y7r
 rw [Y20]
 split
 · refine ⟨fun e h'=>he e (List.mem_of_mem_drop h'),List.Pairwise.sublist (List.drop_sublist _ _) ha,?_⟩
   show (List.drop 1 _).length≤8
   rw [List.length_drop];omega
 · exact ⟨he,ha,by show (rest es x.Flow++[x]).length≤8;omega⟩
theorem Y3g {b n :Nat} (hb:b≤1000) (hn:n≤1000):Y1b b n:=by
 have:=Nat.mul_le_mul (Nat.mul_le_mul_left 2 hn) hb
 exact ⟨Nat.le_trans this (by decide),by omega⟩
theorem Yt6 {N :Nat} (v:Int) (ss:List Yg) (hs:ss.length≤100) (hb:∀ y∈ss,y.Backs.length≤100) (ss0:List Yg) (z:Int):∀ (d fuel i:Nat) (b:List Yg),ss.length=i+d→d< fuel→b.length=i→
   J4v N fuel v ss0 z b ss (ss.length:Int) (i:Int)=some ⟨v,b++ss.drop i⟩:=by
 intro d
 induction d with
 | zero=>
   intro fuel i b hi hf hl
   obtain ⟨fuel,rfl⟩:∃ f,fuel=f+1:=⟨fuel - 1,by omega⟩
   rw [J4v,List.drop_of_length_le (by omega),List.append_nil]
   exact Yo (by omega) rfl
 | succ d ih=>
   intro fuel i b hi hf hl
   obtain ⟨fuel,rfl⟩:∃ f,fuel=f+1:=⟨fuel - 1,by omega⟩
   have hil:i< ss.length:=by omega
   have hm:=hb _ (Y3f hil)
   rw [J4v,Int.toNat_natCast,w64 (n:=(i:Int)+1) (by omega) (by omega)]
   refine Yi (by omega) (Y8 (by omega) (Y8 (Y3g (by omega) (by omega)) (Y8 (Y3g (by omega) (by omega)) ?_)))
   refine (ih fuel (i+1) (b++[ss.getD i default]) (by omega) (by omega) (by rw [List.length_append,hl];rfl)).trans ?_
   rw [List.append_assoc,Y2r hil]
   rfl
theorem Yfu {N :Nat} (hN:1000≤N) (c:Y7) (hs:c.Sites.length≤100) (hb:∀ y∈c.Sites,y.Backs.length≤100):Jm N c=some c:=
 Yt6 c.Version c.Sites hs hb c.Sites 0 c.Sites.length N 0 [] (by omega) (by omega) rfl
theorem Yjo (N :Nat) (hs:List Y5) (hl:hs.length≤100):J1u N hs=some hs:=by
 unfold J1u J3w J78
 by_cases h:hs.length=0
 · rw [if_pos h,List.eq_nil_of_length_eq_zero h]
 · rw [if_neg h]
   exact Y8 h (Y8 (Y3g (by omega) (by omega)) rfl)
theorem Yjp (N :Nat) (hs:List Y0) (hl:hs.length≤100):J3x N hs=some hs:=by
 unfold J3x J79 Jb2
 by_cases h:hs.length=0
 · rw [if_pos h,List.eq_nil_of_length_eq_zero h]
 · rw [if_neg h]
   exact Y8 h (Y8 (Y3g (by omega) (by omega)) rfl)
theorem Y1s {c :Y7} (h:Y1a c=true):c.Sites.length≤3∧∀ y∈c.Sites,Y3n y=true∧y.Backs.length≤4:=by
 unfold Y1a at h
 simp only [Bool.and_eq_true,List.all_eq_true,decide_eq_true_eq] at h
 refine ⟨by omega,fun y hy=>⟨h.1 y hy,?_⟩⟩
 have:=h.1 y hy
 unfold Y3n at this
 simp only [Bool.and_eq_true,List.all_eq_true,decide_eq_true_eq] at this
 omega
theorem Y47 {hs :List Y5} {n:Int} (h:Y5n hs n=true):(hs.length:Int)=n:=by
 unfold Y5n at h
 simp only [Bool.and_eq_true,beq_iff_eq] at h
 exact h.2
structure Y2t (e :Ys):Prop where
 pin:∀ x∈e.Flows,x.Away=false∧0≤x.To∧x.To< 3
 id:0≤e.Id∧e.Id< 2
 conf:Y1a e.Config=true
 hs:Y5n e.Health 3=true
 cache:Y37 e.Flows=true
theorem Yhv (e :Ys):Yo8 e=true↔Y2t e:=by
 unfold Yo8 Ykq
 simp only [Bool.and_eq_true,List.all_eq_true,decide_eq_true_eq,Bool.not_eq_true']
 exact ⟨fun h=>⟨h.1,h.2.1,h.2.2.1,h.2.2.2.1,h.2.2.2.2⟩,fun h=>⟨h.pin,h.id,h.conf,h.hs,h.cache⟩⟩
theorem Yfv {N :Nat} (hN:1000≤N) {e:Ys} (h:Y2t e):J2m N e=some e:=by
 obtain ⟨s1,s2⟩:=Y1s h.conf
 have s3:=Y47 h.hs
 have s4:=((Y20 _).1 h.cache).2.2
 unfold J2m
 exact stB (Yfu hN _ (by omega) (fun y hy=>by have:=(s2 y hy).2;omega)) (stB (Yjo N _ (by omega)) (stB (Yjp N _ (by omega)) rfl))
end Go.Proofs.YtpdcnikdoikldaaGreatDoor.Pu
namespace Go.Proofs.YtpdcnikdoikldaaGreatDoor.Pu
open Go Go.RowKit Go.Proofs.YtpdcnikdoikldaaGreatDoor.Sv Go.Proofs.YtpdcnikdoikldaaGreatDoor.Lf
def Y84 (s :Yg) (h:Y5):Bool:=h.Up&&(!s.Drain&&decide (0< s.Weight))
def Y6q (hs :List Y5):List Yg→Nat→List Y3
 | [],_=>[]
 | s :: ss,i=>bif Y84 s (hs.getD i default) then ⟨(i:Int),s.Weight⟩ :: Y6q hs ss (i+1) else Y6q hs ss (i+1)
theorem Yxn (N :Nat) (b:List Y3) (i w:Int) (d:Bool) (h:Y5) (hb:b.length≤100):
   J2j N b i w d h=some (bif h.Up&&(!d&&decide (0< w)) then (b++[⟨i,w⟩],[],false) else (b,b,true)):=by
 unfold J2j J6n
 have hg:=Y3g (b:=16) (n:=b.length+1) (by decide) (by omega)
 cases h.Up with
 | false=>rfl
 | true=>
   cases d with
   | true=>rfl
   | false=>
     by_cases c:w≤0
     · rw [decide_eq_true c,decide_eq_false (show ¬ 0< w by omega)];rfl
     · rw [decide_eq_false c,decide_eq_true (show 0< w by omega)]
       exact Yj (Yj (Yj (Y8 hg rfl)))
theorem Yxo {N :Nat} (hs:List Y5) (ss:List Yg) (hl:ss.length≤90) (hh:ss.length≤hs.length):∀ (d fuel i:Nat) (b:List Y3),ss.length=i+d→d< fuel→b.length≤i→
   J3g N fuel hs b ss (ss.length:Int) (i:Int)=some (b++Y6q hs (ss.drop i) i,0):=by
 intro d
 induction d with
 | zero=>
   intro fuel i b hi hf hb
   obtain ⟨fuel,rfl⟩:∃ f,fuel=f+1:=⟨fuel - 1,by omega⟩
   rw [J3g,List.drop_of_length_le (by omega)]
   refine Yo (by omega) ?_
   unfold Y6q
   rw [List.append_nil]
 | succ d ih=>
   intro fuel i b hi hf hb
   obtain ⟨fuel,rfl⟩:∃ f,fuel=f+1:=⟨fuel - 1,by omega⟩
   rw [J3g,Y2r (show i< ss.length by omega),Int.toNat_natCast,w64 (n:=(i:Int)+1) (by omega) (by omega)]
   unfold Y6q
   have hadd:=Yxn N b (i:Int) (ss.getD i default).Weight (ss.getD i default).Drain (hs.getD i default) (by omega)
   have hcc:((hs.getD i default).Up&&(!(ss.getD i default).Drain&&decide (0< (ss.getD i default).Weight)))=Y84 (ss.getD i default) (hs.getD i default):=rfl
   rw [hcc] at hadd
   refine Yi (by omega) (Y8 (by omega) (Y8 (by omega) ?_))
   cases hq:Y84 (ss.getD i default) (hs.getD i default) with
   | true=>
     rw [hq] at hadd
     refine stB hadd (Yj ((ih fuel (i+1) (b++[⟨(i:Int),(ss.getD i default).Weight⟩]) (by omega) (by omega) (by rw [List.length_append,List.length_singleton];omega)).trans ?_))
     rw [List.append_assoc]
     rfl
   | false=>
     rw [hq] at hadd
     exact stB hadd (Yk (Y8 rfl (ih fuel (i+1) b (by omega) (by omega) (by omega))))
def Y8q (c :Y7) (hs:List Y5):List Y3:=Y6q hs c.Sites 0
theorem Y11h {N :Nat} (hN:140737488355328< N) {c:Y7} {hs:List Y5} (hc:Y1a c=true) (hh:Y5n hs 3=true):J5k N c hs=some (Y8q c hs,0):=by
 obtain ⟨s1,s2⟩:=Y1s hc
 have s3:=Y47 hh
 unfold J5k J9v
 refine stB (Y2x hN c ⟨by omega,fun y hy=>by have:=(s2 y hy).2;omega⟩) ?_
 rw [hc]
 refine Yc (stB (Yb4 hN hs 3 (by omega)) ?_)
 rw [hh]
 exact Yj ((Yxo hs c.Sites (by omega) (by omega) c.Sites.length N 0 [] (by omega) (by omega) (by simp)).trans (by rw [List.nil_append,List.drop_zero];rfl))
theorem Y9j (hs :List Y5):∀ (ss:List Yg) (i:Nat) (c:Y3),c∈Y6q hs ss i→∃ j,j< ss.length∧c=⟨((i+j:Nat):Int),(ss.getD j default).Weight⟩∧Y84 (ss.getD j default) (hs.getD (i+j) default)=true
 | [],i,c,h=>by simp [Y6q] at h
 | s :: ss,i,c,h=>by
   unfold Y6q at h
   cases hq:Y84 s (hs.getD i default) with
   | true=>
     rw [hq,cond_true] at h
     rcases List.mem_cons.1 h with rfl | h
     · exact ⟨0,by simp,rfl,hq⟩
     · obtain ⟨j,h1,h2,h3⟩:=Y9j hs ss (i+1) c h
       refine ⟨j+1,by simpa using h1,?_,?_⟩
       · rw [h2,show i+1+j=i+(j+1) by omega];rfl
       · rw [show i+(j+1)=i+1+j by omega];exact h3
   | false=>
     rw [hq,cond_false] at h
     obtain ⟨j,h1,h2,h3⟩:=Y9j hs ss (i+1) c h
     refine ⟨j+1,by simpa using h1,?_,?_⟩
     · rw [h2,show i+1+j=i+(j+1) by omega];rfl
     · rw [show i+(j+1)=i+1+j by omega];exact h3
theorem Yiu (hs :List Y5):∀ (ss:List Yg) (i:Nat),(Y6q hs ss i).Pairwise fun a b=>a.Id< b.Id
 | [],i=>by unfold Y6q;exact List.Pairwise.nil
 | s :: ss,i=>by
   unfold Y6q
   cases Y84 s (hs.getD i default) with
   | true=>
     refine List.Pairwise.cons (fun c hc=> ?_) (Yiu hs ss (i+1))
     obtain ⟨j,_,h2,_⟩:=Y9j hs ss (i+1) c hc
     rw [h2]
     show (i:Int)< ((i+1+j:Nat):Int)
     omega
   | false=>exact Yiu hs ss (i+1)
theorem Yo9 (hs :List Y5):∀ (ss:List Yg) (i:Nat),(Y6q hs ss i).length≤ss.length
 | [],i=>by simp [Y6q]
 | s :: ss,i=>by
   unfold Y6q
   have:=Yo9 hs ss (i+1)
   cases Y84 s (hs.getD i default) with
   | true=>rw [cond_true,List.length_cons,List.length_cons];omega
   | false=>rw [cond_false,List.length_cons];omega
theorem Yiv {cs :List Y3} (h:∀ c∈cs,(0≤c.Id∧c.Id< 256)∧(1≤c.Weight∧c.Weight≤16)) (hp:cs.Pairwise fun a b=>a.Id< b.Id) (hl:cs.length≤16):Y8f cs=true:=by
 unfold Y8f
 rw [Bool.and_eq_true,List.all_eq_true,decide_eq_true_eq]
 refine ⟨fun i hi=> ?_,hl⟩
 rw [List.mem_range'_1] at hi
 have hil:i< cs.length:=by omega
 obtain ⟨h1,h2⟩:=h _ (Y3f hil)
 unfold Y4w
 rw [decide_eq_true h1,decide_eq_true h2]
 by_cases c:0< i
 · have h0:i - 1< cs.length:=by omega
   have:=List.pairwise_iff_getElem.1 hp (i - 1) i h0 hil (by omega)
   rw [← Y41 h0,← Y41 hil] at this
   rw [decide_eq_false (show ¬ ((cs.getD (i - 1) default).Id≥(cs.getD i default).Id) by omega)]
   simp
 · rw [decide_eq_false c];rfl
theorem Yjq {c :Y7} {hs:List Y5} (hc:Y1a c=true):Y8f (Y8q c hs)=true:=by
 obtain ⟨s1,s2⟩:=Y1s hc
 refine Yiv (fun x hx=> ?_) (Yiu hs c.Sites 0) (Nat.le_trans (Yo9 hs c.Sites 0) (by omega))
 obtain ⟨j,h1,h2,h3⟩:=Y9j hs c.Sites 0 x hx
 have hs:=(s2 _ (Y3f h1)).1
 unfold Y3n at hs
 unfold Y84 at h3
 simp only [Bool.and_eq_true,decide_eq_true_eq] at hs h3
 rw [h2]
 refine ⟨⟨by show (0:Int)≤((0+j:Nat):Int);omega,by show ((0+j:Nat):Int)< 256;omega⟩,?_⟩
 exact ⟨by have:=h3.2.2;show 1≤(c.Sites.getD j default).Weight;omega,hs.2.1.2⟩
theorem Yxp (N :Nat) (l:List Int) (hl:l.length≤100):∀ (d fuel i k:Nat),l.length=i+d→d< fuel→k< 4294967296→
   ∃ h:Nat,h< 4294967296∧J40 N fuel (k:Int) l (l.length:Int) (i:Int)=some ((h:Int),0):=by
 intro d
 induction d with
 | zero=>
   intro fuel i k hi hf hk
   obtain ⟨fuel,rfl⟩:∃ f,fuel=f+1:=⟨fuel - 1,by omega⟩
   rw [J40]
   refine ⟨k,hk,Yo (by omega) ?_⟩
   rw [w64 (by omega) (by omega)]
 | succ d ih=>
   intro fuel i k hi hf hk
   obtain ⟨fuel,rfl⟩:∃ f,fuel=f+1:=⟨fuel - 1,by omega⟩
   obtain ⟨x,hx⟩:=Int.eq_ofNat_of_zero_le (show 0≤IntKind.u32.wrap (l.getD i default) by rw [Yc7];omega)
   have hx3:IntKind.u32.wrap (l.getD i default)< 4294967296:=by rw [Yc7];omega
   have hx2:x< 4294967296:=by omega
   obtain ⟨h,h1,h2⟩:=ih fuel (i+1) (Yfp k x) (by omega) (by omega) (Yem k x)
   rw [J40,Int.toNat_natCast,w64 (n:=(i:Int)+1) (by omega) (by omega),hx]
   exact ⟨h,h1,Yi (by omega) (Y8 (by omega) (Yx (stB (Yxc N k x hk hx2) h2)))⟩
theorem Y11i {N :Nat} (hN:1000≤N) {f:Ye} (hf:Y57 f=true) (key:Int) (hk:0≤key∧key< 4294967296):∃ h:Nat,h< 4294967296∧J7e N key f=some ((h:Int),0):=by
 obtain ⟨k,rfl⟩:=Int.eq_ofNat_of_zero_le hk.1
 unfold J7e J7d
 rw [Yfl,decide_eq_true hk,Yhs,hf]
 obtain ⟨h,h1,h2⟩:=Yxp N [f.Src,f.Dst,f.Proto,bOr .i64 (IntKind.i64.wrap (f.Sport*2 ^ 16)) f.Dport] (by simp) 4 N 0 k rfl (by omega) (by omega)
 have wk:IntKind.u32.wrap (k:Int)=(k:Int):=by rw [Yc7];omega
 refine ⟨h,h1,stB rfl (Yc (stB rfl (Yj (Yx ?_))))⟩
 rw [wk]
 exact h2
theorem Yjr :∀ (T ids:List Int) (x:Int),ids.Nodup→x ∉ ids→(ids.map fun a=>T.count a).sum+T.count x≤T.length
 | [],ids,x,_,_=>by
   have:∀ l:List Int,(l.map fun a=>([]:List Int).count a).sum=0:=by
     intro l
     induction l with
     | nil=>rfl
     | cons a l ih=>rw [List.map_cons,List.sum_cons,ih,List.count_nil]
   rw [this,List.count_nil]
   exact Nat.le_refl _
 | t :: T,ids,x,hn,hx=>by
   have ih:=Yjr T ids x hn hx
   have hs:∀ l:List Int,(l.map fun a=>(t :: T).count a).sum=(l.map fun a=>T.count a).sum+l.count t:=by
     intro l
     induction l with
     | nil=>rfl
     | cons a l il=>
       simp only [List.map_cons,List.sum_cons,List.count_cons] at il ⊢
       rw [il]
       have:(if (t==a)=true then 1 else 0)=(if (a==t)=true then 1 else 0):=by
         by_cases e:t=a
         · subst e;rfl
         · rw [if_neg (by simpa using e),if_neg (by simpa using fun h=>e h.symm)]
       omega
   rw [hs,List.count_cons,List.length_cons]
   have h1:ids.count t≤1:=List.nodup_iff_count.1 hn t
   by_cases e:t=x
   · subst e
     have:ids.count t=0:=List.count_eq_zero.2 hx
     rw [if_pos (by simp)]
     omega
   · rw [if_neg (by simpa using e)]
     omega
theorem Yxq :∀ {cs:List Y3},cs.Pairwise (fun a b=>a.Id< b.Id)→(cs.map fun c=>c.Id).Nodup:=by
 intro cs h
 rw [List.Nodup,List.pairwise_map]
 exact h.imp fun h=>Int.ne_of_lt h
theorem Y15d {cs :List Y3} (hg:Good cs):cs.Pairwise fun a b=>a.Id< b.Id:=by
 rw [List.pairwise_iff_getElem]
 intro i j hi hj hij
 have:=hg.up j i hij hj
 rwa [Y41 hi,Y41 hj] at this
theorem Y15e {cs :List Y3} {T:List Int} {c:List Nat} (h:Cnt cs T c):((cs.map fun x=>x.Id).map fun a=>T.count a).sum=c.sum:=by
 congr 1
 apply List.ext_getElem (by simp [h.len])
 intro i h1 h2
 have hi:i< cs.length:=by simpa using h1
 have:=h.at_ i hi
 rw [Y41 hi,List.getD_eq_getElem?_getD,List.getElem?_eq_getElem h2] at this
 simpa using this
theorem Yp4 {cs :List Y3} (hg:Good cs) (hne:0< cs.length):0< (wts cs).sum:=by
 have h0:=Yo7 cs hne
 rw [List.drop_zero] at h0
 rw [h0,List.sum_cons]
 have:=(hg.w 0 hne).1
 omega
theorem Y15f {cs :List Y3} {T:List Int} (h:Y8f cs=true) (hne:0< cs.length) (hT:T.length=31) (hC:Cnt cs T (Y4m (wts cs) 31 (31,List.replicate cs.length 0))):∀ x∈T,∃ c∈cs,c.Id=x:=by
 have hg:=Yq6 h
 have hS:=Yp4 hg hne
 obtain ⟨r1,r2,r3⟩:=Yp3 (wts cs) hS 31 31 0 (List.replicate cs.length 0) (by decide) (by rw [List.length_replicate,Y156]) (fun j hj=>by
   rw [List.getD_eq_getElem?_getD,List.getElem?_replicate]
   split <;> simp) (by simp) (by simp)
 intro x hx
 by_cases c:x∈cs.map fun c=>c.Id
 · obtain ⟨q,q1,q2⟩:=List.mem_map.1 c
   exact ⟨q,q1,q2⟩
 · have:=Yjr T (cs.map fun c=>c.Id) x (Yxq (Y15d hg)) c
   rw [Y15e hC,r2,hT] at this
   have:=List.count_pos_iff.2 hx
   omega
theorem Yxr {cs :List Y3} (hc:Y8f cs=true) {f:Ye} (hf:Y57 f=true) (key:Int) (hk:0≤key∧key< 4294967296):
   ∃ id is,J1x 281474976710656 cs key f=some (id,is)∧(is=true→∃ c∈cs,c.Id=id)∧(is=false→cs=[]):=by
 obtain ⟨h,h1,h2⟩:=Y11i (N:=281474976710656) (by decide) hf key hk
 unfold J1x
 cases cs with
 | nil=>
   exact ⟨0,false,stB h2 (stB (Yxh _ (by show (0:Int)≤(h:Int);omega)) rfl),fun e=>absurd e (by decide),fun _=>rfl⟩
 | cons c cs=>
   obtain ⟨T,t1,t2,t3,t4⟩:=Y11g hc (by simp)
   refine ⟨_,true,stB h2 (stB (Y157 t1 t2 _ (by show (0:Int)≤(h:Int);omega)) rfl),fun _=>Y15f hc (by simp) t2 t4 _ (Y3f (by rw [t2];omega)),fun e=>absurd e (by decide)⟩
end Go.Proofs.YtpdcnikdoikldaaGreatDoor.Pu
