import Derived.Test.YtpdcnikdoikldaaGreatDoorSvWb
set_option linter.unusedVariables false
set_option linter.unusedSimpArgs false
namespace Go.Proofs.YtpdcnikdoikldaaGreatDoor.Sv
open Go Go.RowKit
def zeq :Value->D->Bool
 | .bool a,.bool b=>a==b
 | .int k n,.int k' m=>k==k'&&n==m
 | .string s,.str t=>s.size==0&&t.size==0
 | .pointer none,.nilp=>true
 | .slice none 0 0,.nils=>true
 | .nilFunc,.nilf=>true
 | .chan none,.undef=>true
 | _,_=>false
def Yjx :List Value->List D->Bool
 | [],[]=>true
 | v :: vs,d :: ds=>zeq v d&&Yjx vs ds
 | _,_=>false
theorem Ydu {s :ByteArray} (h:s.size=0):s=ByteArray.empty:=by
 obtain ⟨d⟩:=s
 have:d=#[]:=Array.eq_empty_of_size_eq_zero h
 subst this
 rfl
theorem Y19f {v :Value} {d:D} (h:zeq v d=true):ofV v=some d/\v.oneCell'=true:=by
 unfold zeq at h
 split at h
 . simp at h;subst h;exact ⟨rfl,rfl⟩
 . simp at h;obtain ⟨rfl,rfl⟩:=h;exact ⟨rfl,rfl⟩
 . simp only [Bool.and_eq_true,beq_iff_eq] at h
   rw [Ydu h.1,Ydu h.2];exact ⟨rfl,rfl⟩
 . exact ⟨rfl,rfl⟩
 . exact ⟨rfl,rfl⟩
 . exact ⟨rfl,rfl⟩
 . exact ⟨rfl,rfl⟩
 . simp at h
theorem Yrv :∀ {vs:List Value} {ds:List D},Yjx vs ds=true->Ydw vs=some ds/\Y1r vs
 | [],[],h=>⟨rfl,Y1r.nil⟩
 | [],_ :: _,h=>by simp [Yjx] at h
 | _ :: _,[],h=>by simp [Yjx] at h
 | v :: vs,d :: ds,h=>by
   simp only [Yjx,Bool.and_eq_true] at h
   obtain ⟨h1,h2⟩:=Y19f h.1
   obtain ⟨h3,h4⟩:=Yrv h.2
   refine ⟨by simp [Ydw,h1,h3],?_⟩
   intro u hu
   rcases List.mem_cons.1 hu with rfl | hu
   . exact h2
   . exact h4 u hu
def Yec (f :TypeId->Option (List Nat)):List Field->Nat->Option (List Nat)
 | [],_=>some []
 | x :: r,o=>match x.name== "_"|| !(Nat.beq x.offset o) with
   | true=>none
   | false=>match f x.type with
     | none=>none
     | some ks=>match Yec f r (o+ks.length) with
       | none=>none
       | some rs=>some (ks++rs)
def Y43 (P :Program):Nat->TypeId->Option (List Nat)
 | 0,_=>none
 | d+1,t=>match P.underlying t with
   | some .bool=>some [1]
   | some (.int _)=>some [0]
   | some .string=>some [2]
   | some (.struct fs)=>match P.stoodInHeld t with
     | true=>none
     | false=>match Yec (Y43 P d) fs.toList 0,P.info? t with
       | some ks,some j=>bif Nat.beq j.size ks.length then some ks else none
       | _,_=>none
   | _=>none
def isS (P :Program) (t:TypeId):Bool:=match P.underlying t with | some (.struct _)=>true | _=>false
def pk (P :Program) (t:TypeId) (xs:List Value):Value:=bif isS P t then .agg xs.toArray else xs.headD Go.undef
theorem Yc0 :∀ {k1 k2:List Nat} {as bs:List D} {r:Bool},Y1z (k1++k2) as bs=some r->
   ∃ a1 a2 b1 b2 r1 r2,as=a1++a2/\bs=b1++b2/\a1.length=k1.length/\b1.length=k1.length/\Y1z k1 a1 b1=some r1/\Y1z k2 a2 b2=some r2/\r=(r1&&r2)
 | [],k2,as,bs,r,h=>⟨[],as,[],bs,true,r,rfl,rfl,rfl,rfl,rfl,h,rfl⟩
 | k :: k1,k2,[],bs,r,h=>by simp [Y1z] at h
 | k :: k1,k2,a :: as,[],r,h=>by simp [Y1z] at h
 | k :: k1,k2,a :: as,b :: bs,r,h=>by
   simp only [List.cons_append,Y1z] at h
   split at h
   . rename_i x y hx hy
     obtain ⟨a1,a2,b1,b2,r1,r2,rfl,rfl,h1,h2,h3,h4,rfl⟩:=Yc0 hy
     simp only [Option.some.injEq] at h
     refine ⟨a :: a1,a2,b :: b1,b2,x&&r1,r2,rfl,rfl,by simp [h1],by simp [h2],by simp [Y1z,hx,h3],h4,?_⟩
     rw [<- h,Bool.and_assoc]
   . simp at h
theorem Yn9 {P :Program} {d:Nat} {t:TypeId} {ks:List Nat} (h:Y43 P d t=some ks):(isS P t=true/\∃ j,P.info? t=some j/\j.size=ks.length)\/(isS P t=false/\ks.length=1):=by
 cases d with
 | zero=>simp [Y43] at h
 | succ d=>
   unfold Y43 at h
   unfold isS
   split at h
   . rename_i hu;rw [hu];simp at h;subst h;exact .inr ⟨rfl,rfl⟩
   . rename_i hu;rw [hu];simp at h;subst h;exact .inr ⟨rfl,rfl⟩
   . rename_i hu;rw [hu];simp at h;subst h;exact .inr ⟨rfl,rfl⟩
   . rename_i fs hu
     rw [hu]
     split at h
     . simp at h
     . split at h
       . rename_i ks' j hk hj
         cases hb:Nat.beq j.size ks'.length with
         | false=>rw [hb] at h;simp at h
         | true=>
           rw [hb] at h
           simp only [cond_true,Option.some.injEq] at h
           subst h
           exact .inl ⟨rfl,j,hj,Nat.eq_of_beq_eq_true hb⟩
       . simp at h
   . simp at h
theorem Ym2 {P :Program} {d:Nat} {t:TypeId} {ks:List Nat} (h:Y43 P d t=some ks):∃ u,P.underlying t=some u/\(match u with | .array _ _=>False | _=>True):=by
 cases d with
 | zero=>simp [Y43] at h
 | succ d=>
   unfold Y43 at h
   split at h
   . rename_i hu;exact ⟨_,hu,trivial⟩
   . rename_i hu;exact ⟨_,hu,trivial⟩
   . rename_i hu;exact ⟨_,hu,trivial⟩
   . rename_i hu;exact ⟨_,hu,trivial⟩
   . simp at h
theorem Yrw {P :Program} {w:World} {d:Nat} {t:TypeId} {ks:List Nat} (h:Y43 P d t=some ks) {px mx qx:List Value} (hm:mx.length=ks.length):(part t (px++(mx++qx)).toArray px.length).run P w=.ok (pk P t mx) w:=by
 obtain ⟨u,hu,hn⟩:=Ym2 h
 unfold pk
 rcases Yn9 h with ⟨hs,j,hj,hsz⟩ | ⟨hs,h1⟩
 . rw [hs]
   unfold isS at hs
   rw [hu] at hs
   cases u <;> simp at hs
   simp only [part,isAgg,Go.sizeOf,typeInfo,Sem.run_bind,run_underlying hu,Result.andThen_ok,Sem.run_pure,if_true,cond_true]
   simp [hj,hsz,<- hm,List.extract_eq_take_drop]
 . rw [hs]
   have hx:∃ v,mx=[v]:=List.length_eq_one_iff.1 (hm.trans h1)
   obtain ⟨v,rfl⟩:=hx
   have ha:(isAgg t).run P w=.ok false w:=by
     unfold isS at hs
     rw [hu] at hs
     simp only [isAgg,Sem.run_bind,run_underlying hu,Result.andThen_ok]
     cases u <;> first
       | exact hn.elim
       | (simp at hs;done)
       | rfl
   simp [part,ha]
theorem Rs.split {im bo :Nat->Prop} {w:World} {I:Env}:∀ {a1 a2:List D} {xs:List Value},Rs im w bo I (a1++a2) xs->∃ x1 x2,xs=x1++x2/\Rs im w bo I a1 x1/\Rs im w bo I a2 x2
 | [],a2,xs,h=>⟨[],xs,rfl,.nil,h⟩
 | d :: a1,a2,_,.cons h1 h2=>by
   obtain ⟨x1,x2,rfl,k1,k2⟩:=Rs.split h2
   exact ⟨_ :: x1,x2,rfl,.cons h1 k1,k2⟩
def EqAt (P :Program) (im bo:Nat->Prop) (I:Env) (w w':World) (m:Nat) (t:TypeId) (ks:List Nat):Prop:=
 ∀ (as bs:List D) (xs ys:List Value) (r:Bool),Rs im w' bo I as xs->Rs im w' bo I bs ys->Y1z ks as bs=some r->(Op.equalIn m t (pk P t xs) (pk P t ys)).run P w=.ok r w
theorem eqF {P :Program} {im bo:Nat->Prop} {I:Env} {w w':World} {d m:Nat} (hf:∀ t ks,Y43 P d t=some ks->EqAt P im bo I w w' m t ks):∀ (fs:List Field) (o:Nat) (ks:List Nat),Yec (Y43 P d) fs o=some ks->
   ∀ (as bs:List D) (px py xs ys:List Value) (r:Bool),px.length=o->py.length=o->Rs im w' bo I as xs->Rs im w' bo I bs ys->Y1z ks as bs=some r->(Op.eqFields m (px++xs).toArray (py++ys).toArray fs).run P w=.ok r w
 | [],o,ks,h,as,bs,px,py,xs,ys,r,hpx,hpy,hx,hy,he=>by
   simp [Yec] at h
   subst h
   cases as <;> cases bs <;> simp [Y1z] at he
   subst he
   simp [Op.eqFields]
 | x :: fs,o,ks,h,as,bs,px,py,xs,ys,r,hpx,hpy,hx,hy,he=>by
   unfold Yec at h
   split at h
   . simp at h
   . rename_i hb
     simp only [Bool.or_eq_false_iff,Bool.not_eq_false'] at hb
     split at h
     . simp at h
     . rename_i k1 hk1
       split at h
       . simp at h
       . rename_i k2 hk2
         simp only [Option.some.injEq] at h
         subst h
         obtain ⟨a1,a2,b1,b2,r1,r2,rfl,rfl,h1,h2,h3,h4,rfl⟩:=Yc0 he
         obtain ⟨x1,x2,rfl,hx1,hx2⟩:=Rs.split hx
         obtain ⟨y1,y2,rfl,hy1,hy2⟩:=Rs.split hy
         have hoff:x.offset=o:=Nat.eq_of_beq_eq_true hb.2
         have hname:x.name≠ "_":=by simpa using hb.1
         have e1:=hf _ _ hk1 a1 b1 x1 y1 r1 hx1 hy1 h3
         have p1:=Yrw (w:=w) hk1 (px:=px) (mx:=x1) (qx:=x2) (hx1.length.symm.trans h1)
         have p2:=Yrw (w:=w) hk1 (px:=py) (mx:=y1) (qx:=y2) (hy1.length.symm.trans h2)
         rw [hpx] at p1
         rw [hpy] at p2
         have e2:=eqF hf fs (o+k1.length) k2 hk2 a2 b2 (px++x1) (py++y1) x2 y2 r2 (by simp [hpx,<- hx1.length,h1]) (by simp [hpy,<- hy1.length,h2]) hx2 hy2 h4
         simp only [List.append_assoc] at e2
         simp only [Op.eqFields,if_pos hname,hoff,Sem.run_bind,p1,p2,e1,Result.andThen_ok]
         cases r1 with
         | true=>simpa using e2
         | false=>simp
theorem eqT {P :Program} {im bo:Nat->Prop} {I:Env} {w w':World}:∀ (d:Nat) (t:TypeId) (ks:List Nat),Y43 P d t=some ks->∀ m,d<=m->EqAt P im bo I w w' m t ks
 | 0,t,ks,h,m,hm=>by simp [Y43] at h
 | d+1,t,ks,h,0,hm=>by omega
 | d+1,t,ks,h,m+1,hm=>by
   intro as bs xs ys r hx hy he
   unfold Y43 at h
   unfold pk isS
   split at h
   . rename_i hu
     simp at h;subst h
     rw [hu]
     simp only [cond_false]
     match as,bs,he with
     | [a],[b],he=>
       cases hx with
       | cons hx1 hx2=>
       cases hx2
       cases hy with
       | cons hy1 hy2=>
       cases hy2
       cases a <;> cases b <;> simp [Y1z,Yhg] at he
       cases hx1;cases hy1
       rw [<- he]
       exact run_equalIn_bool' w m t _ _ hu
     | [],[],he=>exact absurd (show (none:Option Bool)=some r from he) (by simp)
     | [],_ :: _,he=>exact absurd (show (none:Option Bool)=some r from he) (by simp)
     | [_],[],he=>simp [Y1z] at he
     | [_],_ :: _ :: _,he=>simp [Y1z] at he
     | _ :: _ :: _,[],he=>simp [Y1z] at he
     | _ :: _ :: _,[_],he=>simp [Y1z] at he
     | _ :: _ :: _,_ :: _ :: _,he=>simp [Y1z] at he
   . rename_i k hu
     simp at h;subst h
     rw [hu]
     simp only [cond_false]
     match as,bs,he with
     | [a],[b],he=>
       cases hx with
       | cons hx1 hx2=>
       cases hx2
       cases hy with
       | cons hy1 hy2=>
       cases hy2
       cases a <;> cases b <;> simp [Y1z,Yhg] at he
       rename_i k1 n1 k2 n2
       cases hx1;cases hy1
       cases hkk:k1==k2 with
       | false=>simp [hkk] at he
       | true=>
         have:=eq_of_beq hkk
         subst this
         simp at he
         rw [<- he]
         exact run_equalIn_int w m t k1 k _ _ hu
     | [],[],he=>exact absurd (show (none:Option Bool)=some r from he) (by simp)
     | [],_ :: _,he=>exact absurd (show (none:Option Bool)=some r from he) (by simp)
     | [_],[],he=>simp [Y1z] at he
     | [_],_ :: _ :: _,he=>simp [Y1z] at he
     | _ :: _ :: _,[],he=>simp [Y1z] at he
     | _ :: _ :: _,[_],he=>simp [Y1z] at he
     | _ :: _ :: _,_ :: _ :: _,he=>simp [Y1z] at he
   . rename_i hu
     simp at h;subst h
     rw [hu]
     simp only [cond_false]
     match as,bs,he with
     | [a],[b],he=>
       cases hx with
       | cons hx1 hx2=>
       cases hx2
       cases hy with
       | cons hy1 hy2=>
       cases hy2
       cases a <;> cases b <;> simp [Y1z,Yhg] at he
       cases hx1;cases hy1
       rw [<- he]
       exact run_equalIn_string w m t _ _ hu
     | [],[],he=>exact absurd (show (none:Option Bool)=some r from he) (by simp)
     | [],_ :: _,he=>exact absurd (show (none:Option Bool)=some r from he) (by simp)
     | [_],[],he=>simp [Y1z] at he
     | [_],_ :: _ :: _,he=>simp [Y1z] at he
     | _ :: _ :: _,[],he=>simp [Y1z] at he
     | _ :: _ :: _,[_],he=>simp [Y1z] at he
     | _ :: _ :: _,_ :: _ :: _,he=>simp [Y1z] at he
   . rename_i fs hu
     rw [hu]
     split at h
     . simp at h
     . rename_i hst
       split at h
       . rename_i ks' j hk hj
         cases hb:Nat.beq j.size ks'.length with
         | false=>rw [hb] at h;simp at h
         | true=>
           rw [hb] at h
           simp only [cond_true,Option.some.injEq] at h
           subst h
           simp only [cond_true]
           have hfo:P.fieldsOf t=fs:=by unfold Program.fieldsOf;rw [hu]
           rw [run_equalIn_struct w m t _ _ (by rw [hfo];exact hu) hst,hfo]
           have:=eqF (w:=w) (fun t ks h=>eqT d t ks h m (by omega)) fs.toList 0 ks' hk as bs [] [] xs ys r rfl rfl hx hy he
           simpa using this
       . simp at h
   . simp at h
def Y15h (P :Program) (t:Nat) (i:TI):Bool:=
 match P.info? t,P.underlying t with
 | some j,some d=>Nat.beq j.size i.size&&Nat.beq j.bytes i.bytes&&i.kind.desc d&&(!(zok i)||(match j.zero with | some z=>Yjx z.cells.toList i.zero&&Nat.beq i.zero.length i.size | none=>false))&&(i.eq.isEmpty||(decide (Y43 P 20 t=some i.eq)&&isS P t&& !P.eqGuardType P.depth t))
 | _,_=>false
def Yhr (P :Program):Nat->Ty->Bool
 | _,[]=>true
 | t,i :: r=>Y15h P t i&&Yhr P (t+1) r
theorem Yrx {P :Program}:∀ {ty:Ty} {k:Nat},Yhr P k ty=true->∀ (t:Nat) (i:TI),ty[t]? =some i->Y4a P (k+t) i
 | [],k,h,t,i,hi=>by simp at hi
 | j :: r,k,h,t,i,hi=>by
   simp only [Yhr,Bool.and_eq_true] at h
   cases t with
   | succ t=>
     have:=Yrx h.2 t i (by simpa using hi)
     rwa [show k+(t+1)=k+1+t by omega]
   | zero=>
     simp only [List.getElem?_cons_zero,Option.some.injEq] at hi
     subst hi
     have h1:=h.1
     unfold Y15h at h1
     rw [Nat.add_zero]
     cases hi:P.info? k with
     | none=>rw [hi] at h1;simp at h1
     | some x=>
     cases hu:P.underlying k with
     | none=>rw [hi,hu] at h1;simp at h1
     | some d=>
     rw [hi,hu] at h1
     simp only [Bool.and_eq_true,Nat.beq_eq] at h1
     obtain ⟨⟨⟨⟨a1,a2⟩,a3⟩,a4⟩,a5⟩:=h1
     refine ⟨⟨x,d,hi,hu,a1,a2,a3,fun hz=> ?_⟩,fun he=> ?_⟩
     . rw [hz] at a4
       simp only [Bool.not_true,Bool.false_or] at a4
       cases hzz:x.zero with
       | none=>rw [hzz] at a4;simp at a4
       | some z=>
         rw [hzz] at a4
         simp only [Bool.and_eq_true,Nat.beq_eq] at a4
         obtain ⟨b1,b2⟩:=Yrv a4.1
         exact ⟨z,rfl,b1,a4.2,b2⟩
     . rw [he] at a5
       simp only [Bool.false_or,Bool.and_eq_true,decide_eq_true_eq,Bool.not_eq_true'] at a5
       intro im bo I w w' as bs xs ys r hx hy hr
       refine ⟨?_,a5.2⟩
       have:=eqT (P:=P) (im:=im) (bo:=bo) (I:=I) (w:=w) (w':=w') 20 k _ a5.1.1 10000 (by decide) as bs xs ys r hx hy hr
       unfold pk at this
       rw [a5.1.2] at this
       exact this
theorem tyOk {P :Program} {ty:Ty} (h:Yhr P 0 ty=true):Y2p P ty:=fun t i hi=>by
 have:=Yrx h t i hi
 rwa [Nat.zero_add] at this
end Go.Proofs.YtpdcnikdoikldaaGreatDoor.Sv
