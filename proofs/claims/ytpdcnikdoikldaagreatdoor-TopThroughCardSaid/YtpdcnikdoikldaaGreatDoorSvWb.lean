import Derived.Test.YtpdcnikdoikldaaGreatDoorSvX
import Derived.KernelRfl
set_option linter.unusedVariables false
set_option linter.unusedSimpArgs false
namespace Go.Proofs.YtpdcnikdoikldaaGreatDoor.Sv
open Go Go.RowKit
section
variable {U : Type} {e : U -> List D} {sz : Nat} {xs : List U}
theorem Y54 (he :∀ x,(e x).length=sz):∀ (xs:List U),(eL e xs).length=xs.length*sz
 | []=>by simp [eL]
 | x :: r=>by simp [eL,Y54 he r,he x,Nat.succ_mul,Nat.add_comm]
theorem Y38 :∀ (xs ys:List U),eL e (xs++ys)=eL e xs++eL e ys
 | [],ys=>rfl
 | x :: r,ys=>by simp [eL,Y38 r ys]
theorem Y17d (xs :List U) (y:U):eL e (xs++[y])=eL e xs++e y:=by rw [Y38];simp [eL]
theorem Y7f (he :∀ x,(e x).length=sz):∀ (i:Nat) (xs:List U),(eL e xs).drop (i*sz)=eL e (xs.drop i)
 | 0,xs=>by simp
 | i+1,[]=>by simp [eL]
 | i+1,x :: r=>by
   rw [List.drop_succ_cons,<- Y7f he i r]
   show (e x++eL e r).drop ((i+1)*sz)=_
   rw [Nat.succ_mul,Nat.add_comm,<- List.drop_drop,List.drop_left' (he x)]
theorem Y7g (he :∀ x,(e x).length=sz):∀ (i:Nat) (xs:List U),(eL e xs).take (i*sz)=eL e (xs.take i)
 | 0,xs=>by simp [eL]
 | i+1,[]=>by simp [eL]
 | i+1,x :: r=>by
   rw [List.take_succ_cons]
   show (e x++eL e r).take ((i+1)*sz)=e x++eL e (r.take i)
   rw [Nat.succ_mul,Nat.add_comm,List.take_append,List.take_of_length_le (by rw [he x];omega),he x,Nat.add_sub_cancel_left,Y7g he i r]
theorem Yby (he :∀ x,(e x).length=sz) (xs:List U):(eL e xs).take (xs.length*sz)=eL e xs:=by
 rw [Y7g he,List.take_length]
theorem Y19e (he :∀ x,(e x).length=sz) {i o k:Nat} (hi:i< xs.length) (ho:o+k<=sz):(i*sz+o)+k<=(eL e xs).length:=by
 rw [Y54 he]
 have:(i+1)*sz<=xs.length*sz:=Nat.mul_le_mul_right _ hi
 rw [Nat.succ_mul] at this
 omega
theorem Y1f (he :∀ x,(e x).length=sz):xs.length*sz<=(eL e xs).length:=by rw [Y54 he];exact Nat.le_refl _
theorem Y48 (he :∀ x,(e x).length=sz) {y:U} {cs:List D} (hy:cs=e y):(eL e xs).take (xs.length*sz)++cs=eL e (xs++[y]):=by rw [Yby he,Y17d,hy]
theorem Y4u (he :∀ x,(e x).length=sz) {ys:List U}:(eL e xs).take (xs.length*sz)++(eL e ys).take (ys.length*sz)=eL e (xs++ys):=by rw [Yby he,Yby he,Y38]
theorem Le.apr {b n :Nat} {ys:List U} (hn:ys.length=n):Le (.ref b 0 n n) (.ref b 0 ys.length ys.length):=by rw [hn];exact Le.rfl
variable [Inhabited U]
theorem Ygj {i :Nat} (hi:i< xs.length):xs.drop i=xs.getD i default :: xs.drop (i+1):=by
 rw [List.drop_eq_getElem_cons hi]
 simp [hi]
theorem Ys (he :∀ x,(e x).length=sz) {i:Nat} (hi:i< xs.length):(eL e xs).drop (i*sz)=e (xs.getD i default)++eL e (xs.drop (i+1)):=by
 rw [Y7f he,Ygj hi]
 rfl
theorem ixl {n :Int} {k:Nat} (h:0<=n/\n< (k:Int)):n.toNat< k:=by omega
theorem Le.ipc {g :Bool} {cs ds:List D} (h:cs=ds):Le (.ip g cs) (.ip g ds):=Le.of (by rw [h])
theorem Le.ipt {g :Bool} {cs ds:List D}:Le (.ip g (cs++ds)) (.ip g cs):=by
 intro im w bo I v h
 cases h with
 | ip h1 h2 h3 o h4=>
   refine .ip h1 h2 (vs:=_) (Eq.refl _) ?_ ?_
   . subst h3
     have:=o.take cs.length
     rwa [List.take_take,List.length_append,Nat.min_eq_left (by omega)] at this
   . subst h3
     have:=h4.take cs.length
     rwa [List.take_left' (Eq.refl _),List.take_take,List.length_append,Nat.min_eq_left (by omega)] at this
theorem Le.iptl {g :Bool} {cs ds es:List D} (h:cs=ds++es):Le (.ip g cs) (.ip g ds):=fun im w bo I v k=>Le.ipt im w bo I v (Le.ipc h im w bo I v k)
theorem Y4b (he :∀ x,(e x).length=sz) {i o:Nat} (hi:i< xs.length) (ho:o< sz):(eL e xs).drop (i*sz+o)≠[]:=by
 rw [<- List.drop_drop,Ys he hi]
 intro h
 have:=congrArg List.length h
 simp [he] at this
 omega
theorem Y4c (he :∀ x,(e x).length=sz) {i o:Nat} (hi:i< xs.length) (ho:o< sz):((eL e xs).drop (i*sz+o)).headD .undef=((e (xs.getD i default)).drop o).headD .undef:=by
 rw [<- List.drop_drop,Ys he hi,List.drop_append]
 have h0:o - (e (xs.getD i default)).length=0:=by rw [he];omega
 rw [h0]
 have hne:(e (xs.getD i default)).drop o≠[]:=by
   intro h
   have:=congrArg List.length h
   simp [he] at this
   omega
 cases hd:(e (xs.getD i default)).drop o with
 | nil=>exact absurd hd hne
 | cons a r=>rfl
theorem Y7q (he :∀ x,(e x).length=sz) {i o k:Nat} (hi:i< xs.length) (ho:o+k<=sz):k<=((eL e xs).drop (i*sz+o)).length:=by
 rw [<- List.drop_drop,Ys he hi]
 simp [he]
 omega
theorem Y9f (he :∀ x,(e x).length=sz) {i o k:Nat} (hi:i< xs.length) (ho:o+k<=sz):((eL e xs).drop (i*sz+o)).take k=((e (xs.getD i default)).drop o).take k:=by
 rw [<- List.drop_drop,Ys he hi,List.drop_append]
 have h0:o - (e (xs.getD i default)).length=0:=by rw [he];omega
 rw [h0,List.drop_zero,List.take_append]
 have h1:k - ((e (xs.getD i default)).drop o).length=0:=by rw [List.length_drop,he];omega
 rw [h1,List.take_zero,List.append_nil]
theorem Y4l (he :∀ x,(e x).length=sz) {i o:Nat} {vs:List D} {y:U} (hi:i< xs.length) (ho:o+vs.length<=sz) (hy:Y2g (e (xs.getD i default)) o vs=e y):Y2g (eL e xs) (i*sz+o) vs=eL e (xs.set i y):=by
 have h1:xs=xs.take i++xs.getD i default :: xs.drop (i+1):=by rw [<- Ygj hi,List.take_append_drop]
 have h2:xs.set i y=xs.take i++y :: xs.drop (i+1):=by
   rw [List.set_eq_take_append_cons_drop,if_pos hi]
 rw [h2,Y38]
 conv=>lhs;rw [h1,Y38]
 have hl:(eL e (xs.take i)).length=i*sz:=by rw [Y54 he,List.length_take,Nat.min_eq_left (Nat.le_of_lt hi)]
 show Y2g (eL e (xs.take i)++(e (xs.getD i default)++eL e (xs.drop (i+1)))) _ _=_++(e y++eL e (xs.drop (i+1)))
 rw [<- hy]
 unfold Y2g
 have hx:=he (xs.getD i default)
 simp only [List.take_append,List.drop_append,hl,hx]
 have a1:i*sz+o - i*sz=o:=by omega
 have a2:o - sz=0:=by omega
 have a3:i*sz+o+vs.length - i*sz=o+vs.length:=by omega
 have a4:o+vs.length - sz=0:=by omega
 rw [a1,a2,a3,a4,List.take_of_length_le (by rw [hl];omega),List.drop_of_length_le (l:=eL e (xs.take i)) (by rw [hl];omega)]
 simp
end
theorem Y3r {U :Type} {e:U->List D} {sz:Nat} {xs:List U} (he:∀ x,(e x).length=sz) {i o k:Nat} {vs:List D} {p:Bool} (hi:i< xs.length) (ho:o+k<=sz) (hv:vs.length=k) (hf:Y24 vs=true):
 vs.length=k/\(i*sz+o)+vs.length<=(eL e xs).length/\(p=true->Y24 vs=true):=⟨hv,by rw [hv];exact Y19e he hi ho,fun _=>hf⟩
theorem Le.pt {b k :Nat}:Le (.ptr b (0+k)) (.ptr b (k+0)):=Le.of (by rw [Nat.zero_add,Nat.add_zero])
instance {b n :Nat}:Decidable (Y1a b n):=by unfold Y1a;exact inferInstance
theorem Yky :∀ (a b:List D),Y24 a=true->Y24 b=true->Y24 (a++b)=true
 | [],b,_,h=>h
 | d :: a,b,h,k=>by
   simp only [List.cons_append,Y24,Bool.and_eq_true] at h ⊢
   exact ⟨h.1,Yky a b h.2 k⟩
theorem Y3s {U :Type} {e:U->List D} (h:∀ x,Y24 (e x)=true):∀ (xs:List U),Y24 (eL e xs)=true
 | []=>rfl
 | x :: r=>Yky _ _ (h x) (Y3s h r)
def Y12 (s :ByteArray):List Int:=s.data.toList.map fun b=>(b.toNat:Int)
def mkS (xs :List Int):ByteArray:=⟨(xs.map fun n=>UInt8.ofNat n.toNat).toArray⟩
theorem Ywp (s :ByteArray):Y63 s=eL (Y1d .u8) (Y12 s):=by
 unfold Y63 Y12
 induction s.data.toList with
 | nil=>rfl
 | cons x r ih=>simp only [List.map_cons,eL,Y1d,ih];rfl
theorem Y4v (s :ByteArray):(Y12 s).length=s.size:=by
 unfold Y12 ByteArray.size
 simp
theorem Y16 (k :IntKind) (x:Int):(Y1d k x).length=1:=rfl
theorem Y1n (x :ByteArray):(Y1i x).length=1:=rfl
theorem Ykz {k :IntKind} (xs:List Int):(eL (Y1d k) xs).take xs.length=eL (Y1d k) xs:=by
 have:=Yby (Y16 k) xs
 rwa [Nat.mul_one] at this
theorem Yay (xs :List Int):Y6v ((eL (Y1d .u8) xs).take xs.length)=mkS xs:=by
 rw [Ykz]
 unfold Y6v mkS
 congr 2
 induction xs with
 | nil=>rfl
 | cons x r ih=>simp only [eL,Y1d,List.cons_append,List.nil_append,List.map_cons,ih]
theorem Yfl (xs :List Int):xs.length<=(eL (Y1d .u8) xs).length/\∀ d∈(eL (Y1d .u8) xs).take xs.length,d.byte:=by
 refine ⟨by rw [Y54 (Y16 .u8),Nat.mul_one];exact Nat.le_refl _,?_⟩
 rw [Ykz]
 induction xs with
 | nil=>intro d hd;simp [eL] at hd
 | cons x r ih=>
   intro d hd
   rcases List.mem_cons.1 hd with rfl | hd
   . trivial
   . exact ih d hd
theorem Ybz {U :Type} {e:U->List D} {z:U} {cs:List D} (h:cs=e z):∀ n,Y4q cs n=eL e (List.replicate n z)
 | 0=>rfl
 | n+1=>by rw [List.replicate_succ];show cs++Y4q cs n=e z++eL e (List.replicate n z);rw [Ybz h n,h]
inductive LeT :List (Nat× D)->List (Nat× D)->Prop
 | nil:LeT [] []
 | cons {t:Nat} {d d':D} {r r':List (Nat× D)}:Le d d'->LeT r r'->LeT ((t,d) :: r) ((t,d') :: r')
theorem LeT.look {l l' :List (Nat× D)} (h:LeT l l') (t:Nat):Le ((look l t).getD .undef) ((look l' t).getD .undef):=by
 induction h with
 | nil=>exact Le.rfl
 | cons a b ih=>
   simp only [Sv.look]
   rename_i k d d' r r'
   cases Nat.beq k t with
   | true=>exact a
   | false=>exact ih
theorem Is.jumpL {c :Cx} {P:Program} {ty:Ty} {f n:Nat} (hc:Is c P ty f n) {orc:List (Nat× List (Nat× Out))} {m:Nat} {kt:List Nat} {kh:List (Nat× Nat)} {K K':List Item} {s:St} {T T':List (Nat× D)} {H:List (Nat× Option Blk)} {os:List Prop} (h:Yn3 P ty n orc m kt kh K s=some (K',⟨T,H⟩,os)) (ho:Os os) (hT:LeT T T') (hn:c.Goes K' ⟨T',H⟩):c.Goes K s:=by
 refine hc.jump h ho ?_
 intro im I a w hr
 exact hn im I a w {hr with tmp:=fun t=>hT.look t _ _ _ _ _ (hr.tmp t)}
theorem Le.rfs {b n m k :Nat} (h:n=k) (h':m=k):Le (.ref b 0 n m) (.ref b 0 k k):=by rw [h,h'];exact Le.rfl
inductive Les :List D->List D->Prop
 | nil:Les [] []
 | cons {d d':D} {ds ds':List D}:Le d d'->Les ds ds'->Les (d :: ds) (d' :: ds')
theorem Les.rs {ds ds' :List D} (h:Les ds ds') {im:Nat->Prop} {w:World} {bo:Nat->Prop} {I:Env}:∀ {vs:List Value},Rs im w bo I ds vs->Rs im w bo I ds' vs:=by
 induction h with
 | nil=>intro vs k;exact k
 | cons a b ih=>
   intro vs k
   cases k with
   | cons k1 k2=>exact .cons (a _ _ _ _ _ k1) (ih k2)
theorem Le.tup {ds ds' :List D} (h:Les ds ds'):Le (.tup ds) (.tup ds'):=fun _ _ _ _ _ k=>by
 cases k with
 | tup k=>exact .tup (h.rs k)
theorem Le.agg {ds ds' :List D} (h:Les ds ds'):Le (.agg ds) (.agg ds'):=fun _ _ _ _ _ k=>by
 cases k with
 | agg o k=>exact .agg o (h.rs k)
theorem Yn6 {n :Nat} (xs:List Int) (h:n=xs.length):n<=(eL (Y1d .u8) xs).length/\∀ d,d∈(eL (Y1d .u8) xs).take n->d.byte:=by
 subst h;exact Yfl xs
theorem Yto {n :Nat} (xs:List Int) (h:n=xs.length):Y6v ((eL (Y1d .u8) xs).take n)=mkS xs:=by
 subst h;exact Yay xs
theorem Con.le {P :Program} {f:FuncId} {ds ds':List D} {H:List (Nat× Blk)} {r:D} {H':List (Nat× Option Blk)} (h:Con P f ds' H r H') (l:Les ds ds'):Con P f ds H r H':=
 ⟨h.1,fun im bo I w vs a b c d=>h.2 im bo I w vs a b c (l.rs d)⟩
theorem Le.slt {g :Bool} {cs ds:List D} {n c c':Nat} (hc:c'<=c):Le (.sl g (cs++ds) n c) (.sl g cs n c'):=by
 intro im w bo I v h
 cases h with
 | sl0 a c h=>
   obtain rfl:c'=0:=by omega
   exact .sl0 a _ h
 | sl h1 h2 h3 h4 o h5=>
   subst h4
   refine .sl h1 (Nat.le_trans hc h2) h3 (Eq.refl _) ?_ ?_
   . have:=o.take cs.length
     rwa [List.take_take,List.length_append,Nat.min_eq_left (by omega)] at this
   . have:=h5.take cs.length
     rwa [List.take_left' (Eq.refl _),List.take_take,List.length_append,Nat.min_eq_left (by omega)] at this
theorem Le.via {d e f :D} (h:Le d e) (k:Le e f):Le d f:=fun im w bo I v x=>k im w bo I v (h im w bo I v x)
theorem Le.ofEq {d r r' :D} (h:Le d r) (e:r'=r):Le d r':=by rw [e];exact h
theorem Le.sln {g :Bool} {cs:List D} {n c k:Nat} (h:n=k) (h':c=k):Le (.sl g cs n c) (.sl g cs k k):=by rw [h,h'];exact Le.rfl
theorem Le.cutr {U :Type} {e:U->List D} {sz:Nat} {g:Bool} (he:∀ x,(e x).length=sz) {xs:List U} {off lo n c:Nat} (ho:off=lo*sz) (h:lo+n<=xs.length) (hc:n<=c):
   Le (.sl g ((eL e xs).drop off) n c) (.sl g (eL e ((xs.drop lo).take n)) ((xs.drop lo).take n).length ((xs.drop lo).take n).length):=by
 have hl:((xs.drop lo).take n).length=n:=by rw [List.length_take,List.length_drop];omega
 have hs:(eL e xs).drop off=eL e ((xs.drop lo).take n)++eL e ((xs.drop lo).drop n):=by
   rw [ho,Y7f he,<- Y38,List.take_append_drop]
 rw [hs,hl]
 exact Le.slt hc
theorem Yjw {U :Type} {e:U->List D} {sz:Nat} (he:∀ x,(e x).length=sz) {xs:List U} {h l:Int} {n:Nat} (k:0<=h/\h<=((xs.length:Nat):Int)/\0<=l/\l<=h/\n<=xs.length):
   0<=h/\h<=((xs.length:Nat):Int)/\0<=l/\l<=h/\n<=xs.length/\(eL e xs).length<=xs.length*sz:=
 ⟨k.1,k.2.1,k.2.2.1,k.2.2.2.1,k.2.2.2.2,by rw [Y54 he];exact Nat.le_refl _⟩
theorem Yeb {U :Type} {e:U->List D} {sz:Nat} (he:∀ x,(e x).length=sz) {xs:List U} {lo n off:Nat} (ho:off=lo*sz) (h:lo+n<=xs.length):off+n*sz<=(eL e xs).length:=by
 rw [Y54 he,ho,<- Nat.add_mul];exact Nat.mul_le_mul_right _ h
theorem rd_len {U :Type} {e:U->List D} {sz:Nat} (he:∀ x,(e x).length=sz) {xs:List U} {n:Nat} (h:n<=xs.length):n*sz<=(eL e xs).length:=by
 rw [Y54 he];exact Nat.mul_le_mul_right _ h
theorem Yhq {U :Type} {e:U->List D} {sz:Nat} (he:∀ x,(e x).length=sz) {xs ys:List U} {off lo k m:Nat} (ho:off=lo*sz) (hl:lo+k<=xs.length) (hk:k<=m) (hm:m<=ys.length):
   Y2g (eL e xs) off (((eL e ys).take (m*sz)).take (k*sz))=eL e (xs.take lo++ys.take k++xs.drop (lo+k)):=by
 have h1:((eL e ys).take (m*sz)).take (k*sz)=eL e (ys.take k):=by
   rw [List.take_take,Nat.min_eq_left (Nat.mul_le_mul_right _ hk),Y7g he]
 have h2:(eL e (ys.take k)).length=k*sz:=by rw [Y54 he,List.length_take,Nat.min_eq_left (Nat.le_trans hk hm)]
 rw [h1,Y2g,h2,ho,<- Nat.add_mul,Y7g he,Y7f he,Y38,Y38]
theorem Con.nilsplit {P :Program} {f:FuncId} {g:Bool} {cs:List D} {r:D} {H':List (Nat× Option Blk)} (hA:Con P f [.nils] [] r H') (hB:Con P f [.e0] [] r H'):Con P f [.sl g cs 0 0] [] r H':=by
 refine ⟨hA.1,fun im bo I w vs a b c hv=> ?_⟩
 cases hv with
 | cons h1 h2=>
 cases h2
 cases h1 with
 | sl0 ad cc hac=>
   cases ad with
   | none=>obtain rfl:=hac rfl;exact hA.2 im bo I w _ a b c (.cons .nils .nil)
   | some ad=>exact hB.2 im bo I w _ a b c (.cons (.e0 _ _) .nil)
 | sl=>exact hB.2 im bo I w _ a b c (.cons (.e0 _ _) .nil)
mutual
def D.loose :D->D
 | .agg cs=>.agg (Y2r cs)
 | .tup cs=>.tup (Y2r cs)
 | .fn f cs=>.fn f (Y2r cs)
 | .ip _ cs=>.ip false (Y2r cs)
 | .sl _ cs n c=>.sl false (Y2r cs) n c
 | .undef=>.undef
 | .bool b=>.bool b
 | .int k n=>.int k n
 | .str s=>.str s
 | .nilp=>.nilp
 | .ptr b o=>.ptr b o
 | .nils=>.nils
 | .z0=>.z0
 | .e0=>.e0
 | .ref b o n c=>.ref b o n c
 | .chan b=>.chan b
 | .pn b=>.pn b
 | .nilf=>.nilf
def Y2r :List D->List D
 | []=>[]
 | d :: ds=>d.loose :: Y2r ds
end
theorem Ycm :∀ ds:List D,(Y2r ds).length=ds.length
 | []=>rfl
 | d :: ds=>by unfold Y2r;rw [List.length_cons,List.length_cons,Ycm ds]
theorem Ycn :∀ a b:List D,Y2r (a++b)=Y2r a++Y2r b
 | [],b=>rfl
 | d :: a,b=>by show d.loose :: Y2r (a++b)=d.loose :: (Y2r a++Y2r b);rw [Ycn a b]
mutual
theorem R.loose {im :Nat->Prop} {w:World}:∀ {bo:Nat->Prop} {I:Env} {d:D} {v:Value},R im w bo I d v->∀ {bo':Nat->Prop},(∀ b,bo b->bo' b)->R im w bo' I d.loose v
 | _,_,_,_,.undef _,_,_=>.undef _
 | _,_,_,_,.bool _,_,_=>.bool _
 | _,_,_,_,.int _ _,_,_=>.int _ _
 | _,_,_,_,.str _,_,_=>.str _
 | _,_,_,_,.agg o h,_,hb=>.agg o (Rs.loose h hb)
 | _,_,_,_,.tup h,_,hb=>.tup (Rs.loose h hb)
 | _,_,_,_,.nilp,_,_=>.nilp
 | _,_,_,_,.ptr h,_,_=>.ptr h
 | _,_,_,_,.ip (g:=g) hB hc ht o h,_,hb=>.ip (g:=false) (hB.imp id fun h=>⟨rfl,hb _ h.2⟩) hc (by rw [Ycm];exact ht) o (Rs.loose h (fun b hx=>by cases g <;> simp_all [noB]))
 | _,_,_,_,.nils,_,_=>.nils
 | _,_,_,_,.z0 _,_,_=>.z0 _
 | _,_,_,_,.e0 _ _,_,_=>.e0 _ _
 | _,_,_,_,.sl0 _ _ h,_,_=>.sl0 _ _ h
 | _,_,_,_,.sl (g:=g) hB hl hc ht o h,_,hb=>.sl (g:=false) (hB.imp id fun h=>⟨rfl,hb _ h.2⟩) hl hc (by rw [Ycm];exact ht) o (Rs.loose h (fun b hx=>by cases g <;> simp_all [noB]))
 | _,_,_,_,.ref0 a h,_,_=>.ref0 a h
 | _,_,_,_,.refz a h,_,_=>.refz a h
 | _,_,_,_,.ref h a b,_,_=>.ref h a b
 | _,_,_,_,.chan h,_,_=>.chan h
 | _,_,_,_,.pn0,_,_=>.pn0
 | _,_,_,_,.pn h,_,_=>.pn h
 | _,_,_,_,.fn h,_,hb=>.fn (Rs.loose h hb)
 | _,_,_,_,.nilf,_,_=>.nilf
theorem Rs.loose {im :Nat->Prop} {w:World}:∀ {bo:Nat->Prop} {I:Env} {ds:List D} {vs:List Value},Rs im w bo I ds vs->∀ {bo':Nat->Prop},(∀ b,bo b->bo' b)->Rs im w bo' I (Y2r ds) vs
 | _,_,_,_,.nil,_,_=>.nil
 | _,_,_,_,.cons h t,_,hb=>.cons (R.loose h hb) (Rs.loose t hb)
end
theorem Le.loo {U :Type} {e e':U->List D} {g:Bool} {xs:List U} {n c:Nat} (h:∀ x,Y2r (e x)=e' x):Le (.sl g (eL e xs) n c) (.sl false (eL e' xs) n c):=by
 intro im w bo I v hv
 have he:Y2r (eL e xs)=eL e' xs:=by
   clear hv
   induction xs with
   | nil=>rfl
   | cons x xs ih=>show Y2r (e x++eL e xs)=e' x++eL e' xs;rw [Ycn,h,ih]
 have:=hv.loose (bo':=bo) (fun _ h=>h)
 rw [<- he]
 exact this
theorem Le.lnd {g :Bool} {cs:List D} {n c:Nat}:Le (.sl g cs n c) (.sl false cs n c):=by
 intro im w bo I v h
 cases h with
 | sl0 a c h=>exact .sl0 a c h
 | sl h1 h2 h3 h4 o h5=>
   refine .sl (g:=false) (h1.imp id fun h=>⟨Eq.refl _,h.2⟩) h2 h3 h4 o ?_
   cases g with
   | true=>exact Rs.mono (fun _ h=>h) h5 (fun _ _=>Eq.refl _) (fun b hb=>by simp [noB] at hb) (fun _ _ h=>h)
   | false=>exact h5
inductive LeH :List (Nat× Option Blk)->List (Nat× Option Blk)->Prop
 | nil:LeH [] []
 | same {b:Nat} {x:Option Blk} {r r':List (Nat× Option Blk)}:LeH r r'->LeH ((b,x) :: r) ((b,x) :: r')
 | cons {b:Nat} {p:Bool} {sz e:Nat} {cs0 cs:List D} {r r':List (Nat× Option Blk)}:Les cs0 cs->LeH r r'->LeH ((b,some ⟨p,sz,cs0,e⟩) :: r) ((b,some ⟨p,sz,cs,e⟩) :: r')
 | cut {b:Nat} {p:Bool} {sz e:Nat} {cs0 cs:List D} {r r':List (Nat× Option Blk)} (k:Nat):cs=cs0.take k->LeH r r'->LeH ((b,some ⟨p,sz,cs0,e⟩) :: r) ((b,some ⟨p,sz,cs,e⟩) :: r')
theorem Les.len {a b :List D} (h:Les a b):a.length=b.length:=by
 induction h with
 | nil=>exact Eq.refl _
 | cons _ _ ih=>rw [List.length_cons,List.length_cons,ih]
def HRel (x y :Option (Option Blk)):Prop:=y=x\/∃ blk cs,x=some (some blk)/\y=some (some {blk with cs:=cs})/\cs.length<=blk.cs.length/\∀ (im bo:Nat->Prop) (I:Env) (w:World) (vs:List Value),Rs im w bo I blk.cs vs->Rs im w bo I cs (vs.take cs.length)
theorem LeH.look {l l' :List (Nat× Option Blk)} (h:LeH l l') (t:Nat):HRel (look l t) (look l' t):=by
 induction h with
 | nil=>exact .inl (Eq.refl _)
 | same _ ih=>
   simp only [Sv.look]
   rename_i k x r r' _
   cases Nat.beq k t with
   | true=>exact .inl (Eq.refl _)
   | false=>exact ih
 | cons a b ih=>
   simp only [Sv.look]
   rename_i k p sz e cs0 cs r r'
   cases Nat.beq k t with
   | true=>
     refine .inr ⟨⟨p,sz,cs0,e⟩,cs,Eq.refl _,Eq.refl _,Nat.le_of_eq a.len.symm,fun im bo I w vs h=> ?_⟩
     have:=a.rs h
     rwa [List.take_of_length_le (by rw [this.length];exact Nat.le_refl _)]
   | false=>exact ih
 | cut k0 a b ih=>
   simp only [Sv.look]
   rename_i k p sz e cs0 cs r r'
   cases Nat.beq k t with
   | true=>
     refine .inr ⟨⟨p,sz,cs0,e⟩,cs,Eq.refl _,Eq.refl _,by rw [a,List.length_take];exact Nat.min_le_right _ _,fun im bo I w vs h=> ?_⟩
     have:=h.take k0
     rw [a,List.length_take,h.length]
     have e:vs.take (min k0 vs.length)=vs.take k0:=by
       rw [List.take_eq_take_iff];omega
     rw [e]
     exact this
   | false=>exact ih
theorem HRel.up {x y :Option (Option Blk)} (h:HRel x y) {k:Blk} (hy:y=some (some k)):∃ k0,x=some (some k0)/\k.pure=k0.pure/\(k.sz=k0.sz/\k.el=k0.el)/\k.cs.length<=k0.cs.length/\∀ (im bo:Nat->Prop) (I:Env) (w:World) (vs:List Value),Rs im w bo I k0.cs vs->Rs im w bo I k.cs (vs.take k.cs.length):=by
 rcases h with h | ⟨blk,cs,h1,h2,h3,h4⟩
 . refine ⟨k,by rw [<- h,hy],Eq.refl _,⟨Eq.refl _,Eq.refl _⟩,Nat.le_refl _,fun _ _ _ _ vs h=> ?_⟩
   rwa [List.take_of_length_le (by rw [h.length];exact Nat.le_refl _)]
 . rw [h2] at hy
   obtain rfl:=Option.some.inj (Option.some.inj hy)
   exact ⟨blk,h1,Eq.refl _,⟨Eq.refl _,Eq.refl _⟩,h3,h4⟩
theorem LeH.cutE {U :Type} {e:U->List D} {sz:Nat} (he:∀ x,(e x).length=sz) (xs:List U) (n:Nat):eL e ((xs.drop 0).take n)=(eL e xs).take (n*sz):=(Y7g he n xs).symm
theorem Is.jumpH {c :Cx} {P:Program} {ty:Ty} {f n:Nat} (hc:Is c P ty f n) {orc:List (Nat× List (Nat× Out))} {m:Nat} {kt:List Nat} {kh:List (Nat× Nat)} {K K':List Item} {s:St} {T T':List (Nat× D)} {H H':List (Nat× Option Blk)} {os:List Prop} (h:Yn3 P ty n orc m kt kh K s=some (K',⟨T,H⟩,os)) (ho:Os os) (hT:LeT T T') (hH:LeH H H') (hn:c.Goes K' ⟨T',H'⟩):c.Goes K s:=by
 refine hc.jump h ho ?_
 intro im I a w hr
 refine hn im I a w {hr with tmp:=fun t=>hT.look t _ _ _ _ _ (hr.tmp t),own:=⟨?_,?_,?_⟩,owo:= ?_,dom:= ?_}
 . intro b k hk
   obtain ⟨k0,x1,x2,x3,x4,x5⟩:=(hH.look b).up hk
   obtain ⟨pl,p1,p2⟩:=hr.own.blk b k0 x1
   refine ⟨pl,p1,?_⟩
   cases pl with
   | nil=>exact List.eq_nil_of_length_eq_zero (by have:k0.cs=[]:=p2;rw [this] at x4;exact Nat.le_zero.1 x4)
   | ch B cap=>
     obtain ⟨buf,s0,r0,vs0,y1,y2,y3⟩:=p2
     refine ⟨buf,s0,r0,vs0.take k.cs.length,y1,?_,by rw [x2];exact x5 _ _ _ _ _ y3⟩
     refine ⟨y2.1.trans x3.1.symm,?_⟩
     rcases y2.2 with rfl | rfl
     . exact .inl (by simp)
     . cases hn:k.cs.length with
       | zero=>exact .inl (by simp)
       | succ m=>exact .inr (by simp)
   | at_ B base sz lim=>
     obtain ⟨cc,el,fz,y1,y2,y3,y4,y5,y6,y7⟩:=p2
     have et:((cc.toList.drop base).take k0.cs.length).take k.cs.length=(cc.toList.drop base).take k.cs.length:=by
       rw [List.take_take,Nat.min_eq_left x4]
     refine ⟨cc,el,fz,y1,y2,by omega,⟨y4.1.trans x3.1.symm,by rw [x3.2];exact y4.2⟩,y5,by rw [<- et];exact y6.take _,?_⟩
     rw [x2,<- et]
     exact x5 _ _ _ _ _ y7
 . intro b k pl B hk hp hB
   obtain ⟨k0,x1,_⟩:=(hH.look b).up hk
   exact hr.own.out b k0 pl B x1 hp hB
 . intro b b' k l pl pl' B hk hl hp hp' hB hB'
   obtain ⟨k0,x1,_⟩:=(hH.look b).up hk
   obtain ⟨l0,y1,_⟩:=(hH.look b').up hl
   exact hr.own.inj _ _ _ _ _ _ _ x1 y1 hp hp' hB hB'
 . intro b k pl B hk hp hB
   obtain ⟨k0,x1,_⟩:=(hH.look b).up hk
   exact hr.owo b k0 pl B x1 hp hB
 . intro b hb
   refine hr.dom b ?_
   rcases hH.look b with h | ⟨blk,cs,h1,h2,h3⟩
   . exact h.symm.trans hb
   . exact absurd (h2.symm.trans hb) (by simp)
theorem Ywq {U :Type} {e:U->List D} {sz:Nat} (he:∀ x,(e x).length=sz) {xs:List U} {lo n off:Nat} (ho:off=lo*sz) (h:lo+n<=xs.length):n*sz<=((eL e xs).drop off).length:=by
 rw [ho,Y7f he,Y54 he,List.length_drop];exact Nat.mul_le_mul_right _ (by omega)
theorem Le.rfc0 {b n m :Nat} (h':n<=m):Le (.ref b 0 n m) (.ref b 0 n n):=by
 intro im w bo I v hv
 cases hv with
 | ref0 a h1=>exact .ref0 a h1
 | refz a h1=>exact .refz a h1
 | ref h1 h2 h3=>exact .ref h1 (Nat.le_trans h' h2) h3
theorem Le.rfc {b n m k :Nat} (h:n=k) (h':k<=m):Le (.ref b 0 n m) (.ref b 0 k k):=by
 subst h;exact Le.rfc0 h'
theorem Le.ipl {g :Bool} {cs cs':List D} (h:Les cs cs'):Le (.ip g cs) (.ip g cs'):=fun im w bo I v k=>by
 cases k with
 | ip h1 h2 h3 o h4=>exact .ip h1 h2 (by rw [<- h.len];exact h3) o (h.rs h4)
abbrev oT :Out:={cv:=some (.bool true)}
abbrev oF :Out:={cv:=some (.bool false)}
abbrev oC (d :D):Out:={cv:=some d}
abbrev oR (d :D):Out:={r:=d}
abbrev oTr :Out:={cv:=some (.bool true),rm:=true}
abbrev oFr :Out:={cv:=some (.bool false),rm:=true}
abbrev oCr (d :D):Out:={cv:=some d,rm:=true}
theorem Is.rt {c :Cx} {P:Program} {ty:Ty} {f n:Nat} (hc:Is c P ty f n) {U:Type} {F:U->D} {e r:U} {H:List (Nat× Blk)} (hfin:c.Fin H (F r) []) {fn:Func} (hf:P.funcs[f]? =some fn) {orc:List (Nat× List (Nat× Out))} {m:Nat} {K:List Item} {s:St} {d:D} {os:List Prop}
   (h:Yn4 P ty n fn.results.toList orc m K s=some (d,os)) (ho:Os os) (k:some e=some r) (hle:Le d (F e)) (hi:(F e).inn []=true):c.Goes K s:=by
 obtain rfl:=Option.some.inj k
 exact hc.ret hfin hf h ho hle hi
def Yn7 (fn :Func) (ds:List D) (H:List (Nat× Blk)):Bool:= !fn.body.isNone&&(!(fn.name== "runtime.NumGoroutine")&&((H.all fun p=>Nat.ble (p.1+1) 100)&&Nat.ble ds.length fn.ntmps))
theorem Yn8 {P :Program} {ty:Ty} {f:FuncId} {fn:Func} {ds:List D} {H:List (Nat× Blk)} {r:D} {H':List (Nat× Option Blk)} (ok:Y2p P ty) (mix:P.follows .mixedOrders=true) (hf:P.funcs[f]? =some fn) (hb:Yn7 fn ds H=true)
   (h:∀ {c:Cx},Is c P ty f fn.ntmps->c.Fin H r H'->c.Goes [.code (Y68 fn)] (st0 ds H)):Con P f ds H r H':=by
 unfold Yn7 at hb
 simp only [Bool.and_eq_true,Bool.not_eq_true'] at hb
 obtain ⟨b1,b2,b3,b4⟩:=hb
 obtain ⟨body,hbody⟩:∃ b,fn.body=some b:=by
   cases hh:fn.body with
   | none=>rw [hh] at b1;cases b1
   | some b=>exact ⟨b,Eq.refl _⟩
 refine Ywo ok mix hf hbody b2 b3 (Nat.le_of_ble_eq_true b4) fun c h1 h2 h3 h4 hfin=> ?_
 have:=h ⟨h1,h2,h3,h4⟩ hfin
 rwa [show Y68 fn=body by unfold Y68;rw [hbody];exact Eq.refl _] at this
theorem Yl0 {U :Type} {e e':U->List D} (h:∀ x,Y2r (e x)=e' x):∀ xs:List U,Y2r (eL e xs)=eL e' xs
 | []=>Eq.refl _
 | x :: xs=>by show Y2r (e x++eL e xs)=e' x++eL e' xs;rw [Ycn,h,Yl0 h xs]
abbrev iI (n :Int):D:=.int .i64 n
abbrev sS {U :Type} (g:Bool) (e:U->List D) (xs:List U):D:=.sl g (eL e xs) xs.length xs.length
abbrev rR {U :Type} (b:Nat) (xs:List U):D:=.ref b 0 xs.length xs.length
abbrev pB (b sz :Nat) (cs:List D):Nat× Option Blk:=(b,some (bk true sz cs))
abbrev qB (b :Nat) (cs:List D):Nat× Option Blk:=(b,some (bk false 0 cs))
theorem o0 :Os []:=.nil
theorem o1 {p :Prop} (h:p):Os [p]:=.cons h .nil
theorem o2 {p q :Prop} (h:p) (i:q):Os [p,q]:=.cons h (o1 i)
theorem o3 {p q r :Prop} (h:p) (i:q) (j:r):Os [p,q,r]:=.cons h (o2 i j)
theorem o4 {p q r s :Prop} (h:p) (i:q) (j:r) (k:s):Os [p,q,r,s]:=.cons h (o3 i j k)
theorem o5 {p q r s :Prop} {os:List Prop} (h:p) (i:q) (j:r) (k:s) (t:Os os):Os (p :: q :: r :: s :: os):=.cons h (.cons i (.cons j (.cons k t)))
section
variable {P : Program} {ty : Ty} {f : FuncId} {fn : Func} {U : Type}
abbrev Orc:=List (Nat× List (Nat× Out))
def nx (P :Program) (ty:Ty) (n:Nat) (orc:Orc) (m:Nat) (x:Option (List Item× St)):Option (List Item× St):=match x with
 | some (K,s)=>(match adv P ty n orc m K s with | some (K',s',_)=>some (K',s') | none=>none)
 | none=>none
def nxO (P :Program) (ty:Ty) (n:Nat) (orc:Orc) (m:Nat) (x:Option (List Item× St)):Option (List Prop):=match x with
 | some (K,s)=>(match adv P ty n orc m K s with | some (_,_,os)=>some os | none=>none)
 | none=>none
def nxP (P :Program) (ty:Ty) (n:Nat) (orc:Orc) (m:Nat) (kt:List Nat) (kh:List (Nat× Nat)) (x:Option (List Item× St)):Option (List Item× St× List Prop):=match x with
 | some (K,s)=>Yn3 P ty n orc m kt kh K s
 | none=>none
def nxR (P :Program) (ty:Ty) (fn:Func) (orc:Orc) (m:Nat) (x:Option (List Item× St)):Option (D× List Prop):=match x with
 | some (K,s)=>Yn4 P ty fn.ntmps fn.results.toList orc m K s
 | none=>none
def nxB (P :Program) (ty:Ty) (fn:Func) (orc:Orc) (m:Nat) (l:List (Nat× Nat)) (hs:List Nat) (x:Option (List Item× St)):Option (D× List (Option (Option Blk))× List Prop):=match x with
 | some (K,s)=>Ytn P ty fn.ntmps fn.results.toList orc m l hs K s
 | none=>none
structure Z (P :Program) (ty:Ty) (f:FuncId) (fn:Func) (F:Cx->Prop) where
 c:Cx
 is:Is c P ty f fn.ntmps
 hf:P.funcs[f]? =some fn
 fin:F c
def Fi (H :List (Nat× Blk)) (r:D) (H':List (Nat× Option Blk)) (c:Cx):Prop:=c.Fin H r H'
def Fi2 (H :List (Nat× Blk)) (r:D) (H':List (Nat× Option Blk)) (u:D) (H'':List (Nat× Option Blk)) (t:Bool) (c:Cx):Prop:=(t=true->c.Fin H r H')/\(t=false->c.Fin H u H'')
variable {F : Cx -> Prop}
def Z.X (z :Z P ty f fn F) (x:Option (List Item× St)):Prop:=∀ K s,x=some (K,s)->z.c.Goes K s
def Z.G (z :Z P ty f fn F) (p:List Kt) (T:List (Nat× D)) (H:List (Nat× Option Blk)):Prop:=z.X (some (Yax (Y68 fn) p,⟨T,H⟩))
theorem Z.s {x :Option (List Item× St)} (z:Z P ty f fn F) (orc:Orc) (m:Nat) {os:List Prop} (ho:Os os) (hn:z.X (nx P ty fn.ntmps orc m x)) (h:nxO P ty fn.ntmps orc m x=some os:=by kernel_rfl):z.X x:=by
 rintro K s rfl
 simp only [nxO,nx] at h hn
 split at h
 . rename_i K' s' os' he
   obtain rfl:=Option.some.inj h
   rw [he] at hn
   exact z.is.go he ho (hn _ _ (Eq.refl _))
 . simp at h
def kq (l :List (Nat× Nat)) (H:List (Nat× Option Blk)):List (Nat× Nat):=H.map fun p=>((look l p.1).getD p.1,p.1)
def kk (T :List (Nat× D)):List Nat:=T.map (·.1)
theorem Z.j {x :Option (List Item× St)} (z:Z P ty f fn F) (orc:Orc) (m:Nat) (l:List (Nat× Nat)) {os:List Prop} (ho:Os os) {K':List Kt} {T:List (Nat× D)} {H:List (Nat× Option Blk)} (hn:z.G K' T H) (h:nxP P ty fn.ntmps orc m (kk T) (kq l H) x=some (Yax (Y68 fn) K',⟨T,H⟩,os):=by kernel_rfl):z.X x:=by
 rintro K s rfl
 exact z.is.jump h ho (hn _ _ (Eq.refl _))
theorem Z.k {x :Option (List Item× St)} (z:Z P ty f fn F) (orc:Orc) (m:Nat) {os:List Prop} (ho:Os os) {K':List Kt} {T:List (Nat× D)} {H:List (Nat× Option Blk)} (hn:z.G K' T H) (h:nxP P ty fn.ntmps orc m (kk T) (kq [] H) x=some (Yax (Y68 fn) K',⟨T,H⟩,os):=by kernel_rfl):z.X x:=z.j orc m [] ho hn h
theorem Z.jL {x :Option (List Item× St)} (z:Z P ty f fn F) (orc:Orc) (m:Nat) (l:List (Nat× Nat)) {os:List Prop} (ho:Os os) {K':List Kt} {T T':List (Nat× D)} {H:List (Nat× Option Blk)} (hT:LeT T T') (hn:z.G K' T' H) (h:nxP P ty fn.ntmps orc m (kk T') (kq l H) x=some (Yax (Y68 fn) K',⟨T,H⟩,os):=by kernel_rfl):z.X x:=by
 rintro K s rfl
 exact z.is.jumpL h ho hT (hn _ _ (Eq.refl _))
theorem Z.jH {x :Option (List Item× St)} (z:Z P ty f fn F) (orc:Orc) (m:Nat) (l:List (Nat× Nat)) {os:List Prop} (ho:Os os) {K':List Kt} {T T':List (Nat× D)} {H H':List (Nat× Option Blk)} (hT:LeT T T') (hH:LeH H H') (hn:z.G K' T' H') (h:nxP P ty fn.ntmps orc m (kk T') (kq l H') x=some (Yax (Y68 fn) K',⟨T,H⟩,os):=by kernel_rfl):z.X x:=by
 rintro K s rfl
 exact z.is.jumpH h ho hT hH (hn _ _ (Eq.refl _))
theorem Z.r {x :Option (List Item× St)} {H:List (Nat× Blk)} {d:U->D} {e r:U} (z:Z P ty f fn (Fi H (d r) [])) (orc:Orc) (m:Nat) {os:List Prop} (ho:Os os) (k:some e=some r) (h:nxR P ty fn orc m x=some (d e,os):=by kernel_rfl) (hi:(d e).inn []=true:=by kernel_rfl):z.X x:=by
 rintro K s rfl
 exact z.is.rt z.fin z.hf h ho k Le.rfl hi
theorem Z.rl {x :Option (List Item× St)} {H:List (Nat× Blk)} {d:U->D} {e r:U} (z:Z P ty f fn (Fi H (d r) [])) (orc:Orc) (m:Nat) (d':D) {os:List Prop} (ho:Os os) (k:some e=some r) (hle:Le d' (d e)) (h:nxR P ty fn orc m x=some (d',os):=by kernel_rfl) (hi:(d e).inn []=true:=by kernel_rfl):z.X x:=by
 rintro K s rfl
 exact z.is.rt z.fin z.hf h ho k hle hi
theorem Z.rb {x :Option (List Item× St)} {H:List (Nat× Blk)} {d:U->D} {dh:U->List (Nat× Option Blk)} {e r:U} (z:Z P ty f fn (Fi H (d r) (dh r))) (orc:Orc) (m:Nat) (l:List (Nat× Nat)) (d':D) {os:List Prop} (ho:Os os) (k:some e=some r) (hle:Le d' ((d e).map (ren l)))
   (h:nxB P ty fn orc m l ((Y6i (dh e)).map (·.1)) x=some (d',(Y6i (dh e)).map (fun p=>some (some (p.2.map (ren l)))),os):=by kernel_rfl) (hi:Yn5 H (d e) (dh e) l=true:=by kernel_rfl):z.X x:=by
 rintro K s rfl
 obtain rfl:=Option.some.inj k
 exact z.is.retB z.fin l z.hf h ho hle hi
theorem Z.rb1 {x :Option (List Item× St)} {H:List (Nat× Blk)} {t:U->Bool} {d u:U->D} {dh uh:U->List (Nat× Option Blk)} {e r:U} (z:Z P ty f fn (Fi2 H (d r) (dh r) (u r) (uh r) (t r))) (orc:Orc) (m:Nat) (l:List (Nat× Nat)) (d':D) {os:List Prop} (ho:Os os) (k:some e=some r) (hle:Le d' ((d e).map (ren l)))
   (h:nxB P ty fn orc m l ((Y6i (dh e)).map (·.1)) x=some (d',(Y6i (dh e)).map (fun p=>some (some (p.2.map (ren l)))),os):=by kernel_rfl) (hi:Yn5 H (d e) (dh e) l=true:=by kernel_rfl) (ht:t e=true:=by kernel_rfl):z.X x:=by
 rintro K s rfl
 obtain rfl:=Option.some.inj k
 exact z.is.retB (z.fin.1 ht) l z.hf h ho hle hi
theorem Z.rb2 {x :Option (List Item× St)} {H:List (Nat× Blk)} {t:U->Bool} {d u:U->D} {dh uh:U->List (Nat× Option Blk)} {e r:U} (z:Z P ty f fn (Fi2 H (d r) (dh r) (u r) (uh r) (t r))) (orc:Orc) (m:Nat) (l:List (Nat× Nat)) (d':D) {os:List Prop} (ho:Os os) (k:some e=some r) (hle:Le d' ((u e).map (ren l)))
   (h:nxB P ty fn orc m l ((Y6i (uh e)).map (·.1)) x=some (d',(Y6i (uh e)).map (fun p=>some (some (p.2.map (ren l)))),os):=by kernel_rfl) (hi:Yn5 H (u e) (uh e) l=true:=by kernel_rfl) (ht:t e=false:=by kernel_rfl):z.X x:=by
 rintro K s rfl
 obtain rfl:=Option.some.inj k
 exact z.is.retB (z.fin.2 ht) l z.hf h ho hle hi
theorem ci (ok :Y2p P ty) (mix:P.follows .mixedOrders=true) (fn:Func) {ds:List D} {H:List (Nat× Blk)} {r:D} {H':List (Nat× Option Blk)} (h:∀ z:Z P ty f fn (Fi H r H'),z.X (some ([.code (Y68 fn)],st0 ds H))) (hf:P.funcs[f]? =some fn:=by kernel_rfl) (hb:Yn7 fn ds H=true:=by kernel_rfl):Con P f ds H r H':=
 Yn8 ok mix hf hb fun hc hfin=>h ⟨_,hc,hf,hfin⟩ _ _ (Eq.refl _)
theorem ci1 (ok :Y2p P ty) (mix:P.follows .mixedOrders=true) (fn:Func) {ds:List D} {H:List (Nat× Blk)} {t:Bool} {r u:D} {H' H'':List (Nat× Option Blk)} (ht:t=true) (h:∀ z:Z P ty f fn (Fi2 H r H' u H'' t),z.X (some ([.code (Y68 fn)],st0 ds H))) (hf:P.funcs[f]? =some fn:=by kernel_rfl) (hb:Yn7 fn ds H=true:=by kernel_rfl):Con P f ds H r H':=
 Yn8 ok mix hf hb fun hc hfin=>h ⟨_,hc,hf,fun _=>hfin,fun e=>(by rw [ht] at e;cases e)⟩ _ _ (Eq.refl _)
theorem ci2 (ok :Y2p P ty) (mix:P.follows .mixedOrders=true) (fn:Func) {ds:List D} {H:List (Nat× Blk)} {t:Bool} {r u:D} {H' H'':List (Nat× Option Blk)} (ht:t=false) (h:∀ z:Z P ty f fn (Fi2 H r H' u H'' t),z.X (some ([.code (Y68 fn)],st0 ds H))) (hf:P.funcs[f]? =some fn:=by kernel_rfl) (hb:Yn7 fn ds H=true:=by kernel_rfl):Con P f ds H u H'':=
 Yn8 ok mix hf hb fun hc hfin=>h ⟨_,hc,hf,fun e=>(by rw [ht] at e;cases e),fun _=>hfin⟩ _ _ (Eq.refl _)
end
section
variable {C : Prop} {Qb : Type} {r : Qb}
theorem br {b :Bool} {x y:Option Qb} (h:(bif b then x else y)=some r) (t:b=true->x=some r->C) (f:b=false->y=some r->C):C:=by
 cases b
 . exact f rfl h
 . exact t rfl h
theorem bd {U :Type} {a:Option U} {f:U->Option Qb} (h:a.bind f=some r) (k:∀ x,a=some x->f x=some r->C):C:=by
 cases a with
 | none=>simp at h
 | some x=>exact k x rfl h
theorem vi {U :Type} {a:U} {f:U->Option Qb} (h:via a f=some r) (k:∀ x,a=x->f x=some r->C):C:=k a rfl h
theorem ck {p :Prop} [Decidable p] {a:Option Qb} (h:(if p then a else none)=some r) (k:p->a=some r->C):C:=by
 split at h
 . exact k (by assumption) h
 . simp at h
theorem brT {x y :Option Qb} (h:(bif true then x else y)=some r) (k:x=some r->C):C:=k h
theorem brF {x y :Option Qb} (h:(bif false then x else y)=some r) (k:y=some r->C):C:=k h
theorem no (h :(none:Option Qb)=some r):C:=by cases h
end
end Go.Proofs.YtpdcnikdoikldaaGreatDoor.Sv
