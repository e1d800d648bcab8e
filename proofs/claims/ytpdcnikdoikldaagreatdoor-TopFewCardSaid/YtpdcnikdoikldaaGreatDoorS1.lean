import Derived.Test.YtpdcnikdoikldaaGreatDoorE4
set_option linter.unusedVariables false
set_option linter.unusedSimpArgs false
namespace Go.Proofs.YtpdcnikdoikldaaGreatDoor.Pu
open Go Go.RowKit Go.Proofs.YtpdcnikdoikldaaGreatDoor.Sv Go.Proofs.YtpdcnikdoikldaaGreatDoor.Lf
def Y4d (r :Yk):Bool:=decide (0<=r.Site/\r.Site< 3)&&(decide (0<=r.Serial/\r.Serial< 65536)&&(decide (0<=r.Load/\r.Load< 256)&&decide (0<=r.Cap/\r.Cap< 256)))
theorem Yea (N :Nat) (x:Int):J43 N x=some (decide (0<=x/\x< 65536)):=by
 unfold J43 J9q
 rw [Y9t]
 congr 1
 by_cases h:x>=0 <;> by_cases k:x< 65536 <;> simp [h,k] <;> omega
theorem Yeb (N :Nat) (r:Yk):J42 N r=some (Y4d r):=by
 unfold J42 J4o Y4d
 rw [Y9v,Yea,in8,in8]
 cases decide (0<=r.Site/\r.Site< 3) with
 | false=>rfl
 | true=>
   cases decide (0<=r.Serial/\r.Serial< 65536) with
   | false=>rfl
   | true=>cases decide (0<=r.Load/\r.Load< 256) <;> rfl
def eqR (a b :Yk):Bool:=(a.Site==b.Site)&&((a.Serial==b.Serial)&&((a.Load==b.Load)&&((a.Cap==b.Cap)&&true)))
theorem Y16a {a b :Yk}:eqR a b=true↔a=b:=by
 obtain ⟨a1,a2,a3,a4⟩:=a
 obtain ⟨b1,b2,b3,b4⟩:=b
 unfold eqR
 simp only [Bool.and_eq_true,beq_iff_eq,Bool.and_true,Yk.mk.injEq]
def zR :Yk:=⟨0,0,0,0⟩
def Y4x (i :Int) (v:Yg):Bool:=((v.At== -1)&&eqR v.Report zR)||(Y22 v.At&&(Y4d v.Report&& !(v.Report.Site != i)))
def Y4y (vs :List Yg):Bool:=((List.range' 0 vs.length).all fun i=>Y4x (i:Int) (vs.getD i default))&&((vs.length:Int)==3)
theorem Y1bs (N :Nat) (r1:List Yg->List Yg->Int->Int->Option Bool) (t0:List Yg) (i:Int) (v:Yg) (t6:List Yg) (t7:Int):
   J6j N r1 t0 i v.Report.Site v.Report.Serial v.Report.Load v.Report.Cap v.At ((v.At== -1)&&eqR v.Report zR) t6 t7 i=if Y4x i v=true then r1 t0 t6 t7 (IntKind.i64.wrap (i+1)) else some false:=by
 unfold J6j J4p Y4x
 rw [show (⟨v.Report.Site,v.Report.Serial,v.Report.Load,v.Report.Cap⟩:Yk)=v.Report from rfl,Y5j,Yeb]
 cases ((v.At== -1)&&eqR v.Report zR) with
 | true=>rfl
 | false=>
   cases Y22 v.At with
   | false=>rfl
   | true=>
     cases Y4d v.Report with
     | false=>rfl
     | true=>cases (v.Report.Site != i) <;> rfl
theorem Yyd (N :Nat) (vs:List Yg) (hb:vs.length<=140737488355328):∀ (d fuel i:Nat),vs.length=i+d->d< fuel->
   J1l N fuel vs vs (vs.length:Int) (i:Int)=some (((List.range' i d).all fun i=>Y4x (i:Int) (vs.getD i default))&&((vs.length:Int)==3)):=by
 intro d
 induction d with
 | zero=>
   intro fuel i hi hf
   obtain ⟨fuel,rfl⟩:∃ f,fuel=f+1:=⟨fuel - 1,by omega⟩
   rw [J1l,List.range'_zero,List.all_nil,Bool.true_and]
   exact Yu (by omega) rfl
 | succ d ih=>
   intro fuel i hi hf
   obtain ⟨fuel,rfl⟩:∃ f,fuel=f+1:=⟨fuel - 1,by omega⟩
   rw [J1l,List.range'_succ,List.all_cons,Int.toNat_natCast]
   refine Ym (by omega) (Yd (by omega) ?_)
   have h2:=Y1bs N (J1l N fuel) vs (i:Int) (vs.getD i default) vs (vs.length:Int)
   rw [w64 (n:=(i:Int)+1) (by omega) (by omega)] at h2
   have hgo:(if Y4x (i:Int) (vs.getD i default)=true then J1l N fuel vs vs (vs.length:Int) ((i:Int)+1) else some false)=some ((Y4x (i:Int) (vs.getD i default)&&(List.range' (i+1) d).all fun i=>Y4x (i:Int) (vs.getD i default))&&((vs.length:Int)==3)):=by
     cases Y4x (i:Int) (vs.getD i default) with
     | true=>rw [if_pos rfl,Bool.true_and];exact ih fuel (i+1) (by omega) (by omega)
     | false=>rw [if_neg (by decide)];rfl
   rw [hgo] at h2
   cases hq:((vs.getD i default).At== -1) with
   | true=>rw [hq,Bool.true_and] at h2;exact Yq (Y1a h2)
   | false=>rw [hq,Bool.false_and] at h2;exact Yn h2
theorem Yck {N :Nat} (hN:140737488355328< N) (vs:List Yg) (hb:vs.length<=140737488355328):J5f N vs=some (Y4y vs):=Yyd N vs hb vs.length N 0 (by omega) (by omega)
theorem Y6c {vs :List Yg} (h:Y4y vs=true):vs.length=3:=by
 unfold Y4y at h
 simp only [Bool.and_eq_true,beq_iff_eq] at h
 omega
theorem Yec {vs :List Yg} (h:Y4y vs=true) {i:Nat} (hi:i< 3):Y4x (i:Int) (vs.getD i default)=true:=by
 have hl:=Y6c h
 unfold Y4y at h
 simp only [Bool.and_eq_true,List.all_eq_true] at h
 exact h.1 i (by rw [List.mem_range'_1];omega)
def BdN (n :Ya):Prop:=BdC n.Config/\n.Health.length<=140737488355328/\n.Seen.length<=140737488355328/\n.Flows.length<=140737488355328
def Y7b (n :Ya):Bool:=Y14 n.Config&&(decide (0<=n.Id/\n.Id< 3)&&(Y65 n.Health 4&&(Y4y n.Seen&&Y3b n.Flows)))
theorem Yaz {N :Nat} (hN:140737488355328< N) (n:Ya) (h:BdN n):J2h N n=some (Y7b n):=by
 obtain ⟨h1,h2,h3,h4⟩:=h
 unfold J2h J2a Y7b
 rw [Y3h hN _ h1,Y9v,Ybi hN _ _ h2,Yck hN _ h3,Ybk hN _ h4]
 cases Y14 n.Config with
 | false=>rfl
 | true=>
   cases decide (0<=n.Id/\n.Id< 3) with
   | false=>rfl
   | true=>
     cases Y65 n.Health 4 with
     | false=>rfl
     | true=>cases Y4y n.Seen <;> rfl
def Ybm (id :Int) (x:Y0):Bool:=bif x.Away then decide (0<=x.To/\x.To< 3)&& !(x.To==id) else !decide (x.To>=4)
def Y9x (n :Ya):Bool:=n.Flows.all (Ybm n.Id)&&(decide (0<=n.Serial/\n.Serial< 65536)&&Y7b n)
theorem Yye {N :Nat} (hN:140737488355328< N) (n:Ya) (h:BdN n):∀ (d fuel i:Nat),n.Flows.length=i+d->d< fuel->
   J13 N fuel n.Id n.Config.Version n.Config.Sites n.Health n.Seen n.Flows n.Serial n.Flows (n.Flows.length:Int) (i:Int)=some ((n.Flows.drop i).all (Ybm n.Id)&&(decide (0<=n.Serial/\n.Serial< 65536)&&Y7b n)):=by
 have h4:=h.2.2.2
 intro d
 induction d with
 | zero=>
   intro fuel i hi hf
   obtain ⟨fuel,rfl⟩:∃ f,fuel=f+1:=⟨fuel - 1,by omega⟩
   rw [J13,List.drop_of_length_le (by omega),List.all_nil,Bool.true_and]
   unfold J6k
   refine Yu (by omega) ?_
   by_cases a:n.Serial>=0
   . refine Ym a ?_
     by_cases b:n.Serial< 65536
     . refine Ym b (stB (Yaz hN n h) ?_)
       rw [decide_eq_true (show 0<=n.Serial/\n.Serial< 65536 by omega)];rfl
     . refine Yu b ?_
       rw [decide_eq_false (show ¬ (0<=n.Serial/\n.Serial< 65536) by omega)];rfl
   . refine Yu a ?_
     rw [decide_eq_false (show ¬ (0<=n.Serial/\n.Serial< 65536) by omega)];rfl
 | succ d ih=>
   intro fuel i hi hf
   obtain ⟨fuel,rfl⟩:∃ f,fuel=f+1:=⟨fuel - 1,by omega⟩
   rw [J13,Y2t (show i< n.Flows.length by omega),List.all_cons,Int.toNat_natCast]
   unfold J2b
   rw [w64 (n:=(i:Int)+1) (by omega) (by omega),Y9v]
   refine Ym (by omega) (Yd (by omega) ?_)
   have ih':=ih fuel (i+1) (by omega) (by omega)
   unfold Ybm at ih' ⊢
   cases (n.Flows.getD i default).Away with
   | true=>
     refine Yq (stB rfl ?_)
     cases decide (0<=(n.Flows.getD i default).To/\(n.Flows.getD i default).To< 3) with
     | false=>rfl
     | true=>
       cases ((n.Flows.getD i default).To==n.Id) with
       | true=>rfl
       | false=>exact ih'
   | false=>
     refine Yn (Y1u ?_)
     cases decide ((n.Flows.getD i default).To>=4) with
     | true=>rfl
     | false=>exact ih'
theorem Ycl {N :Nat} (hN:140737488355328< N) (n:Ya) (h:BdN n):J6l N n=some (Y9x n):=Yye hN n h n.Flows.length N 0 (by omega) (by have:=h.2.2.2;omega)
structure Y1x (n :Ya):Prop where
 away:∀ x∈n.Flows,x.Away=true->(0<=x.To/\x.To< 3)/\x.To≠n.Id
 here:∀ x∈n.Flows,x.Away=false->x.To< 4
 serial:0<=n.Serial/\n.Serial< 65536
 conf:Y14 n.Config=true
 id:0<=n.Id/\n.Id< 3
 hs:Y65 n.Health 4=true
 view:Y4y n.Seen=true
 cache:Y3b n.Flows=true
theorem Y42 (n :Ya):Y9x n=true↔Y1x n:=by
 unfold Y9x Y7b
 simp only [Bool.and_eq_true,List.all_eq_true,decide_eq_true_eq]
 constructor
 . rintro ⟨h,h1,h2,h3,h4,h5,h6⟩
   refine ⟨fun x hx ha=> ?_,fun x hx ha=> ?_,h1,h2,h3,h4,h5,h6⟩
   . have:=h x hx
     unfold Ybm at this
     rw [ha] at this
     simpa using this
   . have:=h x hx
     unfold Ybm at this
     rw [ha] at this
     simpa using this
 . rintro ⟨ha,hh,h1,h2,h3,h4,h5,h6⟩
   refine ⟨fun x hx=> ?_,h1,h2,h3,h4,h5,h6⟩
   unfold Ybm
   cases hq:x.Away with
   | true=>have:=ha x hx hq;simpa using this
   | false=>have:=hh x hx hq;simpa using this
theorem Y1x.spare {n :Ya} (h:Y1x n):Y7b n=true:=by
 unfold Y7b
 rw [h.conf,decide_eq_true h.id,h.hs,h.view,h.cache];rfl
theorem Yij {n :Ya} (h:Y1x n):BdN n:=by
 obtain ⟨s1,s2⟩:=Y1t h.conf
 have s3:=Y4q h.hs
 have s4:=((Y27 _).1 h.cache).2.2
 have s5:=Y6c h.view
 exact ⟨⟨by omega,fun y hy=>by have:=(s2 y hy).2;omega⟩,by omega,by omega,by omega⟩
theorem Ykl (N :Nat) (hs:List Yg) (hl:hs.length<=100):J1x N hs=some hs:=by
 unfold J1x J41 J7l
 by_cases h:hs.length=0
 . rw [if_pos h,List.eq_nil_of_length_eq_zero h]
 . rw [if_neg h]
   exact Yd h (Yd (Y3i (by omega) (by omega)) rfl)
theorem Yp9 {N :Nat} (hN:1000<=N) {n:Ya} (h:Y1x n):J1i N n=some n:=by
 obtain ⟨s1,s2⟩:=Y1t h.conf
 have s3:=Y4q h.hs
 have s4:=((Y27 _).1 h.cache).2.2
 have s5:=Y6c h.view
 unfold J1i
 exact stB (Yge hN _ (by omega) (fun y hy=>by have:=(s2 y hy).2;omega)) (stB (Ykh N _ (by omega)) (stB (Ykl N _ (by omega)) (stB (Yki N _ (by omega)) rfl)))
def Y14v :Yf:=⟨0,false,0,[]⟩
def Y6j (c :Y7) (i:Int):Bool:=decide (0<=i/\i< (c.Sites.length:Int))
def Y2s (c :Y7) (i:Int):Yf:=if Y6j c i=true then c.Sites.getD i.toNat default else Y14v
theorem Y9y (N :Nat) (c:Y7) (i:Int):J14 N c i=some (Y2s c i,Y6j c i):=by
 unfold J14 J45 Y2s Y6j
 by_cases a:i< 0
 . rw [decide_eq_false (show ¬ (0<=i/\i< (c.Sites.length:Int)) by omega)]
   exact Ym a rfl
 . by_cases b:i>=(c.Sites.length:Int)
   . rw [decide_eq_false (show ¬ (0<=i/\i< (c.Sites.length:Int)) by omega)]
     refine Yu a ?_
     rw [decide_eq_true b];rfl
   . rw [decide_eq_true (show 0<=i/\i< (c.Sites.length:Int) by omega)]
     refine Yu a ?_
     rw [decide_eq_false b]
     exact Yn (Yd (by omega) rfl)
theorem Y66 {c :Y7} (h:Y14 c=true) (i:Int):(Y2s c i).Backs.length<=4/\(Y6j c i=true->Y3s (Y2s c i)=true):=by
 obtain ⟨s1,s2⟩:=Y1t h
 unfold Y2s
 split
 . rename_i q
   unfold Y6j at q
   rw [decide_eq_true_eq] at q
   have:=s2 _ (Y3q (show i.toNat< c.Sites.length by omega))
   exact ⟨this.2,fun _=>this.1⟩
 . exact ⟨by decide,fun q=>absurd q (by assumption)⟩
def Y8j (b :Y2b) (h:Y5):Bool:=h.Up&&(!b.Drain&&decide (0< b.Weight))
def Y5c (hs :List Y5):List Y2b->Nat->List Y3
 | [],_=>[]
 | s :: ss,i=>bif Y8j s (hs.getD i default) then ⟨(i:Int),s.Weight⟩ :: Y5c hs ss (i+1) else Y5c hs ss (i+1)
theorem Yu1 {N :Nat} (hs:List Y5) (ss:List Y2b) (hl:ss.length<=90) (hh:ss.length<=hs.length):∀ (d fuel i:Nat) (b:List Y3),ss.length=i+d->d< fuel->b.length<=i->
   J1o N fuel hs b ss (ss.length:Int) (i:Int)=some (b++Y5c hs (ss.drop i) i,0):=by
 intro d
 induction d with
 | zero=>
   intro fuel i b hi hf hb
   obtain ⟨fuel,rfl⟩:∃ f,fuel=f+1:=⟨fuel - 1,by omega⟩
   rw [J1o,List.drop_of_length_le (by omega)]
   refine Yu (by omega) ?_
   unfold Y5c
   rw [List.append_nil]
 | succ d ih=>
   intro fuel i b hi hf hb
   obtain ⟨fuel,rfl⟩:∃ f,fuel=f+1:=⟨fuel - 1,by omega⟩
   rw [J1o,Y2t (show i< ss.length by omega),Int.toNat_natCast,w64 (n:=(i:Int)+1) (by omega) (by omega)]
   unfold Y5c
   have hadd:=Yy8 N b (i:Int) (ss.getD i default).Weight (ss.getD i default).Drain (hs.getD i default) (by omega)
   have hcc:((hs.getD i default).Up&&(!(ss.getD i default).Drain&&decide (0< (ss.getD i default).Weight)))=Y8j (ss.getD i default) (hs.getD i default):=rfl
   rw [hcc] at hadd
   refine Ym (by omega) (Yd (by omega) (Yd (by omega) ?_))
   cases hq:Y8j (ss.getD i default) (hs.getD i default) with
   | true=>
     rw [hq] at hadd
     refine stB hadd (Yn ((ih fuel (i+1) (b++[⟨(i:Int),(ss.getD i default).Weight⟩]) (by omega) (by omega) (by rw [List.length_append,List.length_singleton];omega)).trans ?_))
     rw [List.append_assoc]
     rfl
   | false=>
     rw [hq] at hadd
     exact stB hadd (Yq (Yd rfl (ih fuel (i+1) b (by omega) (by omega) (by omega))))
def Y95 (c :Y7) (site:Int) (hs:List Y5):List Y3:=Y5c hs (Y2s c site).Backs 0
theorem Ypa {N :Nat} (hN:140737488355328< N) {c:Y7} {hs:List Y5} (hc:Y14 c=true) (hh:Y65 hs 4=true) (site:Int):∃ e,J3m N c site hs=some (Y95 c site hs,e):=by
 obtain ⟨s1,s2⟩:=Y1t hc
 have s3:=Y4q hh
 have s4:=Y66 hc site
 unfold J3m J3l
 cases hq:Y6j c site with
 | true=>
   refine ⟨0,stB (Y9y N c site) (stB (Y3h hN c ⟨by omega,fun y hy=>by have:=(s2 y hy).2;omega⟩) ?_)⟩
   rw [hc]
   refine Yj (stB (Ybi hN hs 4 (by omega)) ?_)
   rw [hh,hq]
   refine Yj ?_
   exact (Yu1 hs (Y2s c site).Backs (by omega) (by omega) (Y2s c site).Backs.length N 0 [] (by omega) (by omega) (by simp)).trans (by rw [List.nil_append,List.drop_zero];rfl)
 | false=>
   refine ⟨1300,stB (Y9y N c site) (stB (Y3h hN c ⟨by omega,fun y hy=>by have:=(s2 y hy).2;omega⟩) ?_)⟩
   rw [hc]
   refine Yj (stB (Ybi hN hs 4 (by omega)) ?_)
   rw [hh,hq]
   refine Yj ?_
   unfold Y95 Y2s
   rw [hq]
   rfl
theorem Y8k (hs :List Y5):∀ (ss:List Y2b) (i:Nat) (c:Y3),c∈Y5c hs ss i->∃ j,j< ss.length/\c=⟨((i+j:Nat):Int),(ss.getD j default).Weight⟩/\Y8j (ss.getD j default) (hs.getD (i+j) default)=true
 | [],i,c,h=>by simp [Y5c] at h
 | s :: ss,i,c,h=>by
   unfold Y5c at h
   cases hq:Y8j s (hs.getD i default) with
   | true=>
     rw [hq,cond_true] at h
     rcases List.mem_cons.1 h with rfl | h
     . exact ⟨0,by simp,rfl,hq⟩
     . obtain ⟨j,h1,h2,h3⟩:=Y8k hs ss (i+1) c h
       refine ⟨j+1,by simpa using h1,?_,?_⟩
       . rw [h2,show i+1+j=i+(j+1) by omega];rfl
       . rw [show i+(j+1)=i+1+j by omega];exact h3
   | false=>
     rw [hq,cond_false] at h
     obtain ⟨j,h1,h2,h3⟩:=Y8k hs ss (i+1) c h
     refine ⟨j+1,by simpa using h1,?_,?_⟩
     . rw [h2,show i+1+j=i+(j+1) by omega];rfl
     . rw [show i+(j+1)=i+1+j by omega];exact h3
theorem Ygh (hs :List Y5):∀ (ss:List Y2b) (i:Nat),(Y5c hs ss i).Pairwise fun a b=>a.Id< b.Id
 | [],i=>by unfold Y5c;exact List.Pairwise.nil
 | s :: ss,i=>by
   unfold Y5c
   cases Y8j s (hs.getD i default) with
   | true=>
     refine List.Pairwise.cons (fun c hc=> ?_) (Ygh hs ss (i+1))
     obtain ⟨j,_,h2,_⟩:=Y8k hs ss (i+1) c hc
     rw [h2]
     show (i:Int)< ((i+1+j:Nat):Int)
     omega
   | false=>exact Ygh hs ss (i+1)
theorem Ykm (hs :List Y5):∀ (ss:List Y2b) (i:Nat),(Y5c hs ss i).length<=ss.length
 | [],i=>by simp [Y5c]
 | s :: ss,i=>by
   unfold Y5c
   have:=Ykm hs ss (i+1)
   cases Y8j s (hs.getD i default) with
   | true=>rw [cond_true,List.length_cons,List.length_cons];omega
   | false=>rw [cond_false,List.length_cons];omega
theorem Ykn {c :Y7} {hs:List Y5} (hc:Y14 c=true) (site:Int):Y8u (Y95 c site hs)=true:=by
 have s4:=Y66 hc site
 refine Yjm (fun x hx=> ?_) (Ygh hs _ 0) (Nat.le_trans (Ykm hs _ 0) (by omega))
 obtain ⟨j,h1,h2,h3⟩:=Y8k hs _ 0 x hx
 have hq:Y6j c site=true:=by
   cases hq:Y6j c site with
   | true=>rfl
   | false=>unfold Y2s at h1;rw [hq,if_neg (by decide)] at h1;simp [Y14v] at h1
 have hs:=s4.2 hq
 unfold Y3s at hs
 unfold Y8j at h3
 simp only [Bool.and_eq_true,decide_eq_true_eq,List.all_eq_true] at hs h3
 have hb:=hs.1 _ (Y3q h1)
 unfold Y6o at hb
 rw [decide_eq_true_eq] at hb
 rw [h2]
 exact ⟨⟨by show (0:Int)<=((0+j:Nat):Int);omega,by show ((0+j:Nat):Int)< 256;omega⟩,by have:=h3.2.2;show 1<=((Y2s c site).Backs.getD j default).Weight;omega,hb.2⟩
def Yal (n :Ya):Int:=((n.Flows.filter fun x=> !x.Away).length:Nat)
theorem Yyf (N :Nat) (es:List Y0) (hl:es.length<=100):∀ (d fuel i:Nat) (k:Nat),es.length=i+d->d< fuel->k<=i->
   J1p N fuel (k:Int) es (es.length:Int) (i:Int)=some ((k+((es.drop i).filter fun x=> !x.Away).length:Nat):Int):=by
 intro d
 induction d with
 | zero=>
   intro fuel i k hi hf hk
   obtain ⟨fuel,rfl⟩:∃ f,fuel=f+1:=⟨fuel - 1,by omega⟩
   rw [J1p,List.drop_of_length_le (by omega),List.filter_nil]
   exact Yu (by omega) rfl
 | succ d ih=>
   intro fuel i k hi hf hk
   obtain ⟨fuel,rfl⟩:∃ f,fuel=f+1:=⟨fuel - 1,by omega⟩
   rw [J1p,Y2t (show i< es.length by omega),Int.toNat_natCast]
   unfold J4u
   rw [w64 (n:=(i:Int)+1) (by omega) (by omega),w64 (n:=(k:Int)+1) (by omega) (by omega)]
   refine Ym (by omega) (Yd (by omega) ?_)
   cases hq:(es.getD i default).Away with
   | true=>
     rw [List.filter_cons_of_neg (by rw [hq];decide)]
     exact Yj (ih fuel (i+1) k (by omega) (by omega) (by omega))
   | false=>
     rw [List.filter_cons_of_pos (by rw [hq];decide),List.length_cons]
     refine Y1u ((ih fuel (i+1) (k+1) (by omega) (by omega) (by omega)).trans ?_)
     congr 2
     omega
theorem Yr9 {N :Nat} (hN:1000<=N) (n:Ya) (hl:n.Flows.length<=100):J4v N n=some (Yal n):=by
 have:=Yyf N n.Flows hl n.Flows.length N 0 0 (by omega) (by omega) (by omega)
 rw [Nat.zero_add,List.drop_zero] at this
 exact this
def Yik (n :Ya):Bool:= !Y6j n.Config n.Id||((Y2s n.Config n.Id).Drain||(((Y95 n.Config n.Id n.Health).length:Int)==0||decide (Yal n>=(Y2s n.Config n.Id).Cap)))
theorem Y16b {N :Nat} (hN:140737488355328< N) {n:Ya} (h:Y1x n):J3o N n=some (Yik n,0):=by
 obtain ⟨e,he⟩:=Ypa hN h.conf h.hs n.Id
 have s4:=((Y27 _).1 h.cache).2.2
 unfold J3o J2g Yik
 refine stB (Yaz hN n (Yij h)) ?_
 rw [h.spare]
 refine Yj (stB (Y9y N _ _) (stB he ?_))
 dsimp only
 cases Y6j n.Config n.Id with
 | false=>rfl
 | true=>
   refine Yj ?_
   cases (Y2s n.Config n.Id).Drain with
   | true=>rfl
   | false=>
     refine Yn ?_
     cases ((Y95 n.Config n.Id n.Health).length:Int)==0 with
     | true=>rfl
     | false=>exact Yn (stB (Yr9 (by omega) n (by omega)) rfl)
def Y5d (v :Yg) (now:Int):Int× Bool× Int:=
 if v.At= -1\/now< v.At\/v.At+10<=now then (0,false,0) else (if 0 > v.Report.Cap - v.Report.Load then 0 else v.Report.Cap - v.Report.Load,true,0)
theorem Yyg {N :Nat} (hN:140737488355328< N) {vs:List Yg} (hv:Y4y vs=true) {i:Nat} (hi:i< 3) {now:Int} (hn:Y22 now=true):J7x N vs (i:Int) now=some (Y5d (vs.getD i default) now):=by
 have hl:=Y6c hv
 have hs:=Yec hv hi
 have ht:=of_decide_eq_true hn
 unfold J7x J5j J5i
 rw [Yck hN vs (by omega),hv,Y5j,hn,Y9v,decide_eq_true (show (0:Int)<=(i:Int)/\(i:Int)< 3 by omega),Int.toNat_natCast]
 refine stB rfl (Yj (stB rfl (Yj (stB rfl (Yj (Yd (by omega) (Y1a ?_)))))))
 generalize vs.getD i default=v at*
 by_cases a:v.At= -1
 . rw [show Y5d v now=(0,false,0) from if_pos (.inl a),a];rfl
 . have hb:Y22 v.At=true/\Y4d v.Report=true:=by
     unfold Y4x at hs
     rw [show (v.At== -1)=false from beq_eq_false_iff_ne.2 a,Bool.false_and,Bool.false_or,Bool.and_eq_true,Bool.and_eq_true] at hs
     exact ⟨hs.1,hs.2.1⟩
   have hat:=of_decide_eq_true hb.1
   have hr:=hb.2
   unfold Y4d at hr
   simp only [Bool.and_eq_true,decide_eq_true_eq] at hr
   rw [w64 (n:=now - v.At) (by omega) (by omega),w64 (n:=v.Report.Cap - v.Report.Load) (by omega) (by omega)]
   refine Yo a ?_
   by_cases b:now - v.At< 0
   . rw [show Y5d v now=(0,false,0) from if_pos (.inr (.inl (by omega)))];exact Ym b rfl
   . refine Yu b ?_
     by_cases c:now - v.At>=10
     . rw [show Y5d v now=(0,false,0) from if_pos (.inr (.inr (by omega))),decide_eq_true c];rfl
     . rw [show Y5d v now=(if 0 > v.Report.Cap - v.Report.Load then 0 else v.Report.Cap - v.Report.Load,true,0) from if_neg (by omega),decide_eq_false c]
       refine Yn (Y1a ?_)
       by_cases d:0 > v.Report.Cap - v.Report.Load
       . rw [if_pos d,if_pos (decide_eq_true d)]
       . rw [if_neg d,if_neg (by rw [decide_eq_true_eq];exact d)]
def Y8l (n :Ya) (now:Int) (s:Yf) (i:Nat):Bool:=
 ((i:Int) != n.Id)&&(!s.Drain&&(decide (s.Weight > 0)&&((Y5d (n.Seen.getD i default) now).2.1&&decide ((Y5d (n.Seen.getD i default) now).1 > 0))))
def Y67 (n :Ya) (now:Int):List Yf->Nat->List Y3
 | [],_=>[]
 | s :: ss,i=>bif Y8l n now s i then ⟨(i:Int),if decide (16< (Y5d (n.Seen.getD i default) now).1) then 16 else (Y5d (n.Seen.getD i default) now).1⟩ :: Y67 n now ss (i+1) else Y67 n now ss (i+1)
theorem Yyh {N :Nat} (hN:140737488355328< N) {n:Ya} (h:Y1x n) {now:Int} (hn:Y22 now=true):∀ (d fuel i:Nat) (b:List Y3),n.Config.Sites.length=i+d->d< fuel->b.length<=i->
   J10 N fuel now n.Id n.Config.Version n.Config.Sites n.Health n.Seen n.Flows n.Serial b n.Config.Sites (n.Config.Sites.length:Int) (i:Int)=some (b++Y67 n now (n.Config.Sites.drop i) i,0):=by
 obtain ⟨s1,s2⟩:=Y1t h.conf
 intro d
 induction d with
 | zero=>
   intro fuel i b hi hf hb
   obtain ⟨fuel,rfl⟩:∃ f,fuel=f+1:=⟨fuel - 1,by omega⟩
   rw [J10,List.drop_of_length_le (by omega)]
   refine Yu (by omega) ?_
   unfold Y67
   rw [List.append_nil]
 | succ d ih=>
   intro fuel i b hi hf hb
   obtain ⟨fuel,rfl⟩:∃ f,fuel=f+1:=⟨fuel - 1,by omega⟩
   rw [J10,Y2t (show i< n.Config.Sites.length by omega),Int.toNat_natCast]
   unfold Y67
   refine Ym (by omega) (Yd (by omega) (stB (Yyg hN h.view (by omega) hn) ?_))
   have h3:∀ t:Bool,J1z N (J10 N fuel) now n.Id n.Config.Version n.Config.Sites n.Health n.Seen n.Flows n.Serial b (i:Int) (Y5d (n.Seen.getD i default) now).1 n.Config.Sites (n.Config.Sites.length:Int) (i:Int) t=
       some (b++(bif t then ⟨(i:Int),if decide (16< (Y5d (n.Seen.getD i default) now).1) then 16 else (Y5d (n.Seen.getD i default) now).1⟩ :: Y67 n now (n.Config.Sites.drop (i+1)) (i+1) else Y67 n now (n.Config.Sites.drop (i+1)) (i+1)),0):=by
     intro t
     unfold J1z J7y
     rw [w64 (n:=(i:Int)+1) (by omega) (by omega)]
     cases t with
     | true=>
       refine Yq (Yd (Y3i (by omega) (by omega)) ((ih fuel (i+1) (b++[_]) (by omega) (by omega) (by rw [List.length_append,List.length_singleton];omega)).trans ?_))
       rw [List.append_assoc]
       rfl
     | false=>exact Yn (ih fuel (i+1) b (by omega) (by omega) (by omega))
   simp only [h3]
   unfold Y8l
   cases ((i:Int) != n.Id) with
   | false=>rfl
   | true=>
     cases (n.Config.Sites.getD i default).Drain with
     | true=>rfl
     | false=>
       cases decide ((n.Config.Sites.getD i default).Weight > 0) with
       | false=>rfl
       | true=>cases (Y5d (n.Seen.getD i default) now).2.1 <;> rfl
def Ycm (n :Ya) (now:Int):List Y3:=Y67 n now n.Config.Sites 0
theorem Yu2 {N :Nat} (hN:140737488355328< N) {n:Ya} (h:Y1x n) {now:Int} (hn:Y22 now=true):J80 N n now=some (Ycm n now,0):=by
 obtain ⟨s1,s2⟩:=Y1t h.conf
 unfold J80 J7z
 rw [Yaz hN n (Yij h),h.spare,Y5j,hn]
 refine stB rfl (Yj (stB rfl (Yj ?_)))
 exact (Yyh hN h hn n.Config.Sites.length N 0 [] (by omega) (by omega) (by simp)).trans (by rw [List.nil_append,List.drop_zero];rfl)
theorem Y9z (n :Ya) (now:Int):∀ (ss:List Yf) (i:Nat) (c:Y3),c∈Y67 n now ss i->∃ j,j< ss.length/\c=⟨((i+j:Nat):Int),if decide (16< (Y5d (n.Seen.getD (i+j) default) now).1) then 16 else (Y5d (n.Seen.getD (i+j) default) now).1⟩/\Y8l n now (ss.getD j default) (i+j)=true
 | [],i,c,h=>by simp [Y67] at h
 | s :: ss,i,c,h=>by
   unfold Y67 at h
   cases hq:Y8l n now s i with
   | true=>
     rw [hq,cond_true] at h
     rcases List.mem_cons.1 h with rfl | h
     . exact ⟨0,by simp,rfl,hq⟩
     . obtain ⟨j,h1,h2,h3⟩:=Y9z n now ss (i+1) c h
       refine ⟨j+1,by simpa using h1,?_,?_⟩
       . rw [h2,show i+1+j=i+(j+1) by omega]
       . rw [show i+(j+1)=i+1+j by omega];exact h3
   | false=>
     rw [hq,cond_false] at h
     obtain ⟨j,h1,h2,h3⟩:=Y9z n now ss (i+1) c h
     refine ⟨j+1,by simpa using h1,?_,?_⟩
     . rw [h2,show i+1+j=i+(j+1) by omega]
     . rw [show i+(j+1)=i+1+j by omega];exact h3
theorem Yjn (n :Ya) (now:Int):∀ (ss:List Yf) (i:Nat),(Y67 n now ss i).Pairwise fun a b=>a.Id< b.Id
 | [],i=>by unfold Y67;exact List.Pairwise.nil
 | s :: ss,i=>by
   unfold Y67
   cases Y8l n now s i with
   | true=>
     refine List.Pairwise.cons (fun c hc=> ?_) (Yjn n now ss (i+1))
     obtain ⟨j,_,h2,_⟩:=Y9z n now ss (i+1) c hc
     rw [h2]
     show (i:Int)< ((i+1+j:Nat):Int)
     omega
   | false=>exact Yjn n now ss (i+1)
theorem Ypb (n :Ya) (now:Int):∀ (ss:List Yf) (i:Nat),(Y67 n now ss i).length<=ss.length
 | [],i=>by simp [Y67]
 | s :: ss,i=>by
   unfold Y67
   have:=Ypb n now ss (i+1)
   cases Y8l n now s i with
   | true=>rw [cond_true,List.length_cons,List.length_cons];omega
   | false=>rw [cond_false,List.length_cons];omega
theorem Yko {n :Ya} (h:Y1x n) (now:Int):Y8u (Ycm n now)=true:=by
 obtain ⟨s1,s2⟩:=Y1t h.conf
 refine Yjm (fun x hx=> ?_) (Yjn n now _ 0) (Nat.le_trans (Ypb n now _ 0) (by omega))
 obtain ⟨j,h1,h2,h3⟩:=Y9z n now _ 0 x hx
 unfold Y8l at h3
 simp only [Bool.and_eq_true,decide_eq_true_eq] at h3
 rw [h2]
 refine ⟨⟨by show (0:Int)<=((0+j:Nat):Int);omega,by show ((0+j:Nat):Int)< 256;omega⟩,?_⟩
 have:=h3.2.2.2.2
 dsimp only
 split
 . decide
 . rename_i q;rw [decide_eq_true_eq] at q;omega
end Go.Proofs.YtpdcnikdoikldaaGreatDoor.Pu
namespace Go.Proofs.YtpdcnikdoikldaaGreatDoor.Pu
open Go Go.RowKit Go.Proofs.YtpdcnikdoikldaaGreatDoor.Sv Go.Proofs.YtpdcnikdoikldaaGreatDoor.Lf
def Y3c (cs :List Y3) (key:Int) (f:Y9):Int× Bool:=(J1w 281474976710656 cs key f).getD (0,false)
theorem Y5k {cs :List Y3} (hc:Y8u cs=true) {f:Y9} (hf:Y5o f=true) (key:Int) (hk:0<=key/\key< 4294967296):
   J1w 281474976710656 cs key f=some (Y3c cs key f)/\((Y3c cs key f).2=true->∃ c∈cs,c.Id=(Y3c cs key f).1)/\((Y3c cs key f).2=false->cs=[]):=by
 obtain ⟨id,is,h1,h2,h3⟩:=Yyc hc hf key hk
 have e:Y3c cs key f=(id,is):=by unfold Y3c;rw [h1];rfl
 rw [e]
 exact ⟨h1,h2,h3⟩
def Yf8 (p flags :Int):Int:=
 bif Y2i .i64 flags 4 != 0 then 2 else bif (Y2i .i64 flags 2 != 0)&& !(Y2i .i64 flags 16 != 0) then 0 else bif Y2i .i64 flags 1 != 0 then (if 2< p+1 then 2 else p+1) else p
theorem Yq6 {p flags :Int} (hp:0<=p/\p<=2):0<=Yf8 p flags/\Yf8 p flags<=2:=by
 unfold Yf8
 cases (Y2i .i64 flags 4 != 0) with
 | true=>rw [cond_true];omega
 | false=>
   cases ((Y2i .i64 flags 2 != 0)&& !(Y2i .i64 flags 16 != 0)) with
   | true=>rw [cond_false,cond_true];omega
   | false=>
     cases (Y2i .i64 flags 1 != 0) with
     | true=>rw [cond_false,cond_false,cond_true];split <;> omega
     | false=>exact hp
theorem Y12g (N :Nat) (p flags:Int) (hp:0<=p/\p<=2) (hf:0<=flags/\flags< 64):J7c N p flags=some (Yf8 p flags,0):=by
 have hflags:Jap N flags=some true:=by
   refine stB (Yia N flags 6 (by decide)) ?_
   rw [decide_eq_true (show 0<=flags/\flags< 2 ^ 6 from hf)]
 have h2:J5a N p flags false=some (bif Y2i .i64 flags 1 != 0 then (if 2< p+1 then 2 else p+1) else p,0):=by
   unfold J5a J2o
   rw [Option.bind_some,w64 (n:=p+1) (by omega) (by omega)]
   cases (Y2i .i64 flags 1 != 0) with
   | true=>
     refine Yn (Yq (Y1a ?_))
     by_cases k:2< p+1
     . rw [if_pos (decide_eq_true k),cond_true,if_pos k]
     . rw [if_neg (by rw [decide_eq_true_eq];exact k),cond_true,if_neg k]
   | false=>rfl
 unfold J7c J7b J2o Yf8
 rw [Ygb,decide_eq_true hp,hflags,Option.bind_some,Option.bind_some,Option.bind_some,Option.bind_some,Option.bind_some]
 refine Yj (Yj ?_)
 cases (Y2i .i64 flags 4 != 0) with
 | true=>rfl
 | false=>
   refine Yn ?_
   cases (Y2i .i64 flags 2 != 0) with
   | true=>
     refine Yq ?_
     cases (Y2i .i64 flags 16 != 0) with
     | true=>exact h2
     | false=>rfl
   | false=>exact h2
def Y7u (x :Y0) (flags now:Int):Y0:=⟨x.Flow,x.To,x.Away,if x.Flow.Proto=6 then Yf8 x.Phase flags else x.Phase,now⟩
theorem Y16c (N :Nat) (x:Y0) (flags now:Int) (hx:Y31 x=true) (hf:0<=flags/\flags< 64) (hn:Y22 now=true):J7e N x flags now=some (Y7u x flags now,0):=by
 have hp:=(Y44 hx).2.2.1
 unfold J7e J5b J7d Y7u
 rw [Y12g N x.Phase flags hp hf,Yf7,hx,Y5j,hn]
 by_cases a:x.Flow.Proto=6
 . rw [if_pos a];exact stB rfl (Y1z rfl (stB rfl (Yj (stB rfl (Yj (Ys a rfl))))))
 . rw [if_neg a];exact stB rfl (Y1z rfl (stB rfl (Yj (stB rfl (Yj (Yo a rfl))))))
theorem Yjo {x :Y0} {flags now:Int} (hx:Y31 x=true) (hn:Y22 now=true):Y31 (Y7u x flags now)=true:=by
 have hp:=(Y44 hx).2.2.1
 have hs:=Yq6 (flags:=flags) hp
 unfold Y31 at hx ⊢
 simp only [Bool.and_eq_true,decide_eq_true_eq] at hx ⊢
 refine ⟨hx.1,hx.2.1,?_,hn⟩
 unfold Y7u
 dsimp only
 split <;> omega
def evT (t :J2) (kind to:Int) (f:Y9):Y1:=⟨kind,t.Role,t.Site,t.Node,to,f⟩
def zF :Y9:=⟨0,0,0,0,0⟩
def Y5u (t :J2) (o:Yw) (fl:List Y0) (x:Y0) (flags now:Int):List Y0× Y1c:=
 if 324< o.Body.size then (fl,⟨[],[evT t 6 0 x.Flow]⟩)
 else ((Y7t fl (Y7u x flags now)).1,⟨[Y13 o],(bif (Y7t fl (Y7u x flags now)).2.2.1 then [evT t 11 (Y7t fl (Y7u x flags now)).2.1.To (Y7t fl (Y7u x flags now)).2.1.Flow] else [])++[evT t 0 x.To x.Flow]⟩)
theorem Yra {o :Yw} (h:Y35 o=true):RA o.Src/\RA o.Dst:=by
 obtain ⟨h1,h2,_⟩:=Y5a h
 have a:=Y5i h1;have b:=Y5i h2
 unfold RA
 omega
theorem Ypc (t :J2) {o:Yw} (ho:Y35 o=true) {fl:List Y0} (hfl:Y3b fl=true) {x:Y0} (hx:Y31 x=true) {flags now:Int} (hf:0<=flags/\flags< 64) (hn:Y22 now=true):
   J5c 281474976710656 t o fl x flags now=some (Y5u t o fl x flags now):=by
 have hr:=Yra ho
 have hpush:=Yjk (N:=281474976710656) (by decide) o hr.1 hr.2
 unfold Y6w at hpush
 rw [if_pos ho] at hpush
 unfold J5c Y5u
 by_cases c:324< o.Body.size
 . rw [if_pos c] at hpush ⊢
   exact stB hpush (Y2h (by decide) (stB (x:=⟨[],[evT t 6 0 x.Flow]⟩) rfl rfl))
 . rw [if_neg c] at hpush ⊢
   have hput:=Y166 (N:=281474976710656) (by decide) fl (Y7u x flags now) hfl (Yjo hx hn)
   refine stB hpush (Y1z rfl (stB (Y16c _ x flags now hx hf hn) (stB hput ?_)))
   unfold J7i J1f
   cases (Y7t fl (Y7u x flags now)).2.2.1 with
   | true=>exact Yq (stB rfl (stB rfl (Yd (Y3i (b:=80) (n:=2) (by decide) (by decide)) rfl)))
   | false=>exact Yn (stB rfl (Yd (Y3i (b:=80) (n:=1) (by decide) (by decide)) rfl))
def Yed (o :Yw):Bool:=(o.Tier==1)&&((o.Marker==0)&&((o.Origin==0)&&((Y2a o.Src).2.2.2&&((Y2a o.Src).1==0))))
theorem Ypd (N :Nat) (o:Yw) (h:RA o.Src):J5g N o=some (Yed o):=by
 unfold J5g J2t Yed
 refine stB (Ycg N o.Src h) ?_
 cases (o.Tier==1) with
 | false=>rfl
 | true=>
   cases (o.Marker==0) with
   | false=>rfl
   | true=>
     cases (o.Origin==0) with
     | false=>rfl
     | true=>cases (Y2a o.Src).2.2.2 <;> rfl
theorem Yrb (s :ByteArray):RA (Yl s).1.Src/\RA (Yl s).1.Dst:=by
 unfold Yl Yg8 Y4p
 split
 . exact ⟨by unfold RA;decide,by unfold RA;decide⟩
 . split
   . exact ⟨Ylm _ _,Ylm _ _⟩
   . exact ⟨by unfold RA;decide,by unfold RA;decide⟩
theorem Ygi {s :ByteArray} (h:(Yl s).2=0):Y35 (Yl s).1=true/\s=Y13 (Yl s).1/\s.size<=360:=by
 unfold Yl at h ⊢
 split at h
 . simp [Yg8] at h
 rename_i c;rw [if_neg c]
 split at h
 . rename_i c2;rw [if_pos c2];exact ⟨c2.1,c2.2.2.symm,c2.2.1⟩
 . simp [Yg8] at h
def Yjp (id :Int) (o:Yw):Bool:=(Y2a o.Src).2.2.2&&(((Y2a o.Src).1==1)&&(!((Y2a o.Src).2.1==id)&&((o.Marker==1)&&(o.Origin==(Y2a o.Src).2.1+1))))
def Y1w (id :Int) (o:Yw):ByteArray× Bool:=
 bif o.Tier != 2 then (o.Body,Yed o)
 else bif Yjp id o then ((Yl o.Body).1.Body,((Yl o.Body).2==0)&&(Yed (Yl o.Body).1&&((Yl o.Body).1.Dst==o.Src)))
 else (ByteArray.empty,false)
theorem Yu3 (a :Int):0<=(Y2a a).2.1/\(Y2a a).2.1< 3:=by
 unfold Y2a
 split
 . dsimp only;omega
 split
 . dsimp only;omega
 split
 . dsimp only;omega
 . exact ⟨by decide,by decide⟩
theorem Yyi {N :Nat} (hN:1000<=N) (x:Yz) (o:Yw) (h:RA o.Src):J7t N x o=some (Y1w x.Node.Id o):=by
 unfold J7t J2v J5h Y1w Yjp
 have hw:=Yu3 o.Src
 cases (o.Tier != 2) with
 | true=>exact Yq (stB (Ypd N o h) rfl)
 | false=>
   refine Yn (stB (Ycg N o.Src h) ?_)
   rw [w64 (n:=(Y2a o.Src).2.1+1) (by omega) (by omega)]
   have hpop:=Yp1 (N:=N) hN o.Body
   have hpl:=Ypd N (Yl o.Body).1 (Yrb o.Body).1
   generalize Yl o.Body=p at*
   cases (Y2a o.Src).2.2.2 with
   | false=>rfl
   | true=>
     refine Yj ?_
     unfold bne
     cases ((Y2a o.Src).1==1) with
     | false=>rfl
     | true=>
       refine Yj ?_
       cases ((Y2a o.Src).2.1==x.Node.Id) with
       | true=>rfl
       | false=>
         refine Yn ?_
         cases (o.Marker==1) with
         | false=>rfl
         | true=>
           refine Yj ?_
           cases (o.Origin==(Y2a o.Src).2.1+1) with
           | false=>rfl
           | true=>
             refine Yj (stB hpop ?_)
             cases (p.2==0) with
             | false=>rfl
             | true=>
               refine Yq (stB hpl ?_)
               cases Yed p.1 <;> rfl
def Y8m (n :Ya) (x:Y0) (spill:Bool):Bool:=
 bif x.Away then !spill&&Y6j n.Config x.To
 else Y6j n.Config n.Id&&(decide (x.To< ((Y2s n.Config n.Id).Backs.length:Int))&&(n.Health.getD x.To.toNat default).Up)
theorem Y16d {N :Nat} (hN:140737488355328< N) {c:Y7} (hc:Y14 c=true) (i b:Int) (hb:0<=b):J1v N c i b=some (Y6j c i&&decide (b< ((Y2s c i).Backs.length:Int))):=by
 obtain ⟨s1,s2⟩:=Y1t hc
 unfold J1v J1u
 refine stB (Y9y N c i) (stB (Y3h hN c ⟨by omega,fun y hy=>by have:=(s2 y hy).2;omega⟩) ?_)
 rw [hc]
 refine Yq ?_
 dsimp only
 cases Y6j c i with
 | false=>rfl
 | true=>exact Yq (Yo (by omega) (Ym hb rfl))
theorem Y12h {N :Nat} (hN:140737488355328< N) (x:Yz) (h:Y1x x.Node) (e:Y0) (he:0<=e.To) (spill:Bool):J7w N x e spill=some (Y8m x.Node e spill):=by
 have hl:=Y4q h.hs
 have s4:=(Y66 h.conf x.Node.Id).1
 unfold J7w J7u J7v Y8m
 cases e.Away with
 | true=>
   refine Yq ?_
   cases spill with
   | true=>rfl
   | false=>exact Y1u (stB (Yr7 hN h.conf e.To) rfl)
 | false=>
   refine Yn (stB (Y16d hN h.conf _ _ he) ?_)
   cases Y6j x.Node.Config x.Node.Id with
   | false=>rfl
   | true=>
     by_cases c:e.To< ((Y2s x.Node.Config x.Node.Id).Backs.length:Int)
     . rw [decide_eq_true c]
       exact Yq (Yd (by omega) rfl)
     . rw [decide_eq_false c];rfl
def Ycn (n :Ya) (now:Int) (f:Y9):Int× Bool:=bif Yik n then Y3c (Ycm n now) 2 f else (0,false)
theorem Y16e (x :Yz) (h:Y1x x.Node) (hn:Y22 x.now_=true) {f:Y9} (hf:Y5o f=true):J81 281474976710656 x f=some (Ycn x.Node x.now_ f):=by
 unfold J81 Ycn
 refine stB (Y16b (by decide) h) ?_
 dsimp only
 cases Yik x.Node with
 | false=>rfl
 | true=>exact Yj (stB (Yu2 (by decide) h hn) (stB (Y5k (Yko h _) hf 2 (by decide)).1 rfl))
def Yu4 (n :Ya) (now:Int) (f:Y9) (spill:Bool):Y0× Bool:=
 bif !spill&&(Ycn n now f).2 then (⟨f,(Ycn n now f).1,true,0,0⟩,true) else (⟨f,(Y3c (Y95 n.Config n.Id n.Health) 1 f).1,false,0,0⟩,(Y3c (Y95 n.Config n.Id n.Health) 1 f).2)
def Y4r (n :Ya) (now:Int) (f:Y9) (spill:Bool):Y0× Bool:=
 bif (Y2o n.Flows f now).2&&Y8m n (Y2o n.Flows f now).1 spill then ((Y2o n.Flows f now).1,true) else Yu4 n now f spill
theorem Yrc {n :Ya} (h:Y1x n) {f:Y9} {now:Int} (hq:(Y2o n.Flows f now).2=true):Y31 (Y2o n.Flows f now).1=true:=
 ((Y27 _).1 h.cache).1 _ (Ygf hq).1
theorem Yyj (x :Yz) (h:Y1x x.Node) (hn:Y22 x.now_=true) {f:Y9} (hf:Y5o f=true) (spill:Bool):J83 281474976710656 x f spill=some (Y4r x.Node x.now_ f spill):=by
 have h1:∀ a0 a1 a2 a3 a4 a5 a6 a7 a8,J5k 281474976710656 x spill f.Src f.Dst f.Proto f.Sport f.Dport 0 0 0 0 0 0 false 0 0 a0 a1 a2 a3 a4 a5 a6 a7 a8 false=some (Yu4 x.Node x.now_ f spill):=by
   intro a0 a1 a2 a3 a4 a5 a6 a7 a8
   obtain ⟨e,hb⟩:=Ypa (N:=281474976710656) (by decide) h.conf h.hs x.Node.Id
   have hc:=(Y5k (Ykn (hs:=x.Node.Health) h.conf x.Node.Id) hf 1 (by decide)).1
   unfold J5k J82 Yu4
   refine Yn ?_
   cases spill with
   | true=>exact Yj (stB hb (stB hc rfl))
   | false=>
     refine Y1u (stB (Y16e x h hn hf) ?_)
     rw [Bool.not_false,Bool.true_and]
     cases (Ycn x.Node x.now_ f).2 with
     | true=>rfl
     | false=>exact Yn (stB hb (stB hc rfl))
 unfold J83 Y4r
 refine stB (Yr5 (by decide) x.Node.Flows f x.now_ h.cache) ?_
 cases hq:(Y2o x.Node.Flows f x.now_).2 with
 | false=>exact Yn (h1 ..)
 | true=>
   have hto:=(Y44 (Yrc h hq)).2.1
   refine Yq (stB (Y12h (by decide) x h _ hto.1 spill) ?_)
   rw [Bool.true_and]
   cases Y8m x.Node (Y2o x.Node.Flows f x.now_).1 spill with
   | true=>rfl
   | false=>exact h1 ..
structure Ylp (n :Ya) (f:Y9) (x:Y0):Prop where
 flow:x.Flow=f
 ok:Y31 x=true
 away:x.Away=true->(0<=x.To/\x.To< 3)/\x.To≠n.Id
 here:x.Away=false->x.To< 4
theorem Yrd {f :Y9} (hf:Y5o f=true) {to:Int} (ht:0<=to/\to< 256) (a:Bool):Y31 ⟨f,to,a,0,0⟩=true:=by
 unfold Y31 Y22
 rw [hf,decide_eq_true ht];rfl
theorem Yee {n :Ya} (h:Y1x n) {f:Y9} (hf:Y5o f=true) {now:Int} {spill:Bool} (hp:(Y4r n now f spill).2=true):Ylp n f (Y4r n now f spill).1:=by
 obtain ⟨s1,s2⟩:=Y1t h.conf
 unfold Y4r at hp ⊢
 cases hq:(Y2o n.Flows f now).2&&Y8m n (Y2o n.Flows f now).1 spill with
 | true=>
   rw [Bool.and_eq_true] at hq
   obtain ⟨m1,m2,_,_⟩:=Ygf hq.1
   exact ⟨m2,Yrc h hq.1,h.away _ m1,h.here _ m1⟩
 | false=>
   rw [hq,cond_false] at hp
   rw [cond_false]
   unfold Yu4 at hp ⊢
   cases ha: !spill&&(Ycn n now f).2 with
   | true=>
     rw [cond_true]
     rw [Bool.and_eq_true] at ha
     have ha2:=ha.2
     unfold Ycn at ha2 ⊢
     cases hfu:Yik n with
     | false=>rw [hfu] at ha2;cases ha2
     | true=>
       rw [hfu,cond_true] at ha2
       rw [cond_true]
       obtain ⟨c,c1,c2⟩:=(Y5k (Yko h now) hf 2 (by decide)).2.1 ha2
       obtain ⟨j,j1,j2,j3⟩:=Y9z n now _ 0 c c1
       unfold Y8l at j3
       simp only [Bool.and_eq_true,bne_iff_ne] at j3
       have hj:(Y3c (Ycm n now) 2 f).1=((0+j:Nat):Int):=by rw [<- c2,j2]
       have hne:=j3.1
       refine ⟨rfl,Yrd hf (by rw [hj];omega) _,fun _=>⟨?_,?_⟩,fun q=>(by cases q)⟩
       . show 0<=(Y3c (Ycm n now) 2 f).1/\(Y3c (Ycm n now) 2 f).1< 3
         rw [hj];omega
       . show (Y3c (Ycm n now) 2 f).1≠n.Id
         rw [hj];exact hne
   | false=>
     rw [ha,cond_false] at hp
     rw [cond_false]
     obtain ⟨c,c1,c2⟩:=(Y5k (Ykn (hs:=n.Health) h.conf n.Id) hf 1 (by decide)).2.1 hp
     obtain ⟨j,j1,j2,j3⟩:=Y8k n.Health _ 0 c c1
     have s4:=(Y66 h.conf n.Id).1
     have hj:(Y3c (Y95 n.Config n.Id n.Health) 1 f).1=((0+j:Nat):Int):=by rw [<- c2,j2]
     refine ⟨rfl,Yrd hf (by rw [hj];omega) _,fun q=>(by cases q),fun _=> ?_⟩
     show (Y3c (Y95 n.Config n.Id n.Health) 1 f).1< 4
     rw [hj];omega
def Y6x (id :Int) (x:Y0) (all inner:ByteArray):Yw:=
 bif x.Away then ⟨167903232+id,167903232+x.To,2,1,id+1,all⟩ else ⟨167903232+id,167968768+256*id+x.To,3,0,0,inner⟩
theorem Y68 {id :Int} (h:0<=id/\id< 3):Y6b 1 id 0=(167903232+id,0):=by
 unfold Y6b
 rw [if_neg (by omega),if_pos (by omega)]
theorem Ykp {id b :Int} (h:0<=id/\id< 3) (hb:0<=b/\b< 4):Y6b 2 id b=(167968768+256*id+b,0):=by
 unfold Y6b
 rw [if_neg (by omega),if_neg (by omega),if_pos (by omega)]
theorem Y12i (N :Nat) (x:Yz) (h:Y1x x.Node) {f:Y9} {e:Y0} (he:Ylp x.Node f e) (all inner:ByteArray):J84 N x e all inner=some (Y6x x.Node.Id e all inner):=by
 have hid:=h.id
 have hto:=(Y44 he.ok).2.1
 unfold J84 Y6x
 refine stB (Y30 ..) ?_
 rw [Y68 hid]
 cases ha:e.Away with
 | true=>
   refine Yq (stB (Y30 ..) ?_)
   rw [Y68 (he.away ha).1,w64 (n:=x.Node.Id+1) (by omega) (by omega)]
   rfl
 | false=>
   refine Yn (stB (Y30 ..) ?_)
   rw [Ykp hid ⟨hto.1,he.here ha⟩]
   rfl
theorem Ykq {n :Ya} (h:Y1x n) {f:Y9} {e:Y0} (he:Ylp n f e) {all inner:ByteArray} (ha:all.size<=512) (hi:inner.size<=512):Y35 (Y6x n.Id e all inner)=true:=by
 have hid:=h.id
 have hto:=(Y44 he.ok).2.1
 unfold Y35 Y41 Y6x
 cases hq:e.Away with
 | true=>
   have:=(he.away hq).1
   exact decide_eq_true (by dsimp only [cond_true];omega)
 | false=>
   have:=he.here hq
   exact decide_eq_true (by dsimp only [cond_false];omega)
end Go.Proofs.YtpdcnikdoikldaaGreatDoor.Pu
namespace Go.Proofs.YtpdcnikdoikldaaGreatDoor.Pu
open Go Go.RowKit Go.Proofs.YtpdcnikdoikldaaGreatDoor.Sv Go.Proofs.YtpdcnikdoikldaaGreatDoor.Lf
def Ygj (r :Yk):ByteArray:=B1 r.Site++B2 r.Serial++B1 r.Load++B1 r.Cap
def Yco (r :Yk):ByteArray:=Ygj r++mkS [Y7z .u8 255 (IntKind.u8.wrap (Y64 (Ygj r)))]
theorem Ykr (r :Yk):(Ygj r).size=5:=by simp only [Ygj,ByteArray.size_append,Y15,Y19]
theorem Yks (r :Yk):(Yco r).size=6:=by simp only [Yco,ByteArray.size_append,Ykr,Y9s];rfl
theorem Ykt {N :Nat} (hN:1000<=N) (r:Yk):J2s N r=some (if Y4d r=true then (Yco r,0) else (ByteArray.empty,700)):=by
 unfold J2s
 refine stB (Yeb N r) ?_
 cases Y4d r with
 | false=>rfl
 | true=>
   have hl:=Ykr r
   have hs:=Yf5 hN (Ygj r) (by omega) (by omega)
   refine Yj (stB (Ye4 hN _) (stB (Yi6 hN _) (Yd (by rw [Y15,Y19];decide) (stB (Ye4 hN _) (Yd (by rw [ByteArray.size_append,Y15,Y19,Y15];decide) (stB (Ye4 hN _) (Yd (by rw [ByteArray.size_append,ByteArray.size_append,Y15,Y19,Y15,Y15];decide) (stB hs (Yd ?_ (Y1a ?_))))))))))
   . show (((Ygj r).size+(mkS [Y7z .u8 255 (IntKind.u8.wrap (Y64 (Ygj r)))]).size:Nat):Int)<=9223372036854775807
     rw [hl,Y9s,List.length_singleton];decide
   . rw [if_pos rfl];rfl
def Y2x (s :ByteArray):Yk× Int:=
 if s.size=6/\Y4d ⟨bt s 0,N2 s 1,bt s 3,bt s 4⟩=true/\Yco ⟨bt s 0,N2 s 1,bt s 3,bt s 4⟩=s then (⟨bt s 0,N2 s 1,bt s 3,bt s 4⟩,0) else (zR,700)
theorem Y1bt (s :ByteArray) (h:s.size=6):N2 (s.extract 1 3) 0=N2 s 1:=by
 unfold N2
 have h0:bt (s.extract 1 3) (0:Nat)=bt s (1:Nat):=Y3g s 1 3 0 (by omega) (by omega)
 have h1:bt (s.extract 1 3) (1:Nat)=bt s (2:Nat):=Y3g s 1 3 1 (by omega) (by omega)
 show bt (s.extract 1 3) (0:Nat)*256+bt (s.extract 1 3) (1:Nat)=_
 rw [h0,h1]
theorem Yyk {N :Nat} (hN:1000<=N) (s:ByteArray):J7n N s=some (Y2x s):=by
 unfold J7n J7m
 by_cases c:s.size=6
 . have hn:=Yqy hN (s.extract 1 3) (by rw [ByteArray.size_extract];omega)
   rw [Y1bt s c] at hn
   have b0:=Y21 s (0:Nat);have b3:=Y21 s (3:Nat);have b4:=Y21 s (4:Nat)
   have e0:bt s 0=bt s (0:Nat):=rfl
   have e3:bt s 3=bt s (3:Nat):=rfl
   have e4:bt s 4=bt s (4:Nat):=rfl
   refine Y1z (by omega) (Yd (by omega) (Yd (by omega) (stB hn (Yd (by omega) (Yd (by omega) ?_)))))
   rw [w64 (n:=bt s 0) (by omega) (by omega),w64 (n:=bt s 3) (by omega) (by omega),w64 (n:=bt s 4) (by omega) (by omega)]
   refine stB (Ykt hN _) ?_
   by_cases k:Y4d ⟨bt s 0,N2 s 1,bt s 3,bt s 4⟩=true
   . rw [if_pos k]
     refine Y1z rfl ?_
     dsimp only
     by_cases e:Yco ⟨bt s 0,N2 s 1,bt s 3,bt s 4⟩=s
     . rw [show Y2x s=_ from if_pos ⟨c,k,e⟩,e,tlB];rfl
     . rw [show Y2x s=_ from if_neg (fun h=>e h.2.2)]
       have:((Yco ⟨bt s 0,N2 s 1,bt s 3,bt s 4⟩).toList==s.toList)=false:=by
         rw [beq_eq_false_iff_ne];exact fun h=>e ((Yi4 _ _).1 h)
       rw [this];rfl
   . rw [if_neg k,show Y2x s=_ from if_neg (fun h=>k h.2.1)]
     exact Y2h (by decide) rfl
 . rw [show Y2x s=_ from if_neg (fun h=>c h.1)]
   exact Y2h (by omega) rfl
theorem Yre {s :ByteArray} (h:(Y2x s).2=0):Y4d (Y2x s).1=true:=by
 unfold Y2x at h ⊢
 split at h
 . rename_i c;rw [if_pos c];exact c.2.1
 . simp at h
def Yef (a b :Int):Bool:=decide ((a - b+65536).tmod 65536>=1)&&decide ((a - b+65536).tmod 65536< 32768)
theorem Y12j (N :Nat) (a b:Int) (ha:0<=a/\a< 65536) (hb:0<=b/\b< 65536):J7q N a b=some (Yef a b,0):=by
 unfold J7q J7p J7o Yef
 rw [Yea,Yea,decide_eq_true ha,decide_eq_true hb]
 refine stB rfl (Yj (stB rfl (Yj (Y1a ?_))))
 rw [w64 (n:=a - b) (by omega) (by omega),w64 (n:=a - b+65536) (by omega) (by omega)]
 cases decide ((a - b+65536).tmod 65536>=1) <;> rfl
def Y6d (vs :List Yg) (r:Yk) (now:Int):List Yg× Bool:=
 bif ((vs.getD r.Site.toNat default).At != -1)&& !Yef r.Serial (vs.getD r.Site.toNat default).Report.Serial then (vs,false) else (vs.set r.Site.toNat ⟨r,now⟩,true)
theorem Yq7 {i :Int} {v:Yg} (h:Y4x i v=true):0<=v.Report.Serial/\v.Report.Serial< 65536:=by
 unfold Y4x at h
 rw [Bool.or_eq_true] at h
 rcases h with h | h
 . rw [Bool.and_eq_true] at h
   rw [Y16a.1 h.2]
   exact ⟨by decide,by decide⟩
 . simp only [Bool.and_eq_true] at h
   have:=h.2.1
   unfold Y4d at this
   simp only [Bool.and_eq_true,decide_eq_true_eq] at this
   exact this.2.1
theorem Yb0 {r :Yk} (h:Y4d r=true):(0<=r.Site/\r.Site< 3)/\(0<=r.Serial/\r.Serial< 65536)/\(0<=r.Load/\r.Load< 256)/\(0<=r.Cap/\r.Cap< 256):=by
 unfold Y4d at h
 simpa only [Bool.and_eq_true,decide_eq_true_eq] using h
theorem Yq8 {N :Nat} (hN:140737488355328< N) {vs:List Yg} (hv:Y4y vs=true) {r:Yk} (hr:Y4d r=true) {now:Int} (hn:Y22 now=true):J7s N vs r now=some ((Y6d vs r now).1,(Y6d vs r now).2,0):=by
 have hl:=Y6c hv
 obtain ⟨p1,p2,_,_⟩:=Yb0 hr
 have hs:=Yq7 (Yec hv (i:=r.Site.toNat) (by omega))
 unfold J7s J5e J7r Y6d
 rw [Yck hN vs (by omega),hv,Yeb,hr,Y5j,hn]
 refine stB rfl (Yj (stB rfl (Yj (stB rfl (Yj (stB (Ykl N vs (by omega)) (Yd (by omega) (stB (Y12j N _ _ p2 hs) ?_))))))))
 dsimp only
 cases ((vs.getD r.Site.toNat default).At != -1) with
 | true=>
   refine Yq (Yd (by omega) ?_)
   rw [Bool.true_and]
   cases Yef r.Serial (vs.getD r.Site.toNat default).Report.Serial <;> rfl
 | false=>exact Yn (Yd (by omega) rfl)
theorem Y12k {vs :List Yg} (hv:Y4y vs=true) {r:Yk} (hr:Y4d r=true) {now:Int} (hn:Y22 now=true):Y4y (Y6d vs r now).1=true:=by
 have hl:=Y6c hv
 obtain ⟨p1,_⟩:=Yb0 hr
 unfold Y6d
 cases (((vs.getD r.Site.toNat default).At != -1)&& !Yef r.Serial (vs.getD r.Site.toNat default).Report.Serial) with
 | true=>exact hv
 | false=>
   rw [cond_false]
   unfold Y4y
   rw [List.length_set,hl,Bool.and_eq_true,List.all_eq_true]
   refine ⟨fun i hi=> ?_,rfl⟩
   rw [List.mem_range'_1] at hi
   by_cases e:i=r.Site.toNat
   . rw [e,Y46 (by rw [List.length_set];omega),List.getElem_set_self]
     unfold Y4x
     rw [hn,hr,Bool.true_and,Bool.true_and]
     rw [show (((r.Site.toNat:Nat):Int))=r.Site by omega]
     simp
   . rw [Y46 (by rw [List.length_set];omega),List.getElem_set_ne (Ne.symm e),<- Y46 (by omega)]
     exact Yec hv (by omega)
def tN (n :Ya):J2:=⟨1,n.Id,0⟩
def Y4o (t :J2) (kind:Int) (f:Y9):Y1c:=⟨[],[evT t kind 0 f]⟩
def Y8d (n :Ya) (o:Yw) (now:Int):Ya× Y1c:=
 bif ((Y2x o.Body).2 != 0)||(!(o.Src==167903232+(Y2x o.Body).1.Site)||((Y2x o.Body).1.Site==n.Id)) then (n,Y4o (tN n) 8 zF)
 else bif (Y6d n.Seen (Y2x o.Body).1 now).2 then (⟨n.Id,n.Config,n.Health,(Y6d n.Seen (Y2x o.Body).1 now).1,n.Flows,n.Serial⟩,⟨[],[evT (tN n) 13 (Y2x o.Body).1.Site zF]⟩) else (n,⟨[],[]⟩)
def Y3j (n :Ya) (now:Int) (s:ByteArray):Ya× Y1c:=
 bif ((Yl s).2 != 0)||((Yl s).1.Dst != 167903232+n.Id) then (n,Y4o (tN n) 8 zF)
 else bif (Yl s).1.Tier==4 then Y8d n (Yl s).1 now
 else bif !(Y1w n.Id (Yl s).1).2 then (n,Y4o (tN n) 7 zF)
 else bif (ofF (Y1w n.Id (Yl s).1).1).2.2 != 0 then (n,Y4o (tN n) (Ye8 (ofF (Y1w n.Id (Yl s).1).1).2.2) (ofF (Y1w n.Id (Yl s).1).1).1)
 else bif !(Y4r n now (ofF (Y1w n.Id (Yl s).1).1).1 ((Yl s).1.Tier==2)).2 then (n,Y4o (tN n) 5 (ofF (Y1w n.Id (Yl s).1).1).1)
 else (⟨n.Id,n.Config,n.Health,n.Seen,(Y5u (tN n) (Y6x n.Id (Y4r n now (ofF (Y1w n.Id (Yl s).1).1).1 ((Yl s).1.Tier==2)).1 s (Y1w n.Id (Yl s).1).1) n.Flows (Y4r n now (ofF (Y1w n.Id (Yl s).1).1).1 ((Yl s).1.Tier==2)).1 (ofF (Y1w n.Id (Yl s).1).1).2.1.Flags now).1,n.Serial⟩,
   (Y5u (tN n) (Y6x n.Id (Y4r n now (ofF (Y1w n.Id (Yl s).1).1).1 ((Yl s).1.Tier==2)).1 s (Y1w n.Id (Yl s).1).1) n.Flows (Y4r n now (ofF (Y1w n.Id (Yl s).1).1).1 ((Yl s).1.Tier==2)).1 (ofF (Y1w n.Id (Yl s).1).1).2.1.Flags now).2)
theorem Yfj {id :Int} {o:Yw} (ho:o.Body.size<=512):(Y1w id o).1.size<=512:=by
 unfold Y1w
 cases (o.Tier != 2) with
 | true=>exact ho
 | false=>
   cases Yjp id o with
   | true=>
     show (Yl o.Body).1.Body.size<=512
     unfold Yl Yg8 Y4p
     split
     . decide
     . split
       . dsimp only;rw [ByteArray.size_extract];omega
       . decide
   | false=>exact by show ByteArray.empty.size<=512;decide
def zN :Ya:=⟨0,⟨0,[]⟩,[],[],[],0⟩
theorem Y12l {n :Ya} (h:Y1x n) {now:Int} (hn:Y22 now=true) (s:ByteArray):Y1x (Y3j n now s).1:=by
 unfold Y3j
 cases (((Yl s).2 != 0)||((Yl s).1.Dst != 167903232+n.Id)) with
 | true=>exact h
 | false=>
 rw [cond_false]
 cases ((Yl s).1.Tier==4) with
 | true=>
   rw [cond_true]
   unfold Y8d
   have hk:=@Yre (Yl s).1.Body
   generalize Y2x (Yl s).1.Body=g at*
   by_cases c:g.2=0
   case neg=>rw [show (g.2 != 0)=true from bne_iff_ne.2 c,Bool.true_or];exact h
   cases ((g.2 != 0)||(!((Yl s).1.Src==167903232+g.1.Site)||(g.1.Site==n.Id))) with
   | true=>exact h
   | false=>
     rw [cond_false]
     cases (Y6d n.Seen g.1 now).2 with
     | true=>exact ⟨h.away,h.here,h.serial,h.conf,h.id,h.hs,Y12k h.view (hk c) hn,h.cache⟩
     | false=>exact h
 | false=>
 rw [cond_false]
 cases (!(Y1w n.Id (Yl s).1).2) with
 | true=>exact h
 | false=>
 rw [cond_false]
 have hof:=@Ybl (Y1w n.Id (Yl s).1).1
 generalize ofF (Y1w n.Id (Yl s).1).1=w at*
 by_cases k:w.2.2=0
 case neg=>rw [show (w.2.2 != 0)=true from bne_iff_ne.2 k];exact h
 obtain ⟨f1,f2⟩:=hof k
 rw [show (w.2.2 != 0)=false by rw [k];rfl,cond_false]
 have hfit:=fun q=>Yee (now:=now) (spill:=((Yl s).1.Tier==2)) h f1 q
 generalize Y4r n now w.1 ((Yl s).1.Tier==2)=e at*
 cases he:e.2 with
 | false=>exact h
 | true=>
 have hx:=hfit he
 rw [Bool.not_true,cond_false]
 unfold Y5u
 split
 . exact h
 . dsimp only
   have hmem:∀ y∈(Y7t n.Flows (Y7u e.1 w.2.1.Flags now)).1,y∈n.Flows\/y=Y7u e.1 w.2.1.Flags now:=fun y hy=>Yr8 hy
   refine ⟨fun y hy ha=> ?_,fun y hy ha=> ?_,h.serial,h.conf,h.id,h.hs,h.view,Yy7 h.cache (Yjo hx.ok hn)⟩
   . rcases hmem y hy with q | rfl
     . exact h.away y q ha
     . exact hx.away ha
   . rcases hmem y hy with q | rfl
     . exact h.here y q ha
     . exact hx.here ha
theorem Yfk (n :Ya) (now:Int) (s:ByteArray):(Y3j n now s).1.Id=n.Id/\(Y3j n now s).1.Config=n.Config/\(Y3j n now s).1.Health=n.Health/\(Y3j n now s).1.Serial=n.Serial:=by
 unfold Y3j Y8d
 cases (((Yl s).2 != 0)||((Yl s).1.Dst != 167903232+n.Id)) with
 | true=>exact ⟨rfl,rfl,rfl,rfl⟩
 | false=>
 cases ((Yl s).1.Tier==4) with
 | true=>
   rw [cond_false,cond_true]
   cases (((Y2x (Yl s).1.Body).2 != 0)||(!((Yl s).1.Src==167903232+(Y2x (Yl s).1.Body).1.Site)||((Y2x (Yl s).1.Body).1.Site==n.Id))) with
   | true=>exact ⟨rfl,rfl,rfl,rfl⟩
   | false=>cases (Y6d n.Seen (Y2x (Yl s).1.Body).1 now).2 <;> exact ⟨rfl,rfl,rfl,rfl⟩
 | false=>
 cases (!(Y1w n.Id (Yl s).1).2) with
 | true=>exact ⟨rfl,rfl,rfl,rfl⟩
 | false=>
 cases ((ofF (Y1w n.Id (Yl s).1).1).2.2 != 0) with
 | true=>exact ⟨rfl,rfl,rfl,rfl⟩
 | false=>
 cases (!(Y4r n now (ofF (Y1w n.Id (Yl s).1).1).1 ((Yl s).1.Tier==2)).2) <;> exact ⟨rfl,rfl,rfl,rfl⟩
def Y6y (n :Ya):Ya× Yk:=(⟨n.Id,n.Config,n.Health,n.Seen,n.Flows,(n.Serial+1) % 65536⟩,⟨n.Id,n.Serial,Yal n,(Y2s n.Config n.Id).Cap⟩)
theorem Yl9 {n :Ya} (hb:BdN n):J4q 281474976710656 n=some (if Y9x n=true then ((Y6y n).1,(Y6y n).2,0) else (zN,zR,2000)):=by
 unfold J4q
 refine stB (Ycl (by decide) n hb) ?_
 cases hk:Y9x n with
 | false=>rw [if_neg (by decide)];rfl
 | true=>
   have h:=(Y42 n).1 hk
   have s4:=((Y27 _).1 h.cache).2.2
   have hse:=h.serial
   rw [if_pos rfl]
   refine Yj (stB (Y9y _ _ _) (stB (Yr9 (by decide) n (by omega)) (stB (Yp9 (by decide) h) (Y1a ?_))))
   rw [w64 (n:=n.Serial+1) (by omega) (by omega),Int.tmod_eq_emod_of_nonneg (by omega)]
   rfl
end Go.Proofs.YtpdcnikdoikldaaGreatDoor.Pu
namespace Go.Proofs.YtpdcnikdoikldaaGreatDoor.Pu
open Go Go.RowKit Go.Proofs.YtpdcnikdoikldaaGreatDoor.Sv Go.Proofs.YtpdcnikdoikldaaGreatDoor.Lf
theorem Y12m {i :Int} (h:0<=i/\i< 3):Y2a (167903232+i)=(1,i,0,true):=by
 unfold Y2a
 rw [if_neg (by omega),if_pos (by omega),show 167903232+i - 167903232=i by omega]
end Go.Proofs.YtpdcnikdoikldaaGreatDoor.Pu
namespace Go.Proofs.YtpdcnikdoikldaaGreatDoor.Pu
open Go Go.RowKit Go.Proofs.YtpdcnikdoikldaaGreatDoor.Sv Go.Proofs.YtpdcnikdoikldaaGreatDoor.Lf
theorem Yeg {s :Yf} (h:Y3s s=true):(∀ b∈s.Backs,0<=b.Weight/\b.Weight<=16)/\(0<=s.Weight/\s.Weight<=16)/\(0<=s.Cap/\s.Cap<=8)/\s.Backs.length<=4:=by
 unfold Y3s Y6o at h
 simp only [Bool.and_eq_true,List.all_eq_true,decide_eq_true_eq] at h
 obtain ⟨h1,h2,h3,h4⟩:=h
 exact ⟨h1,h2,h3,by omega⟩
end Go.Proofs.YtpdcnikdoikldaaGreatDoor.Pu
