import Derived.Test.YtpdcnikdoikldaaGreatDoorE4
set_option linter.unusedVariables false
set_option linter.unusedSimpArgs false
namespace Go.Proofs.YtpdcnikdoikldaaGreatDoor.Pu
open Go Go.RowKit Go.Proofs.YtpdcnikdoikldaaGreatDoor.Sv Go.Proofs.YtpdcnikdoikldaaGreatDoor.Lf
def Y4o (r :Yn):Bool:=decide (0<=r.Site/\r.Site< 3)&&(decide (0<=r.Serial/\r.Serial< 65536)&&(decide (0<=r.Load/\r.Load< 256)&&decide (0<=r.Cap/\r.Cap< 256)))
theorem Yf3 (N :Nat) (x:Int):J45 N x=some (decide (0<=x/\x< 65536)):=by
 unfold J45 Ja3
 rw [Y8i]
 congr 1
 by_cases h:x>=0 <;> by_cases k:x< 65536 <;> simp [h,k] <;> omega
theorem Yf4 (N :Nat) (r:Yn):J44 N r=some (Y4o r):=by
 unfold J44 J4u Y4o
 rw [Yag,Yf3,in8,in8]
 cases decide (0<=r.Site/\r.Site< 3) with
 | false=>rfl
 | true=>
   cases decide (0<=r.Serial/\r.Serial< 65536) with
   | false=>rfl
   | true=>cases decide (0<=r.Load/\r.Load< 256) <;> rfl
def eqR (a b :Yn):Bool:=(a.Site==b.Site)&&((a.Serial==b.Serial)&&((a.Load==b.Load)&&((a.Cap==b.Cap)&&true)))
theorem Y18j {a b :Yn}:eqR a b=true↔a=b:=by
 obtain ⟨a1,a2,a3,a4⟩:=a
 obtain ⟨b1,b2,b3,b4⟩:=b
 unfold eqR
 simp only [Bool.and_eq_true,beq_iff_eq,Bool.and_true,Yn.mk.injEq]
def zR :Yn:=⟨0,0,0,0⟩
def Y5a (i :Int) (v:Yg):Bool:=((v.At== -1)&&eqR v.Report zR)||(Y20 v.At&&(Y4o v.Report&& !(v.Report.Site != i)))
def Y5b (vs :List Yg):Bool:=((List.range' 0 vs.length).all fun i=>Y5a (i:Int) (vs.getD i default))&&((vs.length:Int)==3)
theorem Y1e6 (N :Nat) (r1:List Yg->List Yg->Int->Int->Option Bool) (t0:List Yg) (i:Int) (v:Yg) (t6:List Yg) (t7:Int):
   J6q N r1 t0 i v.Report.Site v.Report.Serial v.Report.Load v.Report.Cap v.At ((v.At== -1)&&eqR v.Report zR) t6 t7 i=if Y5a i v=true then r1 t0 t6 t7 (IntKind.i64.wrap (i+1)) else some false:=by
 unfold J6q J4v Y5a
 rw [show (⟨v.Report.Site,v.Report.Serial,v.Report.Load,v.Report.Cap⟩:Yn)=v.Report from rfl,Y5u,Yf4]
 cases ((v.At== -1)&&eqR v.Report zR) with
 | true=>rfl
 | false=>
   cases Y20 v.At with
   | false=>rfl
   | true=>
     cases Y4o v.Report with
     | false=>rfl
     | true=>cases (v.Report.Site != i) <;> rfl
theorem Y105 (N :Nat) (vs:List Yg) (hb:vs.length<=140737488355328):∀ (d fuel i:Nat),vs.length=i+d->d< fuel->
   J1r N fuel vs vs (vs.length:Int) (i:Int)=some (((List.range' i d).all fun i=>Y5a (i:Int) (vs.getD i default))&&((vs.length:Int)==3)):=by
 intro d
 induction d with
 | zero=>
   intro fuel i hi hf
   obtain ⟨fuel,rfl⟩:∃ f,fuel=f+1:=⟨fuel - 1,by omega⟩
   rw [J1r,List.range'_zero,List.all_nil,Bool.true_and]
   exact Yt (by omega) rfl
 | succ d ih=>
   intro fuel i hi hf
   obtain ⟨fuel,rfl⟩:∃ f,fuel=f+1:=⟨fuel - 1,by omega⟩
   rw [J1r,List.range'_succ,List.all_cons,Int.toNat_natCast]
   refine Yj (by omega) (Yb (by omega) ?_)
   have h2:=Y1e6 N (J1r N fuel) vs (i:Int) (vs.getD i default) vs (vs.length:Int)
   rw [w64 (n:=(i:Int)+1) (by omega) (by omega)] at h2
   have hgo:(if Y5a (i:Int) (vs.getD i default)=true then J1r N fuel vs vs (vs.length:Int) ((i:Int)+1) else some false)=some ((Y5a (i:Int) (vs.getD i default)&&(List.range' (i+1) d).all fun i=>Y5a (i:Int) (vs.getD i default))&&((vs.length:Int)==3)):=by
     cases Y5a (i:Int) (vs.getD i default) with
     | true=>rw [if_pos rfl,Bool.true_and];exact ih fuel (i+1) (by omega) (by omega)
     | false=>rw [if_neg (by decide)];rfl
   rw [hgo] at h2
   cases hq:((vs.getD i default).At== -1) with
   | true=>rw [hq,Bool.true_and] at h2;exact Ym (Y15 h2)
   | false=>rw [hq,Bool.false_and] at h2;exact Yk h2
theorem Ydd {N :Nat} (hN:140737488355328< N) (vs:List Yg) (hb:vs.length<=140737488355328):J5k N vs=some (Y5b vs):=Y105 N vs hb vs.length N 0 (by omega) (by omega)
theorem Y6l {vs :List Yg} (h:Y5b vs=true):vs.length=3:=by
 unfold Y5b at h
 simp only [Bool.and_eq_true,beq_iff_eq] at h
 omega
theorem Yf5 {vs :List Yg} (h:Y5b vs=true) {i:Nat} (hi:i< 3):Y5a (i:Int) (vs.getD i default)=true:=by
 have hl:=Y6l h
 unfold Y5b at h
 simp only [Bool.and_eq_true,List.all_eq_true] at h
 exact h.1 i (by rw [List.mem_range'_1];omega)
def BdN (n :Ya):Prop:=BdC n.Config/\n.Health.length<=140737488355328/\n.Seen.length<=140737488355328/\n.Flows.length<=140737488355328
def Y7k (n :Ya):Bool:=Y19 n.Config&&(decide (0<=n.Id/\n.Id< 3)&&(Y6c n.Health 4&&(Y5b n.Seen&&Y3c n.Flows)))
theorem Ybp {N :Nat} (hN:140737488355328< N) (n:Ya) (h:BdN n):J2k N n=some (Y7k n):=by
 obtain ⟨h1,h2,h3,h4⟩:=h
 unfold J2k J2f Y7k
 rw [Y31 hN _ h1,Yag,Yc8 hN _ _ h2,Ydd hN _ h3,Yca hN _ h4]
 cases Y19 n.Config with
 | false=>rfl
 | true=>
   cases decide (0<=n.Id/\n.Id< 3) with
   | false=>rfl
   | true=>
     cases Y6c n.Health 4 with
     | false=>rfl
     | true=>cases Y5b n.Seen <;> rfl
def Ycb (id :Int) (x:Y0):Bool:=bif x.Away then decide (0<=x.To/\x.To< 3)&& !(x.To==id) else !decide (x.To>=4)
def Yaj (n :Ya):Bool:=n.Flows.all (Ycb n.Id)&&(decide (0<=n.Serial/\n.Serial< 65536)&&Y7k n)
theorem Y106 {N :Nat} (hN:140737488355328< N) (n:Ya) (h:BdN n):∀ (d fuel i:Nat),n.Flows.length=i+d->d< fuel->
   J16 N fuel n.Id n.Config.Version n.Config.Sites n.Health n.Seen n.Flows n.Serial n.Flows (n.Flows.length:Int) (i:Int)=some ((n.Flows.drop i).all (Ycb n.Id)&&(decide (0<=n.Serial/\n.Serial< 65536)&&Y7k n)):=by
 have h4:=h.2.2.2
 intro d
 induction d with
 | zero=>
   intro fuel i hi hf
   obtain ⟨fuel,rfl⟩:∃ f,fuel=f+1:=⟨fuel - 1,by omega⟩
   rw [J16,List.drop_of_length_le (by omega),List.all_nil,Bool.true_and]
   unfold J6r
   refine Yt (by omega) ?_
   by_cases a:n.Serial>=0
   . refine Yj a ?_
     by_cases b:n.Serial< 65536
     . refine Yj b (stB (Ybp hN n h) ?_)
       rw [decide_eq_true (show 0<=n.Serial/\n.Serial< 65536 by omega)];rfl
     . refine Yt b ?_
       rw [decide_eq_false (show ¬ (0<=n.Serial/\n.Serial< 65536) by omega)];rfl
   . refine Yt a ?_
     rw [decide_eq_false (show ¬ (0<=n.Serial/\n.Serial< 65536) by omega)];rfl
 | succ d ih=>
   intro fuel i hi hf
   obtain ⟨fuel,rfl⟩:∃ f,fuel=f+1:=⟨fuel - 1,by omega⟩
   rw [J16,Y2w (show i< n.Flows.length by omega),List.all_cons,Int.toNat_natCast]
   unfold J2g
   rw [w64 (n:=(i:Int)+1) (by omega) (by omega),Yag]
   refine Yj (by omega) (Yb (by omega) ?_)
   have ih':=ih fuel (i+1) (by omega) (by omega)
   unfold Ycb at ih' ⊢
   cases (n.Flows.getD i default).Away with
   | true=>
     refine Ym (stB rfl ?_)
     cases decide (0<=(n.Flows.getD i default).To/\(n.Flows.getD i default).To< 3) with
     | false=>rfl
     | true=>
       cases ((n.Flows.getD i default).To==n.Id) with
       | true=>rfl
       | false=>exact ih'
   | false=>
     refine Yk (Y1k ?_)
     cases decide ((n.Flows.getD i default).To>=4) with
     | true=>rfl
     | false=>exact ih'
theorem Yde {N :Nat} (hN:140737488355328< N) (n:Ya) (h:BdN n):J6s N n=some (Yaj n):=Y106 hN n h n.Flows.length N 0 (by omega) (by have:=h.2.2.2;omega)
structure Y1y (n :Ya):Prop where
 away:∀ x∈n.Flows,x.Away=true->(0<=x.To/\x.To< 3)/\x.To≠n.Id
 here:∀ x∈n.Flows,x.Away=false->x.To< 4
 serial:0<=n.Serial/\n.Serial< 65536
 conf:Y19 n.Config=true
 id:0<=n.Id/\n.Id< 3
 hs:Y6c n.Health 4=true
 view:Y5b n.Seen=true
 cache:Y3c n.Flows=true
theorem Y4e (n :Ya):Yaj n=true↔Y1y n:=by
 unfold Yaj Y7k
 simp only [Bool.and_eq_true,List.all_eq_true,decide_eq_true_eq]
 constructor
 . rintro ⟨h,h1,h2,h3,h4,h5,h6⟩
   refine ⟨fun x hx ha=> ?_,fun x hx ha=> ?_,h1,h2,h3,h4,h5,h6⟩
   . have:=h x hx
     unfold Ycb at this
     rw [ha] at this
     simpa using this
   . have:=h x hx
     unfold Ycb at this
     rw [ha] at this
     simpa using this
 . rintro ⟨ha,hh,h1,h2,h3,h4,h5,h6⟩
   refine ⟨fun x hx=> ?_,h1,h2,h3,h4,h5,h6⟩
   unfold Ycb
   cases hq:x.Away with
   | true=>have:=ha x hx hq;simpa using this
   | false=>have:=hh x hx hq;simpa using this
theorem Y1y.spare {n :Ya} (h:Y1y n):Y7k n=true:=by
 unfold Y7k
 rw [h.conf,decide_eq_true h.id,h.hs,h.view,h.cache];rfl
theorem Yj6 {n :Ya} (h:Y1y n):BdN n:=by
 obtain ⟨s1,s2⟩:=Y1x h.conf
 have s3:=Y50 h.hs
 have s4:=((Y28 _).1 h.cache).2.2
 have s5:=Y6l h.view
 exact ⟨⟨by omega,fun y hy=>by have:=(s2 y hy).2;omega⟩,by omega,by omega,by omega⟩
theorem Yli (N :Nat) (hs:List Yg) (hl:hs.length<=100):J21 N hs=some hs:=by
 unfold J21 J43 J7t
 by_cases h:hs.length=0
 . rw [if_pos h,List.eq_nil_of_length_eq_zero h]
 . rw [if_neg h]
   exact Yb h (Yb (Y3p (by omega) (by omega)) rfl)
theorem Yqf {N :Nat} (hN:1000<=N) {n:Ya} (h:Y1y n):J1n N n=some n:=by
 obtain ⟨s1,s2⟩:=Y1x h.conf
 have s3:=Y50 h.hs
 have s4:=((Y28 _).1 h.cache).2.2
 have s5:=Y6l h.view
 unfold J1n
 exact stB (Yh6 hN _ (by omega) (fun y hy=>by have:=(s2 y hy).2;omega)) (stB (Yld N _ (by omega)) (stB (Yli N _ (by omega)) (stB (Yle N _ (by omega)) rfl)))
def Y16x :Yf:=⟨0,false,0,[]⟩
def Y6u (c :Y7) (i:Int):Bool:=decide (0<=i/\i< (c.Sites.length:Int))
def Y2t (c :Y7) (i:Int):Yf:=if Y6u c i=true then c.Sites.getD i.toNat default else Y16x
theorem Yak (N :Nat) (c:Y7) (i:Int):J17 N c i=some (Y2t c i,Y6u c i):=by
 unfold J17 J47 Y2t Y6u
 by_cases a:i< 0
 . rw [decide_eq_false (show ¬ (0<=i/\i< (c.Sites.length:Int)) by omega)]
   exact Yj a rfl
 . by_cases b:i>=(c.Sites.length:Int)
   . rw [decide_eq_false (show ¬ (0<=i/\i< (c.Sites.length:Int)) by omega)]
     refine Yt a ?_
     rw [decide_eq_true b];rfl
   . rw [decide_eq_true (show 0<=i/\i< (c.Sites.length:Int) by omega)]
     refine Yt a ?_
     rw [decide_eq_false b]
     exact Yk (Yb (by omega) rfl)
theorem Y6d {c :Y7} (h:Y19 c=true) (i:Int):(Y2t c i).Backs.length<=4/\(Y6u c i=true->Y40 (Y2t c i)=true):=by
 obtain ⟨s1,s2⟩:=Y1x h
 unfold Y2t
 split
 . rename_i q
   unfold Y6u at q
   rw [decide_eq_true_eq] at q
   have:=s2 _ (Y3t (show i.toNat< c.Sites.length by omega))
   exact ⟨this.2,fun _=>this.1⟩
 . exact ⟨by decide,fun q=>absurd q (by assumption)⟩
def Y90 (b :Y2a) (h:Y5):Bool:=h.Up&&(!b.Drain&&decide (0< b.Weight))
def Y5m (hs :List Y5):List Y2a->Nat->List Y3
 | [],_=>[]
 | s :: ss,i=>bif Y90 s (hs.getD i default) then ⟨(i:Int),s.Weight⟩ :: Y5m hs ss (i+1) else Y5m hs ss (i+1)
theorem Yvm {N :Nat} (hs:List Y5) (ss:List Y2a) (hl:ss.length<=90) (hh:ss.length<=hs.length):∀ (d fuel i:Nat) (b:List Y3),ss.length=i+d->d< fuel->b.length<=i->
   J1u N fuel hs b ss (ss.length:Int) (i:Int)=some (b++Y5m hs (ss.drop i) i,0):=by
 intro d
 induction d with
 | zero=>
   intro fuel i b hi hf hb
   obtain ⟨fuel,rfl⟩:∃ f,fuel=f+1:=⟨fuel - 1,by omega⟩
   rw [J1u,List.drop_of_length_le (by omega)]
   refine Yt (by omega) ?_
   unfold Y5m
   rw [List.append_nil]
 | succ d ih=>
   intro fuel i b hi hf hb
   obtain ⟨fuel,rfl⟩:∃ f,fuel=f+1:=⟨fuel - 1,by omega⟩
   rw [J1u,Y2w (show i< ss.length by omega),Int.toNat_natCast,w64 (n:=(i:Int)+1) (by omega) (by omega)]
   unfold Y5m
   have hadd:=Y100 N b (i:Int) (ss.getD i default).Weight (ss.getD i default).Drain (hs.getD i default) (by omega)
   have hcc:((hs.getD i default).Up&&(!(ss.getD i default).Drain&&decide (0< (ss.getD i default).Weight)))=Y90 (ss.getD i default) (hs.getD i default):=rfl
   rw [hcc] at hadd
   refine Yj (by omega) (Yb (by omega) (Yb (by omega) ?_))
   cases hq:Y90 (ss.getD i default) (hs.getD i default) with
   | true=>
     rw [hq] at hadd
     refine stB hadd (Yk ((ih fuel (i+1) (b++[⟨(i:Int),(ss.getD i default).Weight⟩]) (by omega) (by omega) (by rw [List.length_append,List.length_singleton];omega)).trans ?_))
     rw [List.append_assoc]
     rfl
   | false=>
     rw [hq] at hadd
     exact stB hadd (Ym (Yb rfl (ih fuel (i+1) b (by omega) (by omega) (by omega))))
def Y6m (c :Y7) (site:Int) (hs:List Y5):List Y3:=Y5m hs (Y2t c site).Backs 0
theorem Yqg {N :Nat} (hN:140737488355328< N) {c:Y7} {hs:List Y5} (hc:Y19 c=true) (hh:Y6c hs 4=true) (site:Int):∃ e,J3n N c site hs=some (Y6m c site hs,e):=by
 obtain ⟨s1,s2⟩:=Y1x hc
 have s3:=Y50 hh
 have s4:=Y6d hc site
 unfold J3n J3m
 cases hq:Y6u c site with
 | true=>
   refine ⟨0,stB (Yak N c site) (stB (Y31 hN c ⟨by omega,fun y hy=>by have:=(s2 y hy).2;omega⟩) ?_)⟩
   rw [hc]
   refine Yi (stB (Yc8 hN hs 4 (by omega)) ?_)
   rw [hh,hq]
   refine Yi ?_
   exact (Yvm hs (Y2t c site).Backs (by omega) (by omega) (Y2t c site).Backs.length N 0 [] (by omega) (by omega) (by simp)).trans (by rw [List.nil_append,List.drop_zero];rfl)
 | false=>
   refine ⟨1300,stB (Yak N c site) (stB (Y31 hN c ⟨by omega,fun y hy=>by have:=(s2 y hy).2;omega⟩) ?_)⟩
   rw [hc]
   refine Yi (stB (Yc8 hN hs 4 (by omega)) ?_)
   rw [hh,hq]
   refine Yi ?_
   unfold Y6m Y2t
   rw [hq]
   rfl
theorem Y91 (hs :List Y5):∀ (ss:List Y2a) (i:Nat) (c:Y3),c∈Y5m hs ss i->∃ j,j< ss.length/\c=⟨((i+j:Nat):Int),(ss.getD j default).Weight⟩/\Y90 (ss.getD j default) (hs.getD (i+j) default)=true
 | [],i,c,h=>by simp [Y5m] at h
 | s :: ss,i,c,h=>by
   unfold Y5m at h
   cases hq:Y90 s (hs.getD i default) with
   | true=>
     rw [hq,cond_true] at h
     rcases List.mem_cons.1 h with rfl | h
     . exact ⟨0,by simp,rfl,hq⟩
     . obtain ⟨j,h1,h2,h3⟩:=Y91 hs ss (i+1) c h
       refine ⟨j+1,by simpa using h1,?_,?_⟩
       . rw [h2,show i+1+j=i+(j+1) by omega];rfl
       . rw [show i+(j+1)=i+1+j by omega];exact h3
   | false=>
     rw [hq,cond_false] at h
     obtain ⟨j,h1,h2,h3⟩:=Y91 hs ss (i+1) c h
     refine ⟨j+1,by simpa using h1,?_,?_⟩
     . rw [h2,show i+1+j=i+(j+1) by omega];rfl
     . rw [show i+(j+1)=i+1+j by omega];exact h3
theorem Yh8 (hs :List Y5):∀ (ss:List Y2a) (i:Nat),(Y5m hs ss i).Pairwise fun a b=>a.Id< b.Id
 | [],i=>by unfold Y5m;exact List.Pairwise.nil
 | s :: ss,i=>by
   unfold Y5m
   cases Y90 s (hs.getD i default) with
   | true=>
     refine List.Pairwise.cons (fun c hc=> ?_) (Yh8 hs ss (i+1))
     obtain ⟨j,_,h2,_⟩:=Y91 hs ss (i+1) c hc
     rw [h2]
     show (i:Int)< ((i+1+j:Nat):Int)
     omega
   | false=>exact Yh8 hs ss (i+1)
theorem Ylj (hs :List Y5):∀ (ss:List Y2a) (i:Nat),(Y5m hs ss i).length<=ss.length
 | [],i=>by simp [Y5m]
 | s :: ss,i=>by
   unfold Y5m
   have:=Ylj hs ss (i+1)
   cases Y90 s (hs.getD i default) with
   | true=>rw [cond_true,List.length_cons,List.length_cons];omega
   | false=>rw [cond_false,List.length_cons];omega
theorem Ylk {c :Y7} {hs:List Y5} (hc:Y19 c=true) (site:Int):Y9d (Y6m c site hs)=true:=by
 have s4:=Y6d hc site
 refine Ykg (fun x hx=> ?_) (Yh8 hs _ 0) (Nat.le_trans (Ylj hs _ 0) (by omega))
 obtain ⟨j,h1,h2,h3⟩:=Y91 hs _ 0 x hx
 have hq:Y6u c site=true:=by
   cases hq:Y6u c site with
   | true=>rfl
   | false=>unfold Y2t at h1;rw [hq,if_neg (by decide)] at h1;simp [Y16x] at h1
 have hs:=s4.2 hq
 unfold Y40 at hs
 unfold Y90 at h3
 simp only [Bool.and_eq_true,decide_eq_true_eq,List.all_eq_true] at hs h3
 have hb:=hs.1 _ (Y3t h1)
 unfold Y6y at hb
 rw [decide_eq_true_eq] at hb
 rw [h2]
 exact ⟨⟨by show (0:Int)<=((0+j:Nat):Int);omega,by show ((0+j:Nat):Int)< 256;omega⟩,by have:=h3.2.2;show 1<=((Y2t c site).Backs.getD j default).Weight;omega,hb.2⟩
def Yba (n :Ya):Int:=((n.Flows.filter fun x=> !x.Away).length:Nat)
theorem Y107 (N :Nat) (es:List Y0) (hl:es.length<=100):∀ (d fuel i:Nat) (k:Nat),es.length=i+d->d< fuel->k<=i->
   J1v N fuel (k:Int) es (es.length:Int) (i:Int)=some ((k+((es.drop i).filter fun x=> !x.Away).length:Nat):Int):=by
 intro d
 induction d with
 | zero=>
   intro fuel i k hi hf hk
   obtain ⟨fuel,rfl⟩:∃ f,fuel=f+1:=⟨fuel - 1,by omega⟩
   rw [J1v,List.drop_of_length_le (by omega),List.filter_nil]
   exact Yt (by omega) rfl
 | succ d ih=>
   intro fuel i k hi hf hk
   obtain ⟨fuel,rfl⟩:∃ f,fuel=f+1:=⟨fuel - 1,by omega⟩
   rw [J1v,Y2w (show i< es.length by omega),Int.toNat_natCast]
   unfold J50
   rw [w64 (n:=(i:Int)+1) (by omega) (by omega),w64 (n:=(k:Int)+1) (by omega) (by omega)]
   refine Yj (by omega) (Yb (by omega) ?_)
   cases hq:(es.getD i default).Away with
   | true=>
     rw [List.filter_cons_of_neg (by rw [hq];decide)]
     exact Yi (ih fuel (i+1) k (by omega) (by omega) (by omega))
   | false=>
     rw [List.filter_cons_of_pos (by rw [hq];decide),List.length_cons]
     refine Y1k ((ih fuel (i+1) (k+1) (by omega) (by omega) (by omega)).trans ?_)
     congr 2
     omega
theorem Ysp {N :Nat} (hN:1000<=N) (n:Ya) (hl:n.Flows.length<=100):J51 N n=some (Yba n):=by
 have:=Y107 N n.Flows hl n.Flows.length N 0 0 (by omega) (by omega) (by omega)
 rw [Nat.zero_add,List.drop_zero] at this
 exact this
def Yj7 (n :Ya):Bool:= !Y6u n.Config n.Id||((Y2t n.Config n.Id).Drain||(((Y6m n.Config n.Id n.Health).length:Int)==0||decide (Yba n>=(Y2t n.Config n.Id).Cap)))
theorem Y18k {N :Nat} (hN:140737488355328< N) {n:Ya} (h:Y1y n):J3p N n=some (Yj7 n,0):=by
 obtain ⟨e,he⟩:=Yqg hN h.conf h.hs n.Id
 have s4:=((Y28 _).1 h.cache).2.2
 unfold J3p J2j Yj7
 refine stB (Ybp hN n (Yj6 h)) ?_
 rw [h.spare]
 refine Yi (stB (Yak N _ _) (stB he ?_))
 dsimp only
 cases Y6u n.Config n.Id with
 | false=>rfl
 | true=>
   refine Yi ?_
   cases (Y2t n.Config n.Id).Drain with
   | true=>rfl
   | false=>
     refine Yk ?_
     cases ((Y6m n.Config n.Id n.Health).length:Int)==0 with
     | true=>rfl
     | false=>exact Yk (stB (Ysp (by omega) n (by omega)) rfl)
def Y5n (v :Yg) (now:Int):Int× Bool× Int:=
 if v.At= -1\/now< v.At\/v.At+10<=now then (0,false,0) else (if 0 > v.Report.Cap - v.Report.Load then 0 else v.Report.Cap - v.Report.Load,true,0)
theorem Y108 {N :Nat} (hN:140737488355328< N) {vs:List Yg} (hv:Y5b vs=true) {i:Nat} (hi:i< 3) {now:Int} (hn:Y20 now=true):J85 N vs (i:Int) now=some (Y5n (vs.getD i default) now):=by
 have hl:=Y6l hv
 have hs:=Yf5 hv hi
 have ht:=of_decide_eq_true hn
 unfold J85 J5o J5n
 rw [Ydd hN vs (by omega),hv,Y5u,hn,Yag,decide_eq_true (show (0:Int)<=(i:Int)/\(i:Int)< 3 by omega),Int.toNat_natCast]
 refine stB rfl (Yi (stB rfl (Yi (stB rfl (Yi (Yb (by omega) (Y15 ?_)))))))
 generalize vs.getD i default=v at*
 by_cases a:v.At= -1
 . rw [show Y5n v now=(0,false,0) from if_pos (.inl a),a];rfl
 . have hb:Y20 v.At=true/\Y4o v.Report=true:=by
     unfold Y5a at hs
     rw [show (v.At== -1)=false from beq_eq_false_iff_ne.2 a,Bool.false_and,Bool.false_or,Bool.and_eq_true,Bool.and_eq_true] at hs
     exact ⟨hs.1,hs.2.1⟩
   have hat:=of_decide_eq_true hb.1
   have hr:=hb.2
   unfold Y4o at hr
   simp only [Bool.and_eq_true,decide_eq_true_eq] at hr
   rw [w64 (n:=now - v.At) (by omega) (by omega),w64 (n:=v.Report.Cap - v.Report.Load) (by omega) (by omega)]
   refine Yo a ?_
   by_cases b:now - v.At< 0
   . rw [show Y5n v now=(0,false,0) from if_pos (.inr (.inl (by omega)))];exact Yj b rfl
   . refine Yt b ?_
     by_cases c:now - v.At>=10
     . rw [show Y5n v now=(0,false,0) from if_pos (.inr (.inr (by omega))),decide_eq_true c];rfl
     . rw [show Y5n v now=(if 0 > v.Report.Cap - v.Report.Load then 0 else v.Report.Cap - v.Report.Load,true,0) from if_neg (by omega),decide_eq_false c]
       refine Yk (Y15 ?_)
       by_cases d:0 > v.Report.Cap - v.Report.Load
       . rw [if_pos d,if_pos (decide_eq_true d)]
       . rw [if_neg d,if_neg (by rw [decide_eq_true_eq];exact d)]
def Y92 (n :Ya) (now:Int) (s:Yf) (i:Nat):Bool:=
 ((i:Int) != n.Id)&&(!s.Drain&&(decide (s.Weight > 0)&&((Y5n (n.Seen.getD i default) now).2.1&&decide ((Y5n (n.Seen.getD i default) now).1 > 0))))
def Y6e (n :Ya) (now:Int):List Yf->Nat->List Y3
 | [],_=>[]
 | s :: ss,i=>bif Y92 n now s i then ⟨(i:Int),if decide (16< (Y5n (n.Seen.getD i default) now).1) then 16 else (Y5n (n.Seen.getD i default) now).1⟩ :: Y6e n now ss (i+1) else Y6e n now ss (i+1)
theorem Y109 {N :Nat} (hN:140737488355328< N) {n:Ya} (h:Y1y n) {now:Int} (hn:Y20 now=true):∀ (d fuel i:Nat) (b:List Y3),n.Config.Sites.length=i+d->d< fuel->b.length<=i->
   J12 N fuel now n.Id n.Config.Version n.Config.Sites n.Health n.Seen n.Flows n.Serial b n.Config.Sites (n.Config.Sites.length:Int) (i:Int)=some (b++Y6e n now (n.Config.Sites.drop i) i,0):=by
 obtain ⟨s1,s2⟩:=Y1x h.conf
 intro d
 induction d with
 | zero=>
   intro fuel i b hi hf hb
   obtain ⟨fuel,rfl⟩:∃ f,fuel=f+1:=⟨fuel - 1,by omega⟩
   rw [J12,List.drop_of_length_le (by omega)]
   refine Yt (by omega) ?_
   unfold Y6e
   rw [List.append_nil]
 | succ d ih=>
   intro fuel i b hi hf hb
   obtain ⟨fuel,rfl⟩:∃ f,fuel=f+1:=⟨fuel - 1,by omega⟩
   rw [J12,Y2w (show i< n.Config.Sites.length by omega),Int.toNat_natCast]
   unfold Y6e
   refine Yj (by omega) (Yb (by omega) (stB (Y108 hN h.view (by omega) hn) ?_))
   have h3:∀ t:Bool,J23 N (J12 N fuel) now n.Id n.Config.Version n.Config.Sites n.Health n.Seen n.Flows n.Serial b (i:Int) (Y5n (n.Seen.getD i default) now).1 n.Config.Sites (n.Config.Sites.length:Int) (i:Int) t=
       some (b++(bif t then ⟨(i:Int),if decide (16< (Y5n (n.Seen.getD i default) now).1) then 16 else (Y5n (n.Seen.getD i default) now).1⟩ :: Y6e n now (n.Config.Sites.drop (i+1)) (i+1) else Y6e n now (n.Config.Sites.drop (i+1)) (i+1)),0):=by
     intro t
     unfold J23 J86
     rw [w64 (n:=(i:Int)+1) (by omega) (by omega)]
     cases t with
     | true=>
       refine Ym (Yb (Y3p (by omega) (by omega)) ((ih fuel (i+1) (b++[_]) (by omega) (by omega) (by rw [List.length_append,List.length_singleton];omega)).trans ?_))
       rw [List.append_assoc]
       rfl
     | false=>exact Yk (ih fuel (i+1) b (by omega) (by omega) (by omega))
   simp only [h3]
   unfold Y92
   cases ((i:Int) != n.Id) with
   | false=>rfl
   | true=>
     cases (n.Config.Sites.getD i default).Drain with
     | true=>rfl
     | false=>
       cases decide ((n.Config.Sites.getD i default).Weight > 0) with
       | false=>rfl
       | true=>cases (Y5n (n.Seen.getD i default) now).2.1 <;> rfl
def Ydf (n :Ya) (now:Int):List Y3:=Y6e n now n.Config.Sites 0
theorem Yvn {N :Nat} (hN:140737488355328< N) {n:Ya} (h:Y1y n) {now:Int} (hn:Y20 now=true):J88 N n now=some (Ydf n now,0):=by
 obtain ⟨s1,s2⟩:=Y1x h.conf
 unfold J88 J87
 rw [Ybp hN n (Yj6 h),h.spare,Y5u,hn]
 refine stB rfl (Yi (stB rfl (Yi ?_)))
 exact (Y109 hN h hn n.Config.Sites.length N 0 [] (by omega) (by omega) (by simp)).trans (by rw [List.nil_append,List.drop_zero];rfl)
theorem Yal (n :Ya) (now:Int):∀ (ss:List Yf) (i:Nat) (c:Y3),c∈Y6e n now ss i->∃ j,j< ss.length/\c=⟨((i+j:Nat):Int),if decide (16< (Y5n (n.Seen.getD (i+j) default) now).1) then 16 else (Y5n (n.Seen.getD (i+j) default) now).1⟩/\Y92 n now (ss.getD j default) (i+j)=true
 | [],i,c,h=>by simp [Y6e] at h
 | s :: ss,i,c,h=>by
   unfold Y6e at h
   cases hq:Y92 n now s i with
   | true=>
     rw [hq,cond_true] at h
     rcases List.mem_cons.1 h with rfl | h
     . exact ⟨0,by simp,rfl,hq⟩
     . obtain ⟨j,h1,h2,h3⟩:=Yal n now ss (i+1) c h
       refine ⟨j+1,by simpa using h1,?_,?_⟩
       . rw [h2,show i+1+j=i+(j+1) by omega]
       . rw [show i+(j+1)=i+1+j by omega];exact h3
   | false=>
     rw [hq,cond_false] at h
     obtain ⟨j,h1,h2,h3⟩:=Yal n now ss (i+1) c h
     refine ⟨j+1,by simpa using h1,?_,?_⟩
     . rw [h2,show i+1+j=i+(j+1) by omega]
     . rw [show i+(j+1)=i+1+j by omega];exact h3
theorem Ykj (n :Ya) (now:Int):∀ (ss:List Yf) (i:Nat),(Y6e n now ss i).Pairwise fun a b=>a.Id< b.Id
 | [],i=>by unfold Y6e;exact List.Pairwise.nil
 | s :: ss,i=>by
   unfold Y6e
   cases Y92 n now s i with
   | true=>
     refine List.Pairwise.cons (fun c hc=> ?_) (Ykj n now ss (i+1))
     obtain ⟨j,_,h2,_⟩:=Yal n now ss (i+1) c hc
     rw [h2]
     show (i:Int)< ((i+1+j:Nat):Int)
     omega
   | false=>exact Ykj n now ss (i+1)
theorem Yqh (n :Ya) (now:Int):∀ (ss:List Yf) (i:Nat),(Y6e n now ss i).length<=ss.length
 | [],i=>by simp [Y6e]
 | s :: ss,i=>by
   unfold Y6e
   have:=Yqh n now ss (i+1)
   cases Y92 n now s i with
   | true=>rw [cond_true,List.length_cons,List.length_cons];omega
   | false=>rw [cond_false,List.length_cons];omega
theorem Yll {n :Ya} (h:Y1y n) (now:Int):Y9d (Ydf n now)=true:=by
 obtain ⟨s1,s2⟩:=Y1x h.conf
 refine Ykg (fun x hx=> ?_) (Ykj n now _ 0) (Nat.le_trans (Yqh n now _ 0) (by omega))
 obtain ⟨j,h1,h2,h3⟩:=Yal n now _ 0 x hx
 unfold Y92 at h3
 simp only [Bool.and_eq_true,decide_eq_true_eq] at h3
 rw [h2]
 refine ⟨⟨by show (0:Int)<=((0+j:Nat):Int);omega,by show ((0+j:Nat):Int)< 256;omega⟩,?_⟩
 have:=h3.2.2.2.2
 dsimp only
 split
 . decide
 . rename_i q;rw [decide_eq_true_eq] at q;omega
end Go.Proofs.YtpdcnikdoikldaaGreatDoor.Pu
namespace Go.Proofs.YtpdcnikdoikldaaGreatDoor.Pu
open Go Go.RowKit Go.Proofs.YtpdcnikdoikldaaGreatDoor.Sv Go.Proofs.YtpdcnikdoikldaaGreatDoor.Lf
def Y3d (cs :List Y3) (key:Int) (f:Y9):Int× Bool:=(J20 281474976710656 cs key f).getD (0,false)
theorem Y5v {cs :List Y3} (hc:Y9d cs=true) {f:Y9} (hf:Y47 f=true) (key:Int) (hk:0<=key/\key< 4294967296):
   J20 281474976710656 cs key f=some (Y3d cs key f)/\((Y3d cs key f).2=true->∃ c∈cs,c.Id=(Y3d cs key f).1)/\((Y3d cs key f).2=false->cs=[]):=by
 obtain ⟨id,is,h1,h2,h3⟩:=Y104 hc hf key hk
 have e:Y3d cs key f=(id,is):=by unfold Y3d;rw [h1];rfl
 rw [e]
 exact ⟨h1,h2,h3⟩
def Yfw (p flags :Int):Int:=
 bif Y2f .i64 flags 4 != 0 then 2 else bif (Y2f .i64 flags 2 != 0)&& !(Y2f .i64 flags 16 != 0) then 0 else bif Y2f .i64 flags 1 != 0 then (if 2< p+1 then 2 else p+1) else p
theorem Yri {p flags :Int} (hp:0<=p/\p<=2):0<=Yfw p flags/\Yfw p flags<=2:=by
 unfold Yfw
 cases (Y2f .i64 flags 4 != 0) with
 | true=>rw [cond_true];omega
 | false=>
   cases ((Y2f .i64 flags 2 != 0)&& !(Y2f .i64 flags 16 != 0)) with
   | true=>rw [cond_false,cond_true];omega
   | false=>
     cases (Y2f .i64 flags 1 != 0) with
     | true=>rw [cond_false,cond_false,cond_true];split <;> omega
     | false=>exact hp
theorem Y14h (N :Nat) (p flags:Int) (hp:0<=p/\p<=2) (hf:0<=flags/\flags< 64):J7k N p flags=some (Yfw p flags,0):=by
 have hflags:Jb3 N flags=some true:=by
   refine stB (Yix N flags 6 (by decide)) ?_
   rw [decide_eq_true (show 0<=flags/\flags< 2 ^ 6 from hf)]
 have h2:J5f N p flags false=some (bif Y2f .i64 flags 1 != 0 then (if 2< p+1 then 2 else p+1) else p,0):=by
   unfold J5f J2r
   rw [Option.bind_some,w64 (n:=p+1) (by omega) (by omega)]
   cases (Y2f .i64 flags 1 != 0) with
   | true=>
     refine Yk (Ym (Y15 ?_))
     by_cases k:2< p+1
     . rw [if_pos (decide_eq_true k),cond_true,if_pos k]
     . rw [if_neg (by rw [decide_eq_true_eq];exact k),cond_true,if_neg k]
   | false=>rfl
 unfold J7k J7j J2r Yfw
 rw [Yh3,decide_eq_true hp,hflags,Option.bind_some,Option.bind_some,Option.bind_some,Option.bind_some,Option.bind_some]
 refine Yi (Yi ?_)
 cases (Y2f .i64 flags 4 != 0) with
 | true=>rfl
 | false=>
   refine Yk ?_
   cases (Y2f .i64 flags 2 != 0) with
   | true=>
     refine Ym ?_
     cases (Y2f .i64 flags 16 != 0) with
     | true=>exact h2
     | false=>rfl
   | false=>exact h2
def Y87 (x :Y0) (flags now:Int):Y0:=⟨x.Flow,x.To,x.Away,if x.Flow.Proto=6 then Yfw x.Phase flags else x.Phase,now⟩
theorem Y18l (N :Nat) (x:Y0) (flags now:Int) (hx:Y32 x=true) (hf:0<=flags/\flags< 64) (hn:Y20 now=true):J7m N x flags now=some (Y87 x flags now,0):=by
 have hp:=(Y3x hx).2.2.1
 unfold J7m J5g J7l Y87
 rw [Y14h N x.Phase flags hp hf,Yfv,hx,Y5u,hn]
 by_cases a:x.Flow.Proto=6
 . rw [if_pos a];exact stB rfl (Y1p rfl (stB rfl (Yi (stB rfl (Yi (Yr a rfl))))))
 . rw [if_neg a];exact stB rfl (Y1p rfl (stB rfl (Yi (stB rfl (Yi (Yo a rfl))))))
theorem Ykk {x :Y0} {flags now:Int} (hx:Y32 x=true) (hn:Y20 now=true):Y32 (Y87 x flags now)=true:=by
 have hp:=(Y3x hx).2.2.1
 have hs:=Yri (flags:=flags) hp
 unfold Y32 at hx ⊢
 simp only [Bool.and_eq_true,decide_eq_true_eq] at hx ⊢
 refine ⟨hx.1,hx.2.1,?_,hn⟩
 unfold Y87
 dsimp only
 split <;> omega
def evT (t :J2) (kind to:Int) (f:Y9):Y1:=⟨kind,t.Role,t.Site,t.Node,to,f⟩
def zF :Y9:=⟨0,0,0,0,0⟩
def Y53 (t :J2) (o:Yv) (fl:List Y0) (x:Y0) (flags now:Int):List Y0× Y1e:=
 if 324< o.Body.size then (fl,⟨[],[evT t 6 0 x.Flow]⟩)
 else ((Y86 fl (Y87 x flags now)).1,⟨[Y17 o],(bif (Y86 fl (Y87 x flags now)).2.2.1 then [evT t 11 (Y86 fl (Y87 x flags now)).2.1.To (Y86 fl (Y87 x flags now)).2.1.Flow] else [])++[evT t 0 x.To x.Flow]⟩)
theorem Ysq {o :Yv} (h:Y3h o=true):RA o.Src/\RA o.Dst:=by
 obtain ⟨h1,h2,_⟩:=Y5k h
 have a:=Y5t h1;have b:=Y5t h2
 unfold RA
 omega
theorem Yqi (t :J2) {o:Yv} (ho:Y3h o=true) {fl:List Y0} (hfl:Y3c fl=true) {x:Y0} (hx:Y32 x=true) {flags now:Int} (hf:0<=flags/\flags< 64) (hn:Y20 now=true):
   J5h 281474976710656 t o fl x flags now=some (Y53 t o fl x flags now):=by
 have hr:=Ysq ho
 have hpush:=Yke (N:=281474976710656) (by decide) o hr.1 hr.2
 unfold Y75 at hpush
 rw [if_pos ho] at hpush
 unfold J5h Y53
 by_cases c:324< o.Body.size
 . rw [if_pos c] at hpush ⊢
   exact stB hpush (Y25 (by decide) (stB (x:=⟨[],[evT t 6 0 x.Flow]⟩) rfl rfl))
 . rw [if_neg c] at hpush ⊢
   have hput:=Y18e (N:=281474976710656) (by decide) fl (Y87 x flags now) hfl (Ykk hx hn)
   refine stB hpush (Y1p rfl (stB (Y18l _ x flags now hx hf hn) (stB hput ?_)))
   unfold J7q J1k
   cases (Y86 fl (Y87 x flags now)).2.2.1 with
   | true=>exact Ym (stB rfl (stB rfl (Yb (Y3p (b:=80) (n:=2) (by decide) (by decide)) rfl)))
   | false=>exact Yk (stB rfl (Yb (Y3p (b:=80) (n:=1) (by decide) (by decide)) rfl))
def Yam (o :Yv):Bool:=(o.Tier==1)&&((o.Marker==0)&&((o.Origin==0)&&((Y22 o.Src).2.2.2&&((Y22 o.Src).1==0))))
theorem Yqj (N :Nat) (o:Yv) (h:RA o.Src):J5l N o=some (Yam o):=by
 unfold J5l J2w Yam
 refine stB (Yd8 N o.Src h) ?_
 cases (o.Tier==1) with
 | false=>rfl
 | true=>
   cases (o.Marker==0) with
   | false=>rfl
   | true=>
     cases (o.Origin==0) with
     | false=>rfl
     | true=>cases (Y22 o.Src).2.2.2 <;> rfl
theorem Ysr (s :ByteArray):RA (Yp s).1.Src/\RA (Yp s).1.Dst:=by
 unfold Yp Ygz Y4z
 split
 . exact ⟨by unfold RA;decide,by unfold RA;decide⟩
 . split
   . exact ⟨Ymh _ _,Ymh _ _⟩
   . exact ⟨by unfold RA;decide,by unfold RA;decide⟩
theorem Yh9 {s :ByteArray} (h:(Yp s).2=0):Y3h (Yp s).1=true/\s=Y17 (Yp s).1/\s.size<=360:=by
 unfold Yp at h ⊢
 split at h
 . simp [Ygz] at h
 rename_i c;rw [if_neg c]
 split at h
 . rename_i c2;rw [if_pos c2];exact ⟨c2.1,c2.2.2.symm,c2.2.1⟩
 . simp [Ygz] at h
def Ycc (id :Int) (o:Yv):Bool:=(Y22 o.Src).2.2.2&&(((Y22 o.Src).1==1)&&(!((Y22 o.Src).2.1==id)&&((o.Marker==1)&&(o.Origin==(Y22 o.Src).2.1+1))))
def Y1c (id :Int) (o:Yv):ByteArray× Bool:=
 bif o.Tier != 2 then (o.Body,Yam o)
 else bif Ycc id o then ((Yp o.Body).1.Body,((Yp o.Body).2==0)&&(Yam (Yp o.Body).1&&((Yp o.Body).1.Dst==o.Src)))
 else (ByteArray.empty,false)
theorem Yvo (a :Int):0<=(Y22 a).2.1/\(Y22 a).2.1< 3:=by
 unfold Y22
 split
 . dsimp only;omega
 split
 . dsimp only;omega
 split
 . dsimp only;omega
 . exact ⟨by decide,by decide⟩
theorem Y10a {N :Nat} (hN:1000<=N) (x:Yz) (o:Yv) (h:RA o.Src):J81 N x o=some (Y1c x.Node.Id o):=by
 unfold J81 J2y J5m Y1c Ycc
 have hw:=Yvo o.Src
 cases (o.Tier != 2) with
 | true=>exact Ym (stB (Yqj N o h) rfl)
 | false=>
   refine Yk (stB (Yd8 N o.Src h) ?_)
   rw [w64 (n:=(Y22 o.Src).2.1+1) (by omega) (by omega)]
   have hpop:=Yq5 (N:=N) hN o.Body
   have hpl:=Yqj N (Yp o.Body).1 (Ysr o.Body).1
   generalize Yp o.Body=p at*
   cases (Y22 o.Src).2.2.2 with
   | false=>rfl
   | true=>
     refine Yi ?_
     unfold bne
     cases ((Y22 o.Src).1==1) with
     | false=>rfl
     | true=>
       refine Yi ?_
       cases ((Y22 o.Src).2.1==x.Node.Id) with
       | true=>rfl
       | false=>
         refine Yk ?_
         cases (o.Marker==1) with
         | false=>rfl
         | true=>
           refine Yi ?_
           cases (o.Origin==(Y22 o.Src).2.1+1) with
           | false=>rfl
           | true=>
             refine Yi (stB hpop ?_)
             cases (p.2==0) with
             | false=>rfl
             | true=>
               refine Ym (stB hpl ?_)
               cases Yam p.1 <;> rfl
def Y93 (n :Ya) (x:Y0) (spill:Bool):Bool:=
 bif x.Away then !spill&&Y6u n.Config x.To
 else Y6u n.Config n.Id&&(decide (x.To< ((Y2t n.Config n.Id).Backs.length:Int))&&(n.Health.getD x.To.toNat default).Up)
theorem Y18m {N :Nat} (hN:140737488355328< N) {c:Y7} (hc:Y19 c=true) (i b:Int) (hb:0<=b):J1z N c i b=some (Y6u c i&&decide (b< ((Y2t c i).Backs.length:Int))):=by
 obtain ⟨s1,s2⟩:=Y1x hc
 unfold J1z J1y
 refine stB (Yak N c i) (stB (Y31 hN c ⟨by omega,fun y hy=>by have:=(s2 y hy).2;omega⟩) ?_)
 rw [hc]
 refine Ym ?_
 dsimp only
 cases Y6u c i with
 | false=>rfl
 | true=>exact Ym (Yo (by omega) (Yj hb rfl))
theorem Y14i {N :Nat} (hN:140737488355328< N) (x:Yz) (h:Y1y x.Node) (e:Y0) (he:0<=e.To) (spill:Bool):J84 N x e spill=some (Y93 x.Node e spill):=by
 have hl:=Y50 h.hs
 have s4:=(Y6d h.conf x.Node.Id).1
 unfold J84 J82 J83 Y93
 cases e.Away with
 | true=>
   refine Ym ?_
   cases spill with
   | true=>rfl
   | false=>exact Y1k (stB (Ysn hN h.conf e.To) rfl)
 | false=>
   refine Yk (stB (Y18m hN h.conf _ _ he) ?_)
   cases Y6u x.Node.Config x.Node.Id with
   | false=>rfl
   | true=>
     by_cases c:e.To< ((Y2t x.Node.Config x.Node.Id).Backs.length:Int)
     . rw [decide_eq_true c]
       exact Ym (Yb (by omega) rfl)
     . rw [decide_eq_false c];rfl
def Ydg (n :Ya) (now:Int) (f:Y9):Int× Bool:=bif Yj7 n then Y3d (Ydf n now) 2 f else (0,false)
theorem Y18n (x :Yz) (h:Y1y x.Node) (hn:Y20 x.now_=true) {f:Y9} (hf:Y47 f=true):J89 281474976710656 x f=some (Ydg x.Node x.now_ f):=by
 unfold J89 Ydg
 refine stB (Y18k (by decide) h) ?_
 dsimp only
 cases Yj7 x.Node with
 | false=>rfl
 | true=>exact Yi (stB (Yvn (by decide) h hn) (stB (Y5v (Yll h _) hf 2 (by decide)).1 rfl))
def Yvp (n :Ya) (now:Int) (f:Y9) (spill:Bool):Y0× Bool:=
 bif !spill&&(Ydg n now f).2 then (⟨f,(Ydg n now f).1,true,0,0⟩,true) else (⟨f,(Y3d (Y6m n.Config n.Id n.Health) 1 f).1,false,0,0⟩,(Y3d (Y6m n.Config n.Id n.Health) 1 f).2)
def Y3i (n :Ya) (now:Int) (f:Y9) (spill:Bool):Y0× Bool:=
 bif (Y2n n.Flows f now).2&&Y93 n (Y2n n.Flows f now).1 spill then ((Y2n n.Flows f now).1,true) else Yvp n now f spill
theorem Yss {n :Ya} (h:Y1y n) {f:Y9} {now:Int} (hq:(Y2n n.Flows f now).2=true):Y32 (Y2n n.Flows f now).1=true:=
 ((Y28 _).1 h.cache).1 _ (Yh7 hq).1
theorem Y10b (x :Yz) (h:Y1y x.Node) (hn:Y20 x.now_=true) {f:Y9} (hf:Y47 f=true) (spill:Bool):J8b 281474976710656 x f spill=some (Y3i x.Node x.now_ f spill):=by
 have h1:∀ a0 a1 a2 a3 a4 a5 a6 a7 a8,J5p 281474976710656 x spill f.Src f.Dst f.Proto f.Sport f.Dport 0 0 0 0 0 0 false 0 0 a0 a1 a2 a3 a4 a5 a6 a7 a8 false=some (Yvp x.Node x.now_ f spill):=by
   intro a0 a1 a2 a3 a4 a5 a6 a7 a8
   obtain ⟨e,hb⟩:=Yqg (N:=281474976710656) (by decide) h.conf h.hs x.Node.Id
   have hc:=(Y5v (Ylk (hs:=x.Node.Health) h.conf x.Node.Id) hf 1 (by decide)).1
   unfold J5p J8a Yvp
   refine Yk ?_
   cases spill with
   | true=>exact Yi (stB hb (stB hc rfl))
   | false=>
     refine Y1k (stB (Y18n x h hn hf) ?_)
     rw [Bool.not_false,Bool.true_and]
     cases (Ydg x.Node x.now_ f).2 with
     | true=>rfl
     | false=>exact Yk (stB hb (stB hc rfl))
 unfold J8b Y3i
 refine stB (Ysl (by decide) x.Node.Flows f x.now_ h.cache) ?_
 cases hq:(Y2n x.Node.Flows f x.now_).2 with
 | false=>exact Yk (h1 ..)
 | true=>
   have hto:=(Y3x (Yss h hq)).2.1
   refine Ym (stB (Y14i (by decide) x h _ hto.1 spill) ?_)
   rw [Bool.true_and]
   cases Y93 x.Node (Y2n x.Node.Flows f x.now_).1 spill with
   | true=>rfl
   | false=>exact h1 ..
structure Yj8 (n :Ya) (f:Y9) (x:Y0):Prop where
 flow:x.Flow=f
 ok:Y32 x=true
 away:x.Away=true->(0<=x.To/\x.To< 3)/\x.To≠n.Id
 here:x.Away=false->x.To< 4
theorem Yst {f :Y9} (hf:Y47 f=true) {to:Int} (ht:0<=to/\to< 256) (a:Bool):Y32 ⟨f,to,a,0,0⟩=true:=by
 unfold Y32 Y20
 rw [hf,decide_eq_true ht];rfl
theorem Ybb {n :Ya} (h:Y1y n) {f:Y9} (hf:Y47 f=true) {now:Int} {spill:Bool} (hp:(Y3i n now f spill).2=true):Yj8 n f (Y3i n now f spill).1:=by
 obtain ⟨s1,s2⟩:=Y1x h.conf
 unfold Y3i at hp ⊢
 cases hq:(Y2n n.Flows f now).2&&Y93 n (Y2n n.Flows f now).1 spill with
 | true=>
   rw [Bool.and_eq_true] at hq
   obtain ⟨m1,m2,_,_⟩:=Yh7 hq.1
   exact ⟨m2,Yss h hq.1,h.away _ m1,h.here _ m1⟩
 | false=>
   rw [hq,cond_false] at hp
   rw [cond_false]
   unfold Yvp at hp ⊢
   cases ha: !spill&&(Ydg n now f).2 with
   | true=>
     rw [cond_true]
     rw [Bool.and_eq_true] at ha
     have ha2:=ha.2
     unfold Ydg at ha2 ⊢
     cases hfu:Yj7 n with
     | false=>rw [hfu] at ha2;cases ha2
     | true=>
       rw [hfu,cond_true] at ha2
       rw [cond_true]
       obtain ⟨c,c1,c2⟩:=(Y5v (Yll h now) hf 2 (by decide)).2.1 ha2
       obtain ⟨j,j1,j2,j3⟩:=Yal n now _ 0 c c1
       unfold Y92 at j3
       simp only [Bool.and_eq_true,bne_iff_ne] at j3
       have hj:(Y3d (Ydf n now) 2 f).1=((0+j:Nat):Int):=by rw [<- c2,j2]
       have hne:=j3.1
       refine ⟨rfl,Yst hf (by rw [hj];omega) _,fun _=>⟨?_,?_⟩,fun q=>(by cases q)⟩
       . show 0<=(Y3d (Ydf n now) 2 f).1/\(Y3d (Ydf n now) 2 f).1< 3
         rw [hj];omega
       . show (Y3d (Ydf n now) 2 f).1≠n.Id
         rw [hj];exact hne
   | false=>
     rw [ha,cond_false] at hp
     rw [cond_false]
     obtain ⟨c,c1,c2⟩:=(Y5v (Ylk (hs:=n.Health) h.conf n.Id) hf 1 (by decide)).2.1 hp
     obtain ⟨j,j1,j2,j3⟩:=Y91 n.Health _ 0 c c1
     have s4:=(Y6d h.conf n.Id).1
     have hj:(Y3d (Y6m n.Config n.Id n.Health) 1 f).1=((0+j:Nat):Int):=by rw [<- c2,j2]
     refine ⟨rfl,Yst hf (by rw [hj];omega) _,fun q=>(by cases q),fun _=> ?_⟩
     show (Y3d (Y6m n.Config n.Id n.Health) 1 f).1< 4
     rw [hj];omega
def Y3f (id :Int) (x:Y0) (all inner:ByteArray):Yv:=
 bif x.Away then ⟨167903232+id,167903232+x.To,2,1,id+1,all⟩ else ⟨167903232+id,167968768+256*id+x.To,3,0,0,inner⟩
theorem Y6f {id :Int} (h:0<=id/\id< 3):Y6j 1 id 0=(167903232+id,0):=by
 unfold Y6j
 rw [if_neg (by omega),if_pos (by omega)]
theorem Ylm {id b :Int} (h:0<=id/\id< 3) (hb:0<=b/\b< 4):Y6j 2 id b=(167968768+256*id+b,0):=by
 unfold Y6j
 rw [if_neg (by omega),if_neg (by omega),if_pos (by omega)]
theorem Y14j (N :Nat) (x:Yz) (h:Y1y x.Node) {f:Y9} {e:Y0} (he:Yj8 x.Node f e) (all inner:ByteArray):J8c N x e all inner=some (Y3f x.Node.Id e all inner):=by
 have hid:=h.id
 have hto:=(Y3x he.ok).2.1
 unfold J8c Y3f
 refine stB (Y30 ..) ?_
 rw [Y6f hid]
 cases ha:e.Away with
 | true=>
   refine Ym (stB (Y30 ..) ?_)
   rw [Y6f (he.away ha).1,w64 (n:=x.Node.Id+1) (by omega) (by omega)]
   rfl
 | false=>
   refine Yk (stB (Y30 ..) ?_)
   rw [Ylm hid ⟨hto.1,he.here ha⟩]
   rfl
theorem Yf6 {n :Ya} (h:Y1y n) {f:Y9} {e:Y0} (he:Yj8 n f e) {all inner:ByteArray} (ha:all.size<=512) (hi:inner.size<=512):Y3h (Y3f n.Id e all inner)=true:=by
 have hid:=h.id
 have hto:=(Y3x he.ok).2.1
 unfold Y3h Y3w Y3f
 cases hq:e.Away with
 | true=>
   have:=(he.away hq).1
   exact decide_eq_true (by dsimp only [cond_true];omega)
 | false=>
   have:=he.here hq
   exact decide_eq_true (by dsimp only [cond_false];omega)
end Go.Proofs.YtpdcnikdoikldaaGreatDoor.Pu
namespace Go.Proofs.YtpdcnikdoikldaaGreatDoor.Pu
open Go Go.RowKit Go.Proofs.YtpdcnikdoikldaaGreatDoor.Sv Go.Proofs.YtpdcnikdoikldaaGreatDoor.Lf
def Yha (r :Yn):ByteArray:=B1 r.Site++B2 r.Serial++B1 r.Load++B1 r.Cap
def Ydh (r :Yn):ByteArray:=Yha r++mkS [Y8b .u8 255 (IntKind.u8.wrap (Y4x (Yha r)))]
theorem Yln (r :Yn):(Yha r).size=5:=by simp only [Yha,ByteArray.size_append,Y10,Y11]
theorem Ylo (r :Yn):(Ydh r).size=6:=by simp only [Ydh,ByteArray.size_append,Yln,Yad];rfl
theorem Ylp {N :Nat} (hN:1000<=N) (r:Yn):J2v N r=some (if Y4o r=true then (Ydh r,0) else (ByteArray.empty,700)):=by
 unfold J2v
 refine stB (Yf4 N r) ?_
 cases Y4o r with
 | false=>rfl
 | true=>
   have hl:=Yln r
   have hs:=Yfs hN (Yha r) (by omega) (by omega)
   refine Yi (stB (Yew hN _) (stB (Yiu hN _) (Yb (by rw [Y10,Y11];decide) (stB (Yew hN _) (Yb (by rw [ByteArray.size_append,Y10,Y11,Y10];decide) (stB (Yew hN _) (Yb (by rw [ByteArray.size_append,ByteArray.size_append,Y10,Y11,Y10,Y10];decide) (stB hs (Yb ?_ (Y15 ?_))))))))))
   . show (((Yha r).size+(mkS [Y8b .u8 255 (IntKind.u8.wrap (Y4x (Yha r)))]).size:Nat):Int)<=9223372036854775807
     rw [hl,Yad,List.length_singleton];decide
   . rw [if_pos rfl];rfl
def Y2y (s :ByteArray):Yn× Int:=
 if s.size=6/\Y4o ⟨bt s 0,N2 s 1,bt s 3,bt s 4⟩=true/\Ydh ⟨bt s 0,N2 s 1,bt s 3,bt s 4⟩=s then (⟨bt s 0,N2 s 1,bt s 3,bt s 4⟩,0) else (zR,700)
theorem Y1e7 (s :ByteArray) (h:s.size=6):N2 (s.extract 1 3) 0=N2 s 1:=by
 unfold N2
 have h0:bt (s.extract 1 3) (0:Nat)=bt s (1:Nat):=Y3o s 1 3 0 (by omega) (by omega)
 have h1:bt (s.extract 1 3) (1:Nat)=bt s (2:Nat):=Y3o s 1 3 1 (by omega) (by omega)
 show bt (s.extract 1 3) (0:Nat)*256+bt (s.extract 1 3) (1:Nat)=_
 rw [h0,h1]
theorem Y10c {N :Nat} (hN:1000<=N) (s:ByteArray):J7v N s=some (Y2y s):=by
 unfold J7v J7u
 by_cases c:s.size=6
 . have hn:=Ysa hN (s.extract 1 3) (by rw [ByteArray.size_extract];omega)
   rw [Y1e7 s c] at hn
   have b0:=Y1w s (0:Nat);have b3:=Y1w s (3:Nat);have b4:=Y1w s (4:Nat)
   have e0:bt s 0=bt s (0:Nat):=rfl
   have e3:bt s 3=bt s (3:Nat):=rfl
   have e4:bt s 4=bt s (4:Nat):=rfl
   refine Y1p (by omega) (Yb (by omega) (Yb (by omega) (stB hn (Yb (by omega) (Yb (by omega) ?_)))))
   rw [w64 (n:=bt s 0) (by omega) (by omega),w64 (n:=bt s 3) (by omega) (by omega),w64 (n:=bt s 4) (by omega) (by omega)]
   refine stB (Ylp hN _) ?_
   by_cases k:Y4o ⟨bt s 0,N2 s 1,bt s 3,bt s 4⟩=true
   . rw [if_pos k]
     refine Y1p rfl ?_
     dsimp only
     by_cases e:Ydh ⟨bt s 0,N2 s 1,bt s 3,bt s 4⟩=s
     . rw [show Y2y s=_ from if_pos ⟨c,k,e⟩,e,tlB];rfl
     . rw [show Y2y s=_ from if_neg (fun h=>e h.2.2)]
       have:((Ydh ⟨bt s 0,N2 s 1,bt s 3,bt s 4⟩).toList==s.toList)=false:=by
         rw [beq_eq_false_iff_ne];exact fun h=>e ((Yit _ _).1 h)
       rw [this];rfl
   . rw [if_neg k,show Y2y s=_ from if_neg (fun h=>k h.2.1)]
     exact Y25 (by decide) rfl
 . rw [show Y2y s=_ from if_neg (fun h=>c h.1)]
   exact Y25 (by omega) rfl
theorem Ysu {s :ByteArray} (h:(Y2y s).2=0):Y4o (Y2y s).1=true:=by
 unfold Y2y at h ⊢
 split at h
 . rename_i c;rw [if_pos c];exact c.2.1
 . simp at h
def Yf7 (a b :Int):Bool:=decide ((a - b+65536).tmod 65536>=1)&&decide ((a - b+65536).tmod 65536< 32768)
theorem Y14k (N :Nat) (a b:Int) (ha:0<=a/\a< 65536) (hb:0<=b/\b< 65536):J7y N a b=some (Yf7 a b,0):=by
 unfold J7y J7x J7w Yf7
 rw [Yf3,Yf3,decide_eq_true ha,decide_eq_true hb]
 refine stB rfl (Yi (stB rfl (Yi (Y15 ?_))))
 rw [w64 (n:=a - b) (by omega) (by omega),w64 (n:=a - b+65536) (by omega) (by omega)]
 cases decide ((a - b+65536).tmod 65536>=1) <;> rfl
def Y6n (vs :List Yg) (r:Yn) (now:Int):List Yg× Bool:=
 bif ((vs.getD r.Site.toNat default).At != -1)&& !Yf7 r.Serial (vs.getD r.Site.toNat default).Report.Serial then (vs,false) else (vs.set r.Site.toNat ⟨r,now⟩,true)
theorem Yrj {i :Int} {v:Yg} (h:Y5a i v=true):0<=v.Report.Serial/\v.Report.Serial< 65536:=by
 unfold Y5a at h
 rw [Bool.or_eq_true] at h
 rcases h with h | h
 . rw [Bool.and_eq_true] at h
   rw [Y18j.1 h.2]
   exact ⟨by decide,by decide⟩
 . simp only [Bool.and_eq_true] at h
   have:=h.2.1
   unfold Y4o at this
   simp only [Bool.and_eq_true,decide_eq_true_eq] at this
   exact this.2.1
theorem Ybq {r :Yn} (h:Y4o r=true):(0<=r.Site/\r.Site< 3)/\(0<=r.Serial/\r.Serial< 65536)/\(0<=r.Load/\r.Load< 256)/\(0<=r.Cap/\r.Cap< 256):=by
 unfold Y4o at h
 simpa only [Bool.and_eq_true,decide_eq_true_eq] using h
theorem Yrk {N :Nat} (hN:140737488355328< N) {vs:List Yg} (hv:Y5b vs=true) {r:Yn} (hr:Y4o r=true) {now:Int} (hn:Y20 now=true):J80 N vs r now=some ((Y6n vs r now).1,(Y6n vs r now).2,0):=by
 have hl:=Y6l hv
 obtain ⟨p1,p2,_,_⟩:=Ybq hr
 have hs:=Yrj (Yf5 hv (i:=r.Site.toNat) (by omega))
 unfold J80 J5j J7z Y6n
 rw [Ydd hN vs (by omega),hv,Yf4,hr,Y5u,hn]
 refine stB rfl (Yi (stB rfl (Yi (stB rfl (Yi (stB (Yli N vs (by omega)) (Yb (by omega) (stB (Y14k N _ _ p2 hs) ?_))))))))
 dsimp only
 cases ((vs.getD r.Site.toNat default).At != -1) with
 | true=>
   refine Ym (Yb (by omega) ?_)
   rw [Bool.true_and]
   cases Yf7 r.Serial (vs.getD r.Site.toNat default).Report.Serial <;> rfl
 | false=>exact Yk (Yb (by omega) rfl)
theorem Y14l {vs :List Yg} (hv:Y5b vs=true) {r:Yn} (hr:Y4o r=true) {now:Int} (hn:Y20 now=true):Y5b (Y6n vs r now).1=true:=by
 have hl:=Y6l hv
 obtain ⟨p1,_⟩:=Ybq hr
 unfold Y6n
 cases (((vs.getD r.Site.toNat default).At != -1)&& !Yf7 r.Serial (vs.getD r.Site.toNat default).Report.Serial) with
 | true=>exact hv
 | false=>
   rw [cond_false]
   unfold Y5b
   rw [List.length_set,hl,Bool.and_eq_true,List.all_eq_true]
   refine ⟨fun i hi=> ?_,rfl⟩
   rw [List.mem_range'_1] at hi
   by_cases e:i=r.Site.toNat
   . rw [e,Y4i (by rw [List.length_set];omega),List.getElem_set_self]
     unfold Y5a
     rw [hn,hr,Bool.true_and,Bool.true_and]
     rw [show (((r.Site.toNat:Nat):Int))=r.Site by omega]
     simp
   . rw [Y4i (by rw [List.length_set];omega),List.getElem_set_ne (Ne.symm e),<- Y4i (by omega)]
     exact Yf5 hv (by omega)
def tN (n :Ya):J2:=⟨1,n.Id,0⟩
def Y45 (t :J2) (kind:Int) (f:Y9):Y1e:=⟨[],[evT t kind 0 f]⟩
def Y8t (n :Ya) (o:Yv) (now:Int):Ya× Y1e:=
 bif ((Y2y o.Body).2 != 0)||(!(o.Src==167903232+(Y2y o.Body).1.Site)||((Y2y o.Body).1.Site==n.Id)) then (n,Y45 (tN n) 8 zF)
 else bif (Y6n n.Seen (Y2y o.Body).1 now).2 then (⟨n.Id,n.Config,n.Health,(Y6n n.Seen (Y2y o.Body).1 now).1,n.Flows,n.Serial⟩,⟨[],[evT (tN n) 13 (Y2y o.Body).1.Site zF]⟩) else (n,⟨[],[]⟩)
def Y2o (n :Ya) (now:Int) (s:ByteArray):Ya× Y1e:=
 bif ((Yp s).2 != 0)||((Yp s).1.Dst != 167903232+n.Id) then (n,Y45 (tN n) 8 zF)
 else bif (Yp s).1.Tier==4 then Y8t n (Yp s).1 now
 else bif !(Y1c n.Id (Yp s).1).2 then (n,Y45 (tN n) 7 zF)
 else bif (ofF (Y1c n.Id (Yp s).1).1).2.2 != 0 then (n,Y45 (tN n) (Yf1 (ofF (Y1c n.Id (Yp s).1).1).2.2) (ofF (Y1c n.Id (Yp s).1).1).1)
 else bif !(Y3i n now (ofF (Y1c n.Id (Yp s).1).1).1 ((Yp s).1.Tier==2)).2 then (n,Y45 (tN n) 5 (ofF (Y1c n.Id (Yp s).1).1).1)
 else (⟨n.Id,n.Config,n.Health,n.Seen,(Y53 (tN n) (Y3f n.Id (Y3i n now (ofF (Y1c n.Id (Yp s).1).1).1 ((Yp s).1.Tier==2)).1 s (Y1c n.Id (Yp s).1).1) n.Flows (Y3i n now (ofF (Y1c n.Id (Yp s).1).1).1 ((Yp s).1.Tier==2)).1 (ofF (Y1c n.Id (Yp s).1).1).2.1.Flags now).1,n.Serial⟩,
   (Y53 (tN n) (Y3f n.Id (Y3i n now (ofF (Y1c n.Id (Yp s).1).1).1 ((Yp s).1.Tier==2)).1 s (Y1c n.Id (Yp s).1).1) n.Flows (Y3i n now (ofF (Y1c n.Id (Yp s).1).1).1 ((Yp s).1.Tier==2)).1 (ofF (Y1c n.Id (Yp s).1).1).2.1.Flags now).2)
theorem Yg9 {id :Int} {o:Yv} (ho:o.Body.size<=512):(Y1c id o).1.size<=512:=by
 unfold Y1c
 cases (o.Tier != 2) with
 | true=>exact ho
 | false=>
   cases Ycc id o with
   | true=>
     show (Yp o.Body).1.Body.size<=512
     unfold Yp Ygz Y4z
     split
     . decide
     . split
       . dsimp only;rw [ByteArray.size_extract];omega
       . decide
   | false=>exact by show ByteArray.empty.size<=512;decide
def zN :Ya:=⟨0,⟨0,[]⟩,[],[],[],0⟩
theorem Y14m {n :Ya} (h:Y1y n) {now:Int} (hn:Y20 now=true) (s:ByteArray):Y1y (Y2o n now s).1:=by
 unfold Y2o
 cases (((Yp s).2 != 0)||((Yp s).1.Dst != 167903232+n.Id)) with
 | true=>exact h
 | false=>
 rw [cond_false]
 cases ((Yp s).1.Tier==4) with
 | true=>
   rw [cond_true]
   unfold Y8t
   have hk:=@Ysu (Yp s).1.Body
   generalize Y2y (Yp s).1.Body=g at*
   by_cases c:g.2=0
   case neg=>rw [show (g.2 != 0)=true from bne_iff_ne.2 c,Bool.true_or];exact h
   cases ((g.2 != 0)||(!((Yp s).1.Src==167903232+g.1.Site)||(g.1.Site==n.Id))) with
   | true=>exact h
   | false=>
     rw [cond_false]
     cases (Y6n n.Seen g.1 now).2 with
     | true=>exact ⟨h.away,h.here,h.serial,h.conf,h.id,h.hs,Y14l h.view (hk c) hn,h.cache⟩
     | false=>exact h
 | false=>
 rw [cond_false]
 cases (!(Y1c n.Id (Yp s).1).2) with
 | true=>exact h
 | false=>
 rw [cond_false]
 have hof:=@Y8z (Y1c n.Id (Yp s).1).1
 generalize ofF (Y1c n.Id (Yp s).1).1=w at*
 by_cases k:w.2.2=0
 case neg=>rw [show (w.2.2 != 0)=true from bne_iff_ne.2 k];exact h
 obtain ⟨f1,f2⟩:=hof k
 rw [show (w.2.2 != 0)=false by rw [k];rfl,cond_false]
 have hfit:=fun q=>Ybb (now:=now) (spill:=((Yp s).1.Tier==2)) h f1 q
 generalize Y3i n now w.1 ((Yp s).1.Tier==2)=e at*
 cases he:e.2 with
 | false=>exact h
 | true=>
 have hx:=hfit he
 rw [Bool.not_true,cond_false]
 unfold Y53
 split
 . exact h
 . dsimp only
   have hmem:∀ y∈(Y86 n.Flows (Y87 e.1 w.2.1.Flags now)).1,y∈n.Flows\/y=Y87 e.1 w.2.1.Flags now:=fun y hy=>Yso hy
   refine ⟨fun y hy ha=> ?_,fun y hy ha=> ?_,h.serial,h.conf,h.id,h.hs,h.view,Yzz h.cache (Ykk hx.ok hn)⟩
   . rcases hmem y hy with q | rfl
     . exact h.away y q ha
     . exact hx.away ha
   . rcases hmem y hy with q | rfl
     . exact h.here y q ha
     . exact hx.here ha
theorem Yga (n :Ya) (now:Int) (s:ByteArray):(Y2o n now s).1.Id=n.Id/\(Y2o n now s).1.Config=n.Config/\(Y2o n now s).1.Health=n.Health/\(Y2o n now s).1.Serial=n.Serial:=by
 unfold Y2o Y8t
 cases (((Yp s).2 != 0)||((Yp s).1.Dst != 167903232+n.Id)) with
 | true=>exact ⟨rfl,rfl,rfl,rfl⟩
 | false=>
 cases ((Yp s).1.Tier==4) with
 | true=>
   rw [cond_false,cond_true]
   cases (((Y2y (Yp s).1.Body).2 != 0)||(!((Yp s).1.Src==167903232+(Y2y (Yp s).1.Body).1.Site)||((Y2y (Yp s).1.Body).1.Site==n.Id))) with
   | true=>exact ⟨rfl,rfl,rfl,rfl⟩
   | false=>cases (Y6n n.Seen (Y2y (Yp s).1.Body).1 now).2 <;> exact ⟨rfl,rfl,rfl,rfl⟩
 | false=>
 cases (!(Y1c n.Id (Yp s).1).2) with
 | true=>exact ⟨rfl,rfl,rfl,rfl⟩
 | false=>
 cases ((ofF (Y1c n.Id (Yp s).1).1).2.2 != 0) with
 | true=>exact ⟨rfl,rfl,rfl,rfl⟩
 | false=>
 cases (!(Y3i n now (ofF (Y1c n.Id (Yp s).1).1).1 ((Yp s).1.Tier==2)).2) <;> exact ⟨rfl,rfl,rfl,rfl⟩
def Y76 (n :Ya):Ya× Yn:=(⟨n.Id,n.Config,n.Health,n.Seen,n.Flows,(n.Serial+1) % 65536⟩,⟨n.Id,n.Serial,Yba n,(Y2t n.Config n.Id).Cap⟩)
theorem Ym4 {n :Ya} (hb:BdN n):J4w 281474976710656 n=some (if Yaj n=true then ((Y76 n).1,(Y76 n).2,0) else (zN,zR,2000)):=by
 unfold J4w
 refine stB (Yde (by decide) n hb) ?_
 cases hk:Yaj n with
 | false=>rw [if_neg (by decide)];rfl
 | true=>
   have h:=(Y4e n).1 hk
   have s4:=((Y28 _).1 h.cache).2.2
   have hse:=h.serial
   rw [if_pos rfl]
   refine Yi (stB (Yak _ _ _) (stB (Ysp (by decide) n (by omega)) (stB (Yqf (by decide) h) (Y15 ?_))))
   rw [w64 (n:=n.Serial+1) (by omega) (by omega),Int.tmod_eq_emod_of_nonneg (by omega)]
   rfl
end Go.Proofs.YtpdcnikdoikldaaGreatDoor.Pu
namespace Go.Proofs.YtpdcnikdoikldaaGreatDoor.Pu
open Go Go.RowKit Go.Proofs.YtpdcnikdoikldaaGreatDoor.Sv Go.Proofs.YtpdcnikdoikldaaGreatDoor.Lf
theorem Yvq {n :Ya} {now:Int} {s:ByteArray} {o:Yv} {i:ByteArray} {w:Yvb} {e:Y0} (h1:Yp s=(o,0)) (h2:o.Dst=167903232+n.Id) (h3:o.Tier≠4) (h4:Y1c n.Id o=(i,true)) (h5:ofF i=w) (h6:w.2.2=0) (h7:Y3i n now w.1 (o.Tier==2)=(e,true)):
   Y2o n now s=(⟨n.Id,n.Config,n.Health,n.Seen,(Y53 (tN n) (Y3f n.Id e s i) n.Flows e w.2.1.Flags now).1,n.Serial⟩,(Y53 (tN n) (Y3f n.Id e s i) n.Flows e w.2.1.Flags now).2):=by
 unfold Y2o
 rw [h1]
 dsimp only
 rw [h4,show (o.Dst != 167903232+n.Id)=false by rw [h2];simp,show (o.Tier==4)=false from beq_eq_false_iff_ne.2 h3]
 dsimp only
 rw [h5,h6,h7]
 rfl
def Y5p (to :Int) (s:ByteArray):Yv:=⟨167837696,167903232+to,1,0,0,s⟩
theorem Yj9 {to :Int} (h:0<=to/\to< 3) {s:ByteArray} (hs:s.size<=512):Y3h (Y5p to s)=true:=by
 unfold Y3h Y3w Y5p
 exact decide_eq_true (by dsimp only;omega)
theorem Yqk (to :Int) (s:ByteArray):Yam (Y5p to s)=true:=by unfold Yam Y5p Y22;rfl
theorem Y10d (id to :Int) (s:ByteArray):Y1c id (Y5p to s)=(s,true):=by
 unfold Y1c
 rw [show ((Y5p to s).Tier != 2)=true from rfl,cond_true,Yqk]
 rfl
def Y8l (frm to :Int) (s:ByteArray):Yv:=⟨167903232+frm,167903232+to,2,1,frm+1,s⟩
theorem Yql {i :Int} (h:0<=i/\i< 3):Y22 (167903232+i)=(1,i,0,true):=by
 unfold Y22
 rw [if_neg (by omega),if_pos (by omega),show 167903232+i - 167903232=i by omega]
theorem Y10e {id frm :Int} (h:0<=frm/\frm< 3) (hne:frm≠id) (to:Int) {b s:ByteArray} (hp:Yp b=(Y5p frm s,0)):Y1c id (Y8l frm to b)=(s,true):=by
 have hok:Ycc id (Y8l frm to b)=true:=by
   unfold Ycc
   show ((Y22 (167903232+frm)).2.2.2&&(((Y22 (167903232+frm)).1==1)&&(!((Y22 (167903232+frm)).2.1==id)&&(((1:Int)==1)&&(frm+1==(Y22 (167903232+frm)).2.1+1)))))=true
   rw [Yql h]
   simp [hne]
 have hB:(Y8l frm to b).Body=b:=rfl
 have hS:(Y8l frm to b).Src=167903232+frm:=rfl
 unfold Y1c
 rw [show ((Y8l frm to b).Tier != 2)=false from rfl,cond_false,hok,cond_true,hB,hS,hp]
 dsimp only
 rw [Yqk]
 simp [Y5p]
theorem Yqm {id frm :Int} (h:0<=frm/\frm< 3) (hne:frm≠id) (to:Int) {s:ByteArray} (hs:s.size<=324):Y1c id (Y8l frm to (Y17 (Y5p frm s)))=(s,true):=
 Y10e h hne to (Yh0 (Yj9 h (s:=s) (by omega)) hs)
end Go.Proofs.YtpdcnikdoikldaaGreatDoor.Pu
namespace Go.Proofs.YtpdcnikdoikldaaGreatDoor.Pu
open Go Go.RowKit Go.Proofs.YtpdcnikdoikldaaGreatDoor.Sv Go.Proofs.YtpdcnikdoikldaaGreatDoor.Lf
theorem Yf8 {s :Yf} (h:Y40 s=true):(∀ b∈s.Backs,0<=b.Weight/\b.Weight<=16)/\(0<=s.Weight/\s.Weight<=16)/\(0<=s.Cap/\s.Cap<=8)/\s.Backs.length<=4:=by
 unfold Y40 Y6y at h
 simp only [Bool.and_eq_true,List.all_eq_true,decide_eq_true_eq] at h
 obtain ⟨h1,h2,h3,h4⟩:=h
 exact ⟨h1,h2,h3,by omega⟩
end Go.Proofs.YtpdcnikdoikldaaGreatDoor.Pu
