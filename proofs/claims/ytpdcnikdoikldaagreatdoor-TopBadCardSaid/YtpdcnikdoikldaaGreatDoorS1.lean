import Derived.Test.YtpdcnikdoikldaaGreatDoorE4
set_option linter.unusedVariables false
set_option linter.unusedSimpArgs false
namespace Go.Proofs.YtpdcnikdoikldaaGreatDoor.Pu
open Go Go.RowKit Go.Proofs.YtpdcnikdoikldaaGreatDoor.Sv Go.Proofs.YtpdcnikdoikldaaGreatDoor.Lf
def Y48 (r :Yq):Bool:=decide (0≤r.Site∧r.Site< 3)&&(decide (0≤r.Serial∧r.Serial< 65536)&&(decide (0≤r.Load∧r.Load< 256)&&decide (0≤r.Cap∧r.Cap< 256)))
theorem Ydu (N :Nat) (x:Int):J48 N x=some (decide (0≤x∧x< 65536)):=by
 unfold J48 Jab
 rw [Y8d]
 congr 1
 by_cases h:x≥0 <;> by_cases k:x< 65536 <;> simp [h,k] <;> omega
theorem Ydv (N :Nat) (r:Yq):J47 N r=some (Y48 r):=by
 unfold J47 J50 Y48
 rw [Y9i,Ydu,in8,in8]
 cases decide (0≤r.Site∧r.Site< 3) with
 | false=>rfl
 | true=>
   cases decide (0≤r.Serial∧r.Serial< 65536) with
   | false=>rfl
   | true=>cases decide (0≤r.Load∧r.Load< 256) <;> rfl
def eqR (a b :Yq):Bool:=(a.Site==b.Site)&&((a.Serial==b.Serial)&&((a.Load==b.Load)&&((a.Cap==b.Cap)&&true)))
theorem Y15g {a b :Yq}:eqR a b=true↔a=b:=by
 obtain ⟨a1,a2,a3,a4⟩:=a
 obtain ⟨b1,b2,b3,b4⟩:=b
 unfold eqR
 simp only [Bool.and_eq_true,beq_iff_eq,Bool.and_true,Yq.mk.injEq]
def zR :Yq:=⟨0,0,0,0⟩
def Y4o (i :Int) (v:Yh):Bool:=((v.At== -1)&&eqR v.Report zR)||(Y28 v.At&&(Y48 v.Report&& !(v.Report.Site != i)))
def Y4p (vs :List Yh):Bool:=((List.range' 0 vs.length).all fun i=>Y4o (i:Int) (vs.getD i default))&&((vs.length:Int)==3)
theorem Y1ay (N :Nat) (r1:List Yh→List Yh→Int→Int→Option Bool) (t0:List Yh) (i:Int) (v:Yh) (t6:List Yh) (t7:Int):
   J6v N r1 t0 i v.Report.Site v.Report.Serial v.Report.Load v.Report.Cap v.At ((v.At== -1)&&eqR v.Report zR) t6 t7 i=if Y4o i v=true then r1 t0 t6 t7 (IntKind.i64.wrap (i+1)) else some false:=by
 unfold J6v J51 Y4o
 rw [show (⟨v.Report.Site,v.Report.Serial,v.Report.Load,v.Report.Cap⟩:Yq)=v.Report from rfl,Y51,Ydv]
 cases ((v.At== -1)&&eqR v.Report zR) with
 | true=>rfl
 | false=>
   cases Y28 v.At with
   | false=>rfl
   | true=>
     cases Y48 v.Report with
     | false=>rfl
     | true=>cases (v.Report.Site != i) <;> rfl
theorem Yxs (N :Nat) (vs:List Yh) (hb:vs.length≤140737488355328):∀ (d fuel i:Nat),vs.length=i+d→d< fuel→
   J1p N fuel vs vs (vs.length:Int) (i:Int)=some (((List.range' i d).all fun i=>Y4o (i:Int) (vs.getD i default))&&((vs.length:Int)==3)):=by
 intro d
 induction d with
 | zero=>
   intro fuel i hi hf
   obtain ⟨fuel,rfl⟩:∃ f,fuel=f+1:=⟨fuel - 1,by omega⟩
   rw [J1p,List.range'_zero,List.all_nil,Bool.true_and]
   exact Yo (by omega) rfl
 | succ d ih=>
   intro fuel i hi hf
   obtain ⟨fuel,rfl⟩:∃ f,fuel=f+1:=⟨fuel - 1,by omega⟩
   rw [J1p,List.range'_succ,List.all_cons,Int.toNat_natCast]
   refine Yi (by omega) (Y8 (by omega) ?_)
   have h2:=Y1ay N (J1p N fuel) vs (i:Int) (vs.getD i default) vs (vs.length:Int)
   rw [w64 (n:=(i:Int)+1) (by omega) (by omega)] at h2
   have hgo:(if Y4o (i:Int) (vs.getD i default)=true then J1p N fuel vs vs (vs.length:Int) ((i:Int)+1) else some false)=some ((Y4o (i:Int) (vs.getD i default)&&(List.range' (i+1) d).all fun i=>Y4o (i:Int) (vs.getD i default))&&((vs.length:Int)==3)):=by
     cases Y4o (i:Int) (vs.getD i default) with
     | true=>rw [if_pos rfl,Bool.true_and];exact ih fuel (i+1) (by omega) (by omega)
     | false=>rw [if_neg (by decide)];rfl
   rw [hgo] at h2
   cases hq:((vs.getD i default).At== -1) with
   | true=>rw [hq,Bool.true_and] at h2;exact Yk (Yx h2)
   | false=>rw [hq,Bool.false_and] at h2;exact Yj h2
theorem Yc8 {N :Nat} (hN:140737488355328< N) (vs:List Yh) (hb:vs.length≤140737488355328):J5q N vs=some (Y4p vs):=Yxs N vs hb vs.length N 0 (by omega) (by omega)
theorem Y5x {vs :List Yh} (h:Y4p vs=true):vs.length=3:=by
 unfold Y4p at h
 simp only [Bool.and_eq_true,beq_iff_eq] at h
 omega
theorem Ydw {vs :List Yh} (h:Y4p vs=true) {i:Nat} (hi:i< 3):Y4o (i:Int) (vs.getD i default)=true:=by
 have hl:=Y5x h
 unfold Y4p at h
 simp only [Bool.and_eq_true,List.all_eq_true] at h
 exact h.1 i (by rw [List.mem_range'_1];omega)
def BdN (n :Yb):Prop:=BdC n.Config∧n.Health.length≤140737488355328∧n.Seen.length≤140737488355328∧n.Flows.length≤140737488355328
def Y6z (n :Yb):Bool:=Y1a n.Config&&(decide (0≤n.Id∧n.Id< 3)&&(Y5n n.Health 4&&(Y4p n.Seen&&Y37 n.Flows)))
theorem Yal {N :Nat} (hN:140737488355328< N) (n:Yb) (h:BdN n):J2l N n=some (Y6z n):=by
 obtain ⟨h1,h2,h3,h4⟩:=h
 unfold J2l J2f Y6z
 rw [Y2x hN _ h1,Y9i,Yb4 hN _ _ h2,Yc8 hN _ h3,Yb6 hN _ h4]
 cases Y1a n.Config with
 | false=>rfl
 | true=>
   cases decide (0≤n.Id∧n.Id< 3) with
   | false=>rfl
   | true=>
     cases Y5n n.Health 4 with
     | false=>rfl
     | true=>cases Y4p n.Seen <;> rfl
def Yb7 (id :Int) (x:Y0):Bool:=bif x.Away then decide (0≤x.To∧x.To< 3)&& !(x.To==id) else !decide (x.To≥4)
def Y9k (n :Yb):Bool:=n.Flows.all (Yb7 n.Id)&&(decide (0≤n.Serial∧n.Serial< 65536)&&Y6z n)
theorem Yxt {N :Nat} (hN:140737488355328< N) (n:Yb) (h:BdN n):∀ (d fuel i:Nat),n.Flows.length=i+d→d< fuel→
   J13 N fuel n.Id n.Config.Version n.Config.Sites n.Health n.Seen n.Flows n.Serial n.Flows (n.Flows.length:Int) (i:Int)=some ((n.Flows.drop i).all (Yb7 n.Id)&&(decide (0≤n.Serial∧n.Serial< 65536)&&Y6z n)):=by
 have h4:=h.2.2.2
 intro d
 induction d with
 | zero=>
   intro fuel i hi hf
   obtain ⟨fuel,rfl⟩:∃ f,fuel=f+1:=⟨fuel - 1,by omega⟩
   rw [J13,List.drop_of_length_le (by omega),List.all_nil,Bool.true_and]
   unfold J6w
   refine Yo (by omega) ?_
   by_cases a:n.Serial≥0
   · refine Yi a ?_
     by_cases b:n.Serial< 65536
     · refine Yi b (stB (Yal hN n h) ?_)
       rw [decide_eq_true (show 0≤n.Serial∧n.Serial< 65536 by omega)];rfl
     · refine Yo b ?_
       rw [decide_eq_false (show ¬ (0≤n.Serial∧n.Serial< 65536) by omega)];rfl
   · refine Yo a ?_
     rw [decide_eq_false (show ¬ (0≤n.Serial∧n.Serial< 65536) by omega)];rfl
 | succ d ih=>
   intro fuel i hi hf
   obtain ⟨fuel,rfl⟩:∃ f,fuel=f+1:=⟨fuel - 1,by omega⟩
   rw [J13,Y2r (show i< n.Flows.length by omega),List.all_cons,Int.toNat_natCast]
   unfold J2g
   rw [w64 (n:=(i:Int)+1) (by omega) (by omega),Y9i]
   refine Yi (by omega) (Y8 (by omega) ?_)
   have ih':=ih fuel (i+1) (by omega) (by omega)
   unfold Yb7 at ih' ⊢
   cases (n.Flows.getD i default).Away with
   | true=>
     refine Yk (stB rfl ?_)
     cases decide (0≤(n.Flows.getD i default).To∧(n.Flows.getD i default).To< 3) with
     | false=>rfl
     | true=>
       cases ((n.Flows.getD i default).To==n.Id) with
       | true=>rfl
       | false=>exact ih'
   | false=>
     refine Yj (Y14 ?_)
     cases decide ((n.Flows.getD i default).To≥4) with
     | true=>rfl
     | false=>exact ih'
theorem Yc9 {N :Nat} (hN:140737488355328< N) (n:Yb) (h:BdN n):J6x N n=some (Y9k n):=Yxt hN n h n.Flows.length N 0 (by omega) (by have:=h.2.2.2;omega)
structure Y1y (n :Yb):Prop where
 away:∀ x∈n.Flows,x.Away=true→(0≤x.To∧x.To< 3)∧x.To≠n.Id
 here:∀ x∈n.Flows,x.Away=false→x.To< 4
 serial:0≤n.Serial∧n.Serial< 65536
 conf:Y1a n.Config=true
 id:0≤n.Id∧n.Id< 3
 hs:Y5n n.Health 4=true
 view:Y4p n.Seen=true
 cache:Y37 n.Flows=true
theorem Y3y (n :Yb):Y9k n=true↔Y1y n:=by
 unfold Y9k Y6z
 simp only [Bool.and_eq_true,List.all_eq_true,decide_eq_true_eq]
 constructor
 · rintro ⟨h,h1,h2,h3,h4,h5,h6⟩
   refine ⟨fun x hx ha=> ?_,fun x hx ha=> ?_,h1,h2,h3,h4,h5,h6⟩
   · have:=h x hx
     unfold Yb7 at this
     rw [ha] at this
     simpa using this
   · have:=h x hx
     unfold Yb7 at this
     rw [ha] at this
     simpa using this
 · rintro ⟨ha,hh,h1,h2,h3,h4,h5,h6⟩
   refine ⟨fun x hx=> ?_,h1,h2,h3,h4,h5,h6⟩
   unfold Yb7
   cases hq:x.Away with
   | true=>have:=ha x hx hq;simpa using this
   | false=>have:=hh x hx hq;simpa using this
theorem Y1y.spare {n :Yb} (h:Y1y n):Y6z n=true:=by
 unfold Y6z
 rw [h.conf,decide_eq_true h.id,h.hs,h.view,h.cache];rfl
theorem Yhy {n :Yb} (h:Y1y n):BdN n:=by
 obtain ⟨s1,s2⟩:=Y1s h.conf
 have s3:=Y47 h.hs
 have s4:=((Y20 _).1 h.cache).2.2
 have s5:=Y5x h.view
 exact ⟨⟨by omega,fun y hy=>by have:=(s2 y hy).2;omega⟩,by omega,by omega,by omega⟩
theorem Yjs (N :Nat) (hs:List Yh) (hl:hs.length≤100):J1y N hs=some hs:=by
 unfold J1y J46 J7w
 by_cases h:hs.length=0
 · rw [if_pos h,List.eq_nil_of_length_eq_zero h]
 · rw [if_neg h]
   exact Y8 h (Y8 (Y3g (by omega) (by omega)) rfl)
theorem Yoc {N :Nat} (hN:1000≤N) {n:Yb} (h:Y1y n):J1j N n=some n:=by
 obtain ⟨s1,s2⟩:=Y1s h.conf
 have s3:=Y47 h.hs
 have s4:=((Y20 _).1 h.cache).2.2
 have s5:=Y5x h.view
 unfold J1j
 exact stB (Yfu hN _ (by omega) (fun y hy=>by have:=(s2 y hy).2;omega)) (stB (Yjo N _ (by omega)) (stB (Yjs N _ (by omega)) (stB (Yjp N _ (by omega)) rfl)))
def Y143 :Yg:=⟨0,false,0,[]⟩
def Y67 (c :Y7) (i:Int):Bool:=decide (0≤i∧i< (c.Sites.length:Int))
def Y2p (c :Y7) (i:Int):Yg:=if Y67 c i=true then c.Sites.getD i.toNat default else Y143
theorem Y9l (N :Nat) (c:Y7) (i:Int):J14 N c i=some (Y2p c i,Y67 c i):=by
 unfold J14 J4a Y2p Y67
 by_cases a:i< 0
 · rw [decide_eq_false (show ¬ (0≤i∧i< (c.Sites.length:Int)) by omega)]
   exact Yi a rfl
 · by_cases b:i≥(c.Sites.length:Int)
   · rw [decide_eq_false (show ¬ (0≤i∧i< (c.Sites.length:Int)) by omega)]
     refine Yo a ?_
     rw [decide_eq_true b];rfl
   · rw [decide_eq_true (show 0≤i∧i< (c.Sites.length:Int) by omega)]
     refine Yo a ?_
     rw [decide_eq_false b]
     exact Yj (Y8 (by omega) rfl)
theorem Y5o {c :Y7} (h:Y1a c=true) (i:Int):(Y2p c i).Backs.length≤4∧(Y67 c i=true→Y3n (Y2p c i)=true):=by
 obtain ⟨s1,s2⟩:=Y1s h
 unfold Y2p
 split
 · rename_i q
   unfold Y67 at q
   rw [decide_eq_true_eq] at q
   have:=s2 _ (Y3f (show i.toNat< c.Sites.length by omega))
   exact ⟨this.2,fun _=>this.1⟩
 · exact ⟨by decide,fun q=>absurd q (by assumption)⟩
def Y85 (b :Y23) (h:Y5):Bool:=h.Up&&(!b.Drain&&decide (0< b.Weight))
def Y4x (hs :List Y5):List Y23→Nat→List Y3
 | [],_=>[]
 | s :: ss,i=>bif Y85 s (hs.getD i default) then ⟨(i:Int),s.Weight⟩ :: Y4x hs ss (i+1) else Y4x hs ss (i+1)
theorem Yt9 {N :Nat} (hs:List Y5) (ss:List Y23) (hl:ss.length≤90) (hh:ss.length≤hs.length):∀ (d fuel i:Nat) (b:List Y3),ss.length=i+d→d< fuel→b.length≤i→
   J1r N fuel hs b ss (ss.length:Int) (i:Int)=some (b++Y4x hs (ss.drop i) i,0):=by
 intro d
 induction d with
 | zero=>
   intro fuel i b hi hf hb
   obtain ⟨fuel,rfl⟩:∃ f,fuel=f+1:=⟨fuel - 1,by omega⟩
   rw [J1r,List.drop_of_length_le (by omega)]
   refine Yo (by omega) ?_
   unfold Y4x
   rw [List.append_nil]
 | succ d ih=>
   intro fuel i b hi hf hb
   obtain ⟨fuel,rfl⟩:∃ f,fuel=f+1:=⟨fuel - 1,by omega⟩
   rw [J1r,Y2r (show i< ss.length by omega),Int.toNat_natCast,w64 (n:=(i:Int)+1) (by omega) (by omega)]
   unfold Y4x
   have hadd:=Yxn N b (i:Int) (ss.getD i default).Weight (ss.getD i default).Drain (hs.getD i default) (by omega)
   have hcc:((hs.getD i default).Up&&(!(ss.getD i default).Drain&&decide (0< (ss.getD i default).Weight)))=Y85 (ss.getD i default) (hs.getD i default):=rfl
   rw [hcc] at hadd
   refine Yi (by omega) (Y8 (by omega) (Y8 (by omega) ?_))
   cases hq:Y85 (ss.getD i default) (hs.getD i default) with
   | true=>
     rw [hq] at hadd
     refine stB hadd (Yj ((ih fuel (i+1) (b++[⟨(i:Int),(ss.getD i default).Weight⟩]) (by omega) (by omega) (by rw [List.length_append,List.length_singleton];omega)).trans ?_))
     rw [List.append_assoc]
     rfl
   | false=>
     rw [hq] at hadd
     exact stB hadd (Yk (Y8 rfl (ih fuel (i+1) b (by omega) (by omega) (by omega))))
def Y8r (c :Y7) (site:Int) (hs:List Y5):List Y3:=Y4x hs (Y2p c site).Backs 0
theorem Yod {N :Nat} (hN:140737488355328< N) {c:Y7} {hs:List Y5} (hc:Y1a c=true) (hh:Y5n hs 4=true) (site:Int):∃ e,J3o N c site hs=some (Y8r c site hs,e):=by
 obtain ⟨s1,s2⟩:=Y1s hc
 have s3:=Y47 hh
 have s4:=Y5o hc site
 unfold J3o J3n
 cases hq:Y67 c site with
 | true=>
   refine ⟨0,stB (Y9l N c site) (stB (Y2x hN c ⟨by omega,fun y hy=>by have:=(s2 y hy).2;omega⟩) ?_)⟩
   rw [hc]
   refine Yc (stB (Yb4 hN hs 4 (by omega)) ?_)
   rw [hh,hq]
   refine Yc ?_
   exact (Yt9 hs (Y2p c site).Backs (by omega) (by omega) (Y2p c site).Backs.length N 0 [] (by omega) (by omega) (by simp)).trans (by rw [List.nil_append,List.drop_zero];rfl)
 | false=>
   refine ⟨1300,stB (Y9l N c site) (stB (Y2x hN c ⟨by omega,fun y hy=>by have:=(s2 y hy).2;omega⟩) ?_)⟩
   rw [hc]
   refine Yc (stB (Yb4 hN hs 4 (by omega)) ?_)
   rw [hh,hq]
   refine Yc ?_
   unfold Y8r Y2p
   rw [hq]
   rfl
theorem Y86 (hs :List Y5):∀ (ss:List Y23) (i:Nat) (c:Y3),c∈Y4x hs ss i→∃ j,j< ss.length∧c=⟨((i+j:Nat):Int),(ss.getD j default).Weight⟩∧Y85 (ss.getD j default) (hs.getD (i+j) default)=true
 | [],i,c,h=>by simp [Y4x] at h
 | s :: ss,i,c,h=>by
   unfold Y4x at h
   cases hq:Y85 s (hs.getD i default) with
   | true=>
     rw [hq,cond_true] at h
     rcases List.mem_cons.1 h with rfl | h
     · exact ⟨0,by simp,rfl,hq⟩
     · obtain ⟨j,h1,h2,h3⟩:=Y86 hs ss (i+1) c h
       refine ⟨j+1,by simpa using h1,?_,?_⟩
       · rw [h2,show i+1+j=i+(j+1) by omega];rfl
       · rw [show i+(j+1)=i+1+j by omega];exact h3
   | false=>
     rw [hq,cond_false] at h
     obtain ⟨j,h1,h2,h3⟩:=Y86 hs ss (i+1) c h
     refine ⟨j+1,by simpa using h1,?_,?_⟩
     · rw [h2,show i+1+j=i+(j+1) by omega];rfl
     · rw [show i+(j+1)=i+1+j by omega];exact h3
theorem Yfy (hs :List Y5):∀ (ss:List Y23) (i:Nat),(Y4x hs ss i).Pairwise fun a b=>a.Id< b.Id
 | [],i=>by unfold Y4x;exact List.Pairwise.nil
 | s :: ss,i=>by
   unfold Y4x
   cases Y85 s (hs.getD i default) with
   | true=>
     refine List.Pairwise.cons (fun c hc=> ?_) (Yfy hs ss (i+1))
     obtain ⟨j,_,h2,_⟩:=Y86 hs ss (i+1) c hc
     rw [h2]
     show (i:Int)< ((i+1+j:Nat):Int)
     omega
   | false=>exact Yfy hs ss (i+1)
theorem Yjt (hs :List Y5):∀ (ss:List Y23) (i:Nat),(Y4x hs ss i).length≤ss.length
 | [],i=>by simp [Y4x]
 | s :: ss,i=>by
   unfold Y4x
   have:=Yjt hs ss (i+1)
   cases Y85 s (hs.getD i default) with
   | true=>rw [cond_true,List.length_cons,List.length_cons];omega
   | false=>rw [cond_false,List.length_cons];omega
theorem Yju {c :Y7} {hs:List Y5} (hc:Y1a c=true) (site:Int):Y8f (Y8r c site hs)=true:=by
 have s4:=Y5o hc site
 refine Yiv (fun x hx=> ?_) (Yfy hs _ 0) (Nat.le_trans (Yjt hs _ 0) (by omega))
 obtain ⟨j,h1,h2,h3⟩:=Y86 hs _ 0 x hx
 have hq:Y67 c site=true:=by
   cases hq:Y67 c site with
   | true=>rfl
   | false=>unfold Y2p at h1;rw [hq,if_neg (by decide)] at h1;simp [Y143] at h1
 have hs:=s4.2 hq
 unfold Y3n at hs
 unfold Y85 at h3
 simp only [Bool.and_eq_true,decide_eq_true_eq,List.all_eq_true] at hs h3
 have hb:=hs.1 _ (Y3f h1)
 unfold Y6b at hb
 rw [decide_eq_true_eq] at hb
 rw [h2]
 exact ⟨⟨by show (0:Int)≤((0+j:Nat):Int);omega,by show ((0+j:Nat):Int)< 256;omega⟩,by have:=h3.2.2;show 1≤((Y2p c site).Backs.getD j default).Weight;omega,hb.2⟩
def Ya8 (n :Yb):Int:=((n.Flows.filter fun x=> !x.Away).length:Nat)
theorem Yxu (N :Nat) (es:List Y0) (hl:es.length≤100):∀ (d fuel i:Nat) (k:Nat),es.length=i+d→d< fuel→k≤i→
   J1s N fuel (k:Int) es (es.length:Int) (i:Int)=some ((k+((es.drop i).filter fun x=> !x.Away).length:Nat):Int):=by
 intro d
 induction d with
 | zero=>
   intro fuel i k hi hf hk
   obtain ⟨fuel,rfl⟩:∃ f,fuel=f+1:=⟨fuel - 1,by omega⟩
   rw [J1s,List.drop_of_length_le (by omega),List.filter_nil]
   exact Yo (by omega) rfl
 | succ d ih=>
   intro fuel i k hi hf hk
   obtain ⟨fuel,rfl⟩:∃ f,fuel=f+1:=⟨fuel - 1,by omega⟩
   rw [J1s,Y2r (show i< es.length by omega),Int.toNat_natCast]
   unfold J56
   rw [w64 (n:=(i:Int)+1) (by omega) (by omega),w64 (n:=(k:Int)+1) (by omega) (by omega)]
   refine Yi (by omega) (Y8 (by omega) ?_)
   cases hq:(es.getD i default).Away with
   | true=>
     rw [List.filter_cons_of_neg (by rw [hq];decide)]
     exact Yc (ih fuel (i+1) k (by omega) (by omega) (by omega))
   | false=>
     rw [List.filter_cons_of_pos (by rw [hq];decide),List.length_cons]
     refine Y14 ((ih fuel (i+1) (k+1) (by omega) (by omega) (by omega)).trans ?_)
     congr 2
     omega
theorem Yqe {N :Nat} (hN:1000≤N) (n:Yb) (hl:n.Flows.length≤100):J57 N n=some (Ya8 n):=by
 have:=Yxu N n.Flows hl n.Flows.length N 0 0 (by omega) (by omega) (by omega)
 rw [Nat.zero_add,List.drop_zero] at this
 exact this
def Yhz (n :Yb):Bool:= !Y67 n.Config n.Id||((Y2p n.Config n.Id).Drain||(((Y8r n.Config n.Id n.Health).length:Int)==0||decide (Ya8 n≥(Y2p n.Config n.Id).Cap)))
theorem Y15h {N :Nat} (hN:140737488355328< N) {n:Yb} (h:Y1y n):J3q N n=some (Yhz n,0):=by
 obtain ⟨e,he⟩:=Yod hN h.conf h.hs n.Id
 have s4:=((Y20 _).1 h.cache).2.2
 unfold J3q J2k Yhz
 refine stB (Yal hN n (Yhy h)) ?_
 rw [h.spare]
 refine Yc (stB (Y9l N _ _) (stB he ?_))
 dsimp only
 cases Y67 n.Config n.Id with
 | false=>rfl
 | true=>
   refine Yc ?_
   cases (Y2p n.Config n.Id).Drain with
   | true=>rfl
   | false=>
     refine Yj ?_
     cases ((Y8r n.Config n.Id n.Health).length:Int)==0 with
     | true=>rfl
     | false=>exact Yj (stB (Yqe (by omega) n (by omega)) rfl)
def Y4y (v :Yh) (now:Int):Int× Bool× Int:=
 if v.At= -1∨now< v.At∨v.At+10≤now then (0,false,0) else (if 0 > v.Report.Cap - v.Report.Load then 0 else v.Report.Cap - v.Report.Load,true,0)
theorem Yxv {N :Nat} (hN:140737488355328< N) {vs:List Yh} (hv:Y4p vs=true) {i:Nat} (hi:i< 3) {now:Int} (hn:Y28 now=true):J88 N vs (i:Int) now=some (Y4y (vs.getD i default) now):=by
 have hl:=Y5x hv
 have hs:=Ydw hv hi
 have ht:=of_decide_eq_true hn
 unfold J88 J5u J5t
 rw [Yc8 hN vs (by omega),hv,Y51,hn,Y9i,decide_eq_true (show (0:Int)≤(i:Int)∧(i:Int)< 3 by omega),Int.toNat_natCast]
 refine stB rfl (Yc (stB rfl (Yc (stB rfl (Yc (Y8 (by omega) (Yx ?_)))))))
 generalize vs.getD i default=v at*
 by_cases a:v.At= -1
 · rw [show Y4y v now=(0,false,0) from if_pos (.inl a),a];rfl
 · have hb:Y28 v.At=true∧Y48 v.Report=true:=by
     unfold Y4o at hs
     rw [show (v.At== -1)=false from beq_eq_false_iff_ne.2 a,Bool.false_and,Bool.false_or,Bool.and_eq_true,Bool.and_eq_true] at hs
     exact ⟨hs.1,hs.2.1⟩
   have hat:=of_decide_eq_true hb.1
   have hr:=hb.2
   unfold Y48 at hr
   simp only [Bool.and_eq_true,decide_eq_true_eq] at hr
   rw [w64 (n:=now - v.At) (by omega) (by omega),w64 (n:=v.Report.Cap - v.Report.Load) (by omega) (by omega)]
   refine Yl a ?_
   by_cases b:now - v.At< 0
   · rw [show Y4y v now=(0,false,0) from if_pos (.inr (.inl (by omega)))];exact Yi b rfl
   · refine Yo b ?_
     by_cases c:now - v.At≥10
     · rw [show Y4y v now=(0,false,0) from if_pos (.inr (.inr (by omega))),decide_eq_true c];rfl
     · rw [show Y4y v now=(if 0 > v.Report.Cap - v.Report.Load then 0 else v.Report.Cap - v.Report.Load,true,0) from if_neg (by omega),decide_eq_false c]
       refine Yj (Yx ?_)
       by_cases d:0 > v.Report.Cap - v.Report.Load
       · rw [if_pos d,if_pos (decide_eq_true d)]
       · rw [if_neg d,if_neg (by rw [decide_eq_true_eq];exact d)]
def Y87 (n :Yb) (now:Int) (s:Yg) (i:Nat):Bool:=
 ((i:Int) != n.Id)&&(!s.Drain&&(decide (s.Weight > 0)&&((Y4y (n.Seen.getD i default) now).2.1&&decide ((Y4y (n.Seen.getD i default) now).1 > 0))))
def Y5p (n :Yb) (now:Int):List Yg→Nat→List Y3
 | [],_=>[]
 | s :: ss,i=>bif Y87 n now s i then ⟨(i:Int),if decide (16< (Y4y (n.Seen.getD i default) now).1) then 16 else (Y4y (n.Seen.getD i default) now).1⟩ :: Y5p n now ss (i+1) else Y5p n now ss (i+1)
theorem Yxw {N :Nat} (hN:140737488355328< N) {n:Yb} (h:Y1y n) {now:Int} (hn:Y28 now=true):∀ (d fuel i:Nat) (b:List Y3),n.Config.Sites.length=i+d→d< fuel→b.length≤i→
   J10 N fuel now n.Id n.Config.Version n.Config.Sites n.Health n.Seen n.Flows n.Serial b n.Config.Sites (n.Config.Sites.length:Int) (i:Int)=some (b++Y5p n now (n.Config.Sites.drop i) i,0):=by
 obtain ⟨s1,s2⟩:=Y1s h.conf
 intro d
 induction d with
 | zero=>
   intro fuel i b hi hf hb
   obtain ⟨fuel,rfl⟩:∃ f,fuel=f+1:=⟨fuel - 1,by omega⟩
   rw [J10,List.drop_of_length_le (by omega)]
   refine Yo (by omega) ?_
   unfold Y5p
   rw [List.append_nil]
 | succ d ih=>
   intro fuel i b hi hf hb
   obtain ⟨fuel,rfl⟩:∃ f,fuel=f+1:=⟨fuel - 1,by omega⟩
   rw [J10,Y2r (show i< n.Config.Sites.length by omega),Int.toNat_natCast]
   unfold Y5p
   refine Yi (by omega) (Y8 (by omega) (stB (Yxv hN h.view (by omega) hn) ?_))
   have h3:∀ t:Bool,J20 N (J10 N fuel) now n.Id n.Config.Version n.Config.Sites n.Health n.Seen n.Flows n.Serial b (i:Int) (Y4y (n.Seen.getD i default) now).1 n.Config.Sites (n.Config.Sites.length:Int) (i:Int) t=
       some (b++(bif t then ⟨(i:Int),if decide (16< (Y4y (n.Seen.getD i default) now).1) then 16 else (Y4y (n.Seen.getD i default) now).1⟩ :: Y5p n now (n.Config.Sites.drop (i+1)) (i+1) else Y5p n now (n.Config.Sites.drop (i+1)) (i+1)),0):=by
     intro t
     unfold J20 J89
     rw [w64 (n:=(i:Int)+1) (by omega) (by omega)]
     cases t with
     | true=>
       refine Yk (Y8 (Y3g (by omega) (by omega)) ((ih fuel (i+1) (b++[_]) (by omega) (by omega) (by rw [List.length_append,List.length_singleton];omega)).trans ?_))
       rw [List.append_assoc]
       rfl
     | false=>exact Yj (ih fuel (i+1) b (by omega) (by omega) (by omega))
   simp only [h3]
   unfold Y87
   cases ((i:Int) != n.Id) with
   | false=>rfl
   | true=>
     cases (n.Config.Sites.getD i default).Drain with
     | true=>rfl
     | false=>
       cases decide ((n.Config.Sites.getD i default).Weight > 0) with
       | false=>rfl
       | true=>cases (Y4y (n.Seen.getD i default) now).2.1 <;> rfl
def Yca (n :Yb) (now:Int):List Y3:=Y5p n now n.Config.Sites 0
theorem Yta {N :Nat} (hN:140737488355328< N) {n:Yb} (h:Y1y n) {now:Int} (hn:Y28 now=true):J8b N n now=some (Yca n now,0):=by
 obtain ⟨s1,s2⟩:=Y1s h.conf
 unfold J8b J8a
 rw [Yal hN n (Yhy h),h.spare,Y51,hn]
 refine stB rfl (Yc (stB rfl (Yc ?_)))
 exact (Yxw hN h hn n.Config.Sites.length N 0 [] (by omega) (by omega) (by simp)).trans (by rw [List.nil_append,List.drop_zero];rfl)
theorem Y9m (n :Yb) (now:Int):∀ (ss:List Yg) (i:Nat) (c:Y3),c∈Y5p n now ss i→∃ j,j< ss.length∧c=⟨((i+j:Nat):Int),if decide (16< (Y4y (n.Seen.getD (i+j) default) now).1) then 16 else (Y4y (n.Seen.getD (i+j) default) now).1⟩∧Y87 n now (ss.getD j default) (i+j)=true
 | [],i,c,h=>by simp [Y5p] at h
 | s :: ss,i,c,h=>by
   unfold Y5p at h
   cases hq:Y87 n now s i with
   | true=>
     rw [hq,cond_true] at h
     rcases List.mem_cons.1 h with rfl | h
     · exact ⟨0,by simp,rfl,hq⟩
     · obtain ⟨j,h1,h2,h3⟩:=Y9m n now ss (i+1) c h
       refine ⟨j+1,by simpa using h1,?_,?_⟩
       · rw [h2,show i+1+j=i+(j+1) by omega]
       · rw [show i+(j+1)=i+1+j by omega];exact h3
   | false=>
     rw [hq,cond_false] at h
     obtain ⟨j,h1,h2,h3⟩:=Y9m n now ss (i+1) c h
     refine ⟨j+1,by simpa using h1,?_,?_⟩
     · rw [h2,show i+1+j=i+(j+1) by omega]
     · rw [show i+(j+1)=i+1+j by omega];exact h3
theorem Yiy (n :Yb) (now:Int):∀ (ss:List Yg) (i:Nat),(Y5p n now ss i).Pairwise fun a b=>a.Id< b.Id
 | [],i=>by unfold Y5p;exact List.Pairwise.nil
 | s :: ss,i=>by
   unfold Y5p
   cases Y87 n now s i with
   | true=>
     refine List.Pairwise.cons (fun c hc=> ?_) (Yiy n now ss (i+1))
     obtain ⟨j,_,h2,_⟩:=Y9m n now ss (i+1) c hc
     rw [h2]
     show (i:Int)< ((i+1+j:Nat):Int)
     omega
   | false=>exact Yiy n now ss (i+1)
theorem Yoe (n :Yb) (now:Int):∀ (ss:List Yg) (i:Nat),(Y5p n now ss i).length≤ss.length
 | [],i=>by simp [Y5p]
 | s :: ss,i=>by
   unfold Y5p
   have:=Yoe n now ss (i+1)
   cases Y87 n now s i with
   | true=>rw [cond_true,List.length_cons,List.length_cons];omega
   | false=>rw [cond_false,List.length_cons];omega
theorem Yjv {n :Yb} (h:Y1y n) (now:Int):Y8f (Yca n now)=true:=by
 obtain ⟨s1,s2⟩:=Y1s h.conf
 refine Yiv (fun x hx=> ?_) (Yiy n now _ 0) (Nat.le_trans (Yoe n now _ 0) (by omega))
 obtain ⟨j,h1,h2,h3⟩:=Y9m n now _ 0 x hx
 unfold Y87 at h3
 simp only [Bool.and_eq_true,decide_eq_true_eq] at h3
 rw [h2]
 refine ⟨⟨by show (0:Int)≤((0+j:Nat):Int);omega,by show ((0+j:Nat):Int)< 256;omega⟩,?_⟩
 have:=h3.2.2.2.2
 dsimp only
 split
 · decide
 · rename_i q;rw [decide_eq_true_eq] at q;omega
end Go.Proofs.YtpdcnikdoikldaaGreatDoor.Pu
namespace Go.Proofs.YtpdcnikdoikldaaGreatDoor.Pu
open Go Go.RowKit Go.Proofs.YtpdcnikdoikldaaGreatDoor.Sv Go.Proofs.YtpdcnikdoikldaaGreatDoor.Lf
def Y38 (cs :List Y3) (key:Int) (f:Ye):Int× Bool:=(J1x 281474976710656 cs key f).getD (0,false)
theorem Y52 {cs :List Y3} (hc:Y8f cs=true) {f:Ye} (hf:Y57 f=true) (key:Int) (hk:0≤key∧key< 4294967296):
   J1x 281474976710656 cs key f=some (Y38 cs key f)∧((Y38 cs key f).2=true→∃ c∈cs,c.Id=(Y38 cs key f).1)∧((Y38 cs key f).2=false→cs=[]):=by
 obtain ⟨id,is,h1,h2,h3⟩:=Yxr hc hf key hk
 have e:Y38 cs key f=(id,is):=by unfold Y38;rw [h1];rfl
 rw [e]
 exact ⟨h1,h2,h3⟩
def Yeo (p flags :Int):Int:=
 bif Y27 .i64 flags 4 != 0 then 2 else bif (Y27 .i64 flags 2 != 0)&& !(Y27 .i64 flags 16 != 0) then 0 else bif Y27 .i64 flags 1 != 0 then (if 2< p+1 then 2 else p+1) else p
theorem Yp6 {p flags :Int} (hp:0≤p∧p≤2):0≤Yeo p flags∧Yeo p flags≤2:=by
 unfold Yeo
 cases (Y27 .i64 flags 4 != 0) with
 | true=>rw [cond_true];omega
 | false=>
   cases ((Y27 .i64 flags 2 != 0)&& !(Y27 .i64 flags 16 != 0)) with
   | true=>rw [cond_false,cond_true];omega
   | false=>
     cases (Y27 .i64 flags 1 != 0) with
     | true=>rw [cond_false,cond_false,cond_true];split <;> omega
     | false=>exact hp
theorem Y11p (N :Nat) (p flags:Int) (hp:0≤p∧p≤2) (hf:0≤flags∧flags< 64):J7n N p flags=some (Yeo p flags,0):=by
 have hflags:Jb6 N flags=some true:=by
   refine stB (Yhn N flags 6 (by decide)) ?_
   rw [decide_eq_true (show 0≤flags∧flags< 2 ^ 6 from hf)]
 have h2:J5l N p flags false=some (bif Y27 .i64 flags 1 != 0 then (if 2< p+1 then 2 else p+1) else p,0):=by
   unfold J5l J2s
   rw [Option.bind_some,w64 (n:=p+1) (by omega) (by omega)]
   cases (Y27 .i64 flags 1 != 0) with
   | true=>
     refine Yj (Yk (Yx ?_))
     by_cases k:2< p+1
     · rw [if_pos (decide_eq_true k),cond_true,if_pos k]
     · rw [if_neg (by rw [decide_eq_true_eq];exact k),cond_true,if_neg k]
   | false=>rfl
 unfold J7n J7m J2s Yeo
 rw [Yfr,decide_eq_true hp,hflags,Option.bind_some,Option.bind_some,Option.bind_some,Option.bind_some,Option.bind_some]
 refine Yc (Yc ?_)
 cases (Y27 .i64 flags 4 != 0) with
 | true=>rfl
 | false=>
   refine Yj ?_
   cases (Y27 .i64 flags 2 != 0) with
   | true=>
     refine Yk ?_
     cases (Y27 .i64 flags 16 != 0) with
     | true=>exact h2
     | false=>rfl
   | false=>exact h2
def Y7s (x :Y0) (flags now:Int):Y0:=⟨x.Flow,x.To,x.Away,if x.Flow.Proto=6 then Yeo x.Phase flags else x.Phase,now⟩
theorem Y15i (N :Nat) (x:Y0) (flags now:Int) (hx:Y2y x=true) (hf:0≤flags∧flags< 64) (hn:Y28 now=true):J7p N x flags now=some (Y7s x flags now,0):=by
 have hp:=(Y4g hx).2.2.1
 unfold J7p J5m J7o Y7s
 rw [Y11p N x.Phase flags hp hf,Yen,hx,Y51,hn]
 by_cases a:x.Flow.Proto=6
 · rw [if_pos a];exact stB rfl (Y13 rfl (stB rfl (Yc (stB rfl (Yc (Ym a rfl))))))
 · rw [if_neg a];exact stB rfl (Y13 rfl (stB rfl (Yc (stB rfl (Yc (Yl a rfl))))))
theorem Yiz {x :Y0} {flags now:Int} (hx:Y2y x=true) (hn:Y28 now=true):Y2y (Y7s x flags now)=true:=by
 have hp:=(Y4g hx).2.2.1
 have hs:=Yp6 (flags:=flags) hp
 unfold Y2y at hx ⊢
 simp only [Bool.and_eq_true,decide_eq_true_eq] at hx ⊢
 refine ⟨hx.1,hx.2.1,?_,hn⟩
 unfold Y7s
 dsimp only
 split <;> omega
def evT (t :J3) (kind to:Int) (f:Ye):Y1:=⟨kind,t.Role,t.Site,t.Node,to,f⟩
def zF :Ye:=⟨0,0,0,0,0⟩
def Y80 (t :J3) (o:Y15) (fl:List Y0) (x:Y0) (flags now:Int):List Y0× Y1g:=
 if 324< o.Body.size then (fl,⟨[],[evT t 6 0 x.Flow]⟩)
 else ((Y7r fl (Y7s x flags now)).1,⟨[Y3x o],(bif (Y7r fl (Y7s x flags now)).2.2.1 then [evT t 11 (Y7r fl (Y7s x flags now)).2.1.To (Y7r fl (Y7s x flags now)).2.1.Flow] else [])++[evT t 0 x.To x.Flow]⟩)
theorem Yqf {o :Y15} (h:Y5m o=true):RA o.Src∧RA o.Dst:=by
 obtain ⟨h1,h2,_⟩:=Y7f h
 have a:=Y7z h1;have b:=Y7z h2
 unfold RA
 omega
theorem Yof (t :J3) {o:Y15} (ho:Y5m o=true) {fl:List Y0} (hfl:Y37 fl=true) {x:Y0} (hx:Y2y x=true) {flags now:Int} (hf:0≤flags∧flags< 64) (hn:Y28 now=true):
   J5n 281474976710656 t o fl x flags now=some (Y80 t o fl x flags now):=by
 have hr:=Yqf ho
 have hpush:=Yit (N:=281474976710656) (by decide) o hr.1 hr.2
 unfold Y6k at hpush
 rw [if_pos ho] at hpush
 unfold J5n Y80
 by_cases c:324< o.Body.size
 · rw [if_pos c] at hpush ⊢
   exact stB hpush (Y1c (by decide) (stB (x:=⟨[],[evT t 6 0 x.Flow]⟩) rfl rfl))
 · rw [if_neg c] at hpush ⊢
   have hput:=Y15c (N:=281474976710656) (by decide) fl (Y7s x flags now) hfl (Yiz hx hn)
   refine stB hpush (Y13 rfl (stB (Y15i _ x flags now hx hf hn) (stB hput ?_)))
   unfold J7t J1g
   cases (Y7r fl (Y7s x flags now)).2.2.1 with
   | true=>exact Yk (stB rfl (stB rfl (Y8 (Y3g (b:=80) (n:=2) (by decide) (by decide)) rfl)))
   | false=>exact Yj (stB rfl (Y8 (Y3g (b:=80) (n:=1) (by decide) (by decide)) rfl))
def Ydx (o :Y15):Bool:=(o.Tier==1)&&((o.Marker==0)&&((o.Origin==0)&&((Y2f o.Src).2.2.2&&((Y2f o.Src).1==0))))
theorem Yog (N :Nat) (o:Y15) (h:RA o.Src):J5r N o=some (Ydx o):=by
 unfold J5r J2x Ydx
 refine stB (Yc4 N o.Src h) ?_
 cases (o.Tier==1) with
 | false=>rfl
 | true=>
   cases (o.Marker==0) with
   | false=>rfl
   | true=>
     cases (o.Origin==0) with
     | false=>rfl
     | true=>cases (Y2f o.Src).2.2.2 <;> rfl
theorem Yqg (s :ByteArray):RA (Yz s).1.Src∧RA (Yz s).1.Dst:=by
 unfold Yz Yfo Y4v
 split
 · exact ⟨by unfold RA;decide,by unfold RA;decide⟩
 · split
   · exact ⟨Yko _ _,Yko _ _⟩
   · exact ⟨by unfold RA;decide,by unfold RA;decide⟩
theorem Yoh {s :ByteArray} (h:(Yz s).2=0):Y5m (Yz s).1=true∧s=Y3x (Yz s).1∧s.size≤360:=by
 unfold Yz at h ⊢
 split at h
 · simp [Yfo] at h
 rename_i c;rw [if_neg c]
 split at h
 · rename_i c2;rw [if_pos c2];exact ⟨c2.1,c2.2.2.symm,c2.2.1⟩
 · simp [Yfo] at h
def Yj0 (id :Int) (o:Y15):Bool:=(Y2f o.Src).2.2.2&&(((Y2f o.Src).1==1)&&(!((Y2f o.Src).2.1==id)&&((o.Marker==1)&&(o.Origin==(Y2f o.Src).2.1+1))))
def Y1z (id :Int) (o:Y15):ByteArray× Bool:=
 bif o.Tier != 2 then (o.Body,Ydx o)
 else bif Yj0 id o then ((Yz o.Body).1.Body,((Yz o.Body).2==0)&&(Ydx (Yz o.Body).1&&((Yz o.Body).1.Dst==o.Src)))
 else (ByteArray.empty,false)
theorem Ytb (a :Int):0≤(Y2f a).2.1∧(Y2f a).2.1< 3:=by
 unfold Y2f
 split
 · dsimp only;omega
 split
 · dsimp only;omega
 split
 · dsimp only;omega
 · exact ⟨by decide,by decide⟩
theorem Yxx {N :Nat} (hN:1000≤N) (x:Y12) (o:Y15) (h:RA o.Src):J84 N x o=some (Y1z x.Node.Id o):=by
 unfold J84 J2z J5s Y1z Yj0
 have hw:=Ytb o.Src
 cases (o.Tier != 2) with
 | true=>exact Yk (stB (Yog N o h) rfl)
 | false=>
   refine Yj (stB (Yc4 N o.Src h) ?_)
   rw [w64 (n:=(Y2f o.Src).2.1+1) (by omega) (by omega)]
   have hpop:=Yo5 (N:=N) hN o.Body
   have hpl:=Yog N (Yz o.Body).1 (Yqg o.Body).1
   generalize Yz o.Body=p at*
   cases (Y2f o.Src).2.2.2 with
   | false=>rfl
   | true=>
     refine Yc ?_
     unfold bne
     cases ((Y2f o.Src).1==1) with
     | false=>rfl
     | true=>
       refine Yc ?_
       cases ((Y2f o.Src).2.1==x.Node.Id) with
       | true=>rfl
       | false=>
         refine Yj ?_
         cases (o.Marker==1) with
         | false=>rfl
         | true=>
           refine Yc ?_
           cases (o.Origin==(Y2f o.Src).2.1+1) with
           | false=>rfl
           | true=>
             refine Yc (stB hpop ?_)
             cases (p.2==0) with
             | false=>rfl
             | true=>
               refine Yk (stB hpl ?_)
               cases Ydx p.1 <;> rfl
def Ydy (n :Yb) (x:Y0) (spill:Bool):Bool:=
 bif x.Away then !spill&&Y67 n.Config x.To
 else Y67 n.Config n.Id&&(decide (x.To< ((Y2p n.Config n.Id).Backs.length:Int))&&(n.Health.getD x.To.toNat default).Up)
theorem Y15j {N :Nat} (hN:140737488355328< N) {c:Y7} (hc:Y1a c=true) (i b:Int) (hb:0≤b):J1w N c i b=some (Y67 c i&&decide (b< ((Y2p c i).Backs.length:Int))):=by
 obtain ⟨s1,s2⟩:=Y1s hc
 unfold J1w J1v
 refine stB (Y9l N c i) (stB (Y2x hN c ⟨by omega,fun y hy=>by have:=(s2 y hy).2;omega⟩) ?_)
 rw [hc]
 refine Yk ?_
 dsimp only
 cases Y67 c i with
 | false=>rfl
 | true=>exact Yk (Yl (by omega) (Yi hb rfl))
theorem Y11q {N :Nat} (hN:140737488355328< N) (x:Y12) (h:Y1y x.Node) (e:Y0) (he:0≤e.To) (spill:Bool):J87 N x e spill=some (Ydy x.Node e spill):=by
 have hl:=Y47 h.hs
 have s4:=(Y5o h.conf x.Node.Id).1
 unfold J87 J85 J86 Ydy
 cases e.Away with
 | true=>
   refine Yk ?_
   cases spill with
   | true=>rfl
   | false=>exact Y14 (stB (Yqc hN h.conf e.To) rfl)
 | false=>
   refine Yj (stB (Y15j hN h.conf _ _ he) ?_)
   cases Y67 x.Node.Config x.Node.Id with
   | false=>rfl
   | true=>
     by_cases c:e.To< ((Y2p x.Node.Config x.Node.Id).Backs.length:Int)
     · rw [decide_eq_true c]
       exact Yk (Y8 (by omega) rfl)
     · rw [decide_eq_false c];rfl
def Ycb (n :Yb) (now:Int) (f:Ye):Int× Bool:=bif Yhz n then Y38 (Yca n now) 2 f else (0,false)
theorem Y15k (x :Y12) (h:Y1y x.Node) (hn:Y28 x.now_=true) {f:Ye} (hf:Y57 f=true):J8c 281474976710656 x f=some (Ycb x.Node x.now_ f):=by
 unfold J8c Ycb
 refine stB (Y15h (by decide) h) ?_
 dsimp only
 cases Yhz x.Node with
 | false=>rfl
 | true=>exact Yc (stB (Yta (by decide) h hn) (stB (Y52 (Yjv h _) hf 2 (by decide)).1 rfl))
def Ytc (n :Yb) (now:Int) (f:Ye) (spill:Bool):Y0× Bool:=
 bif !spill&&(Ycb n now f).2 then (⟨f,(Ycb n now f).1,true,0,0⟩,true) else (⟨f,(Y38 (Y8r n.Config n.Id n.Health) 1 f).1,false,0,0⟩,(Y38 (Y8r n.Config n.Id n.Health) 1 f).2)
def Y6r (n :Yb) (now:Int) (f:Ye) (spill:Bool):Y0× Bool:=
 bif (Y2o n.Flows f now).2&&Ydy n (Y2o n.Flows f now).1 spill then ((Y2o n.Flows f now).1,true) else Ytc n now f spill
theorem Yqh {n :Yb} (h:Y1y n) {f:Ye} {now:Int} (hq:(Y2o n.Flows f now).2=true):Y2y (Y2o n.Flows f now).1=true:=
 ((Y20 _).1 h.cache).1 _ (Yfw hq).1
theorem Yxy (x :Y12) (h:Y1y x.Node) (hn:Y28 x.now_=true) {f:Ye} (hf:Y57 f=true) (spill:Bool):J8e 281474976710656 x f spill=some (Y6r x.Node x.now_ f spill):=by
 have h1:∀ a0 a1 a2 a3 a4 a5 a6 a7 a8,J5v 281474976710656 x spill f.Src f.Dst f.Proto f.Sport f.Dport 0 0 0 0 0 0 false 0 0 a0 a1 a2 a3 a4 a5 a6 a7 a8 false=some (Ytc x.Node x.now_ f spill):=by
   intro a0 a1 a2 a3 a4 a5 a6 a7 a8
   obtain ⟨e,hb⟩:=Yod (N:=281474976710656) (by decide) h.conf h.hs x.Node.Id
   have hc:=(Y52 (Yju (hs:=x.Node.Health) h.conf x.Node.Id) hf 1 (by decide)).1
   unfold J5v J8d Ytc
   refine Yj ?_
   cases spill with
   | true=>exact Yc (stB hb (stB hc rfl))
   | false=>
     refine Y14 (stB (Y15k x h hn hf) ?_)
     rw [Bool.not_false,Bool.true_and]
     cases (Ycb x.Node x.now_ f).2 with
     | true=>rfl
     | false=>exact Yj (stB hb (stB hc rfl))
 unfold J8e Y6r
 refine stB (Yqa (by decide) x.Node.Flows f x.now_ h.cache) ?_
 cases hq:(Y2o x.Node.Flows f x.now_).2 with
 | false=>exact Yj (h1 ..)
 | true=>
   have hto:=(Y4g (Yqh h hq)).2.1
   refine Yk (stB (Y11q (by decide) x h _ hto.1 spill) ?_)
   rw [Bool.true_and]
   cases Ydy x.Node (Y2o x.Node.Flows f x.now_).1 spill with
   | true=>rfl
   | false=>exact h1 ..
structure Ytd (n :Yb) (f:Ye) (x:Y0):Prop where
 flow:x.Flow=f
 ok:Y2y x=true
 away:x.Away=true→(0≤x.To∧x.To< 3)∧x.To≠n.Id
 here:x.Away=false→x.To< 4
theorem Yqi {f :Ye} (hf:Y57 f=true) {to:Int} (ht:0≤to∧to< 256) (a:Bool):Y2y ⟨f,to,a,0,0⟩=true:=by
 unfold Y2y Y28
 rw [hf,decide_eq_true ht];rfl
theorem Yjw {n :Yb} (h:Y1y n) {f:Ye} (hf:Y57 f=true) {now:Int} {spill:Bool} (hp:(Y6r n now f spill).2=true):Ytd n f (Y6r n now f spill).1:=by
 obtain ⟨s1,s2⟩:=Y1s h.conf
 unfold Y6r at hp ⊢
 cases hq:(Y2o n.Flows f now).2&&Ydy n (Y2o n.Flows f now).1 spill with
 | true=>
   rw [Bool.and_eq_true] at hq
   obtain ⟨m1,m2,_,_⟩:=Yfw hq.1
   exact ⟨m2,Yqh h hq.1,h.away _ m1,h.here _ m1⟩
 | false=>
   rw [hq,cond_false] at hp
   rw [cond_false]
   unfold Ytc at hp ⊢
   cases ha: !spill&&(Ycb n now f).2 with
   | true=>
     rw [cond_true]
     rw [Bool.and_eq_true] at ha
     have ha2:=ha.2
     unfold Ycb at ha2 ⊢
     cases hfu:Yhz n with
     | false=>rw [hfu] at ha2;cases ha2
     | true=>
       rw [hfu,cond_true] at ha2
       rw [cond_true]
       obtain ⟨c,c1,c2⟩:=(Y52 (Yjv h now) hf 2 (by decide)).2.1 ha2
       obtain ⟨j,j1,j2,j3⟩:=Y9m n now _ 0 c c1
       unfold Y87 at j3
       simp only [Bool.and_eq_true,bne_iff_ne] at j3
       have hj:(Y38 (Yca n now) 2 f).1=((0+j:Nat):Int):=by rw [← c2,j2]
       have hne:=j3.1
       refine ⟨rfl,Yqi hf (by rw [hj];omega) _,fun _=>⟨?_,?_⟩,fun q=>(by cases q)⟩
       · show 0≤(Y38 (Yca n now) 2 f).1∧(Y38 (Yca n now) 2 f).1< 3
         rw [hj];omega
       · show (Y38 (Yca n now) 2 f).1≠n.Id
         rw [hj];exact hne
   | false=>
     rw [ha,cond_false] at hp
     rw [cond_false]
     obtain ⟨c,c1,c2⟩:=(Y52 (Yju (hs:=n.Health) h.conf n.Id) hf 1 (by decide)).2.1 hp
     obtain ⟨j,j1,j2,j3⟩:=Y86 n.Health _ 0 c c1
     have s4:=(Y5o h.conf n.Id).1
     have hj:(Y38 (Y8r n.Config n.Id n.Health) 1 f).1=((0+j:Nat):Int):=by rw [← c2,j2]
     refine ⟨rfl,Yqi hf (by rw [hj];omega) _,fun q=>(by cases q),fun _=> ?_⟩
     show (Y38 (Y8r n.Config n.Id n.Health) 1 f).1< 4
     rw [hj];omega
def Yep (id :Int) (x:Y0) (all inner:ByteArray):Y15:=
 bif x.Away then ⟨167903232+id,167903232+x.To,2,1,id+1,all⟩ else ⟨167903232+id,167968768+256*id+x.To,3,0,0,inner⟩
theorem Y5q {id :Int} (h:0≤id∧id< 3):Y5w 1 id 0=(167903232+id,0):=by
 unfold Y5w
 rw [if_neg (by omega),if_pos (by omega)]
theorem Yjx {id b :Int} (h:0≤id∧id< 3) (hb:0≤b∧b< 4):Y5w 2 id b=(167968768+256*id+b,0):=by
 unfold Y5w
 rw [if_neg (by omega),if_neg (by omega),if_pos (by omega)]
theorem Y11r (N :Nat) (x:Y12) (h:Y1y x.Node) {f:Ye} {e:Y0} (he:Ytd x.Node f e) (all inner:ByteArray):J8f N x e all inner=some (Yep x.Node.Id e all inner):=by
 have hid:=h.id
 have hto:=(Y4g he.ok).2.1
 unfold J8f Yep
 refine stB (Y2w ..) ?_
 rw [Y5q hid]
 cases ha:e.Away with
 | true=>
   refine Yk (stB (Y2w ..) ?_)
   rw [Y5q (he.away ha).1,w64 (n:=x.Node.Id+1) (by omega) (by omega)]
   rfl
 | false=>
   refine Yj (stB (Y2w ..) ?_)
   rw [Yjx hid ⟨hto.1,he.here ha⟩]
   rfl
theorem Yxz {n :Yb} (h:Y1y n) {f:Ye} {e:Y0} (he:Ytd n f e) {all inner:ByteArray} (ha:all.size≤512) (hi:inner.size≤512):Y5m (Yep n.Id e all inner)=true:=by
 have hid:=h.id
 have hto:=(Y4g he.ok).2.1
 unfold Y5m Y3w Yep
 cases hq:e.Away with
 | true=>
   have:=(he.away hq).1
   exact decide_eq_true (by dsimp only [cond_true];omega)
 | false=>
   have:=he.here hq
   exact decide_eq_true (by dsimp only [cond_false];omega)
end Go.Proofs.YtpdcnikdoikldaaGreatDoor.Pu
namespace Go.Proofs.YtpdcnikdoikldaaGreatDoor.Pu
open Go Go.RowKit Go.Proofs.YtpdcnikdoikldaaGreatDoor.Sv Go.Proofs.YtpdcnikdoikldaaGreatDoor.Lf
def Yfz (r :Yq):ByteArray:=B1 r.Site++B2 r.Serial++B1 r.Load++B1 r.Cap
def Ycc (r :Yq):ByteArray:=Yfz r++mkS [Y7j .u8 255 (IntKind.u8.wrap (Y4l (Yfz r)))]
theorem Yjy (r :Yq):(Yfz r).size=5:=by simp only [Yfz,ByteArray.size_append,Yr,Yt]
theorem Yjz (r :Yq):(Ycc r).size=6:=by simp only [Ycc,ByteArray.size_append,Yjy,Y9g];rfl
theorem Yk0 {N :Nat} (hN:1000≤N) (r:Yq):J2w N r=some (if Y48 r=true then (Ycc r,0) else (ByteArray.empty,700)):=by
 unfold J2w
 refine stB (Ydv N r) ?_
 cases Y48 r with
 | false=>rfl
 | true=>
   have hl:=Yjy r
   have hs:=Yek hN (Yfz r) (by omega) (by omega)
   refine Yc (stB (Ydp hN _) (stB (Yhk hN _) (Y8 (by rw [Yr,Yt];decide) (stB (Ydp hN _) (Y8 (by rw [ByteArray.size_append,Yr,Yt,Yr];decide) (stB (Ydp hN _) (Y8 (by rw [ByteArray.size_append,ByteArray.size_append,Yr,Yt,Yr,Yr];decide) (stB hs (Y8 ?_ (Yx ?_))))))))))
   · show (((Yfz r).size+(mkS [Y7j .u8 255 (IntKind.u8.wrap (Y4l (Yfz r)))]).size:Nat):Int)≤9223372036854775807
     rw [hl,Y9g,List.length_singleton];decide
   · rw [if_pos rfl];rfl
def Y3h (s :ByteArray):Yq× Int:=
 if s.size=6∧Y48 ⟨bt s 0,N2 s 1,bt s 3,bt s 4⟩=true∧Ycc ⟨bt s 0,N2 s 1,bt s 3,bt s 4⟩=s then (⟨bt s 0,N2 s 1,bt s 3,bt s 4⟩,0) else (zR,700)
theorem Y1az (s :ByteArray) (h:s.size=6):N2 (s.extract 1 3) 0=N2 s 1:=by
 unfold N2
 have h0:bt (s.extract 1 3) (0:Nat)=bt s (1:Nat):=Y3e s 1 3 0 (by omega) (by omega)
 have h1:bt (s.extract 1 3) (1:Nat)=bt s (2:Nat):=Y3e s 1 3 1 (by omega) (by omega)
 show bt (s.extract 1 3) (0:Nat)*256+bt (s.extract 1 3) (1:Nat)=_
 rw [h0,h1]
theorem Yy0 {N :Nat} (hN:1000≤N) (s:ByteArray):J7y N s=some (Y3h s):=by
 unfold J7y J7x
 by_cases c:s.size=6
 · have hn:=Yq1 hN (s.extract 1 3) (by rw [ByteArray.size_extract];omega)
   rw [Y1az s c] at hn
   have b0:=Y17 s (0:Nat);have b3:=Y17 s (3:Nat);have b4:=Y17 s (4:Nat)
   have e0:bt s 0=bt s (0:Nat):=rfl
   have e3:bt s 3=bt s (3:Nat):=rfl
   have e4:bt s 4=bt s (4:Nat):=rfl
   refine Y13 (by omega) (Y8 (by omega) (Y8 (by omega) (stB hn (Y8 (by omega) (Y8 (by omega) ?_)))))
   rw [w64 (n:=bt s 0) (by omega) (by omega),w64 (n:=bt s 3) (by omega) (by omega),w64 (n:=bt s 4) (by omega) (by omega)]
   refine stB (Yk0 hN _) ?_
   by_cases k:Y48 ⟨bt s 0,N2 s 1,bt s 3,bt s 4⟩=true
   · rw [if_pos k]
     refine Y13 rfl ?_
     dsimp only
     by_cases e:Ycc ⟨bt s 0,N2 s 1,bt s 3,bt s 4⟩=s
     · rw [show Y3h s=_ from if_pos ⟨c,k,e⟩,e,tlB];rfl
     · rw [show Y3h s=_ from if_neg (fun h=>e h.2.2)]
       have:((Ycc ⟨bt s 0,N2 s 1,bt s 3,bt s 4⟩).toList==s.toList)=false:=by
         rw [beq_eq_false_iff_ne];exact fun h=>e ((Yhi _ _).1 h)
       rw [this];rfl
   · rw [if_neg k,show Y3h s=_ from if_neg (fun h=>k h.2.1)]
     exact Y1c (by decide) rfl
 · rw [show Y3h s=_ from if_neg (fun h=>c h.1)]
   exact Y1c (by omega) rfl
theorem Yqj {s :ByteArray} (h:(Y3h s).2=0):Y48 (Y3h s).1=true:=by
 unfold Y3h at h ⊢
 split at h
 · rename_i c;rw [if_pos c];exact c.2.1
 · simp at h
def Ydz (a b :Int):Bool:=decide ((a - b+65536).tmod 65536≥1)&&decide ((a - b+65536).tmod 65536< 32768)
theorem Y11s (N :Nat) (a b:Int) (ha:0≤a∧a< 65536) (hb:0≤b∧b< 65536):J81 N a b=some (Ydz a b,0):=by
 unfold J81 J80 J7z Ydz
 rw [Ydu,Ydu,decide_eq_true ha,decide_eq_true hb]
 refine stB rfl (Yc (stB rfl (Yc (Yx ?_))))
 rw [w64 (n:=a - b) (by omega) (by omega),w64 (n:=a - b+65536) (by omega) (by omega)]
 cases decide ((a - b+65536).tmod 65536≥1) <;> rfl
def Y6l (vs :List Yh) (r:Yq) (now:Int):List Yh× Bool:=
 bif ((vs.getD r.Site.toNat default).At != -1)&& !Ydz r.Serial (vs.getD r.Site.toNat default).Report.Serial then (vs,false) else (vs.set r.Site.toNat ⟨r,now⟩,true)
theorem Yp7 {i :Int} {v:Yh} (h:Y4o i v=true):0≤v.Report.Serial∧v.Report.Serial< 65536:=by
 unfold Y4o at h
 rw [Bool.or_eq_true] at h
 rcases h with h | h
 · rw [Bool.and_eq_true] at h
   rw [Y15g.1 h.2]
   exact ⟨by decide,by decide⟩
 · simp only [Bool.and_eq_true] at h
   have:=h.2.1
   unfold Y48 at this
   simp only [Bool.and_eq_true,decide_eq_true_eq] at this
   exact this.2.1
theorem Yam {r :Yq} (h:Y48 r=true):(0≤r.Site∧r.Site< 3)∧(0≤r.Serial∧r.Serial< 65536)∧(0≤r.Load∧r.Load< 256)∧(0≤r.Cap∧r.Cap< 256):=by
 unfold Y48 at h
 simpa only [Bool.and_eq_true,decide_eq_true_eq] using h
theorem Yp8 {N :Nat} (hN:140737488355328< N) {vs:List Yh} (hv:Y4p vs=true) {r:Yq} (hr:Y48 r=true) {now:Int} (hn:Y28 now=true):J83 N vs r now=some ((Y6l vs r now).1,(Y6l vs r now).2,0):=by
 have hl:=Y5x hv
 obtain ⟨p1,p2,_,_⟩:=Yam hr
 have hs:=Yp7 (Ydw hv (i:=r.Site.toNat) (by omega))
 unfold J83 J5p J82 Y6l
 rw [Yc8 hN vs (by omega),hv,Ydv,hr,Y51,hn]
 refine stB rfl (Yc (stB rfl (Yc (stB rfl (Yc (stB (Yjs N vs (by omega)) (Y8 (by omega) (stB (Y11s N _ _ p2 hs) ?_))))))))
 dsimp only
 cases ((vs.getD r.Site.toNat default).At != -1) with
 | true=>
   refine Yk (Y8 (by omega) ?_)
   rw [Bool.true_and]
   cases Ydz r.Serial (vs.getD r.Site.toNat default).Report.Serial <;> rfl
 | false=>exact Yj (Y8 (by omega) rfl)
theorem Y11t {vs :List Yh} (hv:Y4p vs=true) {r:Yq} (hr:Y48 r=true) {now:Int} (hn:Y28 now=true):Y4p (Y6l vs r now).1=true:=by
 have hl:=Y5x hv
 obtain ⟨p1,_⟩:=Yam hr
 unfold Y6l
 cases (((vs.getD r.Site.toNat default).At != -1)&& !Ydz r.Serial (vs.getD r.Site.toNat default).Report.Serial) with
 | true=>exact hv
 | false=>
   rw [cond_false]
   unfold Y4p
   rw [List.length_set,hl,Bool.and_eq_true,List.all_eq_true]
   refine ⟨fun i hi=> ?_,rfl⟩
   rw [List.mem_range'_1] at hi
   by_cases e:i=r.Site.toNat
   · rw [e,Y41 (by rw [List.length_set];omega),List.getElem_set_self]
     unfold Y4o
     rw [hn,hr,Bool.true_and,Bool.true_and]
     rw [show (((r.Site.toNat:Nat):Int))=r.Site by omega]
     simp
   · rw [Y41 (by rw [List.length_set];omega),List.getElem_set_ne (Ne.symm e),← Y41 (by omega)]
     exact Ydw hv (by omega)
def tN (n :Yb):J3:=⟨1,n.Id,0⟩
def Y5b (t :J3) (kind:Int) (f:Ye):Y1g:=⟨[],[evT t kind 0 f]⟩
def Y8s (n :Yb) (o:Y15) (now:Int):Yb× Y1g:=
 bif ((Y3h o.Body).2 != 0)||(!(o.Src==167903232+(Y3h o.Body).1.Site)||((Y3h o.Body).1.Site==n.Id)) then (n,Y5b (tN n) 8 zF)
 else bif (Y6l n.Seen (Y3h o.Body).1 now).2 then (⟨n.Id,n.Config,n.Health,(Y6l n.Seen (Y3h o.Body).1 now).1,n.Flows,n.Serial⟩,⟨[],[evT (tN n) 13 (Y3h o.Body).1.Site zF]⟩) else (n,⟨[],[]⟩)
def Y4i (n :Yb) (now:Int) (s:ByteArray):Yb× Y1g:=
 bif ((Yz s).2 != 0)||((Yz s).1.Dst != 167903232+n.Id) then (n,Y5b (tN n) 8 zF)
 else bif (Yz s).1.Tier==4 then Y8s n (Yz s).1 now
 else bif !(Y1z n.Id (Yz s).1).2 then (n,Y5b (tN n) 7 zF)
 else bif (ofF (Y1z n.Id (Yz s).1).1).2.2 != 0 then (n,Y5b (tN n) (Yc5 (ofF (Y1z n.Id (Yz s).1).1).2.2) (ofF (Y1z n.Id (Yz s).1).1).1)
 else bif !(Y6r n now (ofF (Y1z n.Id (Yz s).1).1).1 ((Yz s).1.Tier==2)).2 then (n,Y5b (tN n) 5 (ofF (Y1z n.Id (Yz s).1).1).1)
 else (⟨n.Id,n.Config,n.Health,n.Seen,(Y80 (tN n) (Yep n.Id (Y6r n now (ofF (Y1z n.Id (Yz s).1).1).1 ((Yz s).1.Tier==2)).1 s (Y1z n.Id (Yz s).1).1) n.Flows (Y6r n now (ofF (Y1z n.Id (Yz s).1).1).1 ((Yz s).1.Tier==2)).1 (ofF (Y1z n.Id (Yz s).1).1).2.1.Flags now).1,n.Serial⟩,
   (Y80 (tN n) (Yep n.Id (Y6r n now (ofF (Y1z n.Id (Yz s).1).1).1 ((Yz s).1.Tier==2)).1 s (Y1z n.Id (Yz s).1).1) n.Flows (Y6r n now (ofF (Y1z n.Id (Yz s).1).1).1 ((Yz s).1.Tier==2)).1 (ofF (Y1z n.Id (Yz s).1).1).2.1.Flags now).2)
theorem Yp9 {id :Int} {o:Y15} (ho:o.Body.size≤512):(Y1z id o).1.size≤512:=by
 unfold Y1z
 cases (o.Tier != 2) with
 | true=>exact ho
 | false=>
   cases Yj0 id o with
   | true=>
     show (Yz o.Body).1.Body.size≤512
     unfold Yz Yfo Y4v
     split
     · decide
     · split
       · dsimp only;rw [ByteArray.size_extract];omega
       · decide
   | false=>exact by show ByteArray.empty.size≤512;decide
def zN :Yb:=⟨0,⟨0,[]⟩,[],[],[],0⟩
theorem Y11u {n :Yb} (h:Y1y n) {now:Int} (hn:Y28 now=true) (s:ByteArray):Y1y (Y4i n now s).1:=by
 unfold Y4i
 cases (((Yz s).2 != 0)||((Yz s).1.Dst != 167903232+n.Id)) with
 | true=>exact h
 | false=>
 rw [cond_false]
 cases ((Yz s).1.Tier==4) with
 | true=>
   rw [cond_true]
   unfold Y8s
   have hk:=@Yqj (Yz s).1.Body
   generalize Y3h (Yz s).1.Body=g at*
   by_cases c:g.2=0
   case neg=>rw [show (g.2 != 0)=true from bne_iff_ne.2 c,Bool.true_or];exact h
   cases ((g.2 != 0)||(!((Yz s).1.Src==167903232+g.1.Site)||(g.1.Site==n.Id))) with
   | true=>exact h
   | false=>
     rw [cond_false]
     cases (Y6l n.Seen g.1 now).2 with
     | true=>exact ⟨h.away,h.here,h.serial,h.conf,h.id,h.hs,Y11t h.view (hk c) hn,h.cache⟩
     | false=>exact h
 | false=>
 rw [cond_false]
 cases (!(Y1z n.Id (Yz s).1).2) with
 | true=>exact h
 | false=>
 rw [cond_false]
 have hof:=@Yhw (Y1z n.Id (Yz s).1).1
 generalize ofF (Y1z n.Id (Yz s).1).1=w at*
 by_cases k:w.2.2=0
 case neg=>rw [show (w.2.2 != 0)=true from bne_iff_ne.2 k];exact h
 obtain ⟨f1,f2⟩:=hof k
 rw [show (w.2.2 != 0)=false by rw [k];rfl,cond_false]
 have hfit:=fun q=>Yjw (now:=now) (spill:=((Yz s).1.Tier==2)) h f1 q
 generalize Y6r n now w.1 ((Yz s).1.Tier==2)=e at*
 cases he:e.2 with
 | false=>exact h
 | true=>
 have hx:=hfit he
 rw [Bool.not_true,cond_false]
 unfold Y80
 split
 · exact h
 · dsimp only
   have hmem:∀ y∈(Y7r n.Flows (Y7s e.1 w.2.1.Flags now)).1,y∈n.Flows∨y=Y7s e.1 w.2.1.Flags now:=fun y hy=>Yqd hy
   refine ⟨fun y hy ha=> ?_,fun y hy ha=> ?_,h.serial,h.conf,h.id,h.hs,h.view,Yxm h.cache (Yiz hx.ok hn)⟩
   · rcases hmem y hy with q | rfl
     · exact h.away y q ha
     · exact hx.away ha
   · rcases hmem y hy with q | rfl
     · exact h.here y q ha
     · exact hx.here ha
theorem Yez (n :Yb) (now:Int) (s:ByteArray):(Y4i n now s).1.Id=n.Id∧(Y4i n now s).1.Config=n.Config∧(Y4i n now s).1.Health=n.Health∧(Y4i n now s).1.Serial=n.Serial:=by
 unfold Y4i Y8s
 cases (((Yz s).2 != 0)||((Yz s).1.Dst != 167903232+n.Id)) with
 | true=>exact ⟨rfl,rfl,rfl,rfl⟩
 | false=>
 cases ((Yz s).1.Tier==4) with
 | true=>
   rw [cond_false,cond_true]
   cases (((Y3h (Yz s).1.Body).2 != 0)||(!((Yz s).1.Src==167903232+(Y3h (Yz s).1.Body).1.Site)||((Y3h (Yz s).1.Body).1.Site==n.Id))) with
   | true=>exact ⟨rfl,rfl,rfl,rfl⟩
   | false=>cases (Y6l n.Seen (Y3h (Yz s).1.Body).1 now).2 <;> exact ⟨rfl,rfl,rfl,rfl⟩
 | false=>
 cases (!(Y1z n.Id (Yz s).1).2) with
 | true=>exact ⟨rfl,rfl,rfl,rfl⟩
 | false=>
 cases ((ofF (Y1z n.Id (Yz s).1).1).2.2 != 0) with
 | true=>exact ⟨rfl,rfl,rfl,rfl⟩
 | false=>
 cases (!(Y6r n now (ofF (Y1z n.Id (Yz s).1).1).1 ((Yz s).1.Tier==2)).2) <;> exact ⟨rfl,rfl,rfl,rfl⟩
def Y6m (n :Yb):Yb× Yq:=(⟨n.Id,n.Config,n.Health,n.Seen,n.Flows,(n.Serial+1) % 65536⟩,⟨n.Id,n.Serial,Ya8 n,(Y2p n.Config n.Id).Cap⟩)
theorem Ykb {n :Yb} (hb:BdN n):J52 281474976710656 n=some (if Y9k n=true then ((Y6m n).1,(Y6m n).2,0) else (zN,zR,2000)):=by
 unfold J52
 refine stB (Yc9 (by decide) n hb) ?_
 cases hk:Y9k n with
 | false=>rw [if_neg (by decide)];rfl
 | true=>
   have h:=(Y3y n).1 hk
   have s4:=((Y20 _).1 h.cache).2.2
   have hse:=h.serial
   rw [if_pos rfl]
   refine Yc (stB (Y9l _ _ _) (stB (Yqe (by decide) n (by omega)) (stB (Yoc (by decide) h) (Yx ?_))))
   rw [w64 (n:=n.Serial+1) (by omega) (by omega),Int.tmod_eq_emod_of_nonneg (by omega)]
   rfl
end Go.Proofs.YtpdcnikdoikldaaGreatDoor.Pu
namespace Go.Proofs.YtpdcnikdoikldaaGreatDoor.Pu
open Go Go.RowKit Go.Proofs.YtpdcnikdoikldaaGreatDoor.Sv Go.Proofs.YtpdcnikdoikldaaGreatDoor.Lf
end Go.Proofs.YtpdcnikdoikldaaGreatDoor.Pu
namespace Go.Proofs.YtpdcnikdoikldaaGreatDoor.Pu
open Go Go.RowKit Go.Proofs.YtpdcnikdoikldaaGreatDoor.Sv Go.Proofs.YtpdcnikdoikldaaGreatDoor.Lf
theorem Ye0 {s :Yg} (h:Y3n s=true):(∀ b∈s.Backs,0≤b.Weight∧b.Weight≤16)∧(0≤s.Weight∧s.Weight≤16)∧(0≤s.Cap∧s.Cap≤8)∧s.Backs.length≤4:=by
 unfold Y3n Y6b at h
 simp only [Bool.and_eq_true,List.all_eq_true,decide_eq_true_eq] at h
 obtain ⟨h1,h2,h3,h4⟩:=h
 exact ⟨h1,h2,h3,by omega⟩
end Go.Proofs.YtpdcnikdoikldaaGreatDoor.Pu
