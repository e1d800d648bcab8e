import Derived.Test.YtpdcnikdoikldaaGreatDoorT8
set_option linter.unusedVariables false
set_option linter.unusedSimpArgs false
namespace Go.Proofs.YtpdcnikdoikldaaGreatDoor.Pu
open Go Go.RowKit Go.Proofs.YtpdcnikdoikldaaGreatDoor.Sv Go.Proofs.YtpdcnikdoikldaaGreatDoor.Lf
theorem Yor (x :Int):∃ b,J7 281474976710656 x 8=some b:=⟨_,in8 _ x⟩
theorem Y12e {v :Int} {ss:List Yg} (h:BdC ⟨v,ss⟩):∃ b,Jy 281474976710656 ⟨v,ss⟩=some b:=⟨_,Y2x (by decide) _ h⟩
theorem Yyf (a :Y1q):∃ r,J76 281474976710656 a=some r:=by
 have h4:∀ b0 b1 b2 b3 b4 b5 b6 b7 b8 b9 c0 c1 c2 c3 c4 c5 c6 c7 c8 t5 t11,∃ r,J3r 281474976710656 b0 b1 b2 b3 b4 b5 b6 b7 b8 b9 c0 c1 c2 c3 c4 c5 c6 c7 c8 t5 t11=some r:=by
   intro b0 b1 b2 b3 b4 b5 b6 b7 b8 b9 c0 c1 c2 c3 c4 c5 c6 c7 c8 t5 t11
   unfold J3r J15
   cases t11 with
   | true=>exact ⟨_,rfl⟩
   | false=>
   cases (t5==5) with
   | true=>exact ⟨_,rfl⟩
   | false=>
   cases (t5==6) with
   | true=>exact ⟨_,rfl⟩
   | false=>
   cases (t5==9) with
   | true=>exact ⟨_,rfl⟩
   | false=>
   cases (t5==4) <;> exact ⟨_,rfl⟩
 have h3:∀ b0 b1 b2 b3 b4 b5 b6 b7 b8 b9 c0 c1 c2 c3 c4 c5 c6 c7 c8 t5 t8,∃ r,J59 281474976710656 b0 b1 b2 b3 b4 b5 b6 b7 b8 b9 c0 c1 c2 c3 c4 c5 c6 c7 c8 t5 t8=some r:=by
   intro b0 b1 b2 b3 b4 b5 b6 b7 b8 b9 c0 c1 c2 c3 c4 c5 c6 c7 c8 t5 t8
   unfold J59 J58 J15
   cases t8 with
   | true=>exact ⟨_,rfl⟩
   | false=>
   cases (t5==1) with
   | true=>simp only [cond_true,cond_false];exact h4 ..
   | false=>
   cases (t5==2) with
   | true=>simp only [cond_true,cond_false];exact h4 ..
   | false=>simp only [cond_true,cond_false];exact h4 ..
 unfold J76 J58 J15
 cases (a.Kind==0) with
 | true=>exact ⟨_,rfl⟩
 | false=>
 cases (a.Kind==7) with
 | true=>simp only [cond_true,cond_false];exact h3 ..
 | false=>simp only [cond_true,cond_false];exact h3 ..
theorem Y15z {a :Y1q} (hb:BdC a.Config):∃ b,J1f 281474976710656 a=some b:=by
  have h3:∀ b0 b1 b2 b3 b4 b5 b6 b7 t4 t5 t6 t7,∃ b,J1e 281474976710656 b0 b1 b2 b3 b4 b5 b6 b7 a.Config.Version a.Config.Sites t4 t5 t6 t7=some b:=by
    intro b0 b1 b2 b3 b4 b5 b6 b7 t4 t5 t6 t7
    obtain ⟨c,hc⟩:=Y12e (v:=a.Config.Version) (ss:=a.Config.Sites) hb
    unfold J1e J1d
    cases t4 with
    | false=>exact ⟨_,rfl⟩
    | true=>
    cases t5 with
    | false=>exact ⟨_,rfl⟩
    | true=>
    cases t6 with
    | false=>exact ⟨_,rfl⟩
    | true=>
    cases t7 with
    | false=>exact ⟨_,rfl⟩
    | true=>
    cases decide ((b7.size:Int)≤512) with
    | false=>exact ⟨_,rfl⟩
    | true=>exact ⟨c,Yk (Yk (Yk (Yk (Yk (stB hc rfl)))))⟩
  have h2:∀ b0 b1 b2 b3 b4 b5 b6 b7 t4 t5 t6,∃ b,J3s 281474976710656 b0 b1 b2 b3 b4 b5 b6 b7 a.Config.Version a.Config.Sites t4 t5 t6=some b:=by
    intro b0 b1 b2 b3 b4 b5 b6 b7 t4 t5 t6
    obtain ⟨x2,e2⟩:=Yor b2
    obtain ⟨x3,e3⟩:=Yor b3
    obtain ⟨x4,e4⟩:=Yor b4
    unfold J3s
    cases x2 with
    | false=>
      obtain ⟨b,hb⟩:=h3 b0 b1 b2 b3 b4 b5 b6 b7 t4 t5 t6 false
      exact ⟨b,stB e2 hb⟩
    | true=>
    cases x3 with
    | false=>
      obtain ⟨b,hb⟩:=h3 b0 b1 b2 b3 b4 b5 b6 b7 t4 t5 t6 false
      exact ⟨b,stB e2 (Yk (stB e3 hb))⟩
    | true=>
    cases x4 with
    | false=>
      obtain ⟨b,hb⟩:=h3 b0 b1 b2 b3 b4 b5 b6 b7 t4 t5 t6 false
      exact ⟨b,stB e2 (Yk (stB e3 (Yk (stB e4 hb))))⟩
    | true=>
    by_cases q:b5≥0
    · obtain ⟨b,hb⟩:=h3 b0 b1 b2 b3 b4 b5 b6 b7 t4 t5 t6 (decide (b5< 32))
      exact ⟨b,stB e2 (Yk (stB e3 (Yk (stB e4 (Yk (Yi q hb))))))⟩
    · obtain ⟨b,hb⟩:=h3 b0 b1 b2 b3 b4 b5 b6 b7 t4 t5 t6 false
      exact ⟨b,stB e2 (Yk (stB e3 (Yk (stB e4 (Yk (Yo q hb))))))⟩
  have h1:∀ b0 b1 b2 b3 b4 b5 b6 b7 t4 t5,∃ b,Jq 281474976710656 b0 b1 b2 b3 b4 b5 b6 b7 a.Config.Version a.Config.Sites t4 t5=some b:=by
    intro b0 b1 b2 b3 b4 b5 b6 b7 t4 t5
    unfold Jq
    by_cases q:b1≥0
    · obtain ⟨b,hb⟩:=h2 b0 b1 b2 b3 b4 b5 b6 b7 t4 t5 (decide (b1≤2))
      exact ⟨b,Yi q hb⟩
    · obtain ⟨b,hb⟩:=h2 b0 b1 b2 b3 b4 b5 b6 b7 t4 t5 false
      exact ⟨b,Yo q hb⟩
  obtain ⟨r,hr⟩:=Yyf a
  unfold J1f
  have go:∃ b,(via ((bOr .i64 (bOr .i64 r.1.Role r.1.Site) r.1.Node):Int) fun v2=>
 bif ((bOr .i64 (bOr .i64 v2 r.1.To) r.1.At)==0) then
  bif (!r.1.Good) then
   bif (r.1.Text.toList==ByteArray.empty.toList) then
    bif (r.1.Config.Version==0) then
     Jq 281474976710656 a.Kind a.Role a.Site a.Node a.To a.At a.Good a.Text a.Config.Version a.Config.Sites r.2 ((r.1.Config.Sites.length:Int)==0)
    else
     Jq 281474976710656 a.Kind a.Role a.Site a.Node a.To a.At a.Good a.Text a.Config.Version a.Config.Sites r.2 false
   else
    Jq 281474976710656 a.Kind a.Role a.Site a.Node a.To a.At a.Good a.Text a.Config.Version a.Config.Sites r.2 false
  else
   Jq 281474976710656 a.Kind a.Role a.Site a.Node a.To a.At a.Good a.Text a.Config.Version a.Config.Sites r.2 false
 else
  Jq 281474976710656 a.Kind a.Role a.Site a.Node a.To a.At a.Good a.Text a.Config.Version a.Config.Sites r.2 false)=some b:=by
    show ∃ b,(bif ((bOr .i64 (bOr .i64 (bOr .i64 (bOr .i64 r.1.Role r.1.Site) r.1.Node) r.1.To) r.1.At)==0) then _ else _)=some b
    cases ((bOr .i64 (bOr .i64 (bOr .i64 (bOr .i64 r.1.Role r.1.Site) r.1.Node) r.1.To) r.1.At)==0) with
    | false=>exact h1 ..
    | true=>
    cases (!r.1.Good) with
    | false=>exact h1 ..
    | true=>
    cases (r.1.Text.toList==ByteArray.empty.toList) with
    | false=>exact h1 ..
    | true=>
    cases (r.1.Config.Version==0) with
    | false=>exact h1 ..
    | true=>exact h1 ..
  obtain ⟨b,hb⟩:=go
  exact ⟨b,stB hr hb⟩
def Yg4 (a :Y1q):Bool:=(J1f 281474976710656 a).getD false
theorem Y160 {a :Y1q} (hb:BdC a.Config):J1f 281474976710656 a=some (Yg4 a):=by
 obtain ⟨b,h⟩:=Y15z hb
 unfold Yg4
 rw [h]
 rfl
def Yes (w :J1) (f:J0):J1:=⟨f,w.net_,w.trace_,w.got_⟩
def netW (w :J1) (n:J6):J1:=⟨w.fabric_,n,w.trace_,w.got_⟩
def repW (w :J1) (i:Int):Int× J1:=
 ((Y5t w.fabric_ i).2.1,if (Y5t w.fabric_ i).2.1=0 then Y6d w (Y5t w.fabric_ i).2.2 1 i 0 (Y5t w.fabric_ i).1 else Yes w (Y5t w.fabric_ i).2.2)
def doW (w :J1) (a:Y1q):Int× J1:=
 bif !(Yg4 a) then (2500,w)
 else if a.Kind=0 then Y5s w a.Role a.Site a.Node a.Text
 else if a.Kind=1 then Y9o w a.At
 else if a.Kind=2 then ((Y61 w.net_.row_ a.At).2.1,netW w (Y61 w.net_.row_ a.At).2.2)
 else if a.Kind=3 then ((Y62 w.net_.row_ a.At).1,netW w (Y62 w.net_.row_ a.At).2)
 else if a.Kind=4 then (0,⟨(Ya9 w.fabric_).1,w.net_,Y8w w.trace_ (Ya9 w.fabric_).2,w.got_⟩)
 else if a.Kind=5 then ((Yb9 w.fabric_ a.Role a.Site a.Node a.To a.Good).1,Yes w (Yb9 w.fabric_ a.Role a.Site a.Node a.To a.Good).2)
 else if a.Kind=6 then repW w a.Site
 else if a.Kind=7∨a.Kind=8 then ((Yj3 w.fabric_ a.Role a.Site a.Node (a.Kind==8)).1,Yes w (Yj3 w.fabric_ a.Role a.Site a.Node (a.Kind==8)).2)
 else if a.Kind=9 then ((Yer w.fabric_ a.Config).2.1,Yes w (Yer w.fabric_ a.Config).2.2)
 else (0,w)
theorem Ych {w :J1} (hw:WOk w) {f:J0} (hf:Y1t f):WOk (Yes w f):=⟨hf,hw.net,hw.pk,hw.tr,hw.gt⟩
theorem Yyg (row :List ByteArray) (s:ByteArray):(Y8u row s).2.row_=row∨(row.length< 32∧(Y8u row s).2.row_=row++[s]):=by
 unfold Y8u
 split
 · rename_i c;exact .inr ⟨c,rfl⟩
 · exact .inl rfl
theorem Yos {w :J1} (hw:WOk w) (a:Y1q):WOk (doW w a).2:=by
 unfold doW
 cases (!(Yg4 a)) with
 | true=>exact hw
 | false=>
 rw [cond_false]
 split
 · exact Ye2 hw ..
 split
 · exact Ypd hw _
 split
 · refine ⟨hw.fab,?_,?_,hw.tr,hw.gt⟩
   · show (Y61 w.net_.row_ a.At).2.2.row_.length≤32
     unfold Y61
     split
     · exact Nat.le_trans (Yql _ _) hw.net
     · exact hw.net
   · show ∀ x∈(Y61 w.net_.row_ a.At).2.2.row_,_
     unfold Y61
     split
     · exact fun x hx=>hw.pk x (Yqk hx)
     · exact hw.pk
 split
 · have h:((Y62 w.net_.row_ a.At).2.row_=w.net_.row_)∨(w.net_.row_.length< 32∧(∃ s∈w.net_.row_,(Y62 w.net_.row_ a.At).2.row_=w.net_.row_++[s])):=by
     unfold Y62
     split
     · rename_i c
       rcases Yyg w.net_.row_ (w.net_.row_.getD a.At.toNat default) with h | ⟨h1,h2⟩
       · exact .inl h
       · exact .inr ⟨h1,_,Y3f (by omega),h2⟩
     · exact .inl rfl
   refine ⟨hw.fab,?_,?_,hw.tr,hw.gt⟩
   · show (Y62 w.net_.row_ a.At).2.row_.length≤32
     rcases h with h | ⟨h1,s,_,h2⟩
     · rw [h];exact hw.net
     · rw [h2,List.length_append,List.length_singleton];omega
   · show ∀ x∈(Y62 w.net_.row_ a.At).2.row_,_
     rcases h with h | ⟨h1,s,hs,h2⟩
     · rw [h];exact hw.pk
     · rw [h2]
       intro x hx
       rcases List.mem_append.1 hx with hx | hx
       · exact hw.pk x hx
       · rw [List.mem_singleton.1 hx];exact hw.pk s hs
 split
 · have h:=Yon hw.fab
   exact ⟨h.2.1,hw.net,hw.pk,Ye1 _ hw.tr,hw.gt⟩
 split
 · exact Ych hw (Yye hw.fab ..)
 split
 · show WOk (if (Y5t w.fabric_ a.Site).2.1=0 then Y6d w (Y5t w.fabric_ a.Site).2.2 1 a.Site 0 (Y5t w.fabric_ a.Site).1 else Yes w (Y5t w.fabric_ a.Site).2.2)
   split
   · exact Yk3 hw (Yqp hw.fab _) _ _ _ (Yqq ..)
   · exact Ych hw (Yqp hw.fab _)
 split
 · exact Ych hw (Y15w hw.fab ..)
 split
 · exact Ych hw (Y12d hw.fab _)
 · exact hw
theorem Y144 {w :J1} (hw:WOk w) {a:Y1q} (hb:BdC a.Config):Jo 281474976710656 w a=some (doW w a):=by
 have hrow:=Nat.le_trans hw.net (show 32≤1000 by decide)
 unfold Jo Jx doW
 refine stB (Y160 hb) ?_
 cases (!(Yg4 a)) with
 | true=>rfl
 | false=>
 refine Yj ?_
 rw [cond_false]
 by_cases k0:a.Kind=0
 · rw [if_pos k0];exact Ym k0 (stB (Yk4 hw ..) rfl)
 rw [if_neg k0];refine Yl k0 ?_
 by_cases k1:a.Kind=1
 · rw [if_pos k1];exact Ym k1 (stB (Ype hw _) rfl)
 rw [if_neg k1];refine Yl k1 ?_
 by_cases k2:a.Kind=2
 · rw [if_pos k2];exact Ym k2 (stB (Yi1 hrow _) rfl)
 rw [if_neg k2];refine Yl k2 ?_
 by_cases k3:a.Kind=3
 · rw [if_pos k3];exact Ym k3 (stB (Ytj hrow _) rfl)
 rw [if_neg k3];refine Yl k3 ?_
 by_cases k4:a.Kind=4
 · rw [if_pos k4]
   have h:=Yon hw.fab
   unfold Jc6
   exact Ym k4 (stB (stB h.1 (stB (Y88 _ _ hw.tr (Nat.le_trans h.2.2 (by decide))) rfl)) rfl)
 rw [if_neg k4];refine Yl k4 ?_
 by_cases k5:a.Kind=5
 · rw [if_pos k5];exact Ym k5 (stB (Yyd hw.fab ..) rfl)
 rw [if_neg k5];refine Yl k5 ?_
 by_cases k6:a.Kind=6
 · rw [if_pos k6]
   refine Ym k6 (stB (x:=repW w a.Site) ?_ rfl)
   unfold Jc7 Ja8 repW
   refine stB (Y15v hw.fab _) ?_
   by_cases z:(Y5t w.fabric_ a.Site).2.1=0
   · rw [if_pos z]
     exact Ym z (stB (Yk2 hw (Y5t w.fabric_ a.Site).2.2 1 a.Site 0 (Yqq ..)) rfl)
   · rw [if_neg z]
     exact Yl z rfl
 rw [if_neg k6];refine Yl k6 ?_
 have hset:=Y15x hw.fab a.Role a.Site a.Node (a.Kind==8)
 unfold Ja9 Jx
 by_cases k7:a.Kind=7
 · rw [if_pos (.inl k7)]
   exact Ym k7 (Yk (stB hset rfl))
 refine Yl k7 ?_
 by_cases k8:a.Kind=8
 · rw [if_pos (.inr k8)]
   exact Ym k8 (stB hset rfl)
 rw [if_neg (fun h=>h.elim k7 k8)]
 refine Yl k8 ?_
 by_cases k9:a.Kind=9
 · rw [if_pos k9];exact Ym k9 (stB (Y12c hw.fab hb) rfl)
 rw [if_neg k9]
 exact Yl k9 rfl
end Go.Proofs.YtpdcnikdoikldaaGreatDoor.Pu
namespace Go.Proofs.YtpdcnikdoikldaaGreatDoor.Pu
open Go Go.RowKit Go.Proofs.YtpdcnikdoikldaaGreatDoor.Sv Go.Proofs.YtpdcnikdoikldaaGreatDoor.Lf
def runL (w :J1):List Y1q→J1
 | []=>w
 | a :: qs=>runL (doW w a).2 qs
theorem Yqs :∀ (qs:List Y1q) {w:J1},WOk w→WOk (runL w qs)
 | [],_,h=>h
 | a :: qs,_,h=>Yqs qs (Yos h a)
theorem Y145 {c :Y7} (h:Y1a c=true):WOk (w0 c):=by
 refine ⟨⟨Yi0 h (by decide),Yi0 h (by decide),rfl,rfl,(Y3y _).1 (Yce h (by decide)),(Y3y _).1 (Yce h (by decide)),(Y3y _).1 (Yce h (by decide)),rfl,rfl,rfl,rfl,h⟩,?_,fun x hx=>(by cases hx),?_,?_⟩ <;> exact Nat.zero_le _
theorem Y12g (qs :List Y1q) (hb:∀ a∈qs,BdC a.Config) (hl:qs.length≤140737488355328) (m:Nat) (hm:m≤1000):∀ (d fuel i:Nat) (w:J1),m=i+d→d< fuel→WOk w→
   J3i 281474976710656 fuel qs (m:Int) w (i:Int)=some (runL w ((qs.drop i).take d),false):=by
 intro d
 induction d with
 | zero=>
   intro fuel i w hi hf hw
   obtain ⟨fuel,rfl⟩:∃ f,fuel=f+1:=⟨fuel - 1,by omega⟩
   rw [J3i,List.take_zero]
   unfold J6u
   rw [decide_eq_false (show ¬ (i:Int)< (m:Int) by omega)]
   cases decide ((i:Int)< (qs.length:Int)) <;> rfl
 | succ d ih=>
   intro fuel i w hi hf hw
   obtain ⟨fuel,rfl⟩:∃ f,fuel=f+1:=⟨fuel - 1,by omega⟩
   rw [J3i]
   unfold J6u
   by_cases c:i< qs.length
   · rw [Y2r c,List.take_succ_cons,Int.toNat_natCast,w64 (n:=(i:Int)+1) (by omega) (by omega)]
     refine Yi (show (i:Int)< (qs.length:Int) by omega) (Yi (show (i:Int)< (m:Int) by omega) (Y8 (by omega) (stB (Y144 hw (hb _ (Y3f c))) ?_)))
     exact ih fuel (i+1) (doW w (qs.getD i default)).2 (by omega) (by omega) (Yos hw _)
   · rw [List.drop_of_length_le (by omega),List.take_nil]
     exact Yo (show ¬ (i:Int)< (qs.length:Int) by omega) rfl
def Yot (c :Y7) (qs:List Y1q):J1:=runL (w0 c) (qs.take 50)
theorem Y161 {c :Y7} (h:Y1a c=true) (qs:List Y1q):WOk (Yot c qs):=Yqs _ (Y145 h)
theorem Y1bb {c :Y7} (hc:BdC c) {qs:List Y1q} (hb:∀ a∈qs,BdC a.Config) (hl:qs.length≤140737488355328):J12 281474976710656 c qs 50=some (if Y1a c=true then (Yot c qs,false) else (default,true)):=by
 have hw:=Ypa c hc
 unfold J12
 cases h:Y1a c with
 | false=>rw [h] at hw;exact stB hw (Yk (stB rfl (Y1c (show ¬ (2500:Int)=0 by decide) rfl)))
 | true=>
   rw [h] at hw
   have hr:=Y12g qs hb hl 50 (by decide) 50 281474976710656 0 (w0 c) rfl (by decide) (Y145 h)
   rw [List.drop_zero] at hr
   exact stB hw (Yj (stB rfl (Y13 rfl hr)))
theorem Ytp (N :Nat) (hs:List ByteArray) (hl:hs.length≤100000):J4z N hs=some hs:=by
 unfold J4z Jaa Jc8
 by_cases c:hs.length=0
 · rw [if_pos c,List.eq_nil_of_length_eq_zero c]
 · rw [if_neg c]
   exact Y8 c (Y8 (Y2z (by decide) (by omega)) rfl)
theorem netV {w :J1} (hw:WOk w):J11 281474976710656 w=some (w.net_.row_,w):=by
 unfold J11 Jc9
 exact stB (stB (Ytp _ _ (Nat.le_trans hw.net (by decide))) rfl) rfl
theorem Yyh {w :J1} (hw:WOk w):Ju 281474976710656 w=some (w.trace_,w):=Y11y w hw.tr
theorem Y146 {w :J1} (hw:WOk w) {i:Int} (hi:i=0∨i=1):J4x 281474976710656 w i=some ((eAt w.fabric_.edges_ i).it_,0,w):=by
 have h:=Yb8 w.fabric_ 0 0 i
 rw [Yy4 (.inl ⟨rfl,rfl,hi⟩)] at h
 unfold J4x Jca
 rcases hi with rfl | rfl
 · exact stB (stB h (Yc (Ym rfl (stB (Yfv (by decide) hw.fab.e0) rfl)))) rfl
 · exact stB (stB h (Yc (Yl (by decide) (Y8 rfl (stB (Yfv (by decide) hw.fab.e1) rfl))))) rfl
theorem bd0 :BdC ⟨0,[]⟩:=⟨by decide,fun y hy=>by cases hy⟩
end Go.Proofs.YtpdcnikdoikldaaGreatDoor.Pu
namespace Go.Proofs.YtpdcnikdoikldaaGreatDoor.Pu
open Go Go.RowKit Go.Proofs.YtpdcnikdoikldaaGreatDoor.Sv Go.Proofs.YtpdcnikdoikldaaGreatDoor.Lf
theorem Y1bd {c :Y7} (hc:BdC c) {qs:List Y1q} (hb:∀ a∈qs,BdC a.Config) (hl:qs.length≤140737488355328) {K:J1× Bool→Option Bool} (h:Y1a c=true→WOk (Yot c qs)→K (Yot c qs,false)=some true):
   ((J2a 281474976710656).bind fun v1=>bif (!v1) then some false else (J12 281474976710656 c qs 50).bind fun v2=>bif v2.2 then (J1m 281474976710656 c).bind fun v3=>some (!v3) else K v2)=some true:=by
 have hr:=Y1bb hc hb hl
 refine stB Y1b2 (Yc ?_)
 cases k:Y1a c with
 | false=>
   rw [k] at hr
   refine stB hr (Yk (stB (Y11z (by decide) c) ?_))
   rw [k];rfl
 | true=>
   rw [k] at hr
   exact stB hr (Yj (h k (Y161 k qs)))
theorem Y1be {qs :List Y1q} (h:∀ y∈qs,Yir y):∀ a∈qs,BdC a.Config:=fun a ha=>⟨(h a ha).2.1,fun y hy=>((h a ha).2.2 y hy).1⟩
theorem Y1bf {c :Y7} (h:Y8m c):BdC c:=⟨h.1,fun y hy=>(h.2 y hy).1⟩
theorem Y162 {n :Int} (hn:n=0∨n=1) {t:ByteArray} (ht:t.size≤512):Yg4 (inj 0 0 n t)=true:=by
 unfold Yg4
 rw [Y1b1 n hn t ht]
 rfl
theorem Y1bg (w :J1) {n:Int} (hn:n=0∨n=1) {t:ByteArray} (ht:t.size≤512):doW w (inj 0 0 n t)=(0,Y6d w (Y60 w.fabric_ 0 0 n t).2 0 0 n (Y60 w.fabric_ 0 0 n t).1):=by
 unfold doW
 rw [Y162 hn ht,Bool.not_true,cond_false,if_pos rfl]
 unfold Y5s
 rw [Yy4 (.inl ⟨rfl,rfl,hn⟩)]
 rfl
theorem Yyi (f :J0) (i:Int):setE f i (eAt f.edges_ i).it_=f:=by
 unfold setE eSet eAt
 by_cases h:i=0
 · rw [if_pos h,if_pos h]
 · rw [if_neg h,if_neg h]
theorem Ytq (w :J1) (f:J0) {r:Int} (hr:r≠2) (s i:Int) (ev:List Y1) (h:w.trace_.length+ev.length≤4096):Y6d w f r s i ⟨[],ev⟩=⟨f,w.net_,w.trace_++ev,w.got_⟩:=by
 unfold Y6d
 rw [if_neg hr,Yti h]
 rfl
theorem Ytr (row :List ByteArray) (hl:row.length≤1000):∀ (d fuel i:Nat),row.length=i+d→d< fuel→J3u 281474976710656 fuel row row (i:Int)=some true:=by
 intro d
 induction d with
 | zero=>
   intro fuel i hi hf
   obtain ⟨fuel,rfl⟩:∃ f,fuel=f+1:=⟨fuel - 1,by omega⟩
   rw [J3u]
   exact Yo (by omega) rfl
 | succ d ih=>
   intro fuel i hi hf
   obtain ⟨fuel,rfl⟩:∃ f,fuel=f+1:=⟨fuel - 1,by omega⟩
   rw [J3u,w64 (n:=(i:Int)+1) (by omega) (by omega)]
   refine Yi (by omega) (Y8 (by omega) (Y8 (by omega) ?_))
   rw [tlB]
   exact Yc (ih fuel (i+1) (by omega) (by omega))
theorem Yts {row :List ByteArray} (hl:row.length≤1000):J3v 281474976710656 row row=some true:=by
 unfold J3v
 exact Y13 rfl (Ytr row hl row.length 281474976710656 0 (by omega) (by omega))
theorem Y12h (f :J0) {n:Int} {t:ByteArray} (hc:(ofF t).2.2≠0):∃ k,(k=9∨k=Yc5 (ofF t).2.2)∧∃ fl,Y60 f 0 0 n t=(⟨[],[⟨k,0,0,(if k=9 then n else (eAt f.edges_ n).it_.Id),0,fl⟩]⟩,f):=by
 unfold Y60
 cases hu:upF f 0 0 n with
 | false=>exact ⟨9,.inl rfl,zF,rfl⟩
 | true=>
   rw [Bool.not_true,cond_false,if_pos rfl]
   unfold Y5c
   rw [show ((ofF t).2.2 != 0)=true from bne_iff_ne.2 hc,cond_true,Yyi]
   have hk:Yc5 (ofF t).2.2≠9:=by
     unfold Yc5
     split
     · decide
     · split <;> decide
   refine ⟨Yc5 (ofF t).2.2,.inr rfl,(ofF t).1,?_⟩
   rw [if_neg hk]
   rfl
theorem TopBad (c :Y7) (qs:List Y1q) (id:Int) (t:ByteArray) (hb:Y8m c) (hl:qs.length≤140737488355328) (hq:∀ y∈qs,Yir y) (ht:t.size≤140737488351232):Jbq 281474976710656 c qs id t=some true:=by
 unfold Jbq
 refine Y1bd (Y1bf hb) (Y1be hq) hl fun hc hw=> ?_
 generalize Yot c qs=w at*
 rw [Y13x]
 have hn:id % 2=0∨id % 2=1:=by omega
 have hnet:=hw.net
 have he:=hw.fab.eAt hn
 refine stB (Y1aw (by decide) t) (stB (Y146 hw hn) (stB (Yyh hw) (stB (netV hw) ?_)))
 dsimp only
 by_cases k:(ofF t).2.2=0
 · exact Ym k rfl
 refine Yl k ?_
 by_cases k2:(t.size:Int) > 512
 · exact Yi k2 rfl
 refine Yo k2 ?_
 by_cases k3:(w.trace_.length:Int) > 4076
 · rw [decide_eq_true k3];rfl
 rw [decide_eq_false k3]
 have hd:=Y1bg w hn (t:=t) (by omega)
 obtain ⟨ke,hke,fl,hta⟩:=Y12h w.fabric_ (n:=id % 2) k
 rw [hta,Ytq w _ (by decide) _ _ _ (by show w.trace_.length+1≤4096;omega)] at hd
 have hdo:=Y144 hw (a:=inj 0 0 (id % 2) t) bd0
 have hw':=Yos hw (inj 0 0 (id % 2) t)
 rw [hd] at hdo hw'
 dsimp only at hw'
 unfold J6q J2c Ja0
 rw [Y13x]
 refine Yj (stB hdo (stB (Y146 hw' hn) (stB (Yyh hw') (stB rfl (Y13 rfl (stB rfl (Y13 rfl (stB rfl (Y13 rfl ?_)))))))))
 generalize hev:(⟨ke,0,0,(if ke=9 then id % 2 else (eAt w.fabric_.edges_ (id % 2)).it_.Id),0,fl⟩:Y1)=ev at*
 have hkev:ev.Kind=ke:=by rw [← hev]
 dsimp only
 rw [w64 (n:=(w.trace_.length:Int)+1) (by omega) (by omega)]
 have hlen:(w.trace_++[ev]).length=w.trace_.length+1:=by rw [List.length_append,List.length_singleton]
 have hget:(w.trace_++[ev]).getD ((w.trace_.length:Nat):Int).toNat default=ev:=by
   rw [Int.toNat_natCast,List.getD_eq_getElem?_getD,List.getElem?_append_right (Nat.le_refl _),Nat.sub_self]
   rfl
 refine Y13 (by omega) (stB (Yp5 (by decide) he.1) (Yc (stB (netV hw') (stB (Yts (Nat.le_trans hnet (by decide))) (Yj (Y8 (by omega) ?_))))))
 rw [hget,hkev]
 rcases hke with h9 | h9
 · exact Ym h9 rfl
 · by_cases z:ke=9
   · exact Ym z rfl
   refine Yl z ?_
   obtain ⟨c1,_⟩:=Yxb t
   refine Y8 (by show 0≤(ofF t).2.2∧(ofF t).2.2< ((4:Nat):Int);omega) ?_
   rw [h9]
   rcases c1 with c1 | c1 | c1 | c1
   · exact absurd c1 k
   · rw [c1];rfl
   · rw [c1];rfl
   · rw [c1];rfl
end Go.Proofs.YtpdcnikdoikldaaGreatDoor.Pu
