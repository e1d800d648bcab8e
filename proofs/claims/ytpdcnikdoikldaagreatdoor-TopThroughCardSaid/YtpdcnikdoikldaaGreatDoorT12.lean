import Derived.Test.YtpdcnikdoikldaaGreatDoorT8
set_option linter.unusedVariables false
set_option linter.unusedSimpArgs false
namespace Go.Proofs.YtpdcnikdoikldaaGreatDoor.Pu
open Go Go.RowKit Go.Proofs.YtpdcnikdoikldaaGreatDoor.Sv Go.Proofs.YtpdcnikdoikldaaGreatDoor.Lf
theorem Yqv (x :Int):∃ b,J7 281474976710656 x 8=some b:=⟨_,in8 _ x⟩
theorem Y154 {v :Int} {ss:List Yf} (h:BdC ⟨v,ss⟩):∃ b,Jz 281474976710656 ⟨v,ss⟩=some b:=⟨_,Y31 (by decide) _ h⟩
theorem Y10s (a :Y1o):∃ r,J72 281474976710656 a=some r:=by
 have h4:∀ b0 b1 b2 b3 b4 b5 b6 b7 b8 b9 c0 c1 c2 c3 c4 c5 c6 c7 c8 t5 t11,∃ r,J3q 281474976710656 b0 b1 b2 b3 b4 b5 b6 b7 b8 b9 c0 c1 c2 c3 c4 c5 c6 c7 c8 t5 t11=some r:=by
   intro b0 b1 b2 b3 b4 b5 b6 b7 b8 b9 c0 c1 c2 c3 c4 c5 c6 c7 c8 t5 t11
   unfold J3q J18
   cases t11 with
   | true=>exact ⟨_,rfl⟩
   | false=>
   cases (t5==5) with
   | true=>exact ⟨_,rfl⟩
   | false=>
   cases (t5==6) with
   | true=>exact ⟨_,rfl⟩
   | false=>
   cases (t5==9) with
   | true=>exact ⟨_,rfl⟩
   | false=>
   cases (t5==4) <;> exact ⟨_,rfl⟩
 have h3:∀ b0 b1 b2 b3 b4 b5 b6 b7 b8 b9 c0 c1 c2 c3 c4 c5 c6 c7 c8 t5 t8,∃ r,J53 281474976710656 b0 b1 b2 b3 b4 b5 b6 b7 b8 b9 c0 c1 c2 c3 c4 c5 c6 c7 c8 t5 t8=some r:=by
   intro b0 b1 b2 b3 b4 b5 b6 b7 b8 b9 c0 c1 c2 c3 c4 c5 c6 c7 c8 t5 t8
   unfold J53 J52 J18
   cases t8 with
   | true=>exact ⟨_,rfl⟩
   | false=>
   cases (t5==1) with
   | true=>simp only [cond_true,cond_false];exact h4 ..
   | false=>
   cases (t5==2) with
   | true=>simp only [cond_true,cond_false];exact h4 ..
   | false=>simp only [cond_true,cond_false];exact h4 ..
 unfold J72 J52 J18
 cases (a.Kind==0) with
 | true=>exact ⟨_,rfl⟩
 | false=>
 cases (a.Kind==7) with
 | true=>simp only [cond_true,cond_false];exact h3 ..
 | false=>simp only [cond_true,cond_false];exact h3 ..
theorem Y193 {a :Y1o} (hb:BdC a.Config):∃ b,J11 281474976710656 a=some b:=by
  have h3:∀ b0 b1 b2 b3 b4 b5 b6 b7 t4 t5 t6 t7,∃ b,J1j 281474976710656 b0 b1 b2 b3 b4 b5 b6 b7 a.Config.Version a.Config.Sites t4 t5 t6 t7=some b:=by
    intro b0 b1 b2 b3 b4 b5 b6 b7 t4 t5 t6 t7
    obtain ⟨c,hc⟩:=Y154 (v:=a.Config.Version) (ss:=a.Config.Sites) hb
    unfold J1j J1i
    cases t4 with
    | false=>exact ⟨_,rfl⟩
    | true=>
    cases t5 with
    | false=>exact ⟨_,rfl⟩
    | true=>
    cases t6 with
    | false=>exact ⟨_,rfl⟩
    | true=>
    cases t7 with
    | false=>exact ⟨_,rfl⟩
    | true=>
    cases decide ((b7.size:Int)<=512) with
    | false=>exact ⟨_,rfl⟩
    | true=>exact ⟨c,Ym (Ym (Ym (Ym (Ym (stB hc rfl)))))⟩
  have h2:∀ b0 b1 b2 b3 b4 b5 b6 b7 t4 t5 t6,∃ b,J3r 281474976710656 b0 b1 b2 b3 b4 b5 b6 b7 a.Config.Version a.Config.Sites t4 t5 t6=some b:=by
    intro b0 b1 b2 b3 b4 b5 b6 b7 t4 t5 t6
    obtain ⟨x2,e2⟩:=Yqv b2
    obtain ⟨x3,e3⟩:=Yqv b3
    obtain ⟨x4,e4⟩:=Yqv b4
    unfold J3r
    cases x2 with
    | false=>
      obtain ⟨b,hb⟩:=h3 b0 b1 b2 b3 b4 b5 b6 b7 t4 t5 t6 false
      exact ⟨b,stB e2 hb⟩
    | true=>
    cases x3 with
    | false=>
      obtain ⟨b,hb⟩:=h3 b0 b1 b2 b3 b4 b5 b6 b7 t4 t5 t6 false
      exact ⟨b,stB e2 (Ym (stB e3 hb))⟩
    | true=>
    cases x4 with
    | false=>
      obtain ⟨b,hb⟩:=h3 b0 b1 b2 b3 b4 b5 b6 b7 t4 t5 t6 false
      exact ⟨b,stB e2 (Ym (stB e3 (Ym (stB e4 hb))))⟩
    | true=>
    by_cases q:b5>=0
    . obtain ⟨b,hb⟩:=h3 b0 b1 b2 b3 b4 b5 b6 b7 t4 t5 t6 (decide (b5< 32))
      exact ⟨b,stB e2 (Ym (stB e3 (Ym (stB e4 (Ym (Yj q hb))))))⟩
    . obtain ⟨b,hb⟩:=h3 b0 b1 b2 b3 b4 b5 b6 b7 t4 t5 t6 false
      exact ⟨b,stB e2 (Ym (stB e3 (Ym (stB e4 (Ym (Yt q hb))))))⟩
  have h1:∀ b0 b1 b2 b3 b4 b5 b6 b7 t4 t5,∃ b,Jr 281474976710656 b0 b1 b2 b3 b4 b5 b6 b7 a.Config.Version a.Config.Sites t4 t5=some b:=by
    intro b0 b1 b2 b3 b4 b5 b6 b7 t4 t5
    unfold Jr
    by_cases q:b1>=0
    . obtain ⟨b,hb⟩:=h2 b0 b1 b2 b3 b4 b5 b6 b7 t4 t5 (decide (b1<=2))
      exact ⟨b,Yj q hb⟩
    . obtain ⟨b,hb⟩:=h2 b0 b1 b2 b3 b4 b5 b6 b7 t4 t5 false
      exact ⟨b,Yt q hb⟩
  obtain ⟨r,hr⟩:=Y10s a
  unfold J11
  have go:∃ b,(via ((bOr .i64 (bOr .i64 r.1.Role r.1.Site) r.1.Node):Int) fun v2=>
 bif ((bOr .i64 (bOr .i64 v2 r.1.To) r.1.At)==0) then
  bif (!r.1.Good) then
   bif (r.1.Text.toList==ByteArray.empty.toList) then
    bif (r.1.Config.Version==0) then
     Jr 281474976710656 a.Kind a.Role a.Site a.Node a.To a.At a.Good a.Text a.Config.Version a.Config.Sites r.2 ((r.1.Config.Sites.length:Int)==0)
    else
     Jr 281474976710656 a.Kind a.Role a.Site a.Node a.To a.At a.Good a.Text a.Config.Version a.Config.Sites r.2 false
   else
    Jr 281474976710656 a.Kind a.Role a.Site a.Node a.To a.At a.Good a.Text a.Config.Version a.Config.Sites r.2 false
  else
   Jr 281474976710656 a.Kind a.Role a.Site a.Node a.To a.At a.Good a.Text a.Config.Version a.Config.Sites r.2 false
 else
  Jr 281474976710656 a.Kind a.Role a.Site a.Node a.To a.At a.Good a.Text a.Config.Version a.Config.Sites r.2 false)=some b:=by
    show ∃ b,(bif ((bOr .i64 (bOr .i64 (bOr .i64 (bOr .i64 r.1.Role r.1.Site) r.1.Node) r.1.To) r.1.At)==0) then _ else _)=some b
    cases ((bOr .i64 (bOr .i64 (bOr .i64 (bOr .i64 r.1.Role r.1.Site) r.1.Node) r.1.To) r.1.At)==0) with
    | false=>exact h1 ..
    | true=>
    cases (!r.1.Good) with
    | false=>exact h1 ..
    | true=>
    cases (r.1.Text.toList==ByteArray.empty.toList) with
    | false=>exact h1 ..
    | true=>
    cases (r.1.Config.Version==0) with
    | false=>exact h1 ..
    | true=>exact h1 ..
  obtain ⟨b,hb⟩:=go
  exact ⟨b,stB hr hb⟩
def Yar (a :Y1o):Bool:=(J11 281474976710656 a).getD false
theorem Y194 {a :Y1o} (hb:BdC a.Config):J11 281474976710656 a=some (Yar a):=by
 obtain ⟨b,h⟩:=Y193 hb
 unfold Yar
 rw [h]
 rfl
def Yfz (w :J1) (f:J0):J1:=⟨f,w.net_,w.trace_,w.got_⟩
def Y5f (w :J1) (n:J6):J1:=⟨w.fabric_,n,w.trace_,w.got_⟩
def repW (w :J1) (i:Int):Int× J1:=
 ((Y6h w.fabric_ i).2.1,if (Y6h w.fabric_ i).2.1=0 then Y5q w (Y6h w.fabric_ i).2.2 1 i 0 (Y6h w.fabric_ i).1 else Yfz w (Y6h w.fabric_ i).2.2)
def doW (w :J1) (a:Y1o):Int× J1:=
 bif !(Yar a) then (2500,w)
 else if a.Kind=0 then Y5c w a.Role a.Site a.Node a.Text
 else if a.Kind=1 then Y7c w a.At
 else if a.Kind=2 then ((Y5d w.net_.row_ a.At).2.1,Y5f w (Y5d w.net_.row_ a.At).2.2)
 else if a.Kind=3 then ((Y6p w.net_.row_ a.At).1,Y5f w (Y6p w.net_.row_ a.At).2)
 else if a.Kind=4 then (0,⟨(Ybd w.fabric_).1,w.net_,Y9t w.trace_ (Ybd w.fabric_).2,w.got_⟩)
 else if a.Kind=5 then ((Ycd w.fabric_ a.Role a.Site a.Node a.To a.Good).1,Yfz w (Ycd w.fabric_ a.Role a.Site a.Node a.To a.Good).2)
 else if a.Kind=6 then repW w a.Site
 else if a.Kind=7\/a.Kind=8 then ((Ykn w.fabric_ a.Role a.Site a.Node (a.Kind==8)).1,Yfz w (Ykn w.fabric_ a.Role a.Site a.Node (a.Kind==8)).2)
 else if a.Kind=9 then ((Yfy w.fabric_ a.Config).2.1,Yfz w (Yfy w.fabric_ a.Config).2.2)
 else (0,w)
theorem Ydm {w :J1} (hw:WOk w) {f:J0} (hf:Y1q f):WOk (Yfz w f):=⟨hf,hw.net,hw.pk,hw.tr,hw.gt⟩
theorem Y10t (row :List ByteArray) (s:ByteArray):(Y9r row s).2.row_=row\/(row.length< 32/\(Y9r row s).2.row_=row++[s]):=by
 unfold Y9r
 split
 . rename_i c;exact .inr ⟨c,rfl⟩
 . exact .inl rfl
theorem Yjg {w :J1} (hw:WOk w) (a:Y1o):WOk (doW w a).2:=by
 unfold doW
 cases (!(Yar a)) with
 | true=>exact hw
 | false=>
 rw [cond_false]
 split
 . exact Yfb hw ..
 split
 . exact Yro hw _
 split
 . refine ⟨hw.fab,?_,?_,hw.tr,hw.gt⟩
   . show (Y5d w.net_.row_ a.At).2.2.row_.length<=32
     unfold Y5d
     split
     . exact Nat.le_trans (Ysw _ _) hw.net
     . exact hw.net
   . show ∀ x∈(Y5d w.net_.row_ a.At).2.2.row_,_
     unfold Y5d
     split
     . exact fun x hx=>hw.pk x (Ysv hx)
     . exact hw.pk
 split
 . have h:((Y6p w.net_.row_ a.At).2.row_=w.net_.row_)\/(w.net_.row_.length< 32/\(∃ s∈w.net_.row_,(Y6p w.net_.row_ a.At).2.row_=w.net_.row_++[s])):=by
     unfold Y6p
     split
     . rename_i c
       rcases Y10t w.net_.row_ (w.net_.row_.getD a.At.toNat default) with h | ⟨h1,h2⟩
       . exact .inl h
       . exact .inr ⟨h1,_,Y3t (by omega),h2⟩
     . exact .inl rfl
   refine ⟨hw.fab,?_,?_,hw.tr,hw.gt⟩
   . show (Y6p w.net_.row_ a.At).2.row_.length<=32
     rcases h with h | ⟨h1,s,_,h2⟩
     . rw [h];exact hw.net
     . rw [h2,List.length_append,List.length_singleton];omega
   . show ∀ x∈(Y6p w.net_.row_ a.At).2.row_,_
     rcases h with h | ⟨h1,s,hs,h2⟩
     . rw [h];exact hw.pk
     . rw [h2]
       intro x hx
       rcases List.mem_append.1 hx with hx | hx
       . exact hw.pk x hx
       . rw [List.mem_singleton.1 hx];exact hw.pk s hs
 split
 . have h:=Yqr hw.fab
   exact ⟨h.2.1,hw.net,hw.pk,Yfa _ hw.tr,hw.gt⟩
 split
 . exact Ydm hw (Y10r hw.fab ..)
 split
 . show WOk (if (Y6h w.fabric_ a.Site).2.1=0 then Y5q w (Y6h w.fabric_ a.Site).2.2 1 a.Site 0 (Y6h w.fabric_ a.Site).1 else Yfz w (Y6h w.fabric_ a.Site).2.2)
   split
   . exact Ylr hw (Yt0 hw.fab _) _ _ _ (Yt1 ..)
   . exact Ydm hw (Yt0 hw.fab _)
 split
 . exact Ydm hw (Y190 hw.fab ..)
 split
 . exact Ydm hw (Y153 hw.fab _)
 . exact hw
theorem Ymk {w :J1} (hw:WOk w) {a:Y1o} (hb:BdC a.Config):Jo 281474976710656 w a=some (doW w a):=by
 have hrow:=Nat.le_trans hw.net (show 32<=1000 by decide)
 unfold Jo Jy doW
 refine stB (Y194 hb) ?_
 cases (!(Yar a)) with
 | true=>rfl
 | false=>
 refine Yk ?_
 rw [cond_false]
 by_cases k0:a.Kind=0
 . rw [if_pos k0];exact Yr k0 (stB (Yls hw ..) rfl)
 rw [if_neg k0];refine Yo k0 ?_
 by_cases k1:a.Kind=1
 . rw [if_pos k1];exact Yr k1 (stB (Yrp hw _) rfl)
 rw [if_neg k1];refine Yo k1 ?_
 by_cases k2:a.Kind=2
 . rw [if_pos k2];exact Yr k2 (stB (Yjd hrow _) rfl)
 rw [if_neg k2];refine Yo k2 ?_
 by_cases k3:a.Kind=3
 . rw [if_pos k3];exact Yr k3 (stB (Yvv hrow _) rfl)
 rw [if_neg k3];refine Yo k3 ?_
 by_cases k4:a.Kind=4
 . rw [if_pos k4]
   have h:=Yqr hw.fab
   unfold Jc5
   exact Yr k4 (stB (stB h.1 (stB (Y94 _ _ hw.tr (Nat.le_trans h.2.2 (by decide))) rfl)) rfl)
 rw [if_neg k4];refine Yo k4 ?_
 by_cases k5:a.Kind=5
 . rw [if_pos k5];exact Yr k5 (stB (Y10q hw.fab ..) rfl)
 rw [if_neg k5];refine Yo k5 ?_
 by_cases k6:a.Kind=6
 . rw [if_pos k6]
   refine Yr k6 (stB (x:=repW w a.Site) ?_ rfl)
   unfold Jc6 Ja0 repW
   refine stB (Y18z hw.fab _) ?_
   by_cases z:(Y6h w.fabric_ a.Site).2.1=0
   . rw [if_pos z]
     exact Yr z (stB (Ylq hw (Y6h w.fabric_ a.Site).2.2 1 a.Site 0 (Yt1 ..)) rfl)
   . rw [if_neg z]
     exact Yo z rfl
 rw [if_neg k6];refine Yo k6 ?_
 have hset:=Y191 hw.fab a.Role a.Site a.Node (a.Kind==8)
 unfold Ja1 Jy
 by_cases k7:a.Kind=7
 . rw [if_pos (.inl k7)]
   exact Yr k7 (Ym (stB hset rfl))
 refine Yo k7 ?_
 by_cases k8:a.Kind=8
 . rw [if_pos (.inr k8)]
   exact Yr k8 (stB hset rfl)
 rw [if_neg (fun h=>h.elim k7 k8)]
 refine Yo k8 ?_
 by_cases k9:a.Kind=9
 . rw [if_pos k9];exact Yr k9 (stB (Y152 hw.fab hb) rfl)
 rw [if_neg k9]
 exact Yo k9 rfl
end Go.Proofs.YtpdcnikdoikldaaGreatDoor.Pu
namespace Go.Proofs.YtpdcnikdoikldaaGreatDoor.Pu
open Go Go.RowKit Go.Proofs.YtpdcnikdoikldaaGreatDoor.Sv Go.Proofs.YtpdcnikdoikldaaGreatDoor.Lf
def runL (w :J1):List Y1o->J1
 | []=>w
 | a :: qs=>runL (doW w a).2 qs
theorem Yt3 :∀ (qs:List Y1o) {w:J1},WOk w->WOk (runL w qs)
 | [],_,h=>h
 | a :: qs,_,h=>Yt3 qs (Yjg h a)
theorem Y16y {c :Y7} (h:Y19 c=true):WOk (w0 c):=by
 refine ⟨⟨Yja h (by decide),Yja h (by decide),rfl,rfl,(Y4e _).1 (Ydj h (by decide)),(Y4e _).1 (Ydj h (by decide)),(Y4e _).1 (Ydj h (by decide)),rfl,rfl,rfl,rfl,h⟩,?_,fun x hx=>(by cases hx),?_,?_⟩ <;> exact Nat.zero_le _
theorem Y156 (qs :List Y1o) (hb:∀ a∈qs,BdC a.Config) (hl:qs.length<=140737488355328) (m:Nat) (hm:m<=1000):∀ (d fuel i:Nat) (w:J1),m=i+d->d< fuel->WOk w->
   J3i 281474976710656 fuel qs (m:Int) w (i:Int)=some (runL w ((qs.drop i).take d),false):=by
 intro d
 induction d with
 | zero=>
   intro fuel i w hi hf hw
   obtain ⟨fuel,rfl⟩:∃ f,fuel=f+1:=⟨fuel - 1,by omega⟩
   rw [J3i,List.take_zero]
   unfold J6p
   rw [decide_eq_false (show ¬ (i:Int)< (m:Int) by omega)]
   cases decide ((i:Int)< (qs.length:Int)) <;> rfl
 | succ d ih=>
   intro fuel i w hi hf hw
   obtain ⟨fuel,rfl⟩:∃ f,fuel=f+1:=⟨fuel - 1,by omega⟩
   rw [J3i]
   unfold J6p
   by_cases c:i< qs.length
   . rw [Y2w c,List.take_succ_cons,Int.toNat_natCast,w64 (n:=(i:Int)+1) (by omega) (by omega)]
     refine Yj (show (i:Int)< (qs.length:Int) by omega) (Yj (show (i:Int)< (m:Int) by omega) (Yb (by omega) (stB (Ymk hw (hb _ (Y3t c))) ?_)))
     exact ih fuel (i+1) (doW w (qs.getD i default)).2 (by omega) (by omega) (Yjg hw _)
   . rw [List.drop_of_length_le (by omega),List.take_nil]
     exact Yt (show ¬ (i:Int)< (qs.length:Int) by omega) rfl
def Ykp (c :Y7) (qs:List Y1o):J1:=runL (w0 c) (qs.take 50)
theorem Y195 {c :Y7} (h:Y19 c=true) (qs:List Y1o):WOk (Ykp c qs):=Yt3 _ (Y16y h)
theorem Y1ej {c :Y7} (hc:BdC c) {qs:List Y1o} (hb:∀ a∈qs,BdC a.Config) (hl:qs.length<=140737488355328):J15 281474976710656 c qs 50=some (if Y19 c=true then (Ykp c qs,false) else (default,true)):=by
 have hw:=Yrl c hc
 unfold J15
 cases h:Y19 c with
 | false=>rw [h] at hw;exact stB hw (Ym (stB rfl (Y25 (show ¬ (2500:Int)=0 by decide) rfl)))
 | true=>
   rw [h] at hw
   have hr:=Y156 qs hb hl 50 (by decide) 50 281474976710656 0 (w0 c) rfl (by decide) (Y16y h)
   rw [List.drop_zero] at hr
   exact stB hw (Yk (stB rfl (Y1p rfl hr)))
theorem Yjh (N :Nat) (hs:List ByteArray) (hl:hs.length<=100000):J4t N hs=some hs:=by
 unfold J4t Ja2 Jc7
 by_cases c:hs.length=0
 . rw [if_pos c,List.eq_nil_of_length_eq_zero c]
 . rw [if_neg c]
   exact Yb c (Yb (Y33 (by decide) (by omega)) rfl)
theorem netV {w :J1} (hw:WOk w):J14 281474976710656 w=some (w.net_.row_,w):=by
 unfold J14 Jc8
 exact stB (stB (Yjh _ _ (Nat.le_trans hw.net (by decide))) rfl) rfl
theorem gotV {w :J1} (hw:WOk w):J1e 281474976710656 w=some (w.got_,w):=by
 unfold J1e
 exact stB (Yjh _ _ (Nat.le_trans hw.gt (by decide))) rfl
theorem Yqw {w :J1} (hw:WOk w):Jv 281474976710656 w=some (w.trace_,w):=Y14q w hw.tr
abbrev Yml :Y1o:=⟨2,0,0,0,0,0,false,ByteArray.empty,⟨0,[]⟩⟩
abbrev Yqx :Y1o:=⟨1,0,0,0,0,0,false,ByteArray.empty,⟨0,[]⟩⟩
theorem bd0 :BdC ⟨0,[]⟩:=⟨by decide,fun y hy=>by cases hy⟩
theorem Y159 :Yar Yml=true:=by
 have h:J11 281474976710656 Yml=some true:=by decide +kernel
 unfold Yar;rw [h];rfl
theorem Y196 :Yar Yqx=true:=by
 have h:J11 281474976710656 Yqx=some true:=by decide +kernel
 unfold Yar;rw [h];rfl
theorem Y197 (w :J1):(doW w Yml).2=Y5f w ⟨w.net_.row_.drop 1⟩:=by
 unfold doW
 rw [Y159,Bool.not_true,cond_false,if_neg (by decide),if_neg (by decide),if_pos rfl]
 show Y5f w (Y5d w.net_.row_ 0).2.2=_
 unfold Y5d
 cases h:w.net_.row_ with
 | nil=>rfl
 | cons x xs=>rw [if_pos ⟨by decide,by rw [List.length_cons];omega⟩];rfl
def Ymm :Nat->J1->J1
 | 0,w=>w
 | n+1,w=>Ymm n (doW w Yml).2
theorem Yqy :∀ (n:Nat) (w:J1),Ymm n w=Y5f w ⟨w.net_.row_.drop n⟩
 | 0,w=>rfl
 | n+1,w=>by
   rw [Ymm,Yqy n,Y197]
   show Y5f w ⟨(w.net_.row_.drop 1).drop n⟩=_
   rw [List.drop_drop,Nat.add_comm]
def Yji (w :J1):J1:=Y5f w ⟨[]⟩
theorem Y95 {w :J1} (hw:WOk w):WOk (Yji w):=⟨hw.fab,Nat.zero_le _,(fun x hx=>by cases hx),hw.tr,hw.gt⟩
theorem Yqz :∀ (d fuel i:Nat) (w:J1),32=i+d->d< fuel->WOk w->J4q 281474976710656 fuel w (i:Int)=some (Ymm d w):=by
 intro d
 induction d with
 | zero=>
   intro fuel i w hi hf hw
   obtain ⟨fuel,rfl⟩:∃ f,fuel=f+1:=⟨fuel - 1,by omega⟩
   rw [J4q]
   exact Yt (by omega) rfl
 | succ d ih=>
   intro fuel i w hi hf hw
   obtain ⟨fuel,rfl⟩:∃ f,fuel=f+1:=⟨fuel - 1,by omega⟩
   rw [J4q,w64 (n:=(i:Int)+1) (by omega) (by omega)]
   exact Yj (by omega) (stB (Ymk hw bd0) (ih fuel (i+1) _ (by omega) (by omega) (Yjg hw _)))
theorem Yw1 {w :J1} (hw:WOk w):J6k 281474976710656 w=some (Yji w):=by
 have h:=Yqz 32 281474976710656 0 w rfl (by decide) hw
 rw [Yqy,List.drop_of_length_le hw.net] at h
 exact h
def Yjj (w :J1):J1:=match w.net_.row_ with
 | []=>w
 | x :: xs=>Y6q (Y5f w ⟨xs⟩) x
theorem Y1ek (w :J1):(doW w Yqx).2=Yjj w:=by
 unfold doW
 rw [Y196,Bool.not_true,cond_false,if_neg (by decide),if_pos rfl]
 show (Y7c w 0).2=_
 unfold Y7c Yjj
 obtain ⟨f,⟨row⟩,tr,gt⟩:=w
 cases row with
 | nil=>rfl
 | cons x xs=>rw [if_pos ⟨by decide,by show (0:Int)< (((x :: xs).length:Nat):Int);rw [List.length_cons];omega⟩];rfl
def Yjk :Nat->J1->J1
 | 0,w=>w
 | n+1,w=>match w.net_.row_ with
   | []=>w
   | _ :: _=>Yjk n (Yjj w)
end Go.Proofs.YtpdcnikdoikldaaGreatDoor.Pu
namespace Go.Proofs.YtpdcnikdoikldaaGreatDoor.Pu
open Go Go.RowKit Go.Proofs.YtpdcnikdoikldaaGreatDoor.Sv Go.Proofs.YtpdcnikdoikldaaGreatDoor.Lf
theorem Y1el {c :Y7} (hc:BdC c) {qs:List Y1o} (hb:∀ a∈qs,BdC a.Config) (hl:qs.length<=140737488355328) {K:J1× Bool->Option Bool} (h:Y19 c=true->WOk (Ykp c qs)->K (Ykp c qs,false)=some true):
   ((J2d 281474976710656).bind fun v1=>bif (!v1) then some false else (J15 281474976710656 c qs 50).bind fun v2=>bif v2.2 then (J1o 281474976710656 c).bind fun v3=>some (!v3) else K v2)=some true:=by
 have hr:=Y1ej hc hb hl
 refine stB Y1ea (Yi ?_)
 cases k:Y19 c with
 | false=>
   rw [k] at hr
   refine stB hr (Ym (stB (Y14r (by decide) c) ?_))
   rw [k];rfl
 | true=>
   rw [k] at hr
   exact stB hr (Yk (h k (Y195 k qs)))
theorem Y1em {qs :List Y1o} (h:∀ y∈qs,Yka y):∀ a∈qs,BdC a.Config:=fun a ha=>⟨(h a ha).2.1,fun y hy=>((h a ha).2.2 y hy).1⟩
theorem Y1en {c :Y7} (h:Y9k c):BdC c:=⟨h.1,fun y hy=>(h.2 y hy).1⟩
theorem Y198 {n :Int} (hn:n=0\/n=1) {t:ByteArray} (ht:t.size<=512):Yar (inj 0 0 n t)=true:=by
 unfold Yar
 rw [Y1e9 n hn t ht]
 rfl
theorem Y1eo (w :J1) {n:Int} (hn:n=0\/n=1) {t:ByteArray} (ht:t.size<=512):doW w (inj 0 0 n t)=(0,Y5q w (Y2s w.fabric_ 0 0 n t).2 0 0 n (Y2s w.fabric_ 0 0 n t).1):=by
 unfold doW
 rw [Y198 hn ht,Bool.not_true,cond_false,if_pos rfl]
 unfold Y5c
 rw [Yjb (.inl ⟨rfl,rfl,hn⟩)]
 rfl
end Go.Proofs.YtpdcnikdoikldaaGreatDoor.Pu
namespace Go.Proofs.YtpdcnikdoikldaaGreatDoor.Pu
open Go Go.RowKit Go.Proofs.YtpdcnikdoikldaaGreatDoor.Sv Go.Proofs.YtpdcnikdoikldaaGreatDoor.Lf
inductive Ydn (t :J2):List Y1->Prop
 | nil:Ydn t []
 | one {k to:Int} {f:Y9}:k≠0->k≠11->Ydn t [evT t k to f]
inductive Ybr (t :J2):List Y1->Prop
 | emit {to:Int} {f:Y9}:Ybr t [evT t 0 to f]
 | evict {to go:Int} {f g:Y9}:Ybr t [evT t 11 go g,evT t 0 to f]
theorem Ylv (c :Int):Yf1 c≠0/\Yf1 c≠11:=by
 unfold Yf1
 split
 . decide
 . split <;> decide
theorem Y3y (t :J2) {k:Int} (f:Y9) (h:k≠0/\k≠11):Ydn t (Y45 t k f).Events:=.one h.1 h.2
theorem Y96 (t :J2) (o:Yv) (fl:List Y0) (x:Y0) (flags now:Int):
   (324< o.Body.size/\(Y53 t o fl x flags now).2=Y45 t 6 x.Flow)\/(o.Body.size<=324/\(Y53 t o fl x flags now).2.Sent=[Y17 o]/\Ybr t (Y53 t o fl x flags now).2.Events):=by
 unfold Y53
 split
 . rename_i c;exact .inl ⟨c,rfl⟩
 . rename_i c
   refine .inr ⟨by omega,rfl,?_⟩
   dsimp only
   cases (Y86 fl (Y87 x flags now)).2.2.1 with
   | true=>exact .evict
   | false=>exact .emit
theorem Y10u {e :Yq} (h:Y2u e) {now:Int} (hn:Y20 now=true) (s:ByteArray):
   ((Y34 e now s).2.Sent=[]/\Ydn (tE e) (Y34 e now s).2.Events)\/
   (∃ x,(Y34 e now s).2.Sent=[Y17 (Yai e x s)]/\Y3h (Yai e x s)=true/\s.size<=324/\(0<=x.To/\x.To< 3)/\(ofF s).2.2=0/\Ybr (tE e) (Y34 e now s).2.Events):=by
 unfold Y34
 by_cases hc:(ofF s).2.2=0
 case neg=>
   rw [show ((ofF s).2.2 != 0)=true from bne_iff_ne.2 hc]
   exact .inl ⟨rfl,Y3y _ _ (Ylv _)⟩
 obtain ⟨f1,f2⟩:=Y8z hc
 rw [show ((ofF s).2.2 != 0)=false by rw [hc];rfl,cond_false]
 have hfit:=fun q=>Ybc (now:=now) h f1 q
 generalize Y5o e now (ofF s).1=x at*
 cases he:x.2 with
 | false=>exact .inl ⟨rfl,Y3y _ _ (by decide)⟩
 | true=>
   have hx:=hfit he
   rw [Bool.not_true,cond_false]
   dsimp only
   rcases Y96 (tE e) (Yai e x.1 s) e.Flows x.1 (ofF s).2.1.Flags now with ⟨a,b⟩ | ⟨a,b,c⟩
   . rw [b];exact .inl ⟨rfl,Y3y _ _ (by decide)⟩
   . exact .inr ⟨x.1,b,Yqc h hx (Yqd hc),a,hx.to_,hc,c⟩
theorem Yw2 {n :Ya} {e:Y0} (h:Y93 n e true=true):e.Away=false:=by
 unfold Y93 at h
 cases ha:e.Away with
 | false=>rfl
 | true=>rw [ha] at h;cases h
theorem Ylw {n :Ya} (now:Int) (f:Y9) (hp:(Y3i n now f true).2=true):(Y3i n now f true).1.Away=false:=by
 unfold Y3i at hp ⊢
 cases hq:(Y2n n.Flows f now).2&&Y93 n (Y2n n.Flows f now).1 true with
 | true=>
   rw [Bool.and_eq_true] at hq
   exact Yw2 hq.2
 | false=>rfl
theorem Y10v {n :Ya} (h:Y1y n) {now:Int} (hn:Y20 now=true) (s:ByteArray):
   ((Y2o n now s).2.Sent=[]/\Ydn (tN n) (Y2o n now s).2.Events)\/
   (∃ (e:Y0) (i:ByteArray),(Y2o n now s).2.Sent=[Y17 (Y3f n.Id e s i)]/\Y3h (Y3f n.Id e s i)=true/\(Y3f n.Id e s i).Body.size<=324/\Yj8 n (ofF i).1 e/\0<=e.To/\
     ((Yp s).1.Tier=2->e.Away=false)/\(Yp s).2=0/\Y1c n.Id (Yp s).1=(i,true)/\(ofF i).2.2=0/\Ybr (tN n) (Y2o n now s).2.Events):=by
 have hpm:=@Yh9 s
 unfold Y2o
 cases c1:(((Yp s).2 != 0)||((Yp s).1.Dst != 167903232+n.Id)) with
 | true=>exact .inl ⟨rfl,Y3y _ _ (by decide)⟩
 | false=>
 rw [Bool.or_eq_false_iff,bne_eq_false_iff_eq,bne_eq_false_iff_eq] at c1
 obtain ⟨hm,hs,hz⟩:=hpm c1.1
 rw [cond_false]
 cases ((Yp s).1.Tier==4) with
 | true=>
   rw [cond_true]
   unfold Y8t
   cases (((Y2y (Yp s).1.Body).2 != 0)||(!((Yp s).1.Src==167903232+(Y2y (Yp s).1.Body).1.Site)||((Y2y (Yp s).1.Body).1.Site==n.Id))) with
   | true=>exact .inl ⟨rfl,Y3y _ _ (by decide)⟩
   | false=>
     cases (Y6n n.Seen (Y2y (Yp s).1.Body).1 now).2 with
     | true=>exact .inl ⟨rfl,.one (by decide) (by decide)⟩
     | false=>exact .inl ⟨rfl,.nil⟩
 | false=>
 rw [cond_false]
 have hiz:=Yg9 (id:=n.Id) (Y5k hm).2.2.2.2.2.2
 cases hi:Y1c n.Id (Yp s).1 with
 | mk i b=>
 rw [hi] at hiz
 cases b with
 | false=>exact .inl ⟨rfl,Y3y _ _ (by decide)⟩
 | true=>
 rw [Bool.not_true,cond_false]
 dsimp only at hiz ⊢
 have hof:=@Y8z i
 by_cases k:(ofF i).2.2=0
 case neg=>
   rw [show ((ofF i).2.2 != 0)=true from bne_iff_ne.2 k]
   exact .inl ⟨rfl,Y3y _ _ (Ylv _)⟩
 obtain ⟨f1,f2⟩:=hof k
 rw [show ((ofF i).2.2 != 0)=false by rw [k];rfl,cond_false]
 have hfit:=fun q=>Ybb (now:=now) (spill:=((Yp s).1.Tier==2)) h f1 q
 have hsp:(Y3i n now (ofF i).1 ((Yp s).1.Tier==2)).2=true->(Yp s).1.Tier=2->(Y3i n now (ofF i).1 ((Yp s).1.Tier==2)).1.Away=false:=by
   intro q t
   rw [show ((Yp s).1.Tier==2)=true from beq_iff_eq.2 t] at q ⊢
   exact Ylw now _ q
 generalize Y3i n now (ofF i).1 ((Yp s).1.Tier==2)=e at*
 cases he:e.2 with
 | false=>exact .inl ⟨rfl,Y3y _ _ (by decide)⟩
 | true=>
 have hx:=hfit he
 rw [Bool.not_true,cond_false]
 dsimp only
 rcases Y96 (tN n) (Y3f n.Id e.1 s i) n.Flows e.1 (ofF i).2.1.Flags now with ⟨a,b⟩ | ⟨a,b,c⟩
 . rw [b];exact .inl ⟨rfl,Y3y _ _ (by decide)⟩
 . exact .inr ⟨e.1,i,b,Yf6 h hx (by omega) hiz,a,hx,(Y3x hx.ok).2.1.1,hsp he,c1.1,rfl,k,c⟩
theorem Ydo {f :J0} {r s i:Int} (h:upF f r s i=false) (t:ByteArray):Y2s f r s i t=(Y45 ⟨r,s,i⟩ 9 zF,f):=by unfold Y2s;rw [h];rfl
theorem Yw3 {f :J0} {s i:Int} (h:upF f 0 s i=true) (t:ByteArray):Y2s f 0 s i t=((Y34 (eAt f.edges_ i).it_ f.now_ t).2,setE f i (Y34 (eAt f.edges_ i).it_ f.now_ t).1):=by unfold Y2s;rw [h];rfl
theorem Yw4 {f :J0} {s i:Int} (h:upF f 1 s i=true) (t:ByteArray):Y2s f 1 s i t=((Y2o (sAt f.sites_ s).it_ f.now_ t).2,setS f s (Y2o (sAt f.sites_ s).it_ f.now_ t).1):=by unfold Y2s;rw [h];rfl
theorem Yw5 {f :J0} {s i:Int} (h:upF f 2 s i=true) (t:ByteArray):Y2s f 2 s i t=(bif !((Y4f s i t).1.toList==ByteArray.empty.toList) then ⟨[(Y4f s i t).1],(Y4f s i t).2.Events⟩ else (Y4f s i t).2,f):=by unfold Y2s;rw [h];rfl
theorem Ylx {o :Yv} (h:Y3h o=true) (hz:o.Body.size<=324):(Y1b (Y17 o)).1.Dst=o.Dst:=by
 unfold Y17
 rw [Yse (Ylb h hz)]
 rfl
theorem Yjl {w :J1} (hnet:w.net_.row_=[]) (f:J0) {r:Int} (hr:r≠2) (s i:Int) {o:Y1e} (hs:o.Sent=[]\/∃ x,o.Sent=[x]) (h:w.trace_.length+o.Events.length<=4096):Y5q w f r s i o=⟨f,⟨o.Sent⟩,w.trace_++o.Events,w.got_⟩:=by
 unfold Y5q
 rw [if_neg hr,Yjc h,hnet]
 rcases hs with hs | ⟨x,hs⟩ <;> rw [hs] <;> rfl
theorem Yw6 (w :J1) (f:J0) (s i:Int) {o:Y1e} (h:w.trace_.length+o.Events.length<=4096):Y5q w f 2 s i o=⟨f,w.net_,w.trace_++o.Events,w.got_++o.Sent.take (4096 - w.got_.length)⟩:=by
 unfold Y5q
 rw [if_pos rfl,Yjc h]
theorem Yt4 {f :J0} (hf:Y1q f) {r s i:Int} (h:Y41 r s i=true) (hr:r≠2) (t:ByteArray):(Y2s f r s i t).1.Sent=[]\/∃ x,(Y2s f r s i t).1.Sent=[x]:=by
 unfold Y2s
 cases hu:upF f r s i with
 | false=>exact .inl rfl
 | true=>
 rw [Bool.not_true,cond_false]
 rcases Y6g h with ⟨rfl,rfl,k⟩ | ⟨rfl,k,rfl⟩ | ⟨rfl,k1,k2⟩
 . rw [if_pos rfl]
   rcases Y10u (hf.eAt k).1 hf.now t with q | ⟨x,q,_⟩
   . exact .inl q.1
   . exact .inr ⟨_,q⟩
 . rw [if_neg (by decide),if_pos rfl]
   rcases Y10v (hf.sAt k).1 hf.now t with q | ⟨x,i,q,_⟩
   . exact .inl q.1
   . exact .inr ⟨_,q⟩
 . exact absurd rfl hr
theorem Y10w {w :J1} (hw:WOk w) (hnet:w.net_.row_=[]) (ht:w.trace_.length+2<=4096) {o:Yv} (h:Y3h o=true) (hz:o.Body.size<=324) {j:Int} (hj:j=0\/j=1\/j=2) (hd:o.Dst=167903232+j):
   Y6q w (Y17 o)=⟨(Y2s w.fabric_ 1 j 0 (Y17 o)).2,⟨(Y2s w.fabric_ 1 j 0 (Y17 o)).1.Sent⟩,w.trace_++(Y2s w.fabric_ 1 j 0 (Y17 o)).1.Events,w.got_⟩:=by
 have hb:=Yjb (.inr (.inl ⟨rfl,hj,rfl⟩):Has 1 j 0)
 have hsm:=Yao w.fabric_ 1 j 0 (Y17 o)
 unfold Y6q Y5c
 rw [Ylx h hz,hd,Yql (by omega)]
 dsimp only
 rw [hb]
 have:=hsm.ev
 exact Yjl hnet _ (r:=1) (by decide) j 0 (Yt4 hw.fab hb (by decide) (Y17 o)) (by omega)
theorem whoB {id b :Int} (h:0<=id/\id< 3) (hb:0<=b/\b< 4):Y22 (167968768+256*id+b)=(2,id,b,true):=by
 unfold Y22
 rw [if_neg (by omega),if_neg (by omega),if_pos (by omega),show (167968768+256*id+b - 167968768) / 256=id by omega,show (167968768+256*id+b - 167968768) % 256=b by omega]
theorem Y10x {w :J1} (hw:WOk w) (ht:w.trace_.length+2<=4096) {o:Yv} (h:Y3h o=true) (hz:o.Body.size<=324) {j b:Int} (hj:j=0\/j=1\/j=2) (hb:b=0\/b=1\/b=2\/b=3) (hd:o.Dst=167968768+256*j+b):
   Y6q w (Y17 o)=⟨(Y2s w.fabric_ 2 j b (Y17 o)).2,w.net_,w.trace_++(Y2s w.fabric_ 2 j b (Y17 o)).1.Events,w.got_++(Y2s w.fabric_ 2 j b (Y17 o)).1.Sent.take (4096 - w.got_.length)⟩:=by
 have hh:=Yjb (.inr (.inr ⟨rfl,hj,hb⟩):Has 2 j b)
 have hsm:=Yao w.fabric_ 2 j b (Y17 o)
 unfold Y6q Y5c
 rw [Ylx h hz,hd,whoB (by omega) (by omega)]
 dsimp only
 rw [hh]
 have:=hsm.ev
 exact Yw6 w _ j b (by omega)
end Go.Proofs.YtpdcnikdoikldaaGreatDoor.Pu
namespace Go.Proofs.YtpdcnikdoikldaaGreatDoor.Pu
open Go Go.RowKit Go.Proofs.YtpdcnikdoikldaaGreatDoor.Sv Go.Proofs.YtpdcnikdoikldaaGreatDoor.Lf
def Ends (n :Nat) (w:J1) (W:List Y1->Nat->Prop):Prop:=∃ ev m f sent,W ev m/\Yjk n w=⟨f,⟨[]⟩,w.trace_++ev,w.got_++sent⟩/\sent.length=m
theorem Ydn.len {t :J2} {l:List Y1} (h:Ydn t l):l.length<=1:=by cases h <;> first | exact Nat.zero_le _ | exact Nat.le_refl 1
theorem Ybr.len {t :J2} {l:List Y1} (h:Ybr t l):l.length<=2:=by
 cases h
 . exact (show (1:Nat)<=2 by decide)
 . exact Nat.le_refl 2
theorem Ends.step {n :Nat} {w w':J1} {ev:List Y1} (h1:Yjk (n+1) w=Yjk n w') (h2:w'.trace_=w.trace_++ev) (h3:w'.got_=w.got_) {W W':List Y1->Nat->Prop} (h:Ends n w' W) (hW:∀ e m,W e m->W' (ev++e) m):Ends (n+1) w W':=by
 obtain ⟨e,m,f,sent,k1,k2,k3⟩:=h
 exact ⟨ev++e,m,f,sent,hW e m k1,by rw [h1,k2,h2,h3,List.append_assoc],k3⟩
end Go.Proofs.YtpdcnikdoikldaaGreatDoor.Pu
namespace Go.Proofs.YtpdcnikdoikldaaGreatDoor.Pu
open Go Go.RowKit Go.Proofs.YtpdcnikdoikldaaGreatDoor.Sv Go.Proofs.YtpdcnikdoikldaaGreatDoor.Lf
section
variable {id was : Int} {sites : List Int} {Y6m : Int} {pre post : List Y1} {e : Y1} {k : Nat} (hl : (pre ++ e :: post).length <= 5000)
include hl
end
theorem Y10y {id was :Int} {sites:List Int} {Y6m:Int} {l:List Y1} {k:Nat} (hs:sites.length<=2) (hb:Y6m<=1):Jp 281474976710656 (k+1) id was l sites Y6m (l.length:Int)=some true:=by
 rw [Jp]
 unfold J9v
 refine Yt (by omega) (Yj (by omega) ?_)
 rw [decide_eq_true hb]
def Y16z (id was :Int) (a b:List Y1) (s1:List Int) (n1:Int) (l2:List Y1) (s2:List Int) (n2:Int):Prop:=
 ∃ m,m<=10/\∀ k,Jp 281474976710656 (k+m) id was (a++(b++l2)) s1 n1 (a.length:Int)=Jp 281474976710656 k id was ((a++b)++l2) s2 n2 ((a++b).length:Int)
def Fine (id was :Int) (pre ev:List Y1) (ss:List Int):Prop:=∀ k,40<=k->Jp 281474976710656 k id was (pre++ev) ss 0 (pre.length:Int)=some true
theorem Fine.of {id was :Int} {pre a b:List Y1} {s1 s2:List Int} (h:Y16z id was pre a s1 0 b s2 0) (hf:∀ k,30<=k->Jp 281474976710656 k id was ((pre++a)++b) s2 0 ((pre++a).length:Int)=some true):Fine id was pre (a++b) s1:=by
 obtain ⟨m,hm,h⟩:=h
 intro k hk
 have:=h (k - m)
 rw [Nat.sub_add_cancel (by omega)] at this
 rw [this]
 exact hf _ (by omega)
def Yjm (n :Nat) (id was:Int) (pre ev:List Y1) (ss:List Int):Prop:=∀ k,n<=k->Jp 281474976710656 k id was (pre++ev) ss 0 (pre.length:Int)=some true
theorem Yjm.of {n :Nat} {id was:Int} {pre a b:List Y1} {s1 s2:List Int} (h:Y16z id was pre a s1 0 b s2 0) (hf:Yjm n id was (pre++a) b s2):Yjm (n+10) id was pre (a++b) s1:=by
 obtain ⟨m,hm,h⟩:=h
 intro k hk
 have:=h (k - m)
 rw [Nat.sub_add_cancel (by omega)] at this
 rw [this]
 exact hf _ (by omega)
theorem Yjm.nil {id was :Int} {pre:List Y1} {ss:List Int} (hs:ss.length<=2):Yjm 1 id was pre [] ss:=by
 intro k hk
 obtain ⟨k,rfl⟩:∃ f,k=f+1:=⟨k - 1,by omega⟩
 rw [List.append_nil]
 exact Y10y hs (by decide)
end Go.Proofs.YtpdcnikdoikldaaGreatDoor.Pu
namespace Go.Proofs.YtpdcnikdoikldaaGreatDoor.Pu
open Go Go.RowKit Go.Proofs.YtpdcnikdoikldaaGreatDoor.Sv Go.Proofs.YtpdcnikdoikldaaGreatDoor.Lf
structure Say (s :ByteArray):Prop where
 cls:(ofF s).2.2=0
 sm:s.size<=200
theorem Say.ne {s :ByteArray} (h:Say s):(s.toList==ByteArray.empty.toList)=false:=by
 rw [Y80,decide_eq_false]
 rintro rfl
 have:=h.cls
 revert this
 decide +kernel
theorem Y199 (i flags :Int) (body:ByteArray):Say (Yki i flags body):=by
 have h1:=Y1e5 i flags body
 have h2:=Y14g i flags body
 exact ⟨by rw [h1],by omega⟩
theorem Y15b {e :Yq} (h:Y2u e) {now:Int} (hn:Y20 now=true) {s:ByteArray} (hs:Say s):
   (Y34 e now s=(e,Y45 (tE e) 5 (ofF s).1))\/(∃ x,(Y34 e now s).2.Sent=[Y17 (Yai e x s)]/\(0<=x.To/\x.To< 3)/\Ybr (tE e) (Y34 e now s).2.Events):=by
 have hc:=hs.cls
 obtain ⟨f1,f2⟩:=Y8z hc
 unfold Y34
 rw [show ((ofF s).2.2 != 0)=false by rw [hc];rfl,cond_false]
 have hfit:=fun q=>Ybc (now:=now) h f1 q
 generalize Y5o e now (ofF s).1=x at*
 cases he:x.2 with
 | false=>exact .inl rfl
 | true=>
   have hx:=hfit he
   rw [Bool.not_true,cond_false]
   dsimp only
   rcases Y96 (tE e) (Yai e x.1 s) e.Flows x.1 (ofF s).2.1.Flags now with ⟨a,b⟩ | ⟨a,b,c⟩
   . have:=hs.sm
     exact absurd a (by show ¬ 324< s.size;omega)
   . exact .inr ⟨x.1,b,hx.to_,c⟩
theorem Yw7 {n :Ya} {now:Int} {s:ByteArray} {o:Yv} {i:ByteArray} (h1:Yp s=(o,0)) (h2:o.Dst=167903232+n.Id) (h3:o.Tier≠4) (h4:Y1c n.Id o=(i,true)) (h6:(ofF i).2.2=0) (h7:(Y3i n now (ofF i).1 (o.Tier==2)).2=false):
   Y2o n now s=(n,Y45 (tN n) 5 (ofF i).1):=by
 unfold Y2o
 rw [h1]
 dsimp only
 rw [h4,show (o.Dst != 167903232+n.Id)=false by rw [h2];simp,show (o.Tier==4)=false from beq_eq_false_iff_ne.2 h3]
 dsimp only
 rw [h6,h7]
 rfl
theorem Y15c {n :Ya} (h:Y1y n) {now:Int} (hn:Y20 now=true) {t:ByteArray} {o:Yv} (hp:Yp t=(o,0)) (hd:o.Dst=167903232+n.Id) (ht:o.Tier≠4) {s:ByteArray} (hi:Y1c n.Id o=(s,true)) (hs:Say s) (hz:t.size<=324):
   (Y2o n now t=(n,Y45 (tN n) 5 (ofF s).1)/\(Y3i n now (ofF s).1 (o.Tier==2)).2=false)\/(∃ e,Y3i n now (ofF s).1 (o.Tier==2)=(e,true)/\(Y2o n now t).2.Sent=[Y17 (Y3f n.Id e t s)]/\Y3h (Y3f n.Id e t s)=true/\Yj8 n (ofF s).1 e/\0<=e.To/\(o.Tier=2->e.Away=false)/\Ybr (tN n) (Y2o n now t).2.Events):=by
 obtain ⟨f1,f2⟩:=Y8z hs.cls
 have hsm:=hs.sm
 cases hq:(Y3i n now (ofF s).1 (o.Tier==2)).2 with
 | false=>exact .inl ⟨Yw7 hp hd ht hi hs.cls hq,rfl⟩
 | true=>
   have hx:=Ybb (now:=now) (spill:=(o.Tier==2)) h f1 hq
   have hsp:o.Tier=2->(Y3i n now (ofF s).1 (o.Tier==2)).1.Away=false:=by
     intro q
     rw [show (o.Tier==2)=true from beq_iff_eq.2 q] at hq ⊢
     exact Ylw now _ hq
   have hk:Y3i n now (ofF s).1 (o.Tier==2)=((Y3i n now (ofF s).1 (o.Tier==2)).1,true):=by rw [<- hq]
   generalize (Y3i n now (ofF s).1 (o.Tier==2)).1=e at*
   have hts:=Yvq (now:=now) hp hd ht hi rfl hs.cls hk
   have hbody:(Y3f n.Id e t s).Body.size<=324:=by
     unfold Y3f
     cases e.Away
     . show s.size<=324;omega
     . exact hz
   refine .inr ⟨e,hk,?_,Yf6 h hx (by omega) (by omega),hx,(Y3x hx.ok).2.1.1,hsp,?_⟩
   . rw [hts]
     rcases Y96 (tN n) (Y3f n.Id e t s) n.Flows e (ofF s).2.1.Flags now with ⟨a,_⟩ | ⟨_,b,_⟩
     . omega
     . exact b
   . rw [hts]
     rcases Y96 (tN n) (Y3f n.Id e t s) n.Flows e (ofF s).2.1.Flags now with ⟨a,_⟩ | ⟨_,_,c⟩
     . omega
     . exact c
def Yg0 (j b :Int) (s:ByteArray):Yv:=⟨167903232+j,167968768+256*j+b,3,0,0,s⟩
theorem Yly {j b :Int} (hj:0<=j/\j< 3) (hb:0<=b/\b< 4) {s:ByteArray} (hs:s.size<=512):Y3h (Yg0 j b s)=true:=by
 unfold Y3h Y3w Yg0
 exact decide_eq_true (by dsimp only;omega)
theorem Y15d {j b :Int} (hj:0<=j/\j< 3) (hb:0<=b/\b< 4) {s:ByteArray} (hs:Say s):Y4f j b (Y17 (Yg0 j b s))=(s,⟨[],[evT (tB j b) 1 b (ofF s).1]⟩):=by
 have hsm:=hs.sm
 have hp:=Yh0 (Yly hj hb (s:=s) (by omega)) (show s.size<=324 by omega)
 unfold Y4f
 rw [hp]
 show (bif (((0:Int) != 0)||((167968768+256*j+b != 167968768+256*j+b)||((167903232+j != 167903232+j)||(((3:Int) != 3)||(((0:Int) != 0)||((0:Int) != 0)))))) then _ else bif (ofF s).2.2 != 0 then _ else _)=_
 simp only [bne_self_eq_false,Bool.false_or,cond_false]
 rw [hs.cls]
 rfl
theorem Ylz {id :Int} {e:Y0} (h:e.Away=false) (t s:ByteArray):Y3f id e t s=Yg0 id e.To s:=by unfold Y3f;rw [h];rfl
theorem Y10z {id :Int} {e:Y0} (h:e.Away=true) (t s:ByteArray):Y3f id e t s=Y8l id e.To t:=by unfold Y3f;rw [h];rfl
theorem Y1eq {e :Yq} (h:e.Id=0) (x:Y0) (s:ByteArray):Yai e x s=Y5p x.To s:=by unfold Yai Y5p;rw [h];rfl
section
variable (s : ByteArray) (t0 g0 : Nat)
def Y9u (n :Nat) (w:J1) (st:Nat):Prop:=∀ k i:Nat,i+n< 9->J1f 281474976710656 (k+n+1) w (t0:Int) (g0:Int) s (st:Int) (i:Int)=some true
variable {s t0 g0}
theorem Y19a {w :J1} (hw:WOk w) (hn:w.net_.row_=[]) {g:List ByteArray} (hg:g.length=g0) (hgot:w.got_=g++[s]) {st:Nat} (h1:2<=st) (h2:st<=3):Y9u s t0 g0 0 w st:=by
 intro k i hi
 have hlen:w.got_.length=g0+1:=by rw [hgot,List.length_append,List.length_singleton,hg]
 have hgl:=hw.gt
 rw [Nat.add_zero,J1f]
 unfold J4s J6n
 refine Yj (by omega) (stB (netV hw) ?_)
 rw [hn]
 refine Yt (show ¬ ((0:Nat):Int) > 0 by decide) (stB (gotV hw) (stB (Yqw hw) ?_))
 rw [w64 (n:=(g0:Int)+1) (by omega) (by omega)]
 refine Yr (show (w.got_.length:Int)=(g0:Int)+1 by omega) (Yb (show 0<=(g0:Int)/\(g0:Int)< ((w.got_.length:Nat):Int) by omega) ?_)
 have hget:w.got_.getD ((g0:Nat):Int).toNat default=s:=by
   rw [hgot,Int.toNat_natCast,<- hg,List.getD_eq_getElem?_getD,List.getElem?_append_right (Nat.le_refl _),Nat.sub_self]
   rfl
 show (bif ((w.got_.getD ((g0:Nat):Int).toNat default).toList==s.toList) then _ else _)=_
 rw [hget,tlB]
 refine Ym (Yj (by omega) ?_)
 rw [decide_eq_true (by omega)]
theorem Yg1 {w :J1} (hw:WOk w) (hn:w.net_.row_=[]) (hg:w.got_.length=g0) {l:List Y1} {e:Y1} (ht:w.trace_=l++[e]) (hl:t0<=l.length) (he:e.Kind=5\/e.Kind=9) (st:Nat):Y9u s t0 g0 0 w st:=by
 intro k i hi
 have hlen:w.trace_.length=l.length+1:=by rw [ht,List.length_append,List.length_singleton]
 have hgl:=hw.gt;have htl:=hw.tr
 rw [Nat.add_zero,J1f]
 unfold J4s J9x J9w
 refine Yj (by omega) (stB (netV hw) ?_)
 rw [hn]
 refine Yt (show ¬ ((0:Nat):Int) > 0 by decide) (stB (gotV hw) (stB (Yqw hw) ?_))
 rw [w64 (n:=(g0:Int)+1) (by omega) (by omega)]
 refine Yo (show ¬ (w.got_.length:Int)=(g0:Int)+1 by omega) (Y1p (show (w.got_.length:Int)=(g0:Int) by omega) ?_)
 rw [decide_eq_false (show ¬ (w.trace_.length:Int)<=(t0:Int) by omega)]
 refine Yk ?_
 have hget:w.trace_.getD ((w.trace_.length:Int) - 1).toNat default=e:=by
   rw [show ((w.trace_.length:Int) - 1).toNat=l.length by omega,ht,List.getD_eq_getElem?_getD,List.getElem?_append_right (Nat.le_refl _),Nat.sub_self]
   rfl
 show (if 0<=IntKind.i64.wrap ((w.trace_.length:Int) - 1)/\IntKind.i64.wrap ((w.trace_.length:Int) - 1)< ((w.trace_.length:Nat):Int) then _ else none)=_
 rw [w64 (n:=(w.trace_.length:Int) - 1) (by omega) (by omega)]
 refine Yb (by omega) (Y15 ?_)
 rw [hget]
 rcases he with he | he
 . exact Yr he rfl
 . rw [he];rfl
theorem Yr0 {n :Nat} {w:J1} (hw:WOk w) {x:ByteArray} (hn:w.net_.row_=[x]) {st:Nat} (hst:st<=100) (h:Y9u s t0 g0 n (Y6q (Y5f w ⟨[]⟩) x) (st+1)):Y9u s t0 g0 (n+1) w st:=by
 intro k i hi
 rw [show k+(n+1)+1=(k+n+1)+1 by omega,J1f]
 unfold J4s
 have hdo:=Ymk hw (a:=Yqx) bd0
 have hd2:=Y1ek w
 have hl:Yjj w=Y6q (Y5f w ⟨[]⟩) x:=by unfold Yjj;rw [hn]
 refine Yj (by omega) (stB (netV hw) ?_)
 rw [hn]
 refine Yj (show (([x].length:Nat):Int) > 0 by show ((1:Nat):Int) > 0;decide) (stB hdo ?_)
 show J1f 281474976710656 (k+n+1) (doW w Yqx).2 _ _ _ _ _=_
 rw [hd2,hl,w64 (n:=(st:Int)+1) (by omega) (by omega),w64 (n:=(i:Int)+1) (by omega) (by omega)]
 exact h k (i+1) (by omega)
end
theorem Yr1 {s :ByteArray} (hs:Say s) {t0 g0:Nat} {w:J1} (hw:WOk w) {j b:Int} (hj:j=0\/j=1\/j=2) (hb:b=0\/b=1\/b=2\/b=3) (hn:w.net_.row_=[Y17 (Yg0 j b s)]) (ht:t0<=w.trace_.length/\w.trace_.length+2<=4096) (hg:w.got_.length=g0) (hg2:g0+2<=4096) {st:Nat} (h1:1<=st) (h2:st<=2):Y9u s t0 g0 1 w st:=by
 have hsm:=hs.sm
 have hm:=Yly (j:=j) (b:=b) (by omega) (by omega) (s:=s) (by omega)
 have hl:=Y10x (w:=Y5f w ⟨[]⟩) (Y95 hw) ht.2 hm (show s.size<=324 by omega) hj hb rfl
 have hwl:WOk (Y6q (Y5f w ⟨[]⟩) (Y17 (Yg0 j b s))):=Yhd (Y95 hw) _
 refine Yr0 hw hn (by omega) ?_
 rw [hl] at hwl ⊢
 have hfab:(Y5f w ⟨[]⟩).fabric_=w.fabric_:=rfl
 have hgot:(Y5f w ⟨[]⟩).got_=w.got_:=rfl
 have htr:(Y5f w ⟨[]⟩).trace_=w.trace_:=rfl
 rw [hfab,hgot,htr] at hwl ⊢
 cases hu:upF w.fabric_ 2 j b with
 | false=>
   rw [Ydo hu] at hwl ⊢
   exact Yg1 hwl rfl (by show (w.got_++[].take (4096 - w.got_.length)).length=g0;rw [List.take_nil,List.append_nil];exact hg) (l:=w.trace_) (e:=evT ⟨2,j,b⟩ 9 0 zF) rfl ht.1 (.inr rfl) _
 | true=>
   rw [Yw5 hu,Y15d (by omega) (by omega) hs] at hwl ⊢
   dsimp only at hwl ⊢
   rw [hs.ne,Bool.not_false,cond_true] at hwl ⊢
   refine Y19a hwl rfl hg ?_ (by omega) (by omega)
   show w.got_++[s].take (4096 - w.got_.length)=w.got_++[s]
   rw [List.take_of_length_le (by show 1<=_;omega)]
theorem Yr2 {t :J2} {l:List Y1} (h:Ybr t l):1<=l.length/\l.length<=2:=by
 cases h
 . exact ⟨Nat.le_refl 1,show (1:Nat)<=2 by decide⟩
 . exact ⟨show (1:Nat)<=2 by decide,Nat.le_refl 2⟩
theorem Yr3 {s :ByteArray} (hs:Say s) {t0 g0:Nat} {w:J1} (hw:WOk w) {j:Int} (hj:j=0\/j=1\/j=2) {o:Yv} (hm:Y3h o=true) (hz:o.Body.size<=288) (hd:o.Dst=167903232+j) (ho:o.Tier≠4) (hi:Y1c j o=(s,true)) (hn:w.net_.row_=[Y17 o]) (ht:t0<=w.trace_.length/\w.trace_.length+2<=4096) (hg:w.got_.length=g0) {st:Nat} (hst:st<=10) {n:Nat}
   (hnext:∀ w' e,WOk w'->w'.net_.row_=[Y17 (Y3f j e (Y17 o) s)]->(t0<=w'.trace_.length/\w'.trace_.length<=w.trace_.length+2)->w'.got_.length=g0->Y3h (Y3f j e (Y17 o) s)=true->0<=e.To->(e.Away=false->e.To< 4)->(e.Away=true->e.To< 3/\e.To≠j)->(o.Tier=2->e.Away=false)->Y9u s t0 g0 n w' (st+1)):Y9u s t0 g0 (n+1) w st:=by
 have hl:=Y10w (w:=Y5f w ⟨[]⟩) (Y95 hw) rfl ht.2 hm (by omega) hj hd
 have hwl:WOk (Y6q (Y5f w ⟨[]⟩) (Y17 o)):=Yhd (Y95 hw) _
 have hpop:=Yh0 hm (show o.Body.size<=324 by omega)
 have hps:(Y17 o).size<=324:=by rw [Y6k];omega
 refine Yr0 hw hn (by omega) ?_
 rw [hl] at hwl ⊢
 have hfab:(Y5f w ⟨[]⟩).fabric_=w.fabric_:=rfl
 have hgot:(Y5f w ⟨[]⟩).got_=w.got_:=rfl
 have htr:(Y5f w ⟨[]⟩).trace_=w.trace_:=rfl
 rw [hfab,hgot,htr] at hwl ⊢
 generalize Y17 o=t at*
 have hzero:∀ w',WOk w'->w'.net_.row_=[]->w'.got_=w.got_->∀ e,w'.trace_=w.trace_++[e]->(e.Kind=5\/e.Kind=9)->Y9u s t0 g0 n w' (st+1):=by
   intro w' q1 q2 q3 e q4 q5 k i hik
   exact Yg1 (s:=s) (t0:=t0) (g0:=g0) q1 q2 (by rw [q3];exact hg) q4 ht.1 q5 (st+1) (k+n) i (by omega)
 cases hu:upF w.fabric_ 1 j 0 with
 | false=>
   rw [Ydo hu] at hwl ⊢
   exact hzero _ hwl rfl rfl _ rfl (.inr rfl)
 | true=>
   rw [Yw4 hu] at hwl ⊢
   dsimp only at hwl ⊢
   have q:=hw.fab.sAt hj
   rcases Y15c q.1 hw.fab.now hpop (by rw [q.2];exact hd) ho (by rw [q.2];exact hi) hs hps with ⟨a,_⟩ | ⟨e,_,a,a2,a3,a4,a5,a6⟩
   . rw [a] at hwl ⊢
     exact hzero _ hwl rfl rfl _ rfl (.inl rfl)
   . rw [q.2] at a a2
     have hln:=Yr2 a6
     rw [a] at hwl ⊢
     refine hnext _ e hwl rfl ⟨?_,?_⟩ hg a2 a4 a3.here (fun z=> ?_) a5
     . show t0<=(w.trace_++_).length;rw [List.length_append];omega
     . show (w.trace_++_).length<=_;rw [List.length_append];omega
     . have:=a3.away z;rw [q.2] at this;omega
theorem TopThrough (c :Y7) (qs:List Y1o) (src:Int) (body:ByteArray) (hb:Y9k c) (hl:qs.length<=140737488355328) (hq:∀ y∈qs,Yka y) (ht:body.size<=140737488351232):Jc0 281474976710656 c qs src body=some true:=by
 unfold Jc0
 refine Y1el (Y1en hb) (Y1em hq) hl fun hc hw0=> ?_
 have hw:=Y95 hw0
 refine stB (Yw1 hw0) (stB (Yqw hw) (stB (gotV hw) ?_))
 have hnet:(Yji (Ykp c qs)).net_.row_=[]:=rfl
 generalize Yji (Ykp c qs)=w at*
 dsimp only
 unfold J9y
 by_cases k1:(w.trace_.length:Int) > 4076
 . exact Yj k1 rfl
 refine Yt k1 ?_
 by_cases k2:(w.got_.length:Int) > 4076
 . rw [decide_eq_true k2];rfl
 rw [decide_eq_false k2]
 have hs:=Y199 src 0 body
 have hsay:=Y18r src 0 body
 generalize Yki src 0 body=s at*
 have hsm:=hs.sm
 have hok:=Yjg hw (inj 0 0 0 s)
 have hdo:=Ymk hw (a:=inj 0 0 0 s) bd0
 rw [Y1eo w (.inl rfl) (by omega)] at hok hdo
 refine Yk (stB hsay (stB hdo ?_))
 have hthr:∀ n w',n<=4->Y9u s w.trace_.length w.got_.length n w' 0->J1f 281474976710656 281474976710656 w' (w.trace_.length:Int) (w.got_.length:Int) s 0 0=some true:=by
   intro n w' hn h
   have:=h (281474976710655 - n) 0 (by omega)
   rw [show 281474976710655 - n+n+1=281474976710656 by omega] at this
   exact this
 have hbh:=Yjb (.inl ⟨rfl,rfl,.inl rfl⟩:Has 0 0 0)
 have hev:=(Yao w.fabric_ 0 0 0 s).ev
 have hone:=Yt4 hw.fab hbh (by decide) s
 have hcl:=Yjl hnet (Y2s w.fabric_ 0 0 0 s).2 (r:=0) (by decide) 0 0 hone (by omega)
 dsimp only at hok ⊢
 rw [hcl] at hok ⊢
 have he:=hw.fab.eAt (i:=0) (.inl rfl)
 cases hu:upF w.fabric_ 0 0 0 with
 | false=>
   rw [Ydo hu] at hok ⊢
   exact hthr 0 _ (by decide) (Yg1 hok rfl rfl (l:=w.trace_) (e:=evT ⟨0,0,0⟩ 9 0 zF) rfl (Nat.le_refl _) (.inr rfl) 0)
 | true=>
 rw [Yw3 hu] at hok hev ⊢
 dsimp only at hok hev ⊢
 rcases Y15b he.1 hw.fab.now hs with a | ⟨x,a,a2,a3⟩
 . rw [a] at hok ⊢
   exact hthr 0 _ (by decide) (Yg1 hok rfl rfl (l:=w.trace_) (e:=evT (tE (eAt w.fabric_.edges_ 0).it_) 5 0 (ofF s).1) rfl (Nat.le_refl _) (.inl rfl) 0)
 . rw [a,Y1eq he.2] at hok ⊢
   have hln:=Yr2 a3
   generalize (Y34 (eAt w.fabric_.edges_ 0).it_ w.fabric_.now_ s).2.Events=ev at*
   have hlen:(w.trace_++ev).length<=w.trace_.length+2/\w.trace_.length<=(w.trace_++ev).length:=by rw [List.length_append];omega
   have hj:x.To=0\/x.To=1\/x.To=2:=by omega
   refine hthr 3 _ (by decide) (Yr3 hs (t0:=w.trace_.length) (g0:=w.got_.length) hok hj (Yj9 a2 (by omega)) (show s.size<=288 by omega) rfl (show ¬ (1:Int)=4 by decide) (Y10d _ _ s) rfl ⟨hlen.2,by show (w.trace_++ev).length+2<=4096;omega⟩ rfl (by decide) ?_)
   intro w1 e1 r1 r2 r3 r4 r5 r6 r7 r8 r9
   have hlen1:w1.trace_.length+4<=4096:=by have h1:w1.trace_.length<=(w.trace_++ev).length+2:=r3.2;have h2:=hlen.1;omega
   cases hw2:e1.Away with
   | false=>
     rw [Ylz hw2] at r2
     have:=r7 hw2
     have hfin:=Yr1 hs (t0:=w.trace_.length) (g0:=w.got_.length) r1 hj (by omega) r2 ⟨r3.1,by omega⟩ r4 (by omega) (st:=0+1) (by decide) (by decide)
     exact fun k i hik=>hfin (k+1) i (by omega)
   | true=>
     rw [Y10z hw2] at r2 r5
     have r8:=r8 hw2
     have hk:e1.To=0\/e1.To=1\/e1.To=2:=by omega
     have hsz:(Y17 (Y5p x.To s)).size<=288:=by rw [Y6k];show 36+s.size<=288;omega
     refine Yr3 hs (t0:=w.trace_.length) (g0:=w.got_.length) r1 hk r5 hsz rfl (show ¬ (2:Int)=4 by decide) (Yqm (by omega) (fun z=>r8.2 z.symm) _ (by omega)) r2 ⟨r3.1,by omega⟩ r4 (by decide) ?_
     intro w2 e2 q1 q2 q3 q4 q5 q6 q7 q8 q9
     have hw3:=q9 rfl
     rw [Ylz hw3] at q2
     have:=q7 hw3
     exact Yr1 hs (t0:=w.trace_.length) (g0:=w.got_.length) q1 hk (by omega) q2 ⟨q3.1,by omega⟩ q4 (by omega) (st:=0+1+1) (by decide) (by decide)
end Go.Proofs.YtpdcnikdoikldaaGreatDoor.Pu
