import Derived.Test.YtpdcnikdoikldaaGreatDoorT8
set_option linter.unusedVariables false
set_option linter.unusedSimpArgs false
namespace Go.Proofs.YtpdcnikdoikldaaGreatDoor.Pu
open Go Go.RowKit Go.Proofs.YtpdcnikdoikldaaGreatDoor.Sv Go.Proofs.YtpdcnikdoikldaaGreatDoor.Lf
theorem Ypn (x :Int):∃ b,J8 281474976710656 x 8=some b:=⟨_,in8 _ x⟩
theorem Y133 {v :Int} {ss:List Yf} (h:BdC ⟨v,ss⟩):∃ b,Jy 281474976710656 ⟨v,ss⟩=some b:=⟨_,Y3h (by decide) _ h⟩
theorem Yyy (a :Y1l):∃ r,J6u 281474976710656 a=some r:=by
 have h4:∀ b0 b1 b2 b3 b4 b5 b6 b7 b8 b9 c0 c1 c2 c3 c4 c5 c6 c7 c8 t5 t11,∃ r,J3p 281474976710656 b0 b1 b2 b3 b4 b5 b6 b7 b8 b9 c0 c1 c2 c3 c4 c5 c6 c7 c8 t5 t11=some r:=by
   intro b0 b1 b2 b3 b4 b5 b6 b7 b8 b9 c0 c1 c2 c3 c4 c5 c6 c7 c8 t5 t11
   unfold J3p J15
   cases t11 with
   | true=>exact ⟨_,rfl⟩
   | false=>
   cases (t5==5) with
   | true=>exact ⟨_,rfl⟩
   | false=>
   cases (t5==6) with
   | true=>exact ⟨_,rfl⟩
   | false=>
   cases (t5==9) with
   | true=>exact ⟨_,rfl⟩
   | false=>
   cases (t5==4) <;> exact ⟨_,rfl⟩
 have h3:∀ b0 b1 b2 b3 b4 b5 b6 b7 b8 b9 c0 c1 c2 c3 c4 c5 c6 c7 c8 t5 t8,∃ r,J4x 281474976710656 b0 b1 b2 b3 b4 b5 b6 b7 b8 b9 c0 c1 c2 c3 c4 c5 c6 c7 c8 t5 t8=some r:=by
   intro b0 b1 b2 b3 b4 b5 b6 b7 b8 b9 c0 c1 c2 c3 c4 c5 c6 c7 c8 t5 t8
   unfold J4x J4w J15
   cases t8 with
   | true=>exact ⟨_,rfl⟩
   | false=>
   cases (t5==1) with
   | true=>simp only [cond_true,cond_false];exact h4 ..
   | false=>
   cases (t5==2) with
   | true=>simp only [cond_true,cond_false];exact h4 ..
   | false=>simp only [cond_true,cond_false];exact h4 ..
 unfold J6u J4w J15
 cases (a.Kind==0) with
 | true=>exact ⟨_,rfl⟩
 | false=>
 cases (a.Kind==7) with
 | true=>simp only [cond_true,cond_false];exact h3 ..
 | false=>simp only [cond_true,cond_false];exact h3 ..
theorem Y16t {a :Y1l} (hb:BdC a.Config):∃ b,J1e 281474976710656 a=some b:=by
  have h3:∀ b0 b1 b2 b3 b4 b5 b6 b7 t4 t5 t6 t7,∃ b,J1r 281474976710656 b0 b1 b2 b3 b4 b5 b6 b7 a.Config.Version a.Config.Sites t4 t5 t6 t7=some b:=by
    intro b0 b1 b2 b3 b4 b5 b6 b7 t4 t5 t6 t7
    obtain ⟨c,hc⟩:=Y133 (v:=a.Config.Version) (ss:=a.Config.Sites) hb
    unfold J1r J1q
    cases t4 with
    | false=>exact ⟨_,rfl⟩
    | true=>
    cases t5 with
    | false=>exact ⟨_,rfl⟩
    | true=>
    cases t6 with
    | false=>exact ⟨_,rfl⟩
    | true=>
    cases t7 with
    | false=>exact ⟨_,rfl⟩
    | true=>
    cases decide ((b7.size:Int)<=512) with
    | false=>exact ⟨_,rfl⟩
    | true=>exact ⟨c,Yq (Yq (Yq (Yq (Yq (stB hc rfl)))))⟩
  have h2:∀ b0 b1 b2 b3 b4 b5 b6 b7 t4 t5 t6,∃ b,J4y 281474976710656 b0 b1 b2 b3 b4 b5 b6 b7 a.Config.Version a.Config.Sites t4 t5 t6=some b:=by
    intro b0 b1 b2 b3 b4 b5 b6 b7 t4 t5 t6
    obtain ⟨x2,e2⟩:=Ypn b2
    obtain ⟨x3,e3⟩:=Ypn b3
    obtain ⟨x4,e4⟩:=Ypn b4
    unfold J4y
    cases x2 with
    | false=>
      obtain ⟨b,hb⟩:=h3 b0 b1 b2 b3 b4 b5 b6 b7 t4 t5 t6 false
      exact ⟨b,stB e2 hb⟩
    | true=>
    cases x3 with
    | false=>
      obtain ⟨b,hb⟩:=h3 b0 b1 b2 b3 b4 b5 b6 b7 t4 t5 t6 false
      exact ⟨b,stB e2 (Yq (stB e3 hb))⟩
    | true=>
    cases x4 with
    | false=>
      obtain ⟨b,hb⟩:=h3 b0 b1 b2 b3 b4 b5 b6 b7 t4 t5 t6 false
      exact ⟨b,stB e2 (Yq (stB e3 (Yq (stB e4 hb))))⟩
    | true=>
    by_cases q:b5>=0
    . obtain ⟨b,hb⟩:=h3 b0 b1 b2 b3 b4 b5 b6 b7 t4 t5 t6 (decide (b5< 32))
      exact ⟨b,stB e2 (Yq (stB e3 (Yq (stB e4 (Yq (Ym q hb))))))⟩
    . obtain ⟨b,hb⟩:=h3 b0 b1 b2 b3 b4 b5 b6 b7 t4 t5 t6 false
      exact ⟨b,stB e2 (Yq (stB e3 (Yq (stB e4 (Yq (Yu q hb))))))⟩
  have h1:∀ b0 b1 b2 b3 b4 b5 b6 b7 t4 t5,∃ b,Js 281474976710656 b0 b1 b2 b3 b4 b5 b6 b7 a.Config.Version a.Config.Sites t4 t5=some b:=by
    intro b0 b1 b2 b3 b4 b5 b6 b7 t4 t5
    unfold Js
    by_cases q:b1>=0
    . obtain ⟨b,hb⟩:=h2 b0 b1 b2 b3 b4 b5 b6 b7 t4 t5 (decide (b1<=2))
      exact ⟨b,Ym q hb⟩
    . obtain ⟨b,hb⟩:=h2 b0 b1 b2 b3 b4 b5 b6 b7 t4 t5 false
      exact ⟨b,Yu q hb⟩
  obtain ⟨r,hr⟩:=Yyy a
  unfold J1e
  have go:∃ b,(via ((bOr .i64 (bOr .i64 r.1.Role r.1.Site) r.1.Node):Int) fun v2=>
 bif ((bOr .i64 (bOr .i64 v2 r.1.To) r.1.At)==0) then
  bif (!r.1.Good) then
   bif (r.1.Text.toList==ByteArray.empty.toList) then
    bif (r.1.Config.Version==0) then
     Js 281474976710656 a.Kind a.Role a.Site a.Node a.To a.At a.Good a.Text a.Config.Version a.Config.Sites r.2 ((r.1.Config.Sites.length:Int)==0)
    else
     Js 281474976710656 a.Kind a.Role a.Site a.Node a.To a.At a.Good a.Text a.Config.Version a.Config.Sites r.2 false
   else
    Js 281474976710656 a.Kind a.Role a.Site a.Node a.To a.At a.Good a.Text a.Config.Version a.Config.Sites r.2 false
  else
   Js 281474976710656 a.Kind a.Role a.Site a.Node a.To a.At a.Good a.Text a.Config.Version a.Config.Sites r.2 false
 else
  Js 281474976710656 a.Kind a.Role a.Site a.Node a.To a.At a.Good a.Text a.Config.Version a.Config.Sites r.2 false)=some b:=by
    show ∃ b,(bif ((bOr .i64 (bOr .i64 (bOr .i64 (bOr .i64 r.1.Role r.1.Site) r.1.Node) r.1.To) r.1.At)==0) then _ else _)=some b
    cases ((bOr .i64 (bOr .i64 (bOr .i64 (bOr .i64 r.1.Role r.1.Site) r.1.Node) r.1.To) r.1.At)==0) with
    | false=>exact h1 ..
    | true=>
    cases (!r.1.Good) with
    | false=>exact h1 ..
    | true=>
    cases (r.1.Text.toList==ByteArray.empty.toList) with
    | false=>exact h1 ..
    | true=>
    cases (r.1.Config.Version==0) with
    | false=>exact h1 ..
    | true=>exact h1 ..
  obtain ⟨b,hb⟩:=go
  exact ⟨b,stB hr hb⟩
def Yb1 (a :Y1l):Bool:=(J1e 281474976710656 a).getD false
theorem Y16u {a :Y1l} (hb:BdC a.Config):J1e 281474976710656 a=some (Yb1 a):=by
 obtain ⟨b,h⟩:=Y16t hb
 unfold Yb1
 rw [h]
 rfl
def Yfb (w :J1) (f:J0):J1:=⟨f,w.net_,w.trace_,w.got_⟩
def Y7w (w :J1) (n:J6):J1:=⟨w.fabric_,n,w.trace_,w.got_⟩
def repW (w :J1) (i:Int):Int× J1:=
 ((Y69 w.fabric_ i).2.1,if (Y69 w.fabric_ i).2.1=0 then Y3k w (Y69 w.fabric_ i).2.2 1 i 0 (Y69 w.fabric_ i).1 else Yfb w (Y69 w.fabric_ i).2.2)
def doW (w :J1) (a:Y1l):Int× J1:=
 bif !(Yb1 a) then (2500,w)
 else if a.Kind=0 then Y4z w a.Role a.Site a.Node a.Text
 else if a.Kind=1 then Y74 w a.At
 else if a.Kind=2 then ((Y50 w.net_.row_ a.At).2.1,Y7w w (Y50 w.net_.row_ a.At).2.2)
 else if a.Kind=3 then ((Y6f w.net_.row_ a.At).1,Y7w w (Y6f w.net_.row_ a.At).2)
 else if a.Kind=4 then (0,⟨(Yan w.fabric_).1,w.net_,Y99 w.trace_ (Yan w.fabric_).2,w.got_⟩)
 else if a.Kind=5 then ((Ybn w.fabric_ a.Role a.Site a.Node a.To a.Good).1,Yfb w (Ybn w.fabric_ a.Role a.Site a.Node a.To a.Good).2)
 else if a.Kind=6 then repW w a.Site
 else if a.Kind=7\/a.Kind=8 then ((Yjs w.fabric_ a.Role a.Site a.Node (a.Kind==8)).1,Yfb w (Yjs w.fabric_ a.Role a.Site a.Node (a.Kind==8)).2)
 else if a.Kind=9 then ((Yfa w.fabric_ a.Config).2.1,Yfb w (Yfa w.fabric_ a.Config).2.2)
 else (0,w)
theorem Yct {w :J1} (hw:WOk w) {f:J0} (hf:Y1n f):WOk (Yfb w f):=⟨hf,hw.net,hw.pk,hw.tr,hw.gt⟩
theorem Yyz (row :List ByteArray) (s:ByteArray):(Y97 row s).2.row_=row\/(row.length< 32/\(Y97 row s).2.row_=row++[s]):=by
 unfold Y97
 split
 . rename_i c;exact .inr ⟨c,rfl⟩
 . exact .inl rfl
theorem Yeo {w :J1} (hw:WOk w) (a:Y1l):WOk (doW w a).2:=by
 unfold doW
 cases (!(Yb1 a)) with
 | true=>exact hw
 | false=>
 rw [cond_false]
 split
 . exact Yek hw ..
 split
 . exact Yqc hw _
 split
 . refine ⟨hw.fab,?_,?_,hw.tr,hw.gt⟩
   . show (Y50 w.net_.row_ a.At).2.2.row_.length<=32
     unfold Y50
     split
     . exact Nat.le_trans (Yrg _ _) hw.net
     . exact hw.net
   . show ∀ x∈(Y50 w.net_.row_ a.At).2.2.row_,_
     unfold Y50
     split
     . exact fun x hx=>hw.pk x (Yrf hx)
     . exact hw.pk
 split
 . have h:((Y6f w.net_.row_ a.At).2.row_=w.net_.row_)\/(w.net_.row_.length< 32/\(∃ s∈w.net_.row_,(Y6f w.net_.row_ a.At).2.row_=w.net_.row_++[s])):=by
     unfold Y6f
     split
     . rename_i c
       rcases Yyz w.net_.row_ (w.net_.row_.getD a.At.toNat default) with h | ⟨h1,h2⟩
       . exact .inl h
       . exact .inr ⟨h1,_,Y3q (by omega),h2⟩
     . exact .inl rfl
   refine ⟨hw.fab,?_,?_,hw.tr,hw.gt⟩
   . show (Y6f w.net_.row_ a.At).2.row_.length<=32
     rcases h with h | ⟨h1,s,_,h2⟩
     . rw [h];exact hw.net
     . rw [h2,List.length_append,List.length_singleton];omega
   . show ∀ x∈(Y6f w.net_.row_ a.At).2.row_,_
     rcases h with h | ⟨h1,s,hs,h2⟩
     . rw [h];exact hw.pk
     . rw [h2]
       intro x hx
       rcases List.mem_append.1 hx with hx | hx
       . exact hw.pk x hx
       . rw [List.mem_singleton.1 hx];exact hw.pk s hs
 split
 . have h:=Ypj hw.fab
   exact ⟨h.2.1,hw.net,hw.pk,Yej _ hw.tr,hw.gt⟩
 split
 . exact Yct hw (Yyx hw.fab ..)
 split
 . show WOk (if (Y69 w.fabric_ a.Site).2.1=0 then Y3k w (Y69 w.fabric_ a.Site).2.2 1 a.Site 0 (Y69 w.fabric_ a.Site).1 else Yfb w (Y69 w.fabric_ a.Site).2.2)
   split
   . exact Yam hw (Yrk hw.fab _) _ _ _ (Yrl ..)
   . exact Yct hw (Yrk hw.fab _)
 split
 . exact Yct hw (Y16q hw.fab ..)
 split
 . exact Yct hw (Y132 hw.fab _)
 . exact hw
theorem Ylq {w :J1} (hw:WOk w) {a:Y1l} (hb:BdC a.Config):Jo 281474976710656 w a=some (doW w a):=by
 have hrow:=Nat.le_trans hw.net (show 32<=1000 by decide)
 unfold Jo Jx doW
 refine stB (Y16u hb) ?_
 cases (!(Yb1 a)) with
 | true=>rfl
 | false=>
 refine Yn ?_
 rw [cond_false]
 by_cases k0:a.Kind=0
 . rw [if_pos k0];exact Ys k0 (stB (Ykv hw ..) rfl)
 rw [if_neg k0];refine Yo k0 ?_
 by_cases k1:a.Kind=1
 . rw [if_pos k1];exact Ys k1 (stB (Yqd hw _) rfl)
 rw [if_neg k1];refine Yo k1 ?_
 by_cases k2:a.Kind=2
 . rw [if_pos k2];exact Ys k2 (stB (Yio hrow _) rfl)
 rw [if_neg k2];refine Yo k2 ?_
 by_cases k3:a.Kind=3
 . rw [if_pos k3];exact Ys k3 (stB (Yu9 hrow _) rfl)
 rw [if_neg k3];refine Yo k3 ?_
 by_cases k4:a.Kind=4
 . rw [if_pos k4]
   have h:=Ypj hw.fab
   unfold Jbw
   exact Ys k4 (stB (stB h.1 (stB (Y8n _ _ hw.tr (Nat.le_trans h.2.2 (by decide))) rfl)) rfl)
 rw [if_neg k4];refine Yo k4 ?_
 by_cases k5:a.Kind=5
 . rw [if_pos k5];exact Ys k5 (stB (Yyw hw.fab ..) rfl)
 rw [if_neg k5];refine Yo k5 ?_
 by_cases k6:a.Kind=6
 . rw [if_pos k6]
   refine Ys k6 (stB (x:=repW w a.Site) ?_ rfl)
   unfold Jbx J9o repW
   refine stB (Y16p hw.fab _) ?_
   by_cases z:(Y69 w.fabric_ a.Site).2.1=0
   . rw [if_pos z]
     exact Ys z (stB (Yku hw (Y69 w.fabric_ a.Site).2.2 1 a.Site 0 (Yrl ..)) rfl)
   . rw [if_neg z]
     exact Yo z rfl
 rw [if_neg k6];refine Yo k6 ?_
 have hset:=Y16r hw.fab a.Role a.Site a.Node (a.Kind==8)
 unfold J9p Jx
 by_cases k7:a.Kind=7
 . rw [if_pos (.inl k7)]
   exact Ys k7 (Yq (stB hset rfl))
 refine Yo k7 ?_
 by_cases k8:a.Kind=8
 . rw [if_pos (.inr k8)]
   exact Ys k8 (stB hset rfl)
 rw [if_neg (fun h=>h.elim k7 k8)]
 refine Yo k8 ?_
 by_cases k9:a.Kind=9
 . rw [if_pos k9];exact Ys k9 (stB (Y131 hw.fab hb) rfl)
 rw [if_neg k9]
 exact Yo k9 rfl
end Go.Proofs.YtpdcnikdoikldaaGreatDoor.Pu
