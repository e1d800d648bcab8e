import Derived.Test.YtpdcnikdoikldaaGreatDoorT12
set_option linter.unusedVariables false
set_option linter.unusedSimpArgs false
namespace Go.Proofs.YtpdcnikdoikldaaGreatDoor.Pu
open Go Go.RowKit Go.Proofs.YtpdcnikdoikldaaGreatDoor.Sv Go.Proofs.YtpdcnikdoikldaaGreatDoor.Lf
def runL (w :J1):List Y1l->J1
 | []=>w
 | a :: qs=>runL (doW w a).2 qs
theorem Yrn :∀ (qs:List Y1l) {w:J1},WOk w->WOk (runL w qs)
 | [],_,h=>h
 | a :: qs,_,h=>Yrn qs (Yeo h a)
theorem Y14w {c :Y7} (h:Y14 c=true):WOk (w0 c):=by
 refine ⟨⟨Yil h (by decide),Yil h (by decide),rfl,rfl,(Y42 _).1 (Ycq h (by decide)),(Y42 _).1 (Ycq h (by decide)),(Y42 _).1 (Ycq h (by decide)),rfl,rfl,rfl,rfl,h⟩,?_,fun x hx=>(by cases hx),?_,?_⟩ <;> exact Nat.zero_le _
theorem Y135 (qs :List Y1l) (hb:∀ a∈qs,BdC a.Config) (hl:qs.length<=140737488355328) (m:Nat) (hm:m<=1000):∀ (d fuel i:Nat) (w:J1),m=i+d->d< fuel->WOk w->
   J2x 281474976710656 fuel qs (m:Int) w (i:Int)=some (runL w ((qs.drop i).take d),false):=by
 intro d
 induction d with
 | zero=>
   intro fuel i w hi hf hw
   obtain ⟨fuel,rfl⟩:∃ f,fuel=f+1:=⟨fuel - 1,by omega⟩
   rw [J2x,List.take_zero]
   unfold J5l
   rw [decide_eq_false (show ¬ (i:Int)< (m:Int) by omega)]
   cases decide ((i:Int)< (qs.length:Int)) <;> rfl
 | succ d ih=>
   intro fuel i w hi hf hw
   obtain ⟨fuel,rfl⟩:∃ f,fuel=f+1:=⟨fuel - 1,by omega⟩
   rw [J2x]
   unfold J5l
   by_cases c:i< qs.length
   . rw [Y2t c,List.take_succ_cons,Int.toNat_natCast,w64 (n:=(i:Int)+1) (by omega) (by omega)]
     refine Ym (show (i:Int)< (qs.length:Int) by omega) (Ym (show (i:Int)< (m:Int) by omega) (Yd (by omega) (stB (Ylq hw (hb _ (Y3q c))) ?_)))
     exact ih fuel (i+1) (doW w (qs.getD i default)).2 (by omega) (by omega) (Yeo hw _)
   . rw [List.drop_of_length_le (by omega),List.take_nil]
     exact Yu (show ¬ (i:Int)< (qs.length:Int) by omega) rfl
def Yju (c :Y7) (qs:List Y1l):J1:=runL (w0 c) (qs.take 50)
theorem Y16v {c :Y7} (h:Y14 c=true) (qs:List Y1l):WOk (Yju c qs):=Yrn _ (Y14w h)
theorem Y1c4 {c :Y7} (hc:BdC c) {qs:List Y1l} (hb:∀ a∈qs,BdC a.Config) (hl:qs.length<=140737488355328):J11 281474976710656 c qs 50=some (if Y14 c=true then (Yju c qs,false) else (default,true)):=by
 have hw:=Yq9 c hc
 unfold J11
 cases h:Y14 c with
 | false=>rw [h] at hw;exact stB hw (Yq (stB rfl (Y2h (show ¬ (2500:Int)=0 by decide) rfl)))
 | true=>
   rw [h] at hw
   have hr:=Y135 qs hb hl 50 (by decide) 50 281474976710656 0 (w0 c) rfl (by decide) (Y14w h)
   rw [List.drop_zero] at hr
   exact stB hw (Yn (stB rfl (Y1z rfl hr)))
theorem Yir (N :Nat) (hs:List ByteArray) (hl:hs.length<=100000):J46 N hs=some hs:=by
 unfold J46 J86 Jaq
 by_cases c:hs.length=0
 . rw [if_pos c,List.eq_nil_of_length_eq_zero c]
 . rw [if_neg c]
   exact Yd c (Yd (Y32 (by decide) (by omega)) rfl)
theorem netV {w :J1} (hw:WOk w):J12 281474976710656 w=some (w.net_.row_,w):=by
 unfold J12 Jar
 exact stB (stB (Yir _ _ (Nat.le_trans hw.net (by decide))) rfl) rfl
theorem gotV {w :J1} (hw:WOk w):J17 281474976710656 w=some (w.got_,w):=by
 unfold J17
 exact stB (Yir _ _ (Nat.le_trans hw.gt (by decide))) rfl
theorem Yz0 {w :J1} (hw:WOk w):Ju 281474976710656 w=some (w.trace_,w):=Y12q w hw.tr
abbrev Ylr :Y1l:=⟨2,0,0,0,0,0,false,ByteArray.empty,⟨0,[]⟩⟩
abbrev Yjv :Y1l:=⟨1,0,0,0,0,0,false,ByteArray.empty,⟨0,[]⟩⟩
theorem bd0 :BdC ⟨0,[]⟩:=⟨by decide,fun y hy=>by cases hy⟩
theorem Y137 :Yb1 Ylr=true:=by
 have h:J1e 281474976710656 Ylr=some true:=by decide +kernel
 unfold Yb1;rw [h];rfl
theorem Y16w :Yb1 Yjv=true:=by
 have h:J1e 281474976710656 Yjv=some true:=by decide +kernel
 unfold Yb1;rw [h];rfl
theorem Y16x (w :J1):(doW w Ylr).2=Y7w w ⟨w.net_.row_.drop 1⟩:=by
 unfold doW
 rw [Y137,Bool.not_true,cond_false,if_neg (by decide),if_neg (by decide),if_pos rfl]
 show Y7w w (Y50 w.net_.row_ 0).2.2=_
 unfold Y50
 cases h:w.net_.row_ with
 | nil=>rfl
 | cons x xs=>rw [if_pos ⟨by decide,by rw [List.length_cons];omega⟩];rfl
def Yls :Nat->J1->J1
 | 0,w=>w
 | n+1,w=>Yls n (doW w Ylr).2
theorem Ypo :∀ (n:Nat) (w:J1),Yls n w=Y7w w ⟨w.net_.row_.drop n⟩
 | 0,w=>rfl
 | n+1,w=>by
   rw [Yls,Ypo n,Y16x]
   show Y7w w ⟨(w.net_.row_.drop 1).drop n⟩=_
   rw [List.drop_drop,Nat.add_comm]
def Yis (w :J1):J1:=Y7w w ⟨[]⟩
theorem Yky {w :J1} (hw:WOk w):WOk (Yis w):=⟨hw.fab,Nat.zero_le _,(fun x hx=>by cases hx),hw.tr,hw.gt⟩
theorem Ypp :∀ (d fuel i:Nat) (w:J1),32=i+d->d< fuel->WOk w->J47 281474976710656 fuel w (i:Int)=some (Yls d w):=by
 intro d
 induction d with
 | zero=>
   intro fuel i w hi hf hw
   obtain ⟨fuel,rfl⟩:∃ f,fuel=f+1:=⟨fuel - 1,by omega⟩
   rw [J47]
   exact Yu (by omega) rfl
 | succ d ih=>
   intro fuel i w hi hf hw
   obtain ⟨fuel,rfl⟩:∃ f,fuel=f+1:=⟨fuel - 1,by omega⟩
   rw [J47,w64 (n:=(i:Int)+1) (by omega) (by omega)]
   exact Ym (by omega) (stB (Ylq hw bd0) (ih fuel (i+1) _ (by omega) (by omega) (Yeo hw _)))
theorem Yuf {w :J1} (hw:WOk w):J5m 281474976710656 w=some (Yis w):=by
 have h:=Ypp 32 281474976710656 0 w rfl (by decide) hw
 rw [Ypo,List.drop_of_length_le hw.net] at h
 exact h
def Yit (w :J1):J1:=match w.net_.row_ with
 | []=>w
 | x :: xs=>Y6z (Y7w w ⟨xs⟩) x
theorem Yz1 (w :J1):(doW w Yjv).2=Yit w:=by
 unfold doW
 rw [Y16w,Bool.not_true,cond_false,if_neg (by decide),if_pos rfl]
 show (Y74 w 0).2=_
 unfold Y74 Yit
 obtain ⟨f,⟨row⟩,tr,gt⟩:=w
 cases row with
 | nil=>rfl
 | cons x xs=>rw [if_pos ⟨by decide,by show (0:Int)< (((x :: xs).length:Nat):Int);rw [List.length_cons];omega⟩];rfl
def Y2y :Nat->J1->J1
 | 0,w=>w
 | n+1,w=>match w.net_.row_ with
   | []=>w
   | _ :: _=>Y2y n (Yit w)
theorem Ypq {w :J1} (hw:WOk w):WOk (Yit w):=by
 have:=Yeo hw Yjv
 rw [Yz1] at this
 exact this
theorem Yug :∀ (d fuel i:Nat) (w:J1),200=i+d->d< fuel->WOk w->J20 281474976710656 fuel w (i:Int)=some (Y2y d w):=by
 intro d
 induction d with
 | zero=>
   intro fuel i w hi hf hw
   obtain ⟨fuel,rfl⟩:∃ f,fuel=f+1:=⟨fuel - 1,by omega⟩
   rw [J20]
   exact Yu (by omega) rfl
 | succ d ih=>
   intro fuel i w hi hf hw
   obtain ⟨fuel,rfl⟩:∃ f,fuel=f+1:=⟨fuel - 1,by omega⟩
   rw [J20]
   unfold J87 Y2y
   refine Ym (by omega) (stB (netV hw) ?_)
   have hdo:=Ylq hw (a:=Yjv) bd0
   have hd2:=Yz1 w
   have hok:=Ypq hw
   cases h:w.net_.row_ with
   | nil=>rfl
   | cons x xs=>
     refine Ym (show (((x :: xs).length:Nat):Int) > 0 by rw [List.length_cons];omega) (stB hdo ?_)
     rw [w64 (n:=(i:Int)+1) (by omega) (by omega)]
     show J20 281474976710656 fuel (doW w Yjv).2 _=_
     rw [hd2]
     exact ih fuel (i+1) _ (by omega) (by omega) hok
theorem Y138 {w :J1} (hw:WOk w):J48 281474976710656 w=some (Y2y 200 w):=Yug 200 281474976710656 0 w rfl (by decide) hw
theorem Ykz :∀ (n:Nat) {w:J1},WOk w->WOk (Y2y n w)
 | 0,_,h=>h
 | n+1,w,h=>by
   unfold Y2y
   split
   . exact h
   . exact Ykz n (Ypq h)
theorem Y8o {n :Nat} {w:J1} (h:w.net_.row_=[]):Y2y n w=w:=by
 cases n with
 | zero=>rfl
 | succ n=>unfold Y2y;rw [h]
theorem Yl0 {n :Nat} {w:J1} {x:ByteArray} {xs:List ByteArray} (h:w.net_.row_=x :: xs):Y2y (n+1) w=Y2y n (Y6z (Y7w w ⟨xs⟩) x):=by
 rw [Y2y]
 unfold Yit
 rw [h]
end Go.Proofs.YtpdcnikdoikldaaGreatDoor.Pu
