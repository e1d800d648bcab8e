import Derived.Test.YtpdcnikdoikldaaGreatDoorS1
import Derived.Test.YtpdcnikdoikldaaGreatDoorE4
import Derived.KernelRfl
set_option linter.unusedVariables false
set_option linter.unusedSimpArgs false
namespace Go.Proofs.YtpdcnikdoikldaaGreatDoor.Pu
open Go Go.RowKit Go.Proofs.YtpdcnikdoikldaaGreatDoor.Sv Go.Proofs.YtpdcnikdoikldaaGreatDoor.Lf
def fe (c :Y7) (i:Int):Yq:=⟨i,c,[⟨true,0⟩,⟨true,0⟩,⟨true,0⟩],[]⟩
def fs (c :Y7) (i:Int):Ya:=⟨i,c,[⟨true,0⟩,⟨true,0⟩,⟨true,0⟩,⟨true,0⟩],[⟨⟨0,0,0,0⟩,-1⟩,⟨⟨0,0,0,0⟩,-1⟩,⟨⟨0,0,0,0⟩,-1⟩],[],0⟩
theorem Y1fz :J5t 281474976710656 [⟨true,0⟩] 3=some [⟨true,0⟩,⟨true,0⟩,⟨true,0⟩]:=by kernel_rfl
theorem Y1g0 :J5t 281474976710656 [⟨true,0⟩] 4=some [⟨true,0⟩,⟨true,0⟩,⟨true,0⟩,⟨true,0⟩]:=by kernel_rfl
theorem Y1g1 :Jb4 281474976710656 [⟨⟨0,0,0,0⟩,-1⟩] 3=some [⟨⟨0,0,0,0⟩,-1⟩,⟨⟨0,0,0,0⟩,-1⟩,⟨⟨0,0,0,0⟩,-1⟩]:=by kernel_rfl
theorem Ykl {c :Y7} (h:Y19 c=true):BdC c:=by
 obtain ⟨s1,s2⟩:=Y1x h
 exact ⟨by omega,fun y hy=>by have:=(s2 y hy).2;omega⟩
theorem Yja {c :Y7} (h:Y19 c=true) {i:Int} (hi:0<=i/\i< 2):Y2u (fe c i):=
 ⟨fun x hx=>(by cases hx),hi,h,rfl,rfl⟩
theorem Ydi {c :Y7} (h:Y19 c=true):Jl 281474976710656 c=some c:=by
 obtain ⟨s1,s2⟩:=Y1x h
 exact Yh6 (by decide) c (by omega) fun y hy=>by have:=(s2 y hy).2;omega
theorem Y9q {c :Y7} (h:Y19 c=true) {i:Int} (hi:0<=i/\i< 2):J8r 281474976710656 i c=some (fe c i,0):=by
 have hm:=Yj4 (N:=281474976710656) (by decide) (fe c i) ⟨Ykl h,show (3:Nat)<=_ by decide,show (0:Nat)<=_ by decide⟩
 rw [(Yj5 _).2 (Yja h hi)] at hm
 unfold J8r
 exact stB (Ydi h) (stB rfl (stB Y1fz (stB hm (Yi rfl))))
theorem Ydj {c :Y7} (h:Y19 c=true) {i:Int} (hi:0<=i/\i< 3):Yaj (fs c i)=true:=by
 unfold Yaj Y7k fs
 dsimp only
 rw [h,decide_eq_true hi]
 rfl
theorem Y6o {c :Y7} (h:Y19 c=true) {i:Int} (hi:0<=i/\i< 3):J8s 281474976710656 i c=some (fs c i,0):=by
 have hm:=Yde (N:=281474976710656) (by decide) (fs c i) ⟨Ykl h,show (4:Nat)<=_ by decide,show (3:Nat)<=_ by decide,show (0:Nat)<=_ by decide⟩
 rw [Ydj h hi] at hm
 unfold J8s Jb5
 exact stB (Ydi h) (stB rfl (stB Y1g0 (stB (stB Y1g1 rfl) (stB hm (Yi rfl)))))
end Go.Proofs.YtpdcnikdoikldaaGreatDoor.Pu
namespace Go.Proofs.YtpdcnikdoikldaaGreatDoor.Pu
open Go Go.RowKit Go.Proofs.YtpdcnikdoikldaaGreatDoor.Sv Go.Proofs.YtpdcnikdoikldaaGreatDoor.Lf
abbrev FP:=J4
abbrev FB:=FP× FP× FP× FP
abbrev upS :FB:=(⟨true⟩,⟨true⟩,⟨true⟩,⟨true⟩)
section
variable {c : Y7} (h : Y19 c = true) (e0 e1 : Y1l) (n0 n1 n2 : Y1g) (a : Yq) (x : Ya) (es : Y1l × Y1l) (ss : Y1g × Y1g × Y1g) (b : FB × FB × FB) (now : Int)
include h
theorem Y1g2 :Jk 281474976710656 ⟨(⟨a,false⟩,e1),ss,b,now,c⟩ 0 0 0 true=some (0,⟨(⟨fe c 0,true⟩,e1),ss,b,now,c⟩):=by
 have h1:Js 281474976710656 ⟨(⟨a,false⟩,e1),ss,b,now,c⟩ 0 0 0=some (true,⟨(⟨a,false⟩,e1),ss,b,now,c⟩):=by kernel_rfl
 have h2:J5u 281474976710656 ⟨(⟨a,false⟩,e1),ss,b,now,c⟩ true 0=some (⟨(⟨fe c 0,true⟩,e1),ss,b,now,c⟩,default):=by
   unfold J5u J5v J30
   exact Ym (Ym (stB (stB (Y9q h (by decide)) rfl) rfl))
 unfold Jk
 exact stB h1 (Yi (Yr rfl (Yr rfl (stB h2 rfl))))
theorem Y1g3 :Jk 281474976710656 ⟨(e0,⟨a,false⟩),ss,b,now,c⟩ 0 0 1 true=some (0,⟨(e0,⟨fe c 1,true⟩),ss,b,now,c⟩):=by
 have h1:Js 281474976710656 ⟨(e0,⟨a,false⟩),ss,b,now,c⟩ 0 0 1=some (true,⟨(e0,⟨a,false⟩),ss,b,now,c⟩):=by kernel_rfl
 have h2:J5w 281474976710656 ⟨(e0,⟨a,false⟩),ss,b,now,c⟩ true 1=some (⟨(e0,⟨fe c 1,true⟩),ss,b,now,c⟩,default):=by
   unfold J5w J5x J30
   exact Ym (Ym (stB (stB (Y9q h (by decide)) rfl) rfl))
 unfold Jk
 exact stB h1 (Yi (Yr rfl (Yo (by decide) (Yb rfl (stB h2 rfl)))))
theorem Y1g4 :Jk 281474976710656 ⟨es,(⟨x,false⟩,n1,n2),b,now,c⟩ 1 0 0 true=some (0,⟨es,(⟨fs c 0,true⟩,n1,n2),b,now,c⟩):=by
 have h1:Js 281474976710656 ⟨es,(⟨x,false⟩,n1,n2),b,now,c⟩ 1 0 0=some (true,⟨es,(⟨x,false⟩,n1,n2),b,now,c⟩):=by kernel_rfl
 have h2:J5y 281474976710656 ⟨es,(⟨x,false⟩,n1,n2),b,now,c⟩ true 0=some (⟨es,(⟨fs c 0,true⟩,n1,n2),b,now,c⟩,default):=by
   unfold J5y J5z J1a
   exact Ym (Ym (stB (stB (Y6o h (by decide)) rfl) rfl))
 unfold Jk
 exact stB h1 (Yi (Yo (by decide) (Yr rfl (Yr rfl (stB h2 rfl)))))
theorem Y1g5 :Jk 281474976710656 ⟨es,(n0,⟨x,false⟩,n2),b,now,c⟩ 1 1 0 true=some (0,⟨es,(n0,⟨fs c 1,true⟩,n2),b,now,c⟩):=by
 have h1:Js 281474976710656 ⟨es,(n0,⟨x,false⟩,n2),b,now,c⟩ 1 1 0=some (true,⟨es,(n0,⟨x,false⟩,n2),b,now,c⟩):=by kernel_rfl
 have h2:J60 281474976710656 ⟨es,(n0,⟨x,false⟩,n2),b,now,c⟩ true 1=some (⟨es,(n0,⟨fs c 1,true⟩,n2),b,now,c⟩,default):=by
   unfold J60 J61 J1a
   exact Ym (Ym (stB (stB (Y6o h (by decide)) rfl) rfl))
 unfold Jk
 exact stB h1 (Yi (Yo (by decide) (Yr rfl (Yo (by decide) (Yr rfl (stB h2 rfl))))))
theorem Y1g6 :Jk 281474976710656 ⟨es,(n0,n1,⟨x,false⟩),b,now,c⟩ 1 2 0 true=some (0,⟨es,(n0,n1,⟨fs c 2,true⟩),b,now,c⟩):=by
 have h1:Js 281474976710656 ⟨es,(n0,n1,⟨x,false⟩),b,now,c⟩ 1 2 0=some (true,⟨es,(n0,n1,⟨x,false⟩),b,now,c⟩):=by kernel_rfl
 have h2:J62 281474976710656 ⟨es,(n0,n1,⟨x,false⟩),b,now,c⟩ true 2=some (⟨es,(n0,n1,⟨fs c 2,true⟩),b,now,c⟩,default):=by
   unfold J62 J63 J1a
   exact Ym (Ym (stB (stB (Y6o h (by decide)) rfl) rfl))
 unfold Jk
 exact stB h1 (Yi (Yo (by decide) (Yr rfl (Yo (by decide) (Yo (by decide) (Yb rfl (stB h2 rfl)))))))
omit h
variable (r2 : J0 -> Int -> Int -> Option (J0 × Int × Bool)) (c)
theorem Y1g7 :Jj 281474976710656 r2 281474976710656 ⟨es,ss,b,now,c⟩ 0 3 0 0=r2 ⟨es,ss,(upS,b.2),now,c⟩ 3 1:=by kernel_rfl
theorem Y1g8 :Jj 281474976710656 r2 281474976710656 ⟨es,ss,b,now,c⟩ 1 3 1 0=r2 ⟨es,ss,(b.1,upS,b.2.2),now,c⟩ 3 2:=by kernel_rfl
theorem Y1g9 :Jj 281474976710656 r2 281474976710656 ⟨es,ss,b,now,c⟩ 2 3 2 0=r2 ⟨es,ss,(b.1,b.2.1,upS),now,c⟩ 3 3:=by kernel_rfl
end
def fab0 (c :Y7):J0:=⟨(⟨fe c 0,true⟩,⟨fe c 1,true⟩),(⟨fs c 0,true⟩,⟨fs c 1,true⟩,⟨fs c 2,true⟩),(upS,upS,upS),0,c⟩
theorem Y1ga {c :Y7} (h:Y19 c=true) (es:Y1l× Y1l) (x y z:Ya) (b:FB× FB× FB) (fuel:Nat):
   J2b 281474976710656 (fuel+4) ⟨es,(⟨x,false⟩,⟨y,false⟩,⟨z,false⟩),b,0,c⟩ 3 0=some (⟨es,(⟨fs c 0,true⟩,⟨fs c 1,true⟩,⟨fs c 2,true⟩),(upS,upS,upS),0,c⟩,0,false):=by
 rw [J2b]
 refine Yj (by decide) (stB (Y1g4 h _ _ _ _ _ _) ?_)
 rw [Y1g7,J2b]
 refine Yj (by decide) (stB (Y1g5 h _ _ _ _ _ _) ?_)
 rw [Y1g8,J2b]
 refine Yj (by decide) (stB (Y1g6 h _ _ _ _ _ _) ?_)
 rw [Y1g9,J2b]
 exact Yt (by decide) rfl
theorem Y1gb {c :Y7} (h:Y19 c=true) (x y:Yq) (u v w:Ya) (b:FB× FB× FB) (fuel:Nat):
   J31 281474976710656 (fuel+3) ⟨(⟨x,false⟩,⟨y,false⟩),(⟨u,false⟩,⟨v,false⟩,⟨w,false⟩),b,0,c⟩ 2 0=some (fab0 c,0,false):=by
 rw [J31]
 refine Yj (by decide) (stB (Y1g2 h _ _ _ _ _) ?_)
 rw [show IntKind.i64.wrap ((0:Int)+1)=1 from rfl,J31]
 refine Yj (by decide) (stB (Y1g3 h _ _ _ _ _) ?_)
 rw [show IntKind.i64.wrap ((1:Int)+1)=2 from rfl,J31]
 exact Yt (by decide) (Y1ga h _ _ _ _ _ 281474976710652)
theorem Y10f (c :Y7) (hb:BdC c):J4a 281474976710656 c=some (if Y19 c=true then (fab0 c,0,false) else (default,2400,true)):=by
 have hm:=Y31 (N:=281474976710656) (by decide) c hb
 unfold J4a
 cases h:Y19 c with
 | false=>rw [h] at hm;exact stB hm (Y1k rfl)
 | true=>
   rw [h] at hm
   exact stB hm (Yi (stB (Ydi h) (Y1gb h _ _ _ _ _ _ 281474976710653)))
def w0 (c :Y7):J1:=⟨fab0 c,⟨[]⟩,[],[]⟩
theorem Yrl (c :Y7) (hb:BdC c):J32 281474976710656 c=some (if Y19 c=true then (w0 c,0,false) else (default,2500,true)):=by
 have hf:=Y10f c hb
 unfold J32
 cases h:Y19 c with
 | false=>rw [h] at hf;exact stB hf (Ym (Y25 (show ¬ (2400:Int)=0 by decide) rfl))
 | true=>rw [h] at hf;exact stB hf (Yk (Y1p rfl (stB rfl rfl)))
end Go.Proofs.YtpdcnikdoikldaaGreatDoor.Pu
namespace Go.Proofs.YtpdcnikdoikldaaGreatDoor.Pu
open Go Go.RowKit Go.Proofs.YtpdcnikdoikldaaGreatDoor.Sv Go.Proofs.YtpdcnikdoikldaaGreatDoor.Lf
theorem Y33 {b n :Nat} (hb:b<=1000) (hn:n<=100000):Y1a b n:=by
 unfold Y1a
 have h:2*n*b<=2*100000*1000:=Nat.mul_le_mul (by omega) hb
 exact ⟨by omega,by omega⟩
def room (a b :Nat):Nat:=min (4096 - a) b
theorem Y94 (tr ev :List Y1) (h:tr.length<=4096) (h2:ev.length<=4096):J33 281474976710656 tr ev=some (tr++ev.take (4096 - tr.length),[]):=by
 unfold J33
 refine Y15 (Y15 ?_)
 rw [w64 (n:=(4096:Int) - (tr.length:Int)) (by omega) (by omega)]
 have hv:∃ k:Nat,(if decide ((4096:Int) - (tr.length:Int)< (ev.length:Int))=true then (4096:Int) - (tr.length:Int) else (ev.length:Int))=(k:Int)/\k=min (4096 - tr.length) ev.length:=by
   by_cases c:(4096:Int) - (tr.length:Int)< (ev.length:Int)
   . exact ⟨4096 - tr.length,by rw [if_pos (decide_eq_true c)];omega,by omega⟩
   . exact ⟨ev.length,by rw [if_neg (by simpa using c)],by omega⟩
 obtain ⟨k,hk,hk2⟩:=hv
 rw [hk]
 have e1:(ev.drop (Int.toNat (0:Int))).take (Int.toNat ((k:Int) - (0:Int)))=ev.take (4096 - tr.length):=by
   rw [show Int.toNat ((k:Int) - (0:Int))=k by omega,show Int.toNat (0:Int)=0 from rfl,List.drop_zero,hk2]
   rcases Nat.le_total (4096 - tr.length) ev.length with q | q
   . rw [Nat.min_eq_left q]
   . rw [Nat.min_eq_right q,List.take_length,List.take_of_length_le q]
 rw [e1]
 refine Yb ⟨by omega,by omega,by omega,by omega,by omega⟩ (Yb (Y33 (by decide) ?_) rfl)
 rw [List.length_take];omega
theorem Y14o (tr ev :List ByteArray) (h:tr.length<=4096) (h2:ev.length<=4096):J8t 281474976710656 tr ev=some (tr++ev.take (4096 - tr.length),[]):=by
 unfold J8t
 refine Y15 (Y15 ?_)
 rw [w64 (n:=(4096:Int) - (tr.length:Int)) (by omega) (by omega)]
 have hv:∃ k:Nat,(if decide ((4096:Int) - (tr.length:Int)< (ev.length:Int))=true then (4096:Int) - (tr.length:Int) else (ev.length:Int))=(k:Int)/\k=min (4096 - tr.length) ev.length:=by
   by_cases c:(4096:Int) - (tr.length:Int)< (ev.length:Int)
   . exact ⟨4096 - tr.length,by rw [if_pos (decide_eq_true c)];omega,by omega⟩
   . exact ⟨ev.length,by rw [if_neg (by simpa using c)],by omega⟩
 obtain ⟨k,hk,hk2⟩:=hv
 rw [hk]
 have e1:(ev.drop (Int.toNat (0:Int))).take (Int.toNat ((k:Int) - (0:Int)))=ev.take (4096 - tr.length):=by
   rw [show Int.toNat ((k:Int) - (0:Int))=k by omega,show Int.toNat (0:Int)=0 from rfl,List.drop_zero,hk2]
   rcases Nat.le_total (4096 - tr.length) ev.length with q | q
   . rw [Nat.min_eq_left q]
   . rw [Nat.min_eq_right q,List.take_length,List.take_of_length_le q]
 rw [e1]
 refine Yb ⟨by omega,by omega,by omega,by omega,by omega⟩ (Yb (Y33 (by decide) ?_) rfl)
 rw [List.length_take];omega
def Y9r (row :List ByteArray) (s:ByteArray):Int× J6:=if row.length< 32 then (0,⟨row++[s]⟩) else (2201,⟨row⟩)
theorem Y18o (row :List ByteArray) (s:ByteArray) (hs:0< s.size/\s.size<=512):J8u 281474976710656 ⟨row⟩ s=some (Y9r row s):=by
 have hne:(s.toList==ByteArray.empty.toList)=false:=by
   rw [Y80,decide_eq_false]
   rintro rfl
   exact absurd hs.1 (by decide)
 unfold J8u J8v J4b Y9r
 rw [hne,decide_eq_false (show ¬ (s.size:Int) > 512 by omega)]
 by_cases c:row.length< 32
 . rw [if_pos c]
   refine Yk (Yk (stB (x:=(0,⟨row++[s]⟩)) ?_ rfl))
   refine Yj (show ((row.length:Nat):Int)< 32 by omega) (Yb (Y33 (by decide) (show row.length+1<=100000 by omega)) (Yb ?_ rfl))
   show ((row.length:Nat):Int)+1=(((row++[s]).length:Nat):Int)
   rw [List.length_append]
   rfl
 . rw [if_neg c]
   refine Yk (Yk (stB (x:=(2201,⟨row⟩)) ?_ rfl))
   exact Yt (show ¬ ((row.length:Nat):Int)< 32 by omega) rfl
def Y8m (st :List ByteArray× List Y1) (r s n:Int):List ByteArray->List ByteArray× List Y1
 | []=>st
 | x :: xs=>Y8m (if st.1.length< 32 then (st.1++[x],st.2) else (st.1,st.2++([(⟨10,r,s,n,0,⟨0,0,0,0,0⟩⟩:Y1)]).take (4096 - st.2.length))) r s n xs
theorem Yvr (f :J0) (gt:List ByteArray) (r s n:Int) (sent:List ByteArray) (hs:∀ x∈sent,0< x.size/\x.size<=512) (hl:sent.length<=4096):∀ (d fuel i:Nat) (net:List ByteArray) (tr:List Y1),sent.length=i+d->d< fuel->tr.length<=4096->
   J34 281474976710656 fuel ⟨f,⟨net⟩,tr,gt⟩ r s n sent (sent.length:Int) (i:Int)=some ⟨f,⟨(Y8m (net,tr) r s n (sent.drop i)).1⟩,(Y8m (net,tr) r s n (sent.drop i)).2,gt⟩:=by
 intro d
 induction d with
 | zero=>
   intro fuel i net tr hi hf ht
   obtain ⟨fuel,rfl⟩:∃ k,fuel=k+1:=⟨fuel - 1,by omega⟩
   rw [J34,List.drop_of_length_le (by omega)]
   exact Yt (by omega) rfl
 | succ d ih=>
   intro fuel i net tr hi hf ht
   obtain ⟨fuel,rfl⟩:∃ k,fuel=k+1:=⟨fuel - 1,by omega⟩
   have hx:=hs _ (Y3t (show i< sent.length by omega))
   rw [J34,Y2w (show i< sent.length by omega),Int.toNat_natCast]
   unfold J8w
   have hsend:=Y18o net (sent.getD i default) hx
   refine Yj (by omega) (Yb (by omega) (stB hsend ?_))
   rw [w64 (n:=(i:Int)+1) (by omega) (by omega)]
   unfold Y8m Y9r
   by_cases c:net.length< 32
   . rw [if_pos c,if_pos c]
     refine Yo (show ¬ (0:Int)=2201 by decide) ?_
     exact ih fuel (i+1) (net++[sent.getD i default]) tr (by omega) (by omega) ht
   . rw [if_neg c,if_neg c]
     refine Yr rfl (stB rfl (stB (Y94 tr _ ht (show (1:Nat)<=4096 by decide)) ?_))
     refine ih fuel (i+1) net _ (by omega) (by omega) ?_
     rw [List.length_append,List.length_take]
     omega
theorem Y14p (f :J0) (net gt sent:List ByteArray) (tr ev:List Y1) (r s n:Int) (hr:r≠2) (hs:∀ x∈sent,0< x.size/\x.size<=512) (hl:sent.length<=4096) (ht:tr.length<=4096) (he:ev.length<=4096):
   J2c 281474976710656 ⟨f,⟨net⟩,tr,gt⟩ ⟨r,s,n⟩ ⟨sent,ev⟩=some ⟨f,⟨(Y8m (net,tr++ev.take (4096 - tr.length)) r s n sent).1⟩,(Y8m (net,tr++ev.take (4096 - tr.length)) r s n sent).2,gt⟩:=by
 unfold J2c
 refine stB (Y94 tr ev ht he) (Yo hr ?_)
 have:=Yvr f gt r s n sent hs hl sent.length 281474976710656 0 net (tr++ev.take (4096 - tr.length)) (by omega) (by omega) (by rw [List.length_append,List.length_take];omega)
 rw [List.drop_zero] at this
 exact this
theorem Y10g (f :J0) (net gt sent:List ByteArray) (tr ev:List Y1) (s n:Int) (hl:sent.length<=4096) (ht:tr.length<=4096) (hg:gt.length<=4096) (he:ev.length<=4096):
   J2c 281474976710656 ⟨f,⟨net⟩,tr,gt⟩ ⟨2,s,n⟩ ⟨sent,ev⟩=some ⟨f,⟨net⟩,tr++ev.take (4096 - tr.length),gt++sent.take (4096 - gt.length)⟩:=by
 unfold J2c
 exact stB (Y94 tr ev ht he) (Yr rfl (stB (Y14o gt sent hg hl) rfl))
theorem Y14q (w :J1) (h:w.trace_.length<=4096):Jv 281474976710656 w=some (w.trace_,w):=by
 unfold Jv J8x J8y Jb6
 refine stB (x:=w.trace_) ?_ rfl
 by_cases c:w.trace_.length=0
 . rw [if_pos c,List.eq_nil_of_length_eq_zero c]
 . rw [if_neg c]
   exact Yb c (Yb (Y33 (by decide) (by omega)) rfl)
end Go.Proofs.YtpdcnikdoikldaaGreatDoor.Pu
namespace Go.Proofs.YtpdcnikdoikldaaGreatDoor.Pu
open Go Go.RowKit Go.Proofs.YtpdcnikdoikldaaGreatDoor.Sv Go.Proofs.YtpdcnikdoikldaaGreatDoor.Lf
end Go.Proofs.YtpdcnikdoikldaaGreatDoor.Pu
namespace Go.Proofs.YtpdcnikdoikldaaGreatDoor.Pu
open Go Go.RowKit Go.Proofs.YtpdcnikdoikldaaGreatDoor.Sv Go.Proofs.YtpdcnikdoikldaaGreatDoor.Lf
theorem Y18p {N :Nat} (r2:Int->List Yf->Int->Option Bool) (v:Int) (ss:List Yf) (k w:Int) (dr:Bool) (cap:Int) (bs:List Y2a) (hl:bs.length<=4):∀ (d fuel i:Nat),bs.length=i+d->d< fuel->J35 N r2 fuel v ss k w dr cap bs i=if (bs.drop i).all Y6y=true then r2 v ss (IntKind.i64.wrap (k+1)) else some false:=by
 intro d
 induction d with
 | zero=>
   intro fuel i hi hf
   obtain ⟨fuel,rfl⟩:∃ f,fuel=f+1:=⟨fuel - 1,by omega⟩
   rw [J35,List.drop_of_length_le (by omega),List.all_nil,if_pos rfl]
   exact Yt (by omega) rfl
 | succ d ih=>
   intro fuel i hi hf
   obtain ⟨fuel,rfl⟩:∃ f,fuel=f+1:=⟨fuel - 1,by omega⟩
   rw [J35,Int.toNat_natCast,Y2w (show i< bs.length by omega),List.all_cons]
   unfold J8z
   refine Yj (by omega) (Yb (by omega) ?_)
   have hno:¬ (0<=(bs.getD i default).Weight/\(bs.getD i default).Weight<=16)->Y6y (bs.getD i default)=false:=fun h=>decide_eq_false h
   by_cases a:(bs.getD i default).Weight< 0
   . rw [hno (by omega),Bool.false_and,if_neg Bool.false_ne_true]
     exact Yj a rfl
   . refine Yt a (Yb (by omega) ?_)
     by_cases b:(bs.getD i default).Weight > 16
     . rw [hno (by omega),Bool.false_and,if_neg Bool.false_ne_true]
       exact Yj b rfl
     . rw [show Y6y (bs.getD i default)=true from decide_eq_true ⟨by omega,by omega⟩,Bool.true_and]
       refine Yt b ?_
       rw [w64 (n:=(i:Int)+1) (by omega) (by omega)]
       exact ih fuel (i+1) (by omega) (by omega)
theorem Y18q {N :Nat} (hN:1000<=N) (v:Int) (ss:List Yf) (hl:ss.length<=3):∀ (d fuel i:Nat),ss.length=i+d->d< fuel->J1b N fuel v ss i=some ((ss.drop i).all Y40):=by
 intro d
 induction d with
 | zero=>
   intro fuel i hi hf
   obtain ⟨fuel,rfl⟩:∃ f,fuel=f+1:=⟨fuel - 1,by omega⟩
   rw [J1b,List.drop_of_length_le (by omega)]
   exact Yt (by omega) rfl
 | succ d ih=>
   intro fuel i hi hf
   obtain ⟨fuel,rfl⟩:∃ f,fuel=f+1:=⟨fuel - 1,by omega⟩
   rw [J1b,Int.toNat_natCast,Y2w (show i< ss.length by omega),List.all_cons]
   unfold J36
   have hno:∀ p:Prop,p->(p->¬ ((0<=(ss.getD i default).Weight/\(ss.getD i default).Weight<=16)/\(0<=(ss.getD i default).Cap/\(ss.getD i default).Cap<=8)/\(ss.getD i default).Backs.length<=4))->Y40 (ss.getD i default)=false:=by
     intro p hp hq
     rw [Bool.eq_false_iff]
     intro hs
     obtain ⟨_,h2,h3,h4⟩:=Yf8 hs
     exact hq hp ⟨h2,h3,h4⟩
   refine Yj (by omega) (Yb (by omega) ?_)
   by_cases a:(ss.getD i default).Weight< 0
   . rw [hno _ a (by omega),Bool.false_and];exact Yj a rfl
   refine Yt a ?_
   by_cases b:(ss.getD i default).Weight > 16
   . rw [hno _ b (by omega),Bool.false_and];exact Yj b rfl
   refine Yt b ?_
   by_cases c:(ss.getD i default).Cap< 0
   . rw [hno _ c (by omega),Bool.false_and];exact Yj c rfl
   refine Yt c ?_
   by_cases e:(ss.getD i default).Cap > 8
   . rw [hno _ e (by omega),Bool.false_and];exact Yj e rfl
   refine Yt e (Y15 ?_)
   by_cases g:((ss.getD i default).Backs.length:Int) > 4
   . rw [hno _ g (by omega),Bool.false_and];exact Yj g rfl
   refine Yt g ?_
   rw [show (0:Int)=((0:Nat):Int) from rfl,Y18p _ v ss i _ _ _ _ (by omega) (ss.getD i default).Backs.length N 0 (by omega) (by omega),List.drop_zero]
   cases hb:(ss.getD i default).Backs.all Y6y with
   | false=>
     have:Y40 (ss.getD i default)=false:=by unfold Y40;rw [hb,Bool.false_and]
     rw [this,Bool.false_and,if_neg Bool.false_ne_true]
   | true=>
     have:Y40 (ss.getD i default)=true:=by
       unfold Y40
       rw [hb,decide_eq_true (show 0<=(ss.getD i default).Weight/\(ss.getD i default).Weight<=16 by omega),decide_eq_true (show 0<=(ss.getD i default).Cap/\(ss.getD i default).Cap<=8 by omega),decide_eq_true (show ((ss.getD i default).Backs.length:Int)<=4 by omega)]
       rfl
     rw [this,Bool.true_and,if_pos rfl,w64 (n:=(i:Int)+1) (by omega) (by omega)]
     exact ih fuel (i+1) (by omega) (by omega)
theorem Y14r {N :Nat} (hN:1000<=N) (c:Y7):J1o N c=some (Y19 c):=by
 unfold J1o J64 Y19 Y20
 by_cases a:c.Version< 0
 . rw [decide_eq_false (show ¬ (0<=c.Version/\c.Version<=1048576) by omega),Bool.false_and,Bool.and_false]
   exact Yj a rfl
 refine Yt a ?_
 by_cases b:c.Version > 1048576
 . rw [decide_eq_false (show ¬ (0<=c.Version/\c.Version<=1048576) by omega),Bool.false_and,Bool.and_false]
   exact Yj b rfl
 refine Yt b ?_
 by_cases d:(c.Sites.length:Int) > 3
 . rw [decide_eq_false (show ¬ (c.Sites.length:Int)<=3 by omega),Bool.and_false,Bool.and_false]
   exact Yj d rfl
 refine Yt d ?_
 rw [decide_eq_true (show 0<=c.Version/\c.Version<=1048576 by omega),decide_eq_true (show (c.Sites.length:Int)<=3 by omega),Bool.and_true,Bool.and_true]
 have:=Y18q hN c.Version c.Sites (by omega) c.Sites.length N 0 (by omega) (by omega)
 rw [List.drop_zero] at this
 exact this
theorem Y18r (i flags :Int) (body:ByteArray):J4c 281474976710656 i flags body=some (Yki i flags body):=by
 unfold J4c
 rw [Y18i,Yl4,Y1e0]
 refine Y15 (Yb (by omega) ?_)
 have h:=Yrd (N:=281474976710656) (by decide) (Ydc i) (flags % 64) (Ykh body)
 rw [if_pos (Yqe i flags body)] at h
 rw [Int.toNat_natCast]
 exact stB h rfl
abbrev inj (r s n :Int) (t:ByteArray):Y1o:=⟨0,r,s,n,0,0,false,t,⟨0,[]⟩⟩
theorem Y1e9 (n :Int) (hn:n=0\/n=1) (t:ByteArray) (ht:t.size<=512):J11 281474976710656 (inj 0 0 n t)=some true:=by
 have hc:=Y31 (N:=281474976710656) (by decide) ⟨0,[]⟩ ⟨by decide,by decide⟩
 have hin:J7 281474976710656 n 8=some true:=by rcases hn with rfl | rfl <;> rfl
 have hin0:J7 281474976710656 0 8=some true:=rfl
 unfold J11 Jr J3r J1j J1i
 refine stB (x:=(⟨0,0,0,0,0,0,false,ByteArray.empty,⟨0,[]⟩⟩,true)) rfl (Y15 ?_)
 refine Yr (by decide) (Y1k ?_)
 rw [tlB]
 refine Ym (Yr rfl (Yj (show (0:Int)>=0 by decide) (stB hin0 (Ym (stB hin (Ym (stB hin0 (Ym (Yj (show (0:Int)>=0 by decide) ?_)))))))))
 exact Ym (Yr rfl (Yj (show (0:Int)<=2 by decide) (Yj (show (0:Int)< 32 by decide) (Yj (show (t.size:Int)<=512 by omega) (stB hc rfl)))))
end Go.Proofs.YtpdcnikdoikldaaGreatDoor.Pu
namespace Go.Proofs.YtpdcnikdoikldaaGreatDoor.Pu
open Go Go.RowKit Go.Proofs.YtpdcnikdoikldaaGreatDoor.Sv Go.Proofs.YtpdcnikdoikldaaGreatDoor.Lf
section
variable (e0 e1 : Y1l) (a : Yq) (ss : Y1g × Y1g × Y1g) (b : FB × FB × FB) (now : Int) (c : Y7) {t : ByteArray} {r : Y1fx}
end
set_option maxRecDepth 100000 in
theorem Y1ea :J2d 281474976710656=some true:=by decide +kernel
end Go.Proofs.YtpdcnikdoikldaaGreatDoor.Pu
namespace Go.Proofs.YtpdcnikdoikldaaGreatDoor.Pu
open Go Go.RowKit Go.Proofs.YtpdcnikdoikldaaGreatDoor.Sv Go.Proofs.YtpdcnikdoikldaaGreatDoor.Lf
def tE (e :Yq):J2:=⟨0,0,e.Id⟩
def Y5o (e :Yq) (now:Int) (f:Y9):Y0× Bool:=
 bif holds e f now then ((Y2n e.Flows f now).1,true) else (⟨f,(Y3d (Y9p e.Config e.Health) 0 f).1,false,0,0⟩,(Y3d (Y9p e.Config e.Health) 0 f).2)
theorem Y18s {e :Yq} (h:Y2u e) {f:Y9} (hf:Y47 f=true) (now:Int):J7i 281474976710656 e now f=some (Y5o e now f):=by
 have hlen:=Y50 h.hs
 obtain ⟨s1,s2⟩:=Y1x h.conf
 have hc:=(Y5v (Ylf (hs:=e.Health) h.conf) hf 0 (by decide)).1
 have hnew:∀ a1 a2 a3 a4 a5 a6 a7 a8 a9,J42 281474976710656 e f.Src f.Dst f.Proto f.Sport f.Dport 0 0 0 0 0 0 false 0 0 a1 a2 a3 a4 a5 a6 a7 a8 a9 false=some (⟨f,(Y3d (Y9p e.Config e.Health) 0 f).1,false,0,0⟩,(Y3d (Y9p e.Config e.Health) 0 f).2):=by
   intro a1 a2 a3 a4 a5 a6 a7 a8 a9
   unfold J42
   exact Yk (stB (Y14b (by decide) h.conf h.hs) (stB hc rfl))
 unfold J7i Y5o holds
 refine stB (Ysl (N:=281474976710656) (by decide) e.Flows f now h.cache) ?_
 cases hq:(Y2n e.Flows f now).2 with
 | false=>exact Yk (hnew ..)
 | true=>
   have hh:=Ysn (N:=281474976710656) (by decide) h.conf (Y2n e.Flows f now).1.To
   by_cases c:0<=(Y2n e.Flows f now).1.To/\(Y2n e.Flows f now).1.To< (e.Config.Sites.length:Int)
   . rw [decide_eq_true c] at hh ⊢
     refine Ym (stB hh (Ym (Yb (by omega) ?_)))
     cases hu:(e.Health.getD (Y2n e.Flows f now).1.To.toNat default).Up with
     | true=>rfl
     | false=>exact hnew ..
   . rw [decide_eq_false c] at hh ⊢
     exact Ym (stB hh (Yk (hnew ..)))
theorem Y14s {e :Yq} (h:Y2u e) {f:Y9} (hf:Y47 f=true) (now:Int):Pin e f now (Y5o e now f).1 (Y5o e now f).2:=by
 obtain ⟨_,c2,c3⟩:=Y5v (Ylf (hs:=e.Health) h.conf) hf 0 (by decide)
 unfold Y5o
 cases hh:holds e f now with
 | true=>exact .old hh
 | false=>
   rw [cond_false]
   generalize Y3d (Y9p e.Config e.Health) 0 f=q at*
   obtain ⟨id,b⟩:=q
   cases b with
   | true=>
     obtain ⟨c,k1,k2⟩:=c2 rfl
     dsimp only at k2 ⊢
     rw [<- k2]
     exact .new hh k1
   | false=>exact .none hh (c3 rfl)
theorem Ybc {e :Yq} (h:Y2u e) {f:Y9} (hf:Y47 f=true) {now:Int} (q:(Y5o e now f).2=true):Fits e f (Y5o e now f).1:=by
 have:=Y14s h hf now
 rw [q] at this
 exact Y14f h hf this
def Y34 (e :Yq) (now:Int) (s:ByteArray):Yq× Y1e:=
 bif (ofF s).2.2 != 0 then (e,Y45 (tE e) (Yf1 (ofF s).2.2) (ofF s).1)
 else bif !(Y5o e now (ofF s).1).2 then (e,Y45 (tE e) 5 (ofF s).1)
 else (⟨e.Id,e.Config,e.Health,(Y53 (tE e) (Yai e (Y5o e now (ofF s).1).1 s) e.Flows (Y5o e now (ofF s).1).1 (ofF s).2.1.Flags now).1⟩,
   (Y53 (tE e) (Yai e (Y5o e now (ofF s).1).1 s) e.Flows (Y5o e now (ofF s).1).1 (ofF s).2.1.Flags now).2)
theorem Ygb {e :Yq} (h:Y2u e) {now:Int} (hn:Y20 now=true) (s:ByteArray):J5i 281474976710656 e now s=some ((Y34 e now s).1,(Y34 e now s).2,0):=by
 have hm:=Yj4 (N:=281474976710656) (by decide) e (Y1fy h)
 rw [(Yj5 e).2 h] at hm
 have ht:=Y5u 281474976710656 now
 rw [hn] at ht
 unfold J5i J7r Y34
 refine stB hm (Yi (stB ht (Yk (stB (Y14a (by decide) h) (stB (Yvc (by decide) s) ?_)))))
 by_cases hc:(ofF s).2.2=0
 case neg=>
   rw [show ((ofF s).2.2 != 0)=true from bne_iff_ne.2 hc]
   exact Ym (stB (Yda _ _) (stB rfl rfl))
 obtain ⟨f1,f2⟩:=Y8z hc
 refine Y1p hc ?_
 rw [show ((ofF s).2.2 != 0)=false by rw [hc];rfl,cond_false]
 refine stB (Y18s h f1 now) ?_
 have hfit:=fun q=>Ybc (now:=now) h f1 q
 show (bif !(Y5o e now (ofF s).1).2 then _ else _)=_
 generalize Y5o e now (ofF s).1=x at*
 cases he:x.2 with
 | false=>exact Y1k (stB rfl rfl)
 | true=>
   have hx:=hfit he
   have a1:Y6j 0 0 e.Id=(167837696+e.Id,0):=by unfold Y6j;rw [if_pos ⟨rfl,rfl,h.id⟩]
   have a2:Y6j 1 x.1.To 0=(167903232+x.1.To,0):=by unfold Y6j;rw [if_neg (by omega),if_pos ⟨rfl,rfl,hx.to_⟩]
   have e1:=Y30 281474976710656 0 0 e.Id
   have e2:=Y30 281474976710656 1 x.1.To 0
   rw [a1] at e1;rw [a2] at e2
   exact Yi (stB e1 (stB e2 (stB (Yqi (tE e) (Yqc h hx (Yqd hc)) h.cache hx.ok ⟨f2.1,f2.2⟩ hn) rfl)))
theorem Y14t {e :Yq} (h:Y2u e) {now:Int} (hn:Y20 now=true) (s:ByteArray):Y2u (Y34 e now s).1:=by
 unfold Y34
 by_cases hc:(ofF s).2.2=0
 case neg=>rw [show ((ofF s).2.2 != 0)=true from bne_iff_ne.2 hc];exact h
 obtain ⟨f1,f2⟩:=Y8z hc
 rw [show ((ofF s).2.2 != 0)=false by rw [hc];rfl,cond_false]
 have hfit:=fun q=>Ybc (now:=now) h f1 q
 generalize Y5o e now (ofF s).1=x at*
 cases he:x.2 with
 | false=>exact h
 | true=>
 have hx:=hfit he
 rw [Bool.not_true,cond_false]
 unfold Y53
 split
 . exact h
 . refine ⟨fun y hy=> ?_,h.id,h.conf,h.hs,Yzz h.cache (Ykk hx.ok hn)⟩
   rcases Yso hy with q | rfl
   . exact h.pin y q
   . exact ⟨hx.away,hx.to_⟩
theorem Yrm (e :Yq) (now:Int) (s:ByteArray):(Y34 e now s).1.Id=e.Id/\(Y34 e now s).1.Config=e.Config/\(Y34 e now s).1.Health=e.Health:=by
 unfold Y34
 cases ((ofF s).2.2 != 0) with
 | true=>exact ⟨rfl,rfl,rfl⟩
 | false=>cases (!(Y5o e now (ofF s).1).2) <;> exact ⟨rfl,rfl,rfl⟩
end Go.Proofs.YtpdcnikdoikldaaGreatDoor.Pu
