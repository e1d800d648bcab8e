import Derived.Test.YtpdcnikdoikldaaGreatDoorS1
import Derived.Test.YtpdcnikdoikldaaGreatDoorE4
import Derived.KernelRfl
set_option linter.unusedVariables false
set_option linter.unusedSimpArgs false
namespace Go.Proofs.YtpdcnikdoikldaaGreatDoor.Pu
open Go Go.RowKit Go.Proofs.YtpdcnikdoikldaaGreatDoor.Sv Go.Proofs.YtpdcnikdoikldaaGreatDoor.Lf
def fe (c :Y7) (i:Int):Yp:=⟨i,c,[⟨true,0⟩,⟨true,0⟩,⟨true,0⟩],[]⟩
def fs (c :Y7) (i:Int):Ya:=⟨i,c,[⟨true,0⟩,⟨true,0⟩,⟨true,0⟩,⟨true,0⟩],[⟨⟨0,0,0,0⟩,-1⟩,⟨⟨0,0,0,0⟩,-1⟩,⟨⟨0,0,0,0⟩,-1⟩],[],0⟩
theorem Y1dh :J5q 281474976710656 [⟨true,0⟩] 3=some [⟨true,0⟩,⟨true,0⟩,⟨true,0⟩]:=by kernel_rfl
theorem Y1di :J5q 281474976710656 [⟨true,0⟩] 4=some [⟨true,0⟩,⟨true,0⟩,⟨true,0⟩,⟨true,0⟩]:=by kernel_rfl
theorem Y1dj :Jas 281474976710656 [⟨⟨0,0,0,0⟩,-1⟩] 3=some [⟨⟨0,0,0,0⟩,-1⟩,⟨⟨0,0,0,0⟩,-1⟩,⟨⟨0,0,0,0⟩,-1⟩]:=by kernel_rfl
theorem Yjq {c :Y7} (h:Y14 c=true):BdC c:=by
 obtain ⟨s1,s2⟩:=Y1t h
 exact ⟨by omega,fun y hy=>by have:=(s2 y hy).2;omega⟩
theorem Yil {c :Y7} (h:Y14 c=true) {i:Int} (hi:0<=i/\i< 2):Y2w (fe c i):=
 ⟨fun x hx=>(by cases hx),hi,h,rfl,rfl⟩
theorem Ycp {c :Y7} (h:Y14 c=true):Jl 281474976710656 c=some c:=by
 obtain ⟨s1,s2⟩:=Y1t h
 exact Yge (by decide) c (by omega) fun y hy=>by have:=(s2 y hy).2;omega
theorem Y96 {c :Y7} (h:Y14 c=true) {i:Int} (hi:0<=i/\i< 2):J8g 281474976710656 i c=some (fe c i,0):=by
 have hm:=Yih (N:=281474976710656) (by decide) (fe c i) ⟨Yjq h,show (3:Nat)<=_ by decide,show (0:Nat)<=_ by decide⟩
 rw [(Yii _).2 (Yil h hi)] at hm
 unfold J8g
 exact stB (Ycp h) (stB rfl (stB Y1dh (stB hm (Yj rfl))))
theorem Ycq {c :Y7} (h:Y14 c=true) {i:Int} (hi:0<=i/\i< 3):Y9x (fs c i)=true:=by
 unfold Y9x Y7b fs
 dsimp only
 rw [h,decide_eq_true hi]
 rfl
theorem Y6e {c :Y7} (h:Y14 c=true) {i:Int} (hi:0<=i/\i< 3):J8h 281474976710656 i c=some (fs c i,0):=by
 have hm:=Ycl (N:=281474976710656) (by decide) (fs c i) ⟨Yjq h,show (4:Nat)<=_ by decide,show (3:Nat)<=_ by decide,show (0:Nat)<=_ by decide⟩
 rw [Ycq h hi] at hm
 unfold J8h Jat
 exact stB (Ycp h) (stB rfl (stB Y1di (stB (stB Y1dj rfl) (stB hm (Yj rfl)))))
end Go.Proofs.YtpdcnikdoikldaaGreatDoor.Pu
namespace Go.Proofs.YtpdcnikdoikldaaGreatDoor.Pu
open Go Go.RowKit Go.Proofs.YtpdcnikdoikldaaGreatDoor.Sv Go.Proofs.YtpdcnikdoikldaaGreatDoor.Lf
abbrev FP:=J4
abbrev FB:=FP× FP× FP× FP
abbrev upS :FB:=(⟨true⟩,⟨true⟩,⟨true⟩,⟨true⟩)
section
variable {c : Y7} (h : Y14 c = true) (e0 e1 : Y1i) (n0 n1 n2 : Y1e) (a : Yp) (x : Ya) (es : Y1i × Y1i) (ss : Y1e × Y1e × Y1e) (b : FB × FB × FB) (now : Int)
include h
theorem Y1dk :Jk 281474976710656 ⟨(⟨a,false⟩,e1),ss,b,now,c⟩ 0 0 0 true=some (0,⟨(⟨fe c 0,true⟩,e1),ss,b,now,c⟩):=by
 have h1:Jq 281474976710656 ⟨(⟨a,false⟩,e1),ss,b,now,c⟩ 0 0 0=some (true,⟨(⟨a,false⟩,e1),ss,b,now,c⟩):=by kernel_rfl
 have h2:J5r 281474976710656 ⟨(⟨a,false⟩,e1),ss,b,now,c⟩ true 0=some (⟨(⟨fe c 0,true⟩,e1),ss,b,now,c⟩,default):=by
   unfold J5r J5s J2z
   exact Yq (Yq (stB (stB (Y96 h (by decide)) rfl) rfl))
 unfold Jk
 exact stB h1 (Yj (Ys rfl (Ys rfl (stB h2 rfl))))
theorem Y1dl :Jk 281474976710656 ⟨(e0,⟨a,false⟩),ss,b,now,c⟩ 0 0 1 true=some (0,⟨(e0,⟨fe c 1,true⟩),ss,b,now,c⟩):=by
 have h1:Jq 281474976710656 ⟨(e0,⟨a,false⟩),ss,b,now,c⟩ 0 0 1=some (true,⟨(e0,⟨a,false⟩),ss,b,now,c⟩):=by kernel_rfl
 have h2:J5t 281474976710656 ⟨(e0,⟨a,false⟩),ss,b,now,c⟩ true 1=some (⟨(e0,⟨fe c 1,true⟩),ss,b,now,c⟩,default):=by
   unfold J5t J5u J2z
   exact Yq (Yq (stB (stB (Y96 h (by decide)) rfl) rfl))
 unfold Jk
 exact stB h1 (Yj (Ys rfl (Yo (by decide) (Yd rfl (stB h2 rfl)))))
theorem Y1dm :Jk 281474976710656 ⟨es,(⟨x,false⟩,n1,n2),b,now,c⟩ 1 0 0 true=some (0,⟨es,(⟨fs c 0,true⟩,n1,n2),b,now,c⟩):=by
 have h1:Jq 281474976710656 ⟨es,(⟨x,false⟩,n1,n2),b,now,c⟩ 1 0 0=some (true,⟨es,(⟨x,false⟩,n1,n2),b,now,c⟩):=by kernel_rfl
 have h2:J5v 281474976710656 ⟨es,(⟨x,false⟩,n1,n2),b,now,c⟩ true 0=some (⟨es,(⟨fs c 0,true⟩,n1,n2),b,now,c⟩,default):=by
   unfold J5v J5w J18
   exact Yq (Yq (stB (stB (Y6e h (by decide)) rfl) rfl))
 unfold Jk
 exact stB h1 (Yj (Yo (by decide) (Ys rfl (Ys rfl (stB h2 rfl)))))
theorem Y1dn :Jk 281474976710656 ⟨es,(n0,⟨x,false⟩,n2),b,now,c⟩ 1 1 0 true=some (0,⟨es,(n0,⟨fs c 1,true⟩,n2),b,now,c⟩):=by
 have h1:Jq 281474976710656 ⟨es,(n0,⟨x,false⟩,n2),b,now,c⟩ 1 1 0=some (true,⟨es,(n0,⟨x,false⟩,n2),b,now,c⟩):=by kernel_rfl
 have h2:J5x 281474976710656 ⟨es,(n0,⟨x,false⟩,n2),b,now,c⟩ true 1=some (⟨es,(n0,⟨fs c 1,true⟩,n2),b,now,c⟩,default):=by
   unfold J5x J5y J18
   exact Yq (Yq (stB (stB (Y6e h (by decide)) rfl) rfl))
 unfold Jk
 exact stB h1 (Yj (Yo (by decide) (Ys rfl (Yo (by decide) (Ys rfl (stB h2 rfl))))))
theorem Y1do :Jk 281474976710656 ⟨es,(n0,n1,⟨x,false⟩),b,now,c⟩ 1 2 0 true=some (0,⟨es,(n0,n1,⟨fs c 2,true⟩),b,now,c⟩):=by
 have h1:Jq 281474976710656 ⟨es,(n0,n1,⟨x,false⟩),b,now,c⟩ 1 2 0=some (true,⟨es,(n0,n1,⟨x,false⟩),b,now,c⟩):=by kernel_rfl
 have h2:J5z 281474976710656 ⟨es,(n0,n1,⟨x,false⟩),b,now,c⟩ true 2=some (⟨es,(n0,n1,⟨fs c 2,true⟩),b,now,c⟩,default):=by
   unfold J5z J60 J18
   exact Yq (Yq (stB (stB (Y6e h (by decide)) rfl) rfl))
 unfold Jk
 exact stB h1 (Yj (Yo (by decide) (Ys rfl (Yo (by decide) (Yo (by decide) (Yd rfl (stB h2 rfl)))))))
omit h
variable (r2 : J0 -> Int -> Int -> Option (J0 × Int × Bool)) (c)
theorem Y1dp :Jj 281474976710656 r2 281474976710656 ⟨es,ss,b,now,c⟩ 0 3 0 0=r2 ⟨es,ss,(upS,b.2),now,c⟩ 3 1:=by kernel_rfl
theorem Y1dq :Jj 281474976710656 r2 281474976710656 ⟨es,ss,b,now,c⟩ 1 3 1 0=r2 ⟨es,ss,(b.1,upS,b.2.2),now,c⟩ 3 2:=by kernel_rfl
theorem Y1dr :Jj 281474976710656 r2 281474976710656 ⟨es,ss,b,now,c⟩ 2 3 2 0=r2 ⟨es,ss,(b.1,b.2.1,upS),now,c⟩ 3 3:=by kernel_rfl
end
def fab0 (c :Y7):J0:=⟨(⟨fe c 0,true⟩,⟨fe c 1,true⟩),(⟨fs c 0,true⟩,⟨fs c 1,true⟩,⟨fs c 2,true⟩),(upS,upS,upS),0,c⟩
theorem Y1ds {c :Y7} (h:Y14 c=true) (es:Y1i× Y1i) (x y z:Ya) (b:FB× FB× FB) (fuel:Nat):
   J26 281474976710656 (fuel+4) ⟨es,(⟨x,false⟩,⟨y,false⟩,⟨z,false⟩),b,0,c⟩ 3 0=some (⟨es,(⟨fs c 0,true⟩,⟨fs c 1,true⟩,⟨fs c 2,true⟩),(upS,upS,upS),0,c⟩,0,false):=by
 rw [J26]
 refine Ym (by decide) (stB (Y1dm h _ _ _ _ _ _) ?_)
 rw [Y1dp,J26]
 refine Ym (by decide) (stB (Y1dn h _ _ _ _ _ _) ?_)
 rw [Y1dq,J26]
 refine Ym (by decide) (stB (Y1do h _ _ _ _ _ _) ?_)
 rw [Y1dr,J26]
 exact Yu (by decide) rfl
theorem Y1dt {c :Y7} (h:Y14 c=true) (x y:Yp) (u v w:Ya) (b:FB× FB× FB) (fuel:Nat):
   J30 281474976710656 (fuel+3) ⟨(⟨x,false⟩,⟨y,false⟩),(⟨u,false⟩,⟨v,false⟩,⟨w,false⟩),b,0,c⟩ 2 0=some (fab0 c,0,false):=by
 rw [J30]
 refine Ym (by decide) (stB (Y1dk h _ _ _ _ _) ?_)
 rw [show IntKind.i64.wrap ((0:Int)+1)=1 from rfl,J30]
 refine Ym (by decide) (stB (Y1dl h _ _ _ _ _) ?_)
 rw [show IntKind.i64.wrap ((1:Int)+1)=2 from rfl,J30]
 exact Yu (by decide) (Y1ds h _ _ _ _ _ 281474976710652)
theorem Yyl (c :Y7) (hb:BdC c):J4a 281474976710656 c=some (if Y14 c=true then (fab0 c,0,false) else (default,2400,true)):=by
 have hm:=Y3h (N:=281474976710656) (by decide) c hb
 unfold J4a
 cases h:Y14 c with
 | false=>rw [h] at hm;exact stB hm (Y1u rfl)
 | true=>
   rw [h] at hm
   exact stB hm (Yj (stB (Ycp h) (Y1dt h _ _ _ _ _ _ 281474976710653)))
def w0 (c :Y7):J1:=⟨fab0 c,⟨[]⟩,[],[]⟩
theorem Yq9 (c :Y7) (hb:BdC c):J31 281474976710656 c=some (if Y14 c=true then (w0 c,0,false) else (default,2500,true)):=by
 have hf:=Yyl c hb
 unfold J31
 cases h:Y14 c with
 | false=>rw [h] at hf;exact stB hf (Yq (Y2h (show ¬ (2400:Int)=0 by decide) rfl))
 | true=>rw [h] at hf;exact stB hf (Yn (Y1z rfl (stB rfl rfl)))
end Go.Proofs.YtpdcnikdoikldaaGreatDoor.Pu
namespace Go.Proofs.YtpdcnikdoikldaaGreatDoor.Pu
open Go Go.RowKit Go.Proofs.YtpdcnikdoikldaaGreatDoor.Sv Go.Proofs.YtpdcnikdoikldaaGreatDoor.Lf
theorem Y32 {b n :Nat} (hb:b<=1000) (hn:n<=100000):Y17 b n:=by
 unfold Y17
 have h:2*n*b<=2*100000*1000:=Nat.mul_le_mul (by omega) hb
 exact ⟨by omega,by omega⟩
def room (a b :Nat):Nat:=min (4096 - a) b
theorem Y8n (tr ev :List Y1) (h:tr.length<=4096) (h2:ev.length<=4096):J32 281474976710656 tr ev=some (tr++ev.take (4096 - tr.length),[]):=by
 unfold J32
 refine Y1a (Y1a ?_)
 rw [w64 (n:=(4096:Int) - (tr.length:Int)) (by omega) (by omega)]
 have hv:∃ k:Nat,(if decide ((4096:Int) - (tr.length:Int)< (ev.length:Int))=true then (4096:Int) - (tr.length:Int) else (ev.length:Int))=(k:Int)/\k=min (4096 - tr.length) ev.length:=by
   by_cases c:(4096:Int) - (tr.length:Int)< (ev.length:Int)
   . exact ⟨4096 - tr.length,by rw [if_pos (decide_eq_true c)];omega,by omega⟩
   . exact ⟨ev.length,by rw [if_neg (by simpa using c)],by omega⟩
 obtain ⟨k,hk,hk2⟩:=hv
 rw [hk]
 have e1:(ev.drop (Int.toNat (0:Int))).take (Int.toNat ((k:Int) - (0:Int)))=ev.take (4096 - tr.length):=by
   rw [show Int.toNat ((k:Int) - (0:Int))=k by omega,show Int.toNat (0:Int)=0 from rfl,List.drop_zero,hk2]
   rcases Nat.le_total (4096 - tr.length) ev.length with q | q
   . rw [Nat.min_eq_left q]
   . rw [Nat.min_eq_right q,List.take_length,List.take_of_length_le q]
 rw [e1]
 refine Yd ⟨by omega,by omega,by omega,by omega,by omega⟩ (Yd (Y32 (by decide) ?_) rfl)
 rw [List.length_take];omega
theorem Y12o (tr ev :List ByteArray) (h:tr.length<=4096) (h2:ev.length<=4096):J8i 281474976710656 tr ev=some (tr++ev.take (4096 - tr.length),[]):=by
 unfold J8i
 refine Y1a (Y1a ?_)
 rw [w64 (n:=(4096:Int) - (tr.length:Int)) (by omega) (by omega)]
 have hv:∃ k:Nat,(if decide ((4096:Int) - (tr.length:Int)< (ev.length:Int))=true then (4096:Int) - (tr.length:Int) else (ev.length:Int))=(k:Int)/\k=min (4096 - tr.length) ev.length:=by
   by_cases c:(4096:Int) - (tr.length:Int)< (ev.length:Int)
   . exact ⟨4096 - tr.length,by rw [if_pos (decide_eq_true c)];omega,by omega⟩
   . exact ⟨ev.length,by rw [if_neg (by simpa using c)],by omega⟩
 obtain ⟨k,hk,hk2⟩:=hv
 rw [hk]
 have e1:(ev.drop (Int.toNat (0:Int))).take (Int.toNat ((k:Int) - (0:Int)))=ev.take (4096 - tr.length):=by
   rw [show Int.toNat ((k:Int) - (0:Int))=k by omega,show Int.toNat (0:Int)=0 from rfl,List.drop_zero,hk2]
   rcases Nat.le_total (4096 - tr.length) ev.length with q | q
   . rw [Nat.min_eq_left q]
   . rw [Nat.min_eq_right q,List.take_length,List.take_of_length_le q]
 rw [e1]
 refine Yd ⟨by omega,by omega,by omega,by omega,by omega⟩ (Yd (Y32 (by decide) ?_) rfl)
 rw [List.length_take];omega
def Y97 (row :List ByteArray) (s:ByteArray):Int× J6:=if row.length< 32 then (0,⟨row++[s]⟩) else (2201,⟨row⟩)
theorem Y16f (row :List ByteArray) (s:ByteArray) (hs:0< s.size/\s.size<=512):J8j 281474976710656 ⟨row⟩ s=some (Y97 row s):=by
 have hne:(s.toList==ByteArray.empty.toList)=false:=by
   rw [Y92,decide_eq_false]
   rintro rfl
   exact absurd hs.1 (by decide)
 unfold J8j J8k J4b Y97
 rw [hne,decide_eq_false (show ¬ (s.size:Int) > 512 by omega)]
 by_cases c:row.length< 32
 . rw [if_pos c]
   refine Yn (Yn (stB (x:=(0,⟨row++[s]⟩)) ?_ rfl))
   refine Ym (show ((row.length:Nat):Int)< 32 by omega) (Yd (Y32 (by decide) (show row.length+1<=100000 by omega)) (Yd ?_ rfl))
   show ((row.length:Nat):Int)+1=(((row++[s]).length:Nat):Int)
   rw [List.length_append]
   rfl
 . rw [if_neg c]
   refine Yn (Yn (stB (x:=(2201,⟨row⟩)) ?_ rfl))
   exact Yu (show ¬ ((row.length:Nat):Int)< 32 by omega) rfl
def Y85 (st :List ByteArray× List Y1) (r s n:Int):List ByteArray->List ByteArray× List Y1
 | []=>st
 | x :: xs=>Y85 (if st.1.length< 32 then (st.1++[x],st.2) else (st.1,st.2++([(⟨10,r,s,n,0,⟨0,0,0,0,0⟩⟩:Y1)]).take (4096 - st.2.length))) r s n xs
theorem Yu5 (f :J0) (gt:List ByteArray) (r s n:Int) (sent:List ByteArray) (hs:∀ x∈sent,0< x.size/\x.size<=512) (hl:sent.length<=4096):∀ (d fuel i:Nat) (net:List ByteArray) (tr:List Y1),sent.length=i+d->d< fuel->tr.length<=4096->
   J33 281474976710656 fuel ⟨f,⟨net⟩,tr,gt⟩ r s n sent (sent.length:Int) (i:Int)=some ⟨f,⟨(Y85 (net,tr) r s n (sent.drop i)).1⟩,(Y85 (net,tr) r s n (sent.drop i)).2,gt⟩:=by
 intro d
 induction d with
 | zero=>
   intro fuel i net tr hi hf ht
   obtain ⟨fuel,rfl⟩:∃ k,fuel=k+1:=⟨fuel - 1,by omega⟩
   rw [J33,List.drop_of_length_le (by omega)]
   exact Yu (by omega) rfl
 | succ d ih=>
   intro fuel i net tr hi hf ht
   obtain ⟨fuel,rfl⟩:∃ k,fuel=k+1:=⟨fuel - 1,by omega⟩
   have hx:=hs _ (Y3q (show i< sent.length by omega))
   rw [J33,Y2t (show i< sent.length by omega),Int.toNat_natCast]
   unfold J8l
   have hsend:=Y16f net (sent.getD i default) hx
   refine Ym (by omega) (Yd (by omega) (stB hsend ?_))
   rw [w64 (n:=(i:Int)+1) (by omega) (by omega)]
   unfold Y85 Y97
   by_cases c:net.length< 32
   . rw [if_pos c,if_pos c]
     refine Yo (show ¬ (0:Int)=2201 by decide) ?_
     exact ih fuel (i+1) (net++[sent.getD i default]) tr (by omega) (by omega) ht
   . rw [if_neg c,if_neg c]
     refine Ys rfl (stB rfl (stB (Y8n tr _ ht (show (1:Nat)<=4096 by decide)) ?_))
     refine ih fuel (i+1) net _ (by omega) (by omega) ?_
     rw [List.length_append,List.length_take]
     omega
theorem Y12p (f :J0) (net gt sent:List ByteArray) (tr ev:List Y1) (r s n:Int) (hr:r≠2) (hs:∀ x∈sent,0< x.size/\x.size<=512) (hl:sent.length<=4096) (ht:tr.length<=4096) (he:ev.length<=4096):
   J27 281474976710656 ⟨f,⟨net⟩,tr,gt⟩ ⟨r,s,n⟩ ⟨sent,ev⟩=some ⟨f,⟨(Y85 (net,tr++ev.take (4096 - tr.length)) r s n sent).1⟩,(Y85 (net,tr++ev.take (4096 - tr.length)) r s n sent).2,gt⟩:=by
 unfold J27
 refine stB (Y8n tr ev ht he) (Yo hr ?_)
 have:=Yu5 f gt r s n sent hs hl sent.length 281474976710656 0 net (tr++ev.take (4096 - tr.length)) (by omega) (by omega) (by rw [List.length_append,List.length_take];omega)
 rw [List.drop_zero] at this
 exact this
theorem Yym (f :J0) (net gt sent:List ByteArray) (tr ev:List Y1) (s n:Int) (hl:sent.length<=4096) (ht:tr.length<=4096) (hg:gt.length<=4096) (he:ev.length<=4096):
   J27 281474976710656 ⟨f,⟨net⟩,tr,gt⟩ ⟨2,s,n⟩ ⟨sent,ev⟩=some ⟨f,⟨net⟩,tr++ev.take (4096 - tr.length),gt++sent.take (4096 - gt.length)⟩:=by
 unfold J27
 exact stB (Y8n tr ev ht he) (Ys rfl (stB (Y12o gt sent hg hl) rfl))
theorem Y12q (w :J1) (h:w.trace_.length<=4096):Ju 281474976710656 w=some (w.trace_,w):=by
 unfold Ju J8m J8n Jau
 refine stB (x:=w.trace_) ?_ rfl
 by_cases c:w.trace_.length=0
 . rw [if_pos c,List.eq_nil_of_length_eq_zero c]
 . rw [if_neg c]
   exact Yd c (Yd (Y32 (by decide) (by omega)) rfl)
end Go.Proofs.YtpdcnikdoikldaaGreatDoor.Pu
namespace Go.Proofs.YtpdcnikdoikldaaGreatDoor.Pu
open Go Go.RowKit Go.Proofs.YtpdcnikdoikldaaGreatDoor.Sv Go.Proofs.YtpdcnikdoikldaaGreatDoor.Lf
end Go.Proofs.YtpdcnikdoikldaaGreatDoor.Pu
namespace Go.Proofs.YtpdcnikdoikldaaGreatDoor.Pu
open Go Go.RowKit Go.Proofs.YtpdcnikdoikldaaGreatDoor.Sv Go.Proofs.YtpdcnikdoikldaaGreatDoor.Lf
theorem Y16g {N :Nat} (r2:Int->List Yf->Int->Option Bool) (v:Int) (ss:List Yf) (k w:Int) (dr:Bool) (cap:Int) (bs:List Y2b) (hl:bs.length<=4):∀ (d fuel i:Nat),bs.length=i+d->d< fuel->J34 N r2 fuel v ss k w dr cap bs i=if (bs.drop i).all Y6o=true then r2 v ss (IntKind.i64.wrap (k+1)) else some false:=by
 intro d
 induction d with
 | zero=>
   intro fuel i hi hf
   obtain ⟨fuel,rfl⟩:∃ f,fuel=f+1:=⟨fuel - 1,by omega⟩
   rw [J34,List.drop_of_length_le (by omega),List.all_nil,if_pos rfl]
   exact Yu (by omega) rfl
 | succ d ih=>
   intro fuel i hi hf
   obtain ⟨fuel,rfl⟩:∃ f,fuel=f+1:=⟨fuel - 1,by omega⟩
   rw [J34,Int.toNat_natCast,Y2t (show i< bs.length by omega),List.all_cons]
   unfold J8o
   refine Ym (by omega) (Yd (by omega) ?_)
   have hno:¬ (0<=(bs.getD i default).Weight/\(bs.getD i default).Weight<=16)->Y6o (bs.getD i default)=false:=fun h=>decide_eq_false h
   by_cases a:(bs.getD i default).Weight< 0
   . rw [hno (by omega),Bool.false_and,if_neg Bool.false_ne_true]
     exact Ym a rfl
   . refine Yu a (Yd (by omega) ?_)
     by_cases b:(bs.getD i default).Weight > 16
     . rw [hno (by omega),Bool.false_and,if_neg Bool.false_ne_true]
       exact Ym b rfl
     . rw [show Y6o (bs.getD i default)=true from decide_eq_true ⟨by omega,by omega⟩,Bool.true_and]
       refine Yu b ?_
       rw [w64 (n:=(i:Int)+1) (by omega) (by omega)]
       exact ih fuel (i+1) (by omega) (by omega)
theorem Y16h {N :Nat} (hN:1000<=N) (v:Int) (ss:List Yf) (hl:ss.length<=3):∀ (d fuel i:Nat),ss.length=i+d->d< fuel->J19 N fuel v ss i=some ((ss.drop i).all Y3s):=by
 intro d
 induction d with
 | zero=>
   intro fuel i hi hf
   obtain ⟨fuel,rfl⟩:∃ f,fuel=f+1:=⟨fuel - 1,by omega⟩
   rw [J19,List.drop_of_length_le (by omega)]
   exact Yu (by omega) rfl
 | succ d ih=>
   intro fuel i hi hf
   obtain ⟨fuel,rfl⟩:∃ f,fuel=f+1:=⟨fuel - 1,by omega⟩
   rw [J19,Int.toNat_natCast,Y2t (show i< ss.length by omega),List.all_cons]
   unfold J35
   have hno:∀ p:Prop,p->(p->¬ ((0<=(ss.getD i default).Weight/\(ss.getD i default).Weight<=16)/\(0<=(ss.getD i default).Cap/\(ss.getD i default).Cap<=8)/\(ss.getD i default).Backs.length<=4))->Y3s (ss.getD i default)=false:=by
     intro p hp hq
     rw [Bool.eq_false_iff]
     intro hs
     obtain ⟨_,h2,h3,h4⟩:=Yeg hs
     exact hq hp ⟨h2,h3,h4⟩
   refine Ym (by omega) (Yd (by omega) ?_)
   by_cases a:(ss.getD i default).Weight< 0
   . rw [hno _ a (by omega),Bool.false_and];exact Ym a rfl
   refine Yu a ?_
   by_cases b:(ss.getD i default).Weight > 16
   . rw [hno _ b (by omega),Bool.false_and];exact Ym b rfl
   refine Yu b ?_
   by_cases c:(ss.getD i default).Cap< 0
   . rw [hno _ c (by omega),Bool.false_and];exact Ym c rfl
   refine Yu c ?_
   by_cases e:(ss.getD i default).Cap > 8
   . rw [hno _ e (by omega),Bool.false_and];exact Ym e rfl
   refine Yu e (Y1a ?_)
   by_cases g:((ss.getD i default).Backs.length:Int) > 4
   . rw [hno _ g (by omega),Bool.false_and];exact Ym g rfl
   refine Yu g ?_
   rw [show (0:Int)=((0:Nat):Int) from rfl,Y16g _ v ss i _ _ _ _ (by omega) (ss.getD i default).Backs.length N 0 (by omega) (by omega),List.drop_zero]
   cases hb:(ss.getD i default).Backs.all Y6o with
   | false=>
     have:Y3s (ss.getD i default)=false:=by unfold Y3s;rw [hb,Bool.false_and]
     rw [this,Bool.false_and,if_neg Bool.false_ne_true]
   | true=>
     have:Y3s (ss.getD i default)=true:=by
       unfold Y3s
       rw [hb,decide_eq_true (show 0<=(ss.getD i default).Weight/\(ss.getD i default).Weight<=16 by omega),decide_eq_true (show 0<=(ss.getD i default).Cap/\(ss.getD i default).Cap<=8 by omega),decide_eq_true (show ((ss.getD i default).Backs.length:Int)<=4 by omega)]
       rfl
     rw [this,Bool.true_and,if_pos rfl,w64 (n:=(i:Int)+1) (by omega) (by omega)]
     exact ih fuel (i+1) (by omega) (by omega)
theorem Y12r {N :Nat} (hN:1000<=N) (c:Y7):J1j N c=some (Y14 c):=by
 unfold J1j J61 Y14 Y22
 by_cases a:c.Version< 0
 . rw [decide_eq_false (show ¬ (0<=c.Version/\c.Version<=1048576) by omega),Bool.false_and,Bool.and_false]
   exact Ym a rfl
 refine Yu a ?_
 by_cases b:c.Version > 1048576
 . rw [decide_eq_false (show ¬ (0<=c.Version/\c.Version<=1048576) by omega),Bool.false_and,Bool.and_false]
   exact Ym b rfl
 refine Yu b ?_
 by_cases d:(c.Sites.length:Int) > 3
 . rw [decide_eq_false (show ¬ (c.Sites.length:Int)<=3 by omega),Bool.and_false,Bool.and_false]
   exact Ym d rfl
 refine Yu d ?_
 rw [decide_eq_true (show 0<=c.Version/\c.Version<=1048576 by omega),decide_eq_true (show (c.Sites.length:Int)<=3 by omega),Bool.and_true,Bool.and_true]
 have:=Y16h hN c.Version c.Sites (by omega) c.Sites.length N 0 (by omega) (by omega)
 rw [List.drop_zero] at this
 exact this
abbrev inj (r s n :Int) (t:ByteArray):Y1l:=⟨0,r,s,n,0,0,false,t,⟨0,[]⟩⟩
end Go.Proofs.YtpdcnikdoikldaaGreatDoor.Pu
namespace Go.Proofs.YtpdcnikdoikldaaGreatDoor.Pu
open Go Go.RowKit Go.Proofs.YtpdcnikdoikldaaGreatDoor.Sv Go.Proofs.YtpdcnikdoikldaaGreatDoor.Lf
section
variable (e0 e1 : Y1i) (a : Yp) (ss : Y1e × Y1e × Y1e) (b : FB × FB × FB) (now : Int) (c : Y7) {t : ByteArray} {r : Y1df}
end
set_option maxRecDepth 100000 in
theorem Y1bv :J25 281474976710656=some true:=by decide +kernel
end Go.Proofs.YtpdcnikdoikldaaGreatDoor.Pu
namespace Go.Proofs.YtpdcnikdoikldaaGreatDoor.Pu
open Go Go.RowKit Go.Proofs.YtpdcnikdoikldaaGreatDoor.Sv Go.Proofs.YtpdcnikdoikldaaGreatDoor.Lf
def tE (e :Yp):J2:=⟨0,0,e.Id⟩
def Y5p (e :Yp) (now:Int) (f:Y9):Y0× Bool:=
 bif holds e f now then ((Y2o e.Flows f now).1,true) else (⟨f,(Y3c (Y94 e.Config e.Health) 0 f).1,false,0,0⟩,(Y3c (Y94 e.Config e.Health) 0 f).2)
theorem Y16i {e :Yp} (h:Y2w e) {f:Y9} (hf:Y5o f=true) (now:Int):J7a 281474976710656 e now f=some (Y5p e now f):=by
 have hlen:=Y4q h.hs
 obtain ⟨s1,s2⟩:=Y1t h.conf
 have hc:=(Y5k (Ykj (hs:=e.Health) h.conf) hf 0 (by decide)).1
 have hnew:∀ a1 a2 a3 a4 a5 a6 a7 a8 a9,J40 281474976710656 e f.Src f.Dst f.Proto f.Sport f.Dport 0 0 0 0 0 0 false 0 0 a1 a2 a3 a4 a5 a6 a7 a8 a9 false=some (⟨f,(Y3c (Y94 e.Config e.Health) 0 f).1,false,0,0⟩,(Y3c (Y94 e.Config e.Health) 0 f).2):=by
   intro a1 a2 a3 a4 a5 a6 a7 a8 a9
   unfold J40
   exact Yn (stB (Y12b (by decide) h.conf h.hs) (stB hc rfl))
 unfold J7a Y5p holds
 refine stB (Yr5 (N:=281474976710656) (by decide) e.Flows f now h.cache) ?_
 cases hq:(Y2o e.Flows f now).2 with
 | false=>exact Yn (hnew ..)
 | true=>
   have hh:=Yr7 (N:=281474976710656) (by decide) h.conf (Y2o e.Flows f now).1.To
   by_cases c:0<=(Y2o e.Flows f now).1.To/\(Y2o e.Flows f now).1.To< (e.Config.Sites.length:Int)
   . rw [decide_eq_true c] at hh ⊢
     refine Yq (stB hh (Yq (Yd (by omega) ?_)))
     cases hu:(e.Health.getD (Y2o e.Flows f now).1.To.toNat default).Up with
     | true=>rfl
     | false=>exact hnew ..
   . rw [decide_eq_false c] at hh ⊢
     exact Yq (stB hh (Yn (hnew ..)))
theorem Y12s {e :Yp} (h:Y2w e) {f:Y9} (hf:Y5o f=true) (now:Int):Pin e f now (Y5p e now f).1 (Y5p e now f).2:=by
 obtain ⟨_,c2,c3⟩:=Y5k (Ykj (hs:=e.Health) h.conf) hf 0 (by decide)
 unfold Y5p
 cases hh:holds e f now with
 | true=>exact .old hh
 | false=>
   rw [cond_false]
   generalize Y3c (Y94 e.Config e.Health) 0 f=q at*
   obtain ⟨id,b⟩:=q
   cases b with
   | true=>
     obtain ⟨c,k1,k2⟩:=c2 rfl
     dsimp only at k2 ⊢
     rw [<- k2]
     exact .new hh k1
   | false=>exact .none hh (c3 rfl)
theorem Yeh {e :Yp} (h:Y2w e) {f:Y9} (hf:Y5o f=true) {now:Int} (q:(Y5p e now f).2=true):Fits e f (Y5p e now f).1:=by
 have:=Y12s h hf now
 rw [q] at this
 exact Y12f h hf this
def Y4e (e :Yp) (now:Int) (s:ByteArray):Yp× Y1c:=
 bif (ofF s).2.2 != 0 then (e,Y4o (tE e) (Ye8 (ofF s).2.2) (ofF s).1)
 else bif !(Y5p e now (ofF s).1).2 then (e,Y4o (tE e) 5 (ofF s).1)
 else (⟨e.Id,e.Config,e.Health,(Y5u (tE e) (Ygg e (Y5p e now (ofF s).1).1 s) e.Flows (Y5p e now (ofF s).1).1 (ofF s).2.1.Flags now).1⟩,
   (Y5u (tE e) (Ygg e (Y5p e now (ofF s).1).1 s) e.Flows (Y5p e now (ofF s).1).1 (ofF s).2.1.Flags now).2)
theorem Yfl {e :Yp} (h:Y2w e) {now:Int} (hn:Y22 now=true) (s:ByteArray):J5d 281474976710656 e now s=some ((Y4e e now s).1,(Y4e e now s).2,0):=by
 have hm:=Yih (N:=281474976710656) (by decide) e (Y1dg h)
 rw [(Yii e).2 h] at hm
 have ht:=Y5j 281474976710656 now
 rw [hn] at ht
 unfold J5d J7j Y4e
 refine stB hm (Yj (stB ht (Yn (stB (Y12a (by decide) h) (stB (Ytt (by decide) s) ?_)))))
 by_cases hc:(ofF s).2.2=0
 case neg=>
   rw [show ((ofF s).2.2 != 0)=true from bne_iff_ne.2 hc]
   exact Yq (stB (Yci _ _) (stB rfl rfl))
 obtain ⟨f1,f2⟩:=Ybl hc
 refine Y1z hc ?_
 rw [show ((ofF s).2.2 != 0)=false by rw [hc];rfl,cond_false]
 refine stB (Y16i h f1 now) ?_
 have hfit:=fun q=>Yeh (now:=now) h f1 q
 show (bif !(Y5p e now (ofF s).1).2 then _ else _)=_
 generalize Y5p e now (ofF s).1=x at*
 cases he:x.2 with
 | false=>exact Y1u (stB rfl rfl)
 | true=>
   have hx:=hfit he
   have a1:Y6b 0 0 e.Id=(167837696+e.Id,0):=by unfold Y6b;rw [if_pos ⟨rfl,rfl,h.id⟩]
   have a2:Y6b 1 x.1.To 0=(167903232+x.1.To,0):=by unfold Y6b;rw [if_neg (by omega),if_pos ⟨rfl,rfl,hx.to_⟩]
   have e1:=Y30 281474976710656 0 0 e.Id
   have e2:=Y30 281474976710656 1 x.1.To 0
   rw [a1] at e1;rw [a2] at e2
   exact Yj (stB e1 (stB e2 (stB (Ypc (tE e) (Yp7 h hx (Yp8 hc)) h.cache hx.ok ⟨f2.1,f2.2⟩ hn) rfl)))
theorem Y12t {e :Yp} (h:Y2w e) {now:Int} (hn:Y22 now=true) (s:ByteArray):Y2w (Y4e e now s).1:=by
 unfold Y4e
 by_cases hc:(ofF s).2.2=0
 case neg=>rw [show ((ofF s).2.2 != 0)=true from bne_iff_ne.2 hc];exact h
 obtain ⟨f1,f2⟩:=Ybl hc
 rw [show ((ofF s).2.2 != 0)=false by rw [hc];rfl,cond_false]
 have hfit:=fun q=>Yeh (now:=now) h f1 q
 generalize Y5p e now (ofF s).1=x at*
 cases he:x.2 with
 | false=>exact h
 | true=>
 have hx:=hfit he
 rw [Bool.not_true,cond_false]
 unfold Y5u
 split
 . exact h
 . refine ⟨fun y hy=> ?_,h.id,h.conf,h.hs,Yy7 h.cache (Yjo hx.ok hn)⟩
   rcases Yr8 hy with q | rfl
   . exact h.pin y q
   . exact ⟨hx.away,hx.to_⟩
theorem Yqa (e :Yp) (now:Int) (s:ByteArray):(Y4e e now s).1.Id=e.Id/\(Y4e e now s).1.Config=e.Config/\(Y4e e now s).1.Health=e.Health:=by
 unfold Y4e
 cases ((ofF s).2.2 != 0) with
 | true=>exact ⟨rfl,rfl,rfl⟩
 | false=>cases (!(Y5p e now (ofF s).1).2) <;> exact ⟨rfl,rfl,rfl⟩
end Go.Proofs.YtpdcnikdoikldaaGreatDoor.Pu
