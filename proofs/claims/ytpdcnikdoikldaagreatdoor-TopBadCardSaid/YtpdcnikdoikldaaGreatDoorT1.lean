import Derived.Test.YtpdcnikdoikldaaGreatDoorS1
import Derived.Test.YtpdcnikdoikldaaGreatDoorE4
import Derived.KernelRfl
set_option linter.unusedVariables false
set_option linter.unusedSimpArgs false
namespace Go.Proofs.YtpdcnikdoikldaaGreatDoor.Pu
open Go Go.RowKit Go.Proofs.YtpdcnikdoikldaaGreatDoor.Sv Go.Proofs.YtpdcnikdoikldaaGreatDoor.Lf
def fe (c :Y7) (i:Int):Ys:=⟨i,c,[⟨true,0⟩,⟨true,0⟩,⟨true,0⟩],[]⟩
def fs (c :Y7) (i:Int):Yb:=⟨i,c,[⟨true,0⟩,⟨true,0⟩,⟨true,0⟩,⟨true,0⟩],[⟨⟨0,0,0,0⟩,-1⟩,⟨⟨0,0,0,0⟩,-1⟩,⟨⟨0,0,0,0⟩,-1⟩],[],0⟩
theorem Y1cn :J60 281474976710656 [⟨true,0⟩] 3=some [⟨true,0⟩,⟨true,0⟩,⟨true,0⟩]:=by kernel_rfl
theorem Y1co :J60 281474976710656 [⟨true,0⟩] 4=some [⟨true,0⟩,⟨true,0⟩,⟨true,0⟩,⟨true,0⟩]:=by kernel_rfl
theorem Y1cp :Jb7 281474976710656 [⟨⟨0,0,0,0⟩,-1⟩] 3=some [⟨⟨0,0,0,0⟩,-1⟩,⟨⟨0,0,0,0⟩,-1⟩,⟨⟨0,0,0,0⟩,-1⟩]:=by kernel_rfl
theorem Yj1 {c :Y7} (h:Y1a c=true):BdC c:=by
 obtain ⟨s1,s2⟩:=Y1s h
 exact ⟨by omega,fun y hy=>by have:=(s2 y hy).2;omega⟩
theorem Yi0 {c :Y7} (h:Y1a c=true) {i:Int} (hi:0≤i∧i< 2):Y2t (fe c i):=
 ⟨fun x hx=>(by cases hx),hi,h,rfl,rfl⟩
theorem Ycd {c :Y7} (h:Y1a c=true):Jm 281474976710656 c=some c:=by
 obtain ⟨s1,s2⟩:=Y1s h
 exact Yfu (by decide) c (by omega) fun y hy=>by have:=(s2 y hy).2;omega
theorem Y8t {c :Y7} (h:Y1a c=true) {i:Int} (hi:0≤i∧i< 2):J8z 281474976710656 i c=some (fe c i,0):=by
 have hm:=Yhu (N:=281474976710656) (by decide) (fe c i) ⟨Yj1 h,show (3:Nat)≤_ by decide,show (0:Nat)≤_ by decide⟩
 rw [(Yhv _).2 (Yi0 h hi)] at hm
 unfold J8z
 exact stB (Ycd h) (stB rfl (stB Y1cn (stB hm (Yc rfl))))
theorem Yce {c :Y7} (h:Y1a c=true) {i:Int} (hi:0≤i∧i< 3):Y9k (fs c i)=true:=by
 unfold Y9k Y6z fs
 dsimp only
 rw [h,decide_eq_true hi]
 rfl
theorem Y5y {c :Y7} (h:Y1a c=true) {i:Int} (hi:0≤i∧i< 3):J90 281474976710656 i c=some (fs c i,0):=by
 have hm:=Yc9 (N:=281474976710656) (by decide) (fs c i) ⟨Yj1 h,show (4:Nat)≤_ by decide,show (3:Nat)≤_ by decide,show (0:Nat)≤_ by decide⟩
 rw [Yce h hi] at hm
 unfold J90 Jb8
 exact stB (Ycd h) (stB rfl (stB Y1co (stB (stB Y1cp rfl) (stB hm (Yc rfl)))))
end Go.Proofs.YtpdcnikdoikldaaGreatDoor.Pu
namespace Go.Proofs.YtpdcnikdoikldaaGreatDoor.Pu
open Go Go.RowKit Go.Proofs.YtpdcnikdoikldaaGreatDoor.Sv Go.Proofs.YtpdcnikdoikldaaGreatDoor.Lf
abbrev FP:=J4
abbrev FB:=FP× FP× FP× FP
abbrev upS :FB:=(⟨true⟩,⟨true⟩,⟨true⟩,⟨true⟩)
section
variable {c : Y7} (h : Y1a c = true) (e0 e1 : Y1k) (n0 n1 n2 : Y1f) (a : Ys) (x : Yb) (es : Y1k × Y1k) (ss : Y1f × Y1f × Y1f) (b : FB × FB × FB) (now : Int)
include h
theorem Y1cq :Jl 281474976710656 ⟨(⟨a,false⟩,e1),ss,b,now,c⟩ 0 0 0 true=some (0,⟨(⟨fe c 0,true⟩,e1),ss,b,now,c⟩):=by
 have h1:Jr 281474976710656 ⟨(⟨a,false⟩,e1),ss,b,now,c⟩ 0 0 0=some (true,⟨(⟨a,false⟩,e1),ss,b,now,c⟩):=by kernel_rfl
 have h2:J61 281474976710656 ⟨(⟨a,false⟩,e1),ss,b,now,c⟩ true 0=some (⟨(⟨fe c 0,true⟩,e1),ss,b,now,c⟩,default):=by
   unfold J61 J62 J31
   exact Yk (Yk (stB (stB (Y8t h (by decide)) rfl) rfl))
 unfold Jl
 exact stB h1 (Yc (Ym rfl (Ym rfl (stB h2 rfl))))
theorem Y1cr :Jl 281474976710656 ⟨(e0,⟨a,false⟩),ss,b,now,c⟩ 0 0 1 true=some (0,⟨(e0,⟨fe c 1,true⟩),ss,b,now,c⟩):=by
 have h1:Jr 281474976710656 ⟨(e0,⟨a,false⟩),ss,b,now,c⟩ 0 0 1=some (true,⟨(e0,⟨a,false⟩),ss,b,now,c⟩):=by kernel_rfl
 have h2:J63 281474976710656 ⟨(e0,⟨a,false⟩),ss,b,now,c⟩ true 1=some (⟨(e0,⟨fe c 1,true⟩),ss,b,now,c⟩,default):=by
   unfold J63 J64 J31
   exact Yk (Yk (stB (stB (Y8t h (by decide)) rfl) rfl))
 unfold Jl
 exact stB h1 (Yc (Ym rfl (Yl (by decide) (Y8 rfl (stB h2 rfl)))))
theorem Y1cs :Jl 281474976710656 ⟨es,(⟨x,false⟩,n1,n2),b,now,c⟩ 1 0 0 true=some (0,⟨es,(⟨fs c 0,true⟩,n1,n2),b,now,c⟩):=by
 have h1:Jr 281474976710656 ⟨es,(⟨x,false⟩,n1,n2),b,now,c⟩ 1 0 0=some (true,⟨es,(⟨x,false⟩,n1,n2),b,now,c⟩):=by kernel_rfl
 have h2:J65 281474976710656 ⟨es,(⟨x,false⟩,n1,n2),b,now,c⟩ true 0=some (⟨es,(⟨fs c 0,true⟩,n1,n2),b,now,c⟩,default):=by
   unfold J65 J66 J17
   exact Yk (Yk (stB (stB (Y5y h (by decide)) rfl) rfl))
 unfold Jl
 exact stB h1 (Yc (Yl (by decide) (Ym rfl (Ym rfl (stB h2 rfl)))))
theorem Y1ct :Jl 281474976710656 ⟨es,(n0,⟨x,false⟩,n2),b,now,c⟩ 1 1 0 true=some (0,⟨es,(n0,⟨fs c 1,true⟩,n2),b,now,c⟩):=by
 have h1:Jr 281474976710656 ⟨es,(n0,⟨x,false⟩,n2),b,now,c⟩ 1 1 0=some (true,⟨es,(n0,⟨x,false⟩,n2),b,now,c⟩):=by kernel_rfl
 have h2:J67 281474976710656 ⟨es,(n0,⟨x,false⟩,n2),b,now,c⟩ true 1=some (⟨es,(n0,⟨fs c 1,true⟩,n2),b,now,c⟩,default):=by
   unfold J67 J68 J17
   exact Yk (Yk (stB (stB (Y5y h (by decide)) rfl) rfl))
 unfold Jl
 exact stB h1 (Yc (Yl (by decide) (Ym rfl (Yl (by decide) (Ym rfl (stB h2 rfl))))))
theorem Y1cu :Jl 281474976710656 ⟨es,(n0,n1,⟨x,false⟩),b,now,c⟩ 1 2 0 true=some (0,⟨es,(n0,n1,⟨fs c 2,true⟩),b,now,c⟩):=by
 have h1:Jr 281474976710656 ⟨es,(n0,n1,⟨x,false⟩),b,now,c⟩ 1 2 0=some (true,⟨es,(n0,n1,⟨x,false⟩),b,now,c⟩):=by kernel_rfl
 have h2:J69 281474976710656 ⟨es,(n0,n1,⟨x,false⟩),b,now,c⟩ true 2=some (⟨es,(n0,n1,⟨fs c 2,true⟩),b,now,c⟩,default):=by
   unfold J69 J6a J17
   exact Yk (Yk (stB (stB (Y5y h (by decide)) rfl) rfl))
 unfold Jl
 exact stB h1 (Yc (Yl (by decide) (Ym rfl (Yl (by decide) (Yl (by decide) (Y8 rfl (stB h2 rfl)))))))
omit h
variable (r2 : J0 → Int → Int → Option (J0 × Int × Bool)) (c)
theorem Y1cv :Jk 281474976710656 r2 281474976710656 ⟨es,ss,b,now,c⟩ 0 3 0 0=r2 ⟨es,ss,(upS,b.2),now,c⟩ 3 1:=by kernel_rfl
theorem Y1cw :Jk 281474976710656 r2 281474976710656 ⟨es,ss,b,now,c⟩ 1 3 1 0=r2 ⟨es,ss,(b.1,upS,b.2.2),now,c⟩ 3 2:=by kernel_rfl
theorem Y1cx :Jk 281474976710656 r2 281474976710656 ⟨es,ss,b,now,c⟩ 2 3 2 0=r2 ⟨es,ss,(b.1,b.2.1,upS),now,c⟩ 3 3:=by kernel_rfl
end
def fab0 (c :Y7):J0:=⟨(⟨fe c 0,true⟩,⟨fe c 1,true⟩),(⟨fs c 0,true⟩,⟨fs c 1,true⟩,⟨fs c 2,true⟩),(upS,upS,upS),0,c⟩
theorem Y1cy {c :Y7} (h:Y1a c=true) (es:Y1k× Y1k) (x y z:Yb) (b:FB× FB× FB) (fuel:Nat):
   J28 281474976710656 (fuel+4) ⟨es,(⟨x,false⟩,⟨y,false⟩,⟨z,false⟩),b,0,c⟩ 3 0=some (⟨es,(⟨fs c 0,true⟩,⟨fs c 1,true⟩,⟨fs c 2,true⟩),(upS,upS,upS),0,c⟩,0,false):=by
 rw [J28]
 refine Yi (by decide) (stB (Y1cs h _ _ _ _ _ _) ?_)
 rw [Y1cv,J28]
 refine Yi (by decide) (stB (Y1ct h _ _ _ _ _ _) ?_)
 rw [Y1cw,J28]
 refine Yi (by decide) (stB (Y1cu h _ _ _ _ _ _) ?_)
 rw [Y1cx,J28]
 exact Yo (by decide) rfl
theorem Y1cz {c :Y7} (h:Y1a c=true) (x y:Ys) (u v w:Yb) (b:FB× FB× FB) (fuel:Nat):
   J32 281474976710656 (fuel+3) ⟨(⟨x,false⟩,⟨y,false⟩),(⟨u,false⟩,⟨v,false⟩,⟨w,false⟩),b,0,c⟩ 2 0=some (fab0 c,0,false):=by
 rw [J32]
 refine Yi (by decide) (stB (Y1cq h _ _ _ _ _) ?_)
 rw [show IntKind.i64.wrap ((0:Int)+1)=1 from rfl,J32]
 refine Yi (by decide) (stB (Y1cr h _ _ _ _ _) ?_)
 rw [show IntKind.i64.wrap ((1:Int)+1)=2 from rfl,J32]
 exact Yo (by decide) (Y1cy h _ _ _ _ _ 281474976710652)
theorem Yy1 (c :Y7) (hb:BdC c):J4j 281474976710656 c=some (if Y1a c=true then (fab0 c,0,false) else (default,2400,true)):=by
 have hm:=Y2x (N:=281474976710656) (by decide) c hb
 unfold J4j
 cases h:Y1a c with
 | false=>rw [h] at hm;exact stB hm (Y14 rfl)
 | true=>
   rw [h] at hm
   exact stB hm (Yc (stB (Ycd h) (Y1cz h _ _ _ _ _ _ 281474976710653)))
def w0 (c :Y7):J1:=⟨fab0 c,⟨[]⟩,[],[]⟩
theorem Ypa (c :Y7) (hb:BdC c):J33 281474976710656 c=some (if Y1a c=true then (w0 c,0,false) else (default,2500,true)):=by
 have hf:=Yy1 c hb
 unfold J33
 cases h:Y1a c with
 | false=>rw [h] at hf;exact stB hf (Yk (Y1c (show ¬ (2400:Int)=0 by decide) rfl))
 | true=>rw [h] at hf;exact stB hf (Yj (Y13 rfl (stB rfl rfl)))
end Go.Proofs.YtpdcnikdoikldaaGreatDoor.Pu
namespace Go.Proofs.YtpdcnikdoikldaaGreatDoor.Pu
open Go Go.RowKit Go.Proofs.YtpdcnikdoikldaaGreatDoor.Sv Go.Proofs.YtpdcnikdoikldaaGreatDoor.Lf
theorem Y2z {b n :Nat} (hb:b≤1000) (hn:n≤100000):Y1b b n:=by
 unfold Y1b
 have h:2*n*b≤2*100000*1000:=Nat.mul_le_mul (by omega) hb
 exact ⟨by omega,by omega⟩
def room (a b :Nat):Nat:=min (4096 - a) b
theorem Y88 (tr ev :List Y1) (h:tr.length≤4096) (h2:ev.length≤4096):J34 281474976710656 tr ev=some (tr++ev.take (4096 - tr.length),[]):=by
 unfold J34
 refine Yx (Yx ?_)
 rw [w64 (n:=(4096:Int) - (tr.length:Int)) (by omega) (by omega)]
 have hv:∃ k:Nat,(if decide ((4096:Int) - (tr.length:Int)< (ev.length:Int))=true then (4096:Int) - (tr.length:Int) else (ev.length:Int))=(k:Int)∧k=min (4096 - tr.length) ev.length:=by
   by_cases c:(4096:Int) - (tr.length:Int)< (ev.length:Int)
   · exact ⟨4096 - tr.length,by rw [if_pos (decide_eq_true c)];omega,by omega⟩
   · exact ⟨ev.length,by rw [if_neg (by simpa using c)],by omega⟩
 obtain ⟨k,hk,hk2⟩:=hv
 rw [hk]
 have e1:(ev.drop (Int.toNat (0:Int))).take (Int.toNat ((k:Int) - (0:Int)))=ev.take (4096 - tr.length):=by
   rw [show Int.toNat ((k:Int) - (0:Int))=k by omega,show Int.toNat (0:Int)=0 from rfl,List.drop_zero,hk2]
   rcases Nat.le_total (4096 - tr.length) ev.length with q | q
   · rw [Nat.min_eq_left q]
   · rw [Nat.min_eq_right q,List.take_length,List.take_of_length_le q]
 rw [e1]
 refine Y8 ⟨by omega,by omega,by omega,by omega,by omega⟩ (Y8 (Y2z (by decide) ?_) rfl)
 rw [List.length_take];omega
theorem Y11w (tr ev :List ByteArray) (h:tr.length≤4096) (h2:ev.length≤4096):J91 281474976710656 tr ev=some (tr++ev.take (4096 - tr.length),[]):=by
 unfold J91
 refine Yx (Yx ?_)
 rw [w64 (n:=(4096:Int) - (tr.length:Int)) (by omega) (by omega)]
 have hv:∃ k:Nat,(if decide ((4096:Int) - (tr.length:Int)< (ev.length:Int))=true then (4096:Int) - (tr.length:Int) else (ev.length:Int))=(k:Int)∧k=min (4096 - tr.length) ev.length:=by
   by_cases c:(4096:Int) - (tr.length:Int)< (ev.length:Int)
   · exact ⟨4096 - tr.length,by rw [if_pos (decide_eq_true c)];omega,by omega⟩
   · exact ⟨ev.length,by rw [if_neg (by simpa using c)],by omega⟩
 obtain ⟨k,hk,hk2⟩:=hv
 rw [hk]
 have e1:(ev.drop (Int.toNat (0:Int))).take (Int.toNat ((k:Int) - (0:Int)))=ev.take (4096 - tr.length):=by
   rw [show Int.toNat ((k:Int) - (0:Int))=k by omega,show Int.toNat (0:Int)=0 from rfl,List.drop_zero,hk2]
   rcases Nat.le_total (4096 - tr.length) ev.length with q | q
   · rw [Nat.min_eq_left q]
   · rw [Nat.min_eq_right q,List.take_length,List.take_of_length_le q]
 rw [e1]
 refine Y8 ⟨by omega,by omega,by omega,by omega,by omega⟩ (Y8 (Y2z (by decide) ?_) rfl)
 rw [List.length_take];omega
def Y8u (row :List ByteArray) (s:ByteArray):Int× J6:=if row.length< 32 then (0,⟨row++[s]⟩) else (2201,⟨row⟩)
theorem Y15l (row :List ByteArray) (s:ByteArray) (hs:0< s.size∧s.size≤512):J92 281474976710656 ⟨row⟩ s=some (Y8u row s):=by
 have hne:(s.toList==ByteArray.empty.toList)=false:=by
   rw [Y8n,decide_eq_false]
   rintro rfl
   exact absurd hs.1 (by decide)
 unfold J92 J93 J4k Y8u
 rw [hne,decide_eq_false (show ¬ (s.size:Int) > 512 by omega)]
 by_cases c:row.length< 32
 · rw [if_pos c]
   refine Yj (Yj (stB (x:=(0,⟨row++[s]⟩)) ?_ rfl))
   refine Yi (show ((row.length:Nat):Int)< 32 by omega) (Y8 (Y2z (by decide) (show row.length+1≤100000 by omega)) (Y8 ?_ rfl))
   show ((row.length:Nat):Int)+1=(((row++[s]).length:Nat):Int)
   rw [List.length_append]
   rfl
 · rw [if_neg c]
   refine Yj (Yj (stB (x:=(2201,⟨row⟩)) ?_ rfl))
   exact Yo (show ¬ ((row.length:Nat):Int)< 32 by omega) rfl
def Y7t (st :List ByteArray× List Y1) (r s n:Int):List ByteArray→List ByteArray× List Y1
 | []=>st
 | x :: xs=>Y7t (if st.1.length< 32 then (st.1++[x],st.2) else (st.1,st.2++([(⟨10,r,s,n,0,⟨0,0,0,0,0⟩⟩:Y1)]).take (4096 - st.2.length))) r s n xs
theorem Yte (f :J0) (gt:List ByteArray) (r s n:Int) (sent:List ByteArray) (hs:∀ x∈sent,0< x.size∧x.size≤512) (hl:sent.length≤4096):∀ (d fuel i:Nat) (net:List ByteArray) (tr:List Y1),sent.length=i+d→d< fuel→tr.length≤4096→
   J35 281474976710656 fuel ⟨f,⟨net⟩,tr,gt⟩ r s n sent (sent.length:Int) (i:Int)=some ⟨f,⟨(Y7t (net,tr) r s n (sent.drop i)).1⟩,(Y7t (net,tr) r s n (sent.drop i)).2,gt⟩:=by
 intro d
 induction d with
 | zero=>
   intro fuel i net tr hi hf ht
   obtain ⟨fuel,rfl⟩:∃ k,fuel=k+1:=⟨fuel - 1,by omega⟩
   rw [J35,List.drop_of_length_le (by omega)]
   exact Yo (by omega) rfl
 | succ d ih=>
   intro fuel i net tr hi hf ht
   obtain ⟨fuel,rfl⟩:∃ k,fuel=k+1:=⟨fuel - 1,by omega⟩
   have hx:=hs _ (Y3f (show i< sent.length by omega))
   rw [J35,Y2r (show i< sent.length by omega),Int.toNat_natCast]
   unfold J94
   have hsend:=Y15l net (sent.getD i default) hx
   refine Yi (by omega) (Y8 (by omega) (stB hsend ?_))
   rw [w64 (n:=(i:Int)+1) (by omega) (by omega)]
   unfold Y7t Y8u
   by_cases c:net.length< 32
   · rw [if_pos c,if_pos c]
     refine Yl (show ¬ (0:Int)=2201 by decide) ?_
     exact ih fuel (i+1) (net++[sent.getD i default]) tr (by omega) (by omega) ht
   · rw [if_neg c,if_neg c]
     refine Ym rfl (stB rfl (stB (Y88 tr _ ht (show (1:Nat)≤4096 by decide)) ?_))
     refine ih fuel (i+1) net _ (by omega) (by omega) ?_
     rw [List.length_append,List.length_take]
     omega
theorem Y11x (f :J0) (net gt sent:List ByteArray) (tr ev:List Y1) (r s n:Int) (hr:r≠2) (hs:∀ x∈sent,0< x.size∧x.size≤512) (hl:sent.length≤4096) (ht:tr.length≤4096) (he:ev.length≤4096):
   J29 281474976710656 ⟨f,⟨net⟩,tr,gt⟩ ⟨r,s,n⟩ ⟨sent,ev⟩=some ⟨f,⟨(Y7t (net,tr++ev.take (4096 - tr.length)) r s n sent).1⟩,(Y7t (net,tr++ev.take (4096 - tr.length)) r s n sent).2,gt⟩:=by
 unfold J29
 refine stB (Y88 tr ev ht he) (Yl hr ?_)
 have:=Yte f gt r s n sent hs hl sent.length 281474976710656 0 net (tr++ev.take (4096 - tr.length)) (by omega) (by omega) (by rw [List.length_append,List.length_take];omega)
 rw [List.drop_zero] at this
 exact this
theorem Yy2 (f :J0) (net gt sent:List ByteArray) (tr ev:List Y1) (s n:Int) (hl:sent.length≤4096) (ht:tr.length≤4096) (hg:gt.length≤4096) (he:ev.length≤4096):
   J29 281474976710656 ⟨f,⟨net⟩,tr,gt⟩ ⟨2,s,n⟩ ⟨sent,ev⟩=some ⟨f,⟨net⟩,tr++ev.take (4096 - tr.length),gt++sent.take (4096 - gt.length)⟩:=by
 unfold J29
 exact stB (Y88 tr ev ht he) (Ym rfl (stB (Y11w gt sent hg hl) rfl))
theorem Y11y (w :J1) (h:w.trace_.length≤4096):Ju 281474976710656 w=some (w.trace_,w):=by
 unfold Ju J95 J96 Jb9
 refine stB (x:=w.trace_) ?_ rfl
 by_cases c:w.trace_.length=0
 · rw [if_pos c,List.eq_nil_of_length_eq_zero c]
 · rw [if_neg c]
   exact Y8 c (Y8 (Y2z (by decide) (by omega)) rfl)
end Go.Proofs.YtpdcnikdoikldaaGreatDoor.Pu
namespace Go.Proofs.YtpdcnikdoikldaaGreatDoor.Pu
open Go Go.RowKit Go.Proofs.YtpdcnikdoikldaaGreatDoor.Sv Go.Proofs.YtpdcnikdoikldaaGreatDoor.Lf
end Go.Proofs.YtpdcnikdoikldaaGreatDoor.Pu
namespace Go.Proofs.YtpdcnikdoikldaaGreatDoor.Pu
open Go Go.RowKit Go.Proofs.YtpdcnikdoikldaaGreatDoor.Sv Go.Proofs.YtpdcnikdoikldaaGreatDoor.Lf
theorem Y15m {N :Nat} (r2:Int→List Yg→Int→Option Bool) (v:Int) (ss:List Yg) (k w:Int) (dr:Bool) (cap:Int) (bs:List Y23) (hl:bs.length≤4):∀ (d fuel i:Nat),bs.length=i+d→d< fuel→J36 N r2 fuel v ss k w dr cap bs i=if (bs.drop i).all Y6b=true then r2 v ss (IntKind.i64.wrap (k+1)) else some false:=by
 intro d
 induction d with
 | zero=>
   intro fuel i hi hf
   obtain ⟨fuel,rfl⟩:∃ f,fuel=f+1:=⟨fuel - 1,by omega⟩
   rw [J36,List.drop_of_length_le (by omega),List.all_nil,if_pos rfl]
   exact Yo (by omega) rfl
 | succ d ih=>
   intro fuel i hi hf
   obtain ⟨fuel,rfl⟩:∃ f,fuel=f+1:=⟨fuel - 1,by omega⟩
   rw [J36,Int.toNat_natCast,Y2r (show i< bs.length by omega),List.all_cons]
   unfold J97
   refine Yi (by omega) (Y8 (by omega) ?_)
   have hno:¬ (0≤(bs.getD i default).Weight∧(bs.getD i default).Weight≤16)→Y6b (bs.getD i default)=false:=fun h=>decide_eq_false h
   by_cases a:(bs.getD i default).Weight< 0
   · rw [hno (by omega),Bool.false_and,if_neg Bool.false_ne_true]
     exact Yi a rfl
   · refine Yo a (Y8 (by omega) ?_)
     by_cases b:(bs.getD i default).Weight > 16
     · rw [hno (by omega),Bool.false_and,if_neg Bool.false_ne_true]
       exact Yi b rfl
     · rw [show Y6b (bs.getD i default)=true from decide_eq_true ⟨by omega,by omega⟩,Bool.true_and]
       refine Yo b ?_
       rw [w64 (n:=(i:Int)+1) (by omega) (by omega)]
       exact ih fuel (i+1) (by omega) (by omega)
theorem Y15n {N :Nat} (hN:1000≤N) (v:Int) (ss:List Yg) (hl:ss.length≤3):∀ (d fuel i:Nat),ss.length=i+d→d< fuel→J18 N fuel v ss i=some ((ss.drop i).all Y3n):=by
 intro d
 induction d with
 | zero=>
   intro fuel i hi hf
   obtain ⟨fuel,rfl⟩:∃ f,fuel=f+1:=⟨fuel - 1,by omega⟩
   rw [J18,List.drop_of_length_le (by omega)]
   exact Yo (by omega) rfl
 | succ d ih=>
   intro fuel i hi hf
   obtain ⟨fuel,rfl⟩:∃ f,fuel=f+1:=⟨fuel - 1,by omega⟩
   rw [J18,Int.toNat_natCast,Y2r (show i< ss.length by omega),List.all_cons]
   unfold J37
   have hno:∀ p:Prop,p→(p→¬ ((0≤(ss.getD i default).Weight∧(ss.getD i default).Weight≤16)∧(0≤(ss.getD i default).Cap∧(ss.getD i default).Cap≤8)∧(ss.getD i default).Backs.length≤4))→Y3n (ss.getD i default)=false:=by
     intro p hp hq
     rw [Bool.eq_false_iff]
     intro hs
     obtain ⟨_,h2,h3,h4⟩:=Ye0 hs
     exact hq hp ⟨h2,h3,h4⟩
   refine Yi (by omega) (Y8 (by omega) ?_)
   by_cases a:(ss.getD i default).Weight< 0
   · rw [hno _ a (by omega),Bool.false_and];exact Yi a rfl
   refine Yo a ?_
   by_cases b:(ss.getD i default).Weight > 16
   · rw [hno _ b (by omega),Bool.false_and];exact Yi b rfl
   refine Yo b ?_
   by_cases c:(ss.getD i default).Cap< 0
   · rw [hno _ c (by omega),Bool.false_and];exact Yi c rfl
   refine Yo c ?_
   by_cases e:(ss.getD i default).Cap > 8
   · rw [hno _ e (by omega),Bool.false_and];exact Yi e rfl
   refine Yo e (Yx ?_)
   by_cases g:((ss.getD i default).Backs.length:Int) > 4
   · rw [hno _ g (by omega),Bool.false_and];exact Yi g rfl
   refine Yo g ?_
   rw [show (0:Int)=((0:Nat):Int) from rfl,Y15m _ v ss i _ _ _ _ (by omega) (ss.getD i default).Backs.length N 0 (by omega) (by omega),List.drop_zero]
   cases hb:(ss.getD i default).Backs.all Y6b with
   | false=>
     have:Y3n (ss.getD i default)=false:=by unfold Y3n;rw [hb,Bool.false_and]
     rw [this,Bool.false_and,if_neg Bool.false_ne_true]
   | true=>
     have:Y3n (ss.getD i default)=true:=by
       unfold Y3n
       rw [hb,decide_eq_true (show 0≤(ss.getD i default).Weight∧(ss.getD i default).Weight≤16 by omega),decide_eq_true (show 0≤(ss.getD i default).Cap∧(ss.getD i default).Cap≤8 by omega),decide_eq_true (show ((ss.getD i default).Backs.length:Int)≤4 by omega)]
       rfl
     rw [this,Bool.true_and,if_pos rfl,w64 (n:=(i:Int)+1) (by omega) (by omega)]
     exact ih fuel (i+1) (by omega) (by omega)
theorem Y11z {N :Nat} (hN:1000≤N) (c:Y7):J1m N c=some (Y1a c):=by
 unfold J1m J6b Y1a Y28
 by_cases a:c.Version< 0
 · rw [decide_eq_false (show ¬ (0≤c.Version∧c.Version≤1048576) by omega),Bool.false_and,Bool.and_false]
   exact Yi a rfl
 refine Yo a ?_
 by_cases b:c.Version > 1048576
 · rw [decide_eq_false (show ¬ (0≤c.Version∧c.Version≤1048576) by omega),Bool.false_and,Bool.and_false]
   exact Yi b rfl
 refine Yo b ?_
 by_cases d:(c.Sites.length:Int) > 3
 · rw [decide_eq_false (show ¬ (c.Sites.length:Int)≤3 by omega),Bool.and_false,Bool.and_false]
   exact Yi d rfl
 refine Yo d ?_
 rw [decide_eq_true (show 0≤c.Version∧c.Version≤1048576 by omega),decide_eq_true (show (c.Sites.length:Int)≤3 by omega),Bool.and_true,Bool.and_true]
 have:=Y15n hN c.Version c.Sites (by omega) c.Sites.length N 0 (by omega) (by omega)
 rw [List.drop_zero] at this
 exact this
abbrev inj (r s n :Int) (t:ByteArray):Y1q:=⟨0,r,s,n,0,0,false,t,⟨0,[]⟩⟩
theorem Y1b1 (n :Int) (hn:n=0∨n=1) (t:ByteArray) (ht:t.size≤512):J1f 281474976710656 (inj 0 0 n t)=some true:=by
 have hc:=Y2x (N:=281474976710656) (by decide) ⟨0,[]⟩ ⟨by decide,by decide⟩
 have hin:J7 281474976710656 n 8=some true:=by rcases hn with rfl | rfl <;> rfl
 have hin0:J7 281474976710656 0 8=some true:=rfl
 unfold J1f Jq J3s J1e J1d
 refine stB (x:=(⟨0,0,0,0,0,0,false,ByteArray.empty,⟨0,[]⟩⟩,true)) rfl (Yx ?_)
 refine Ym (by decide) (Y14 ?_)
 rw [tlB]
 refine Yk (Ym rfl (Yi (show (0:Int)≥0 by decide) (stB hin0 (Yk (stB hin (Yk (stB hin0 (Yk (Yi (show (0:Int)≥0 by decide) ?_)))))))))
 exact Yk (Ym rfl (Yi (show (0:Int)≤2 by decide) (Yi (show (0:Int)< 32 by decide) (Yi (show (t.size:Int)≤512 by omega) (stB hc rfl)))))
end Go.Proofs.YtpdcnikdoikldaaGreatDoor.Pu
namespace Go.Proofs.YtpdcnikdoikldaaGreatDoor.Pu
open Go Go.RowKit Go.Proofs.YtpdcnikdoikldaaGreatDoor.Sv Go.Proofs.YtpdcnikdoikldaaGreatDoor.Lf
section
variable (e0 e1 : Y1k) (a : Ys) (ss : Y1f × Y1f × Y1f) (b : FB × FB × FB) (now : Int) (c : Y7) {t : ByteArray} {r : Y1cl}
end
set_option maxRecDepth 100000 in
theorem Y1b2 :J2a 281474976710656=some true:=by decide +kernel
end Go.Proofs.YtpdcnikdoikldaaGreatDoor.Pu
namespace Go.Proofs.YtpdcnikdoikldaaGreatDoor.Pu
open Go Go.RowKit Go.Proofs.YtpdcnikdoikldaaGreatDoor.Sv Go.Proofs.YtpdcnikdoikldaaGreatDoor.Lf
def tE (e :Ys):J3:=⟨0,0,e.Id⟩
def Y5r (e :Ys) (now:Int) (f:Ye):Y0× Bool:=
 bif holds e f now then ((Y2o e.Flows f now).1,true) else (⟨f,(Y38 (Y8q e.Config e.Health) 0 f).1,false,0,0⟩,(Y38 (Y8q e.Config e.Health) 0 f).2)
theorem Y15o {e :Ys} (h:Y2t e) {f:Ye} (hf:Y57 f=true) (now:Int):J7l 281474976710656 e now f=some (Y5r e now f):=by
 have hlen:=Y47 h.hs
 obtain ⟨s1,s2⟩:=Y1s h.conf
 have hc:=(Y52 (Yjq (hs:=e.Health) h.conf) hf 0 (by decide)).1
 have hnew:∀ a1 a2 a3 a4 a5 a6 a7 a8 a9,J45 281474976710656 e f.Src f.Dst f.Proto f.Sport f.Dport 0 0 0 0 0 0 false 0 0 a1 a2 a3 a4 a5 a6 a7 a8 a9 false=some (⟨f,(Y38 (Y8q e.Config e.Health) 0 f).1,false,0,0⟩,(Y38 (Y8q e.Config e.Health) 0 f).2):=by
   intro a1 a2 a3 a4 a5 a6 a7 a8 a9
   unfold J45
   exact Yj (stB (Y11h (by decide) h.conf h.hs) (stB hc rfl))
 unfold J7l Y5r holds
 refine stB (Yqa (N:=281474976710656) (by decide) e.Flows f now h.cache) ?_
 cases hq:(Y2o e.Flows f now).2 with
 | false=>exact Yj (hnew ..)
 | true=>
   have hh:=Yqc (N:=281474976710656) (by decide) h.conf (Y2o e.Flows f now).1.To
   by_cases c:0≤(Y2o e.Flows f now).1.To∧(Y2o e.Flows f now).1.To< (e.Config.Sites.length:Int)
   · rw [decide_eq_true c] at hh ⊢
     refine Yk (stB hh (Yk (Y8 (by omega) ?_)))
     cases hu:(e.Health.getD (Y2o e.Flows f now).1.To.toNat default).Up with
     | true=>rfl
     | false=>exact hnew ..
   · rw [decide_eq_false c] at hh ⊢
     exact Yk (stB hh (Yj (hnew ..)))
theorem Y120 {e :Ys} (h:Y2t e) {f:Ye} (hf:Y57 f=true) (now:Int):Pin e f now (Y5r e now f).1 (Y5r e now f).2:=by
 obtain ⟨_,c2,c3⟩:=Y52 (Yjq (hs:=e.Health) h.conf) hf 0 (by decide)
 unfold Y5r
 cases hh:holds e f now with
 | true=>exact .old hh
 | false=>
   rw [cond_false]
   generalize Y38 (Y8q e.Config e.Health) 0 f=q at*
   obtain ⟨id,b⟩:=q
   cases b with
   | true=>
     obtain ⟨c,k1,k2⟩:=c2 rfl
     dsimp only at k2 ⊢
     rw [← k2]
     exact .new hh k1
   | false=>exact .none hh (c3 rfl)
theorem Yk1 {e :Ys} (h:Y2t e) {f:Ye} (hf:Y57 f=true) {now:Int} (q:(Y5r e now f).2=true):Fits e f (Y5r e now f).1:=by
 have:=Y120 h hf now
 rw [q] at this
 exact Y11l h hf this
def Y5c (e :Ys) (now:Int) (s:ByteArray):Ys× Y1g:=
 bif (ofF s).2.2 != 0 then (e,Y5b (tE e) (Yc5 (ofF s).2.2) (ofF s).1)
 else bif !(Y5r e now (ofF s).1).2 then (e,Y5b (tE e) 5 (ofF s).1)
 else (⟨e.Id,e.Config,e.Health,(Y80 (tE e) (Yt7 e (Y5r e now (ofF s).1).1 s) e.Flows (Y5r e now (ofF s).1).1 (ofF s).2.1.Flags now).1⟩,
   (Y80 (tE e) (Yt7 e (Y5r e now (ofF s).1).1 s) e.Flows (Y5r e now (ofF s).1).1 (ofF s).2.1.Flags now).2)
theorem Yf0 {e :Ys} (h:Y2t e) {now:Int} (hn:Y28 now=true) (s:ByteArray):J5o 281474976710656 e now s=some ((Y5c e now s).1,(Y5c e now s).2,0):=by
 have hm:=Yhu (N:=281474976710656) (by decide) e (Y1cm h)
 rw [(Yhv e).2 h] at hm
 have ht:=Y51 281474976710656 now
 rw [hn] at ht
 unfold J5o J7u Y5c
 refine stB hm (Yc (stB ht (Yj (stB (Yfv (by decide) h) (stB (Ysy (by decide) s) ?_)))))
 by_cases hc:(ofF s).2.2=0
 case neg=>
   rw [show ((ofF s).2.2 != 0)=true from bne_iff_ne.2 hc]
   exact Yk (stB (Yc6 _ _) (stB rfl rfl))
 obtain ⟨f1,f2⟩:=Yhw hc
 refine Y13 hc ?_
 rw [show ((ofF s).2.2 != 0)=false by rw [hc];rfl,cond_false]
 refine stB (Y15o h f1 now) ?_
 have hfit:=fun q=>Yk1 (now:=now) h f1 q
 show (bif !(Y5r e now (ofF s).1).2 then _ else _)=_
 generalize Y5r e now (ofF s).1=x at*
 cases he:x.2 with
 | false=>exact Y14 (stB rfl rfl)
 | true=>
   have hx:=hfit he
   have a1:Y5w 0 0 e.Id=(167837696+e.Id,0):=by unfold Y5w;rw [if_pos ⟨rfl,rfl,h.id⟩]
   have a2:Y5w 1 x.1.To 0=(167903232+x.1.To,0):=by unfold Y5w;rw [if_neg (by omega),if_pos ⟨rfl,rfl,hx.to_⟩]
   have e1:=Y2w 281474976710656 0 0 e.Id
   have e2:=Y2w 281474976710656 1 x.1.To 0
   rw [a1] at e1;rw [a2] at e2
   exact Yc (stB e1 (stB e2 (stB (Yof (tE e) (Y11m h hx (Y11n hc)) h.cache hx.ok ⟨f2.1,f2.2⟩ hn) rfl)))
theorem Y121 {e :Ys} (h:Y2t e) {now:Int} (hn:Y28 now=true) (s:ByteArray):Y2t (Y5c e now s).1:=by
 unfold Y5c
 by_cases hc:(ofF s).2.2=0
 case neg=>rw [show ((ofF s).2.2 != 0)=true from bne_iff_ne.2 hc];exact h
 obtain ⟨f1,f2⟩:=Yhw hc
 rw [show ((ofF s).2.2 != 0)=false by rw [hc];rfl,cond_false]
 have hfit:=fun q=>Yk1 (now:=now) h f1 q
 generalize Y5r e now (ofF s).1=x at*
 cases he:x.2 with
 | false=>exact h
 | true=>
 have hx:=hfit he
 rw [Bool.not_true,cond_false]
 unfold Y80
 split
 · exact h
 · refine ⟨fun y hy=> ?_,h.id,h.conf,h.hs,Yxm h.cache (Yiz hx.ok hn)⟩
   rcases Yqd hy with q | rfl
   · exact h.pin y q
   · exact ⟨hx.away,hx.to_⟩
theorem Ypb (e :Ys) (now:Int) (s:ByteArray):(Y5c e now s).1.Id=e.Id∧(Y5c e now s).1.Config=e.Config∧(Y5c e now s).1.Health=e.Health:=by
 unfold Y5c
 cases ((ofF s).2.2 != 0) with
 | true=>exact ⟨rfl,rfl,rfl⟩
 | false=>cases (!(Y5r e now (ofF s).1).2) <;> exact ⟨rfl,rfl,rfl⟩
end Go.Proofs.YtpdcnikdoikldaaGreatDoor.Pu
