import Derived.Laws.BitsLemmas
import Derived.Test.YtpdcnikdoikldaaGreatDoorAll
set_option linter.unusedVariables false
set_option linter.unusedSimpArgs false
namespace Go.Proofs.YtpdcnikdoikldaaGreatDoor.Pu
open Go Go.RowKit Go.Proofs.YtpdcnikdoikldaaGreatDoor.Sv Go.Proofs.YtpdcnikdoikldaaGreatDoor.Lf
theorem i64w (n :Int):IntKind.i64.wrap n=(n+9223372036854775808) % 18446744073709551616 - 9223372036854775808:=by rw [IntKind.wrap_i64]
theorem w64 {n :Int} (h0: -9223372036854775808≤n) (h1:n≤9223372036854775807):IntKind.i64.wrap n=n:=by rw [i64w];omega
theorem wu64 (n :Int):IntKind.u64.wrap n=n % 18446744073709551616:=by simp [IntKind.wrap,IntKind.bits,IntKind.signed]
theorem wu8 (n :Int):IntKind.u8.wrap n=n % 256:=by simp [IntKind.wrap,IntKind.bits,IntKind.signed]
theorem Y3d {α :Type} (p:Prop) [Decidable p] (a b:α):(bif decide p then a else b)=if p then a else b:=by
 by_cases h:p <;> simp [h]
theorem Yss {α :Type} (p:Bool) (a b:α):(bif !p then a else b)=bif p then b else a:=by cases p <;> rfl
theorem Yww {α :Type} (p:Bool) (a b:α):(bif !p then a else b)=bif p then b else a:=by cases p <;> rfl
theorem ceq {α :Type} (x y:Int) (a b:α):(bif x==y then a else b)=if x=y then a else b:=by
 by_cases h:x=y
 · rw [if_pos h,beq_iff_eq.2 h];rfl
 · rw [if_neg h,beq_eq_false_iff_ne.2 h];rfl
theorem cne {α :Type} (x y:Int) (a b:α):(bif x != y then a else b)=if x=y then b else a:=by
 unfold bne
 rw [Yww,ceq]
theorem Y6p {α β :Type} (a:α) (f:α→Option β):via a f=f a:=rfl
section
variable {α β : Type} {r : Option α}
theorem Yx {γ :Type} {a:γ} {f:γ→Option α} (k:f a=r):via a f=r:=k
theorem Y8 {p :Prop} [Decidable p] {a b:Option α} (h:p) (k:a=r):(if p then a else b)=r:=by rw [if_pos h,k]
theorem stB {a :Option β} {x:β} {f:β→Option α} (h:a=some x) (k:f x=r):a.bind f=r:=by rw [h,Option.bind_some,k]
theorem Yi {p :Prop} [Decidable p] {a b:Option α} (h:p) (k:a=r):(bif decide p then a else b)=r:=by rw [Y3d,if_pos h,k]
theorem Yo {p :Prop} [Decidable p] {a b:Option α} (h:¬p) (k:b=r):(bif decide p then a else b)=r:=by rw [Y3d,if_neg h,k]
theorem Ym {x y :Int} {a b:Option α} (h:x=y) (k:a=r):(bif x==y then a else b)=r:=by rw [ceq,if_pos h,k]
theorem Yl {x y :Int} {a b:Option α} (h:¬x=y) (k:b=r):(bif x==y then a else b)=r:=by rw [ceq,if_neg h,k]
theorem Y13 {x y :Int} {a b:Option α} (h:x=y) (k:b=r):(bif x != y then a else b)=r:=by rw [cne,if_pos h,k]
theorem Y1c {x y :Int} {a b:Option α} (h:¬x=y) (k:a=r):(bif x != y then a else b)=r:=by rw [cne,if_neg h,k]
theorem Yk {a b :Option α} (k:a=r):(bif true then a else b)=r:=k
theorem Yj {a b :Option α} (k:b=r):(bif false then a else b)=r:=k
theorem Yc {a b :Option α} (k:b=r):(bif !true then a else b)=r:=k
theorem Y14 {a b :Option α} (k:a=r):(bif !false then a else b)=r:=k
end
theorem fd (x :Int) {k:Int} (h:0≤k):x.fdiv k=x / k:=Int.fdiv_eq_ediv_of_nonneg x h
theorem Yfj {a b :ByteArray} (h:a.data.toList=b.data.toList):a=b:=by
 cases a;cases b;congr;exact Array.toList_inj.1 h
theorem Yhi (a b :ByteArray):a.toList=b.toList↔a=b:=by
 rw [ByteArray.toList_eq,ByteArray.toList_eq]
 exact ⟨fun h=>Yfj h,fun h=>by rw [h]⟩
theorem Y8n (a b :ByteArray):(a.toList==b.toList)=decide (a=b):=by
 rw [Bool.eq_iff_iff,beq_iff_eq,Yhi,decide_eq_true_iff]
theorem Yka (x :Int):(BitVec.ofInt 64 x).toNat=(x % 18446744073709551616).toNat:=by
 rw [BitVec.toNat_ofInt];rfl
theorem Ynv (i :Nat) (hi:i≤62) (x:Int):Y27 .i64 x (2 ^ i - 1)=x % 2 ^ i:=by
 have hp:(2:Nat) ^ i≤2 ^ 62:=Nat.pow_le_pow_right (by decide) hi
 have hpos:0< 2 ^ i:=Nat.two_pow_pos i
 have hc:((2:Int) ^ i - 1)=((2 ^ i - 1:Nat):Int):=by
   rw [Int.natCast_sub hpos];simp
 have hlt:2 ^ i - 1< 2 ^ 64:=by omega
 have e1:(BitVec.ofInt 64 x &&& BitVec.ofInt 64 ((2 ^ i - 1:Nat):Int)).toNat=(x % 18446744073709551616).toNat % 2 ^ i:=by
   rw [BitVec.toNat_and,Yka,BitVec.ofInt_natCast,BitVec.toNat_ofNat,Nat.mod_eq_of_lt hlt,Nat.and_two_pow_sub_one_eq_mod]
 have e2:(((x % 18446744073709551616).toNat % 2 ^ i:Nat):Int)=x % 2 ^ i:=by
   rw [Int.natCast_emod,Int.toNat_of_nonneg (Int.emod_nonneg _ (by decide))]
   have hd:((2 ^ i:Nat):Int) ∣ 18446744073709551616:=by
     have h64:(2:Nat) ^ i ∣ 2 ^ 64:=Nat.pow_dvd_pow 2 (by omega)
     exact Int.natCast_dvd_natCast.mpr h64
   rw [Int.emod_emod_of_dvd _ hd];simp
 have e3:0≤x % 2 ^ i∧x % 2 ^ i< 2 ^ 62:=by
   have hpi:(0:Int)< 2 ^ i:=by exact_mod_cast hpos
   refine ⟨Int.emod_nonneg _ (by omega),?_⟩
   have:=Int.emod_lt_of_pos x hpi
   have hp':(2:Int) ^ i≤2 ^ 62:=by exact_mod_cast hp
   omega
 show IntKind.i64.wrap ((BitVec.ofInt 64 x &&& BitVec.ofInt 64 (2 ^ i - 1)).toNat:Int)=_
 rw [hc,e1,e2,w64 (by omega) (by omega)]
theorem Ywx (x :Int):Y27 .i64 x 65535=x % 65536:=Ynv 16 (by decide) x
theorem Y13x (x :Int):Y27 .i64 x 1=x % 2:=Ynv 1 (by decide) x
theorem Y115 :((List.range 256).all fun n=>Y27 .u8 (n:Int) 15==(n:Int) % 16)=true:=by decide +kernel
theorem low4 (x :Int) (h0:0≤x) (h1:x< 256):Y27 .u8 x 15=x % 16:=by
 obtain ⟨n,rfl⟩:=Int.eq_ofNat_of_zero_le h0
 have:=List.all_eq_true.1 Y115 n (List.mem_range.2 (by omega))
 simpa using this
theorem Ypz (x b :Int) (h0:0≤x) (h1:x< 9007199254740992) (b0:0≤b) (b1:b≤255):bOr .i64 (x*256) b=x*256+b:=
 bits_join .i64 62 (by decide) (fun n h0 h1=>by rw [w64 (by omega) (by omega)]) 8 _ _ (by omega) (by omega) (by omega) (by omega) (by omega) (by omega)
theorem Y17 (s :ByteArray) (i:Int):0≤bt s i∧bt s i≤255:=by
 unfold bt
 have:=(s.data.toList.getD i.toNat 0).toNat_lt
 omega
theorem Y9g (L :List Int):(mkS L).size=L.length:=by simp [mkS,ByteArray.size]
theorem Y9h (s :ByteArray):∀ x∈Y24 s,0≤x∧x≤255:=by
 intro x hx
 simp only [Y24,List.mem_map] at hx
 obtain ⟨b,_,rfl⟩:=hx
 have:=b.toNat_lt
 omega
theorem bt_get (s :ByteArray) (i:Nat):bt s i=(Y24 s).getD i 0:=by
 unfold bt Y24
 rw [Int.toNat_natCast]
 rw [List.getD_eq_getElem?_getD,List.getD_eq_getElem?_getD,List.getElem?_map]
 cases s.data.toList[i]? <;> rfl
theorem Yhj {a b :ByteArray} (h:Y24 a=Y24 b):a=b:=by
 apply Yfj
 unfold Y24 at h
 have hl:a.data.toList.length=b.data.toList.length:=by simpa using congrArg List.length h
 refine List.ext_getElem hl fun i h1 h2=> ?_
 have:=congrArg (fun l=>l[i]?) h
 simp only [List.getElem?_map,List.getElem?_eq_getElem h1,List.getElem?_eq_getElem h2,Option.map_some,Option.some.injEq] at this
 exact UInt8.toNat_inj.1 (by omega)
theorem Ya7 (s :ByteArray) (a b:Nat):Y24 (s.extract a b)=((Y24 s).drop a).take (b - a):=by
 unfold Y24
 rw [ByteArray.data_extract,Array.toList_extract,List.extract_eq_take_drop,List.map_take,List.map_drop]
theorem Y1ch (s :ByteArray) (a b:Nat) (h:a+b≤s.size):(s.extract a s.size).extract b (s.extract a s.size).size=s.extract (a+b) s.size:=by
 apply Yhj
 have hl:=Y5v s
 rw [Ya7,Ya7,Ya7,ByteArray.size_extract,Nat.min_self,List.take_of_length_le (i:=s.size - a) (by rw [List.length_drop,hl];exact Nat.le_refl _),List.drop_drop,Nat.sub_sub]
def B1 (x :Int):ByteArray:=mkS [x % 256]
def B2 (x :Int):ByteArray:=mkS [x / 256 % 256,x % 256]
def B4 (x :Int):ByteArray:=mkS [x / 16777216 % 256,x / 65536 % 256,x / 256 % 256,x % 256]
theorem Yr (x :Int):(B1 x).size=1:=Y9g _
theorem Yt (x :Int):(B2 x).size=2:=Y9g _
theorem Yv (x :Int):(B4 x).size=4:=Y9g _
theorem Y7o (N k :Nat) (x i:Int) (L:List Int) (h0:0≤i) (h1:i< (L.length:Int)) (hi:i≤100):J21 N (k+1) x L i=J21 N k (x / 256) (L.set i.toNat (x % 256)) (i - 1):=by
 rw [J21,Y3d,if_pos h0,if_pos ⟨h0,h1⟩,w64 (by omega) (by omega),fd _ (by decide),wu8]
 rfl
theorem Ynw (N k :Nat) (x i:Int) (L:List Int) (h:i< 0):J21 N (k+1) x L i=some (mkS L):=by
 rw [J21,Y3d,if_neg (by omega)]
theorem Ydp {N :Nat} (hN:1000≤N) (x:Int):J8 N x 1=some (B1 x):=by
 obtain ⟨k,rfl⟩:∃ k,N=k+5:=⟨N - 5,by omega⟩
 rw [J8,if_pos (by decide),w64 (by decide) (by decide),Y7o _ _ x _ _ (by decide) (by decide) (by decide),Ynw _ _ _ _ _ (by decide)]
 rfl
theorem Yhk {N :Nat} (hN:1000≤N) (x:Int):J8 N x 2=some (B2 x):=by
 obtain ⟨k,rfl⟩:∃ k,N=k+5:=⟨N - 5,by omega⟩
 rw [J8,if_pos (by decide),w64 (by decide) (by decide),Y7o _ _ x _ _ (by decide) (by decide) (by decide),Y7o _ _ _ _ _ (by decide) (by simp) (by decide),Ynw _ _ _ _ _ (by decide)]
 rfl
theorem Ywy {N :Nat} (hN:1000≤N) (x:Int):J8 N x 4=some (B4 x):=by
 obtain ⟨k,rfl⟩:∃ k,N=k+5:=⟨N - 5,by omega⟩
 rw [J8,if_pos (by decide),w64 (by decide) (by decide),Y7o _ _ x _ _ (by decide) (by decide) (by decide),Y7o _ _ _ _ _ (by decide) (by simp) (by decide),Y7o _ _ _ _ _ (by decide) (by simp) (by decide),Y7o _ _ _ _ _ (by decide) (by simp) (by decide),Ynw _ _ _ _ _ (by decide)]
 unfold B4
 rw [show x / 16777216=x / 256 / 256 / 256 by omega,show x / 65536=x / 256 / 256 by omega]
 rfl
def N2 (s :ByteArray) (i:Nat):Int:=bt s i*256+bt s (i+1:Nat)
def N4 (s :ByteArray) (i:Nat):Int:=((bt s i*256+bt s (i+1:Nat))*256+bt s (i+2:Nat))*256+bt s (i+3:Nat)
theorem Ynx (s :ByteArray) (i:Nat):0≤N2 s i∧N2 s i< 65536:=by
 have a:=Y17 s i;have b:=Y17 s (i+1:Nat);unfold N2;omega
theorem Yfk (s :ByteArray) (i:Nat):0≤N4 s i∧N4 s i< 4294967296:=by
 have a:=Y17 s i;have b:=Y17 s (i+1:Nat);have c:=Y17 s (i+2:Nat);have d:=Y17 s (i+3:Nat);unfold N4;omega
theorem Y3e (s :ByteArray) (a b:Nat) (i:Nat) (h:a+i< b) (hb:b≤s.size):bt (s.extract a b) i=bt s (a+i:Nat):=by
 rw [bt_get,bt_get,Ya7]
 simp only [List.getD_eq_getElem?_getD,List.getElem?_take,List.getElem?_drop]
 rw [if_pos (by omega)]
theorem Y7p (N k :Nat) (x i e:Int) (L:List Int) (h0:0≤i) (hi:i≤7) (h1:L.length< 100) (he:x / 2 ^ (8*i).toNat % 256=e):J22 N (k+1) x L i=J22 N k x (L++[e]) (i - 1):=by
 rw [J22]
 have g:Y1b 1 (L.length+1):=⟨by omega,by omega⟩
 rw [Y3d,if_pos (by omega)]
 simp (disch:=omega) only [Option.bind_some,Y6p,Y3d,Yss,ceq,cne,cond_true,cond_false,if_pos,if_neg,w64,reduceIte,Bool.not_true,Bool.not_false,Bool.and_true,Bool.and_self,wu8]
 rw [Nat.min_eq_left (by omega),fd _ (Int.le_of_lt (Int.pow_pos (by decide))),he]
theorem Yq0 (N k :Nat) (x i:Int) (L:List Int) (h:i< 0):J22 N (k+1) x L i=some (mkS L):=by
 rw [J22,Y3d,if_neg (by omega)]
theorem num2 {N :Nat} (hN:1000≤N) (x:Int):Ja N x 2=some (B2 x):=by
 obtain ⟨k,rfl⟩:∃ k,N=k+5:=⟨N - 5,by omega⟩
 rw [Ja,w64 (by decide) (by decide),Y7p _ (k+4) x _ (x / 256 % 256) _ (by decide) (by decide) (by simp) (by show x / 256 % 256=_;omega),Y7p _ (k+3) x _ (x % 256) _ (by decide) (by decide) (by simp) (by show x / 1 % 256=_;omega),Yq0 _ _ _ _ _ (by decide)]
 rfl
theorem num4 {N :Nat} (hN:1000≤N) (x:Int):Ja N x 4=some (B4 x):=by
 obtain ⟨k,rfl⟩:∃ k,N=k+5:=⟨N - 5,by omega⟩
 rw [Ja,w64 (by decide) (by decide),Y7p _ (k+4) x _ (x / 16777216 % 256) _ (by decide) (by decide) (by simp) (by show x / 16777216 % 256=_;omega),Y7p _ (k+3) x _ (x / 65536 % 256) _ (by decide) (by decide) (by simp) (by show x / 65536 % 256=_;omega),Y7p _ (k+2) x _ (x / 256 % 256) _ (by decide) (by decide) (by simp) (by show x / 256 % 256=_;omega),Y7p _ (k+1) x _ (x % 256) _ (by decide) (by decide) (by simp) (by show x / 1 % 256=_;omega),Yq0 _ _ _ _ _ (by decide)]
 rfl
theorem Y8y (N k :Nat) (s:ByteArray) (x i n:Int) (h0:0≤i) (hn:n=s.size) (h1:i< n) (hi:i≤100) (x0:0≤x) (x1:x< 4294967296):J23 N (k+1) s x n i=J23 N k s (x*256+bt s i) n (i+1):=by
 have hb:=Y17 s i
 rw [J23]
 simp only [Int.reducePow]
 simp (disch:=omega) only [Option.bind_some,Y6p,Y3d,Yss,ceq,cne,cond_true,cond_false,if_pos,if_neg,w64,reduceIte,Bool.not_true,Bool.not_false,Bool.and_true,Bool.and_self,Ypz]
theorem Ywz (N k :Nat) (s:ByteArray) (x i n:Int) (h:¬ i< n):J23 N (k+1) s x n i=some x:=by
 rw [J23,Y3d,if_neg h]
theorem Y8z (N k :Nat) (s:ByteArray) (x i:Int) (h0:0≤i) (h1:i< (s.size:Int)) (hi:i≤100) (x0:0≤x) (x1:x< 4294967296):J24 N (k+1) s x i=J24 N k s (x*256+bt s i) (i+1):=by
 have hb:=Y17 s i
 rw [J24]
 simp only [Int.reducePow]
 simp (disch:=omega) only [Option.bind_some,Y6p,Y3d,Yss,ceq,cne,cond_true,cond_false,if_pos,if_neg,w64,reduceIte,Bool.not_true,Bool.not_false,Bool.and_true,Bool.and_self,Ypz]
theorem Yx0 (N k :Nat) (s:ByteArray) (x i:Int) (h:¬ i< (s.size:Int)):J24 N (k+1) s x i=some x:=by
 rw [J24,Y3d,if_neg h]
theorem Yq1 {N :Nat} (hN:1000≤N) (s:ByteArray) (hs:s.size=2):Jc N s=some (N2 s 0):=by
 obtain ⟨k,rfl⟩:∃ k,N=k+5:=⟨N - 5,by omega⟩
 have b0:=Y17 s 0;have b1:=Y17 s 1
 unfold Jc
 rw [Y8y _ (k+4) s 0 0 _ (by decide) rfl (by omega) (by decide) (by decide) (by decide),Y8y _ (k+3) s _ _ _ (by omega) rfl (by omega) (by omega) (by omega) (by omega),Ywz _ _ s _ _ _ (by omega)]
 simp [N2]
theorem Y14s {N :Nat} (hN:1000≤N) (s:ByteArray) (hs:s.size=4):Jc N s=some (N4 s 0):=by
 obtain ⟨k,rfl⟩:∃ k,N=k+5:=⟨N - 5,by omega⟩
 have b0:=Y17 s 0;have b1:=Y17 s 1;have b2:=Y17 s 2;have b3:=Y17 s 3
 unfold Jc
 rw [Y8y _ (k+4) s 0 0 _ (by decide) rfl (by omega) (by decide) (by decide) (by decide),Y8y _ (k+3) s _ _ _ (by omega) rfl (by omega) (by omega) (by omega) (by omega),Y8y _ (k+2) s _ _ _ (by omega) rfl (by omega) (by omega) (by simp only [Int.reduceAdd];omega) (by simp only [Int.reduceAdd];omega),Y8y _ (k+1) s _ _ _ (by omega) rfl (by omega) (by omega) (by simp only [Int.reduceAdd];omega) (by simp only [Int.reduceAdd];omega),Ywz _ _ s _ _ _ (by omega)]
 simp [N4]
theorem of2 {N :Nat} (hN:1000≤N) (s:ByteArray) (hs:s.size=2):Jd N s=some (N2 s 0):=by
 obtain ⟨k,rfl⟩:∃ k,N=k+5:=⟨N - 5,by omega⟩
 have b0:=Y17 s 0;have b1:=Y17 s 1
 unfold Jd
 rw [Y8z _ (k+4) s 0 0 (by decide) (by omega) (by decide) (by decide) (by decide),Y8z _ (k+3) s _ _ (by omega) (by omega) (by omega) (by omega) (by omega),Yx0 _ _ s _ _ (by omega)]
 simp [N2]
theorem of4 {N :Nat} (hN:1000≤N) (s:ByteArray) (hs:s.size=4):Jd N s=some (N4 s 0):=by
 obtain ⟨k,rfl⟩:∃ k,N=k+5:=⟨N - 5,by omega⟩
 have b0:=Y17 s 0;have b1:=Y17 s 1;have b2:=Y17 s 2;have b3:=Y17 s 3
 unfold Jd
 rw [Y8z _ (k+4) s 0 0 (by decide) (by omega) (by decide) (by decide) (by decide),Y8z _ (k+3) s _ _ (by omega) (by omega) (by omega) (by omega) (by omega),Y8z _ (k+2) s _ _ (by omega) (by omega) (by omega) (by simp only [Int.reduceAdd];omega) (by simp only [Int.reduceAdd];omega),Y8z _ (k+1) s _ _ (by omega) (by omega) (by omega) (by simp only [Int.reduceAdd];omega) (by simp only [Int.reduceAdd];omega),Yx0 _ _ s _ _ (by omega)]
 simp [N4]
theorem Ybx (s :ByteArray) (a:Nat) (h:a+2≤s.size):N2 (s.extract a (a+2)) 0=N2 s a:=by
 unfold N2
 rw [Y3e s a (a+2) 0 (by omega) h,Y3e s a (a+2) (0+1) (by omega) h]
 simp
theorem Yhl (s :ByteArray) (a:Nat) (h:a+4≤s.size):N4 (s.extract a (a+4)) 0=N4 s a:=by
 unfold N4
 rw [Y3e s a (a+4) 0 (by omega) h,Y3e s a (a+4) (0+1) (by omega) h,Y3e s a (a+4) (0+2) (by omega) h,Y3e s a (a+4) (0+3) (by omega) h]
 simp
theorem Y5l {N :Nat} (hN:1000≤N) (s:ByteArray) (a b:Nat) (e:b=a+2) (h:a+2≤s.size):Jc N (s.extract a b)=some (N2 s a):=by
 subst e
 rw [Yq1 hN _ (by simp [ByteArray.size_extract];omega),Ybx s a h]
theorem Y83 {N :Nat} (hN:1000≤N) (s:ByteArray) (a b:Nat) (e:b=a+4) (h:a+4≤s.size):Jc N (s.extract a b)=some (N4 s a):=by
 subst e
 rw [Y14s hN _ (by simp [ByteArray.size_extract];omega),Yhl s a h]
theorem Y2v {N :Nat} (hN:1000≤N) (s:ByteArray) (a b:Nat) (e:b=a+2) (h:a+2≤s.size):Jd N (s.extract a b)=some (N2 s a):=by
 subst e
 rw [of2 hN _ (by simp [ByteArray.size_extract];omega),Ybx s a h]
theorem Yej {N :Nat} (hN:1000≤N) (s:ByteArray) (a b:Nat) (e:b=a+4) (h:a+4≤s.size):Jd N (s.extract a b)=some (N4 s a):=by
 subst e
 rw [of4 hN _ (by simp [ByteArray.size_extract];omega),Yhl s a h]
def Y4f (x :Int):Int:=if x=0 then 0 else (x - 1) % 65535+1
theorem Y39 {x :Int} (h0:0≤x) (h1:x< 65536):Y4f x=x:=by unfold Y4f;split <;> omega
theorem Yak {x :Int} (_h0:0≤x):0≤Y4f x∧Y4f x< 65536:=by unfold Y4f;split <;> omega
theorem Y4u {x :Int} (h:65536≤x):Y4f (x % 65536+x / 65536)=Y4f x:=by
 unfold Y4f
 rw [if_neg (by omega),if_neg (by omega)]
 omega
theorem Y7e (N k :Nat) (x:Int) (h:65536≤x) (h1:x< 9223372036854775808):J25 N (k+1) x=J25 N k (x % 65536+x / 65536):=by
 rw [J25,Y3d,if_pos h,Y6p,Int.tmod_eq_emod_of_nonneg (by omega),Int.tdiv_eq_ediv_of_nonneg (by omega),wu64,wu64]
 congr 1
 omega
theorem Y6w (N k :Nat) (x:Int) (h0:0≤x) (h:x< 65536):J25 N (k+1) x=some x:=by
 rw [J25,Y3d,if_neg (by omega),w64 (by omega) (by omega)]
theorem Yhm (N k :Nat) (x:Int) (h:65536≤x) (h1:x< 9223372036854775808):J26 N (k+1) x=J26 N k (x % 65536+x / 65536):=by
 rw [J26,Y3d,if_pos (by omega),Y6p,Ywx,fd _ (by decide),w64 (by omega) (by omega)]
 rfl
theorem Ydq (N k :Nat) (x:Int) (h:x< 65536):J26 N (k+1) x=some x:=by
 rw [J26,Y3d,if_neg (by omega)]
theorem Y116 {N :Nat} (hN:1000≤N) (x:Int) (h0:0≤x) (h1:x< 9223372036854775808):J8h N x=some (Y4f x):=by
 obtain ⟨k,rfl⟩:∃ k,N=k+6:=⟨N - 6,by omega⟩
 unfold J8h
 by_cases c1:x< 65536
 · rw [Y6w _ _ x h0 c1,Y39 h0 c1]
 rw [Y7e _ _ x (by omega) h1,← Y4u (by omega:65536≤x)]
 have d:x % 65536+x / 65536< 140737488421000∧0≤x % 65536+x / 65536:=by omega
 generalize x % 65536+x / 65536=x at*
 by_cases c1:x< 65536
 · rw [Y6w _ _ x d.2 c1,Y39 d.2 c1]
 rw [Y7e _ _ x (by omega) (by omega),← Y4u (by omega:65536≤x)]
 have d:x % 65536+x / 65536< 2147600000∧0≤x % 65536+x / 65536:=by omega
 generalize x % 65536+x / 65536=x at*
 by_cases c1:x< 65536
 · rw [Y6w _ _ x d.2 c1,Y39 d.2 c1]
 rw [Y7e _ _ x (by omega) (by omega),← Y4u (by omega:65536≤x)]
 have d:x % 65536+x / 65536< 131072∧0≤x % 65536+x / 65536:=by omega
 generalize x % 65536+x / 65536=x at*
 by_cases c1:x< 65536
 · rw [Y6w _ _ x d.2 c1,Y39 d.2 c1]
 rw [Y7e _ _ x (by omega) (by omega),← Y4u (by omega:65536≤x)]
 have d:x % 65536+x / 65536< 65537∧0≤x % 65536+x / 65536:=by omega
 generalize x % 65536+x / 65536=x at*
 by_cases c1:x< 65536
 · rw [Y6w _ _ x d.2 c1,Y39 d.2 c1]
 rw [Y7e _ _ x (by omega) (by omega),← Y4u (by omega:65536≤x),Y6w _ _ _ (by omega) (by omega),Y39 (by omega) (by omega)]
theorem Yny {N :Nat} (hN:1000≤N) (x:Int) (h0:0≤x) (h1:x< 20000000):J8i N x=some (Y4f x):=by
 obtain ⟨k,rfl⟩:∃ k,N=k+6:=⟨N - 6,by omega⟩
 unfold J8i
 by_cases c1:x< 65536
 · rw [Ydq _ _ x c1,Y39 h0 c1]
 rw [Yhm _ _ x (by omega) (by omega),← Y4u (by omega:65536≤x)]
 have d:x % 65536+x / 65536< 65842∧0≤x % 65536+x / 65536:=by omega
 generalize x % 65536+x / 65536=x at*
 by_cases c1:x< 65536
 · rw [Ydq _ _ x c1,Y39 d.2 c1]
 rw [Yhm _ _ x (by omega) (by omega),← Y4u (by omega:65536≤x),Ydq _ _ _ (by omega),Y39 (by omega) (by omega)]
def Y56 :List Int→Int
 | []=>0
 | [a]=>a*256
 | a :: b :: t=>a*256+b+Y56 t
def Y4l (s :ByteArray):Int:=Y4f (Y56 (Y24 s))
theorem Y6x (s :ByteArray) (i:Nat) (h:i< s.size):(Y24 s).drop i=bt s i :: (Y24 s).drop (i+1):=by
 have hl:i< (Y24 s).length:=by rw [Y5v];exact h
 rw [List.drop_eq_getElem_cons hl]
 congr 1
 rw [bt_get,List.getD_eq_getElem?_getD,List.getElem?_eq_getElem hl]
 rfl
theorem Y7q (s :ByteArray) (i:Nat) (h:s.size≤i):(Y24 s).drop i=[]:=List.drop_eq_nil_of_le (by rw [Y5v];exact h)
theorem Yby :∀ (n:Nat) (L:List Int),L.length≤n→(∀ x∈L,0≤x∧x≤255)→0≤Y56 L∧Y56 L≤65535*L.length
 | 0,L,hn,h=>by
   have:L=[]:=List.length_eq_zero_iff.mp (by omega)
   subst this;simp [Y56]
 | n+1,[],hn,h=>by simp [Y56]
 | n+1,[a],hn,h=>by
   have:=h a (by simp)
   simp [Y56];omega
 | n+1,a :: b :: t,hn,h=>by
   have h1:=h a (by simp);have h2:=h b (by simp)
   have ih:=Yby n t (by simp at hn;omega) (fun x hx=>h x (by simp [hx]))
   simp only [Y56,List.length_cons]
   omega
theorem Yx1 (s :ByteArray):0≤Y56 (Y24 s)∧Y56 (Y24 s)≤65535*s.size:=by
 have:=Yby _ (Y24 s) (Nat.le_refl _) (Y9h s)
 rw [Y5v] at this
 exact this
theorem Yst (s :ByteArray):0≤Y4l s∧Y4l s< 65536:=Yak (Yx1 s).1
theorem Yx2 {N :Nat} (hN:1000≤N) (s:ByteArray) (hs:s.size≤140737488351300):∀ (d k i:Nat) (acc:Int),s.size≤i+d→d+1≤k→i≤s.size+2→0≤acc→acc≤65535*i→
   J4b N k s acc i=some (Y4f (acc+Y56 ((Y24 s).drop i))):=by
 intro d
 induction d using Nat.strongRecOn with
 | _ d ih=>
 intro k i acc hd hk hi h0 h1
 obtain ⟨k,rfl⟩:∃ m,k=m+1:=⟨k - 1,by omega⟩
 have hb0:=Y17 s i
 have hb1:=Y17 s ((i+1:Nat):Int)
 rw [J4b]
 unfold J8j
 simp only [Int.reducePow,wu64]
 by_cases c:i< s.size
 · rw [Y3d,if_pos (by omega),if_pos (by omega),w64 (n:=(i:Int)+1) (by omega) (by omega),w64 (n:=(i:Int)+2) (by omega) (by omega),Y6p,Y3d]
   by_cases c2:i+1< s.size
   · rw [if_pos (by omega),if_pos (by omega),show (i:Int)+1=((i+1:Nat):Int) by omega,show (i:Int)+2=((i+2:Nat):Int) by omega,Y6p,Y6p]
     rw [show (((acc+bt s ↑i % 18446744073709551616*256 % 18446744073709551616) % 18446744073709551616+bt s ((i+1:Nat):Int) % 18446744073709551616) % 18446744073709551616)=acc+(bt s i*256+bt s ((i+1:Nat):Int)) by omega]
     rw [ih (d - 2) (by omega) k (i+2) _ (by omega) (by omega) (by omega) (by omega) (by omega),Y6x s i c,Y6x s (i+1) c2,show i+1+1=i+2 from rfl]
     simp only [Y56]
     congr 2
     omega
   · rw [if_neg (by omega),show (i:Int)+2=((i+2:Nat):Int) by omega]
     rw [show ((acc+bt s ↑i % 18446744073709551616*256 % 18446744073709551616) % 18446744073709551616)=acc+bt s i*256 by omega]
     rw [ih (d - 1) (by omega) k (i+2) _ (by omega) (by omega) (by omega) (by omega) (by omega),Y6x s i c,Y7q s (i+1) (by omega),Y7q s (i+2) (by omega)]
     simp only [Y56]
     congr 2
     omega
 · rw [Y3d,if_neg (by omega),Y7q s i (by omega)]
   rw [Y116 hN acc h0 (by omega)]
   simp [Y56]
theorem Yek {N :Nat} (hN:1000≤N) (s:ByteArray) (hs:s.size+10≤N) (hs2:s.size≤140737488351300):J16 N s=some (Y4l s):=by
 have:=Yx2 hN s hs2 s.size N 0 0 (by omega) (by omega) (by omega) (by omega) (by omega)
 simpa [J16,Y4l] using this
theorem Yjj (a b :Int) (h0:0≤a) (h1:0≤b):Y4f (Y4f a+b)=Y4f (a+b):=by
 unfold Y4f
 split
 · rename_i e;subst e;simp
 · rw [if_neg (by omega),if_neg (by omega)];omega
theorem Yx3 {N :Nat} (hN:1000≤N) (s:ByteArray) (hs:s.size≤140737488351300):∀ (d k i:Nat) (acc:Int),s.size≤i+d→d+1≤k→i≤s.size+2→0≤acc→acc< 65536→
   J4c N k s acc i=some (Y4f (acc+Y56 ((Y24 s).drop i))):=by
 intro d
 induction d using Nat.strongRecOn with
 | _ d ih=>
 intro k i acc hd hk hi h0 h1
 obtain ⟨k,rfl⟩:∃ m,k=m+1:=⟨k - 1,by omega⟩
 have hb0:=Y17 s i
 have hb1:=Y17 s ((i+1:Nat):Int)
 have hr:=Yby _ ((Y24 s).drop (i+2)) (Nat.le_refl _) (fun x hx=>Y9h s x (List.mem_of_mem_drop hx))
 rw [J4c]
 unfold J8k
 simp only [Int.reducePow]
 by_cases c:i< s.size
 · rw [Y3d,if_pos (by omega),if_pos (by omega),w64 (n:=(i:Int)+1) (by omega) (by omega),w64 (n:=(i:Int)+2) (by omega) (by omega),w64 (n:=bt s i) (by omega) (by omega),w64 (n:=bt s i*256) (by omega) (by omega),Y6p,w64 (n:=acc+bt s i*256) (by omega) (by omega),Y3d]
   by_cases c2:i+1< s.size
   · rw [if_pos (by omega),if_pos (by omega),show (i:Int)+1=((i+1:Nat):Int) by omega,show (i:Int)+2=((i+2:Nat):Int) by omega,w64 (n:=bt s ((i+1:Nat):Int)) (by omega) (by omega),Y6p,Y6p,w64 (by omega) (by omega),Yny hN _ (by omega) (by omega)]
     simp only [Option.bind_some]
     have hf:=Yak (x:=acc+bt s i*256+bt s ((i+1:Nat):Int)) (by omega)
     rw [ih (d - 2) (by omega) k (i+2) _ (by omega) (by omega) (by omega) hf.1 hf.2,Yjj _ _ (by omega) hr.1,Y6x s i c,Y6x s (i+1) c2,show i+1+1=i+2 from rfl]
     simp only [Y56]
     congr 2
     omega
   · rw [if_neg (by omega),show (i:Int)+2=((i+2:Nat):Int) by omega,Yny hN _ (by omega) (by omega)]
     simp only [Option.bind_some]
     have hf:=Yak (x:=acc+bt s i*256) (by omega)
     rw [ih (d - 1) (by omega) k (i+2) _ (by omega) (by omega) (by omega) hf.1 hf.2,Yjj _ _ (by omega) hr.1,Y6x s i c,Y7q s (i+1) (by omega),Y7q s (i+2) (by omega)]
     simp only [Y56]
     congr 2
     omega
 · rw [Y3d,if_neg (by omega),Y7q s i (by omega)]
   simp [Y56,Y39 h0 h1]
theorem Yis {N :Nat} (hN:1000≤N) (s:ByteArray) (hs:s.size+10≤N) (hs2:s.size≤140737488351300):J1k N s=some (Y4l s):=by
 have:=Yx3 hN s hs2 s.size N 0 0 (by omega) (by omega) (by omega) (by omega) (by omega)
 simpa [J1k,Y4l] using this
theorem Yhn (N :Nat) (a:Int) (n:Nat) (h:n≤62):J7 N a (n:Int)=some (decide (0≤a∧a< 2 ^ n)):=by
 have hp:(0:Int)< 2 ^ n:=Int.pow_pos (by decide)
 unfold J7 J8l
 rw [Y3d,if_pos (by omega:0≤(n:Int)),Int.toNat_natCast,Nat.min_eq_left (by omega),fd _ (by omega)]
 by_cases h0:a≥0
 · rw [if_pos h0]
   congr 1
   rw [Bool.eq_iff_iff]
   simp only [beq_iff_eq,decide_eq_true_eq]
   constructor
   · intro h;exact ⟨h0,by have:=Int.lt_ediv_add_one_mul_self a hp;rw [h] at this;omega⟩
   · intro h;exact Int.ediv_eq_zero_of_lt h.1 h.2
 · rw [if_neg h0];congr 1;symm;simp;omega
theorem Yfl (N :Nat) (a:Int):J7 N a 32=some (decide (0≤a∧a< 4294967296)):=Yhn N a 32 (by decide)
theorem in16 (N :Nat) (a:Int):J7 N a 16=some (decide (0≤a∧a< 65536)):=Yhn N a 16 (by decide)
theorem in8 (N :Nat) (a:Int):J7 N a 8=some (decide (0≤a∧a< 256)):=Yhn N a 8 (by decide)
theorem in6 (N :Nat) (a:Int):J7 N a 6=some (decide (0≤a∧a< 64)):=Yhn N a 6 (by decide)
theorem Ydr (N :Nat) (a:Int) (n:Nat) (h:n≤62):Jb N a (n:Int)=some (decide (0≤a∧a< 2 ^ n)):=by
 have hp:(0:Int)< 2 ^ n:=Int.pow_pos (by decide)
 have hq:(2:Nat) ^ n≤2 ^ 62:=Nat.pow_le_pow_right (by decide) h
 have hq:(2:Int) ^ n≤2 ^ 62:=by exact_mod_cast hq
 unfold Jb J8m
 rw [Y3d,if_pos (by omega:0≤(n:Int)),Int.toNat_natCast,Nat.min_eq_left (by omega),Y6p,w64 (by omega) (by omega)]
 by_cases h0:a≥0
 · rw [if_pos h0,Option.some.injEq,Bool.eq_iff_iff]
   simp only [decide_eq_true_eq]
   omega
 · rw [if_neg h0];congr 1;symm;simp;omega
theorem Yfm (N :Nat) (a:Int):Jb N a 32=some (decide (0≤a∧a< 4294967296)):=Ydr N a 32 (by decide)
theorem Y118 (N :Nat) (a:Int):Jb N a 16=some (decide (0≤a∧a< 65536)):=Ydr N a 16 (by decide)
theorem Y14t (N :Nat) (a:Int):Jb N a 6=some (decide (0≤a∧a< 64)):=Ydr N a 6 (by decide)
end Go.Proofs.YtpdcnikdoikldaaGreatDoor.Pu
namespace Go.Proofs.YtpdcnikdoikldaaGreatDoor.Pu
open Go Go.RowKit Go.Proofs.YtpdcnikdoikldaaGreatDoor.Sv Go.Proofs.YtpdcnikdoikldaaGreatDoor.Lf
attribute [local irreducible] Ja J8 Jc Jd J16 J1k
theorem Yx4 (p q :Bool):(bif p then some q else some false)=some (p&&q):=by cases p <;> rfl
def Ybz (p :GIp):Bool:=
 decide (0≤p.Src∧p.Src< 4294967296)&&(decide (0≤p.Dst∧p.Dst< 4294967296)&&(decide (0≤p.Proto∧p.Proto< 256)&&(decide (0≤p.Ttl∧p.Ttl< 256)&&(decide (0≤p.Id∧p.Id< 65536)&&decide ((p.Body.size:Int)≤492)))))
theorem Yho {p :GIp} (h:Ybz p=true):
   (0≤p.Src∧p.Src< 4294967296)∧(0≤p.Dst∧p.Dst< 4294967296)∧(0≤p.Proto∧p.Proto< 256)∧(0≤p.Ttl∧p.Ttl< 256)∧(0≤p.Id∧p.Id< 65536)∧p.Body.size≤492:=by
 simp [Ybz] at h;omega
theorem Y119 (p :GIp):Ybz p=true↔(0≤p.Src∧p.Src< 4294967296)∧(0≤p.Dst∧p.Dst< 4294967296)∧(0≤p.Proto∧p.Proto< 256)∧(0≤p.Ttl∧p.Ttl< 256)∧(0≤p.Id∧p.Id< 65536)∧p.Body.size≤492:=by
 constructor
 · exact Yho
 · intro h;simp [Ybz];omega
theorem Y1at (N :Nat) (p:GIp):J8n N p=some (Ybz p):=by
 unfold J8n Ybz J27
 simp only [Yfl,in8,in16,Option.bind_some,Yx4]
def Y8o (p :GIp) (chk:Int):ByteArray:=
 B1 69++B1 0++B2 (20+(p.Body.size:Int))++B2 p.Id++B1 64++B1 0++B1 p.Ttl++B1 p.Proto++B2 chk++B4 p.Src++B4 p.Dst
theorem Yc0 (p :GIp) (chk:Int):(Y8o p chk).size=20:=by
 simp [Y8o,ByteArray.size_append,Yr,Yt,Yv]
theorem Y14u {N :Nat} (hN:1000≤N) (p:GIp) (hb:p.Body.size≤1000) (chk:Int):J5w N p chk=some (Y8o p chk):=by
 unfold J5w Y8o
 repeat (with_reducible first | refine stB rfl ?_ | refine Yx ?_ | (refine Y8 ?_ ?_;· first | omega | (simp only [ByteArray.size_append,ByteArray.size_extract,Yr,Yt,Yv];omega)) | (refine Yi ?_ ?_;· omega) | (refine Yo ?_ ?_;· omega) | (refine Ym ?_ ?_;· omega) | (refine Yl ?_ ?_;· omega) | (refine Y13 ?_ ?_;· omega) | (refine Y1c ?_ ?_;· omega) | refine Yk ?_ | refine Yj ?_ | refine Yc ?_ | refine Y14 ?_ | refine stB (Ydp hN _) ?_ | refine stB (Yhk hN _) ?_ | refine stB (Ywy hN _) ?_)
 rw [w64 (by omega) (by omega)]
def sumI (p :GIp):Int:=65535 - Y4l (Y8o p 0)
def Ysu (p :GIp):ByteArray:=Y8o p (sumI p)++p.Body
theorem Yx5 (p :GIp):(Ysu p).size=20+p.Body.size:=by
 simp [Ysu,ByteArray.size_append,Yc0]
theorem Y1au {N :Nat} (hN:1000≤N) (p:GIp):J8o N p=some (if Ybz p then (Ysu p,0) else (ByteArray.empty,200)):=by
 unfold J8o
 rw [Y1at,Option.bind_some,Yss]
 by_cases h:Ybz p=true
 · obtain ⟨_,_,_,_,_,hb⟩:=Yho h
   have hs:=Yst (Y8o p 0)
   have z:=Yc0 p 0;have z1:=Yc0 p (IntKind.i64.wrap (65535 - Y4l (Y8o p 0)))
   rw [h,if_pos rfl,cond_true]
   repeat (with_reducible first | refine stB rfl ?_ | refine Yx ?_ | (refine Y8 ?_ ?_;· first | omega | (simp only [ByteArray.size_append,ByteArray.size_extract,Yr,Yt,Yv];omega)) | (refine Yi ?_ ?_;· omega) | (refine Yo ?_ ?_;· omega) | (refine Ym ?_ ?_;· omega) | (refine Yl ?_ ?_;· omega) | (refine Y13 ?_ ?_;· omega) | (refine Y1c ?_ ?_;· omega) | refine Yk ?_ | refine Yj ?_ | refine Yc ?_ | refine Y14 ?_ | refine stB (Y14u hN p (by omega) _) ?_ | refine stB (Yek hN (Y8o p 0) (by omega) (by omega)) ?_)
   rw [w64 (by omega) (by omega)]
   rfl
 · rw [Bool.not_eq_true] at h
   rw [h];rfl
abbrev IpR:=GIp× Int× Int
def Yc1 :IpR:=(⟨0,0,0,0,0,ByteArray.empty⟩,1,200)
def Y19 (s :ByteArray):IpR:=
 if s.size< 20∨512< s.size then Yc1
 else if bt s 0 / 16≠4∨bt s 0 % 16< 5∨(s.size:Int)< 4*(bt s 0 % 16) then Yc1
 else if N2 s 2≠s.size then Yc1
 else if Y4l (s.extract 0 (4*(bt s 0 % 16)).toNat)≠65535 then Yc1
 else if 5< bt s 0 % 16 then (⟨0,0,0,0,0,ByteArray.empty⟩,3,0)
 else if Y27 .i64 (N2 s 6) 49151≠0 then (⟨0,0,0,0,0,ByteArray.empty⟩,2,0)
 else (⟨N4 s 12,N4 s 16,bt s 9,bt s 8,N2 s 4,s.extract 20 s.size⟩,0,0)
theorem Yjk (x :Int) (h0:0≤x) (h1:x< 65536):Ypj .i64 x 16384=Y27 .i64 x 49151:=by
 obtain ⟨n,rfl⟩:=Int.eq_ofNat_of_zero_le h0
 show IntKind.i64.wrap ((BitVec.ofInt 64 (n:Int) &&& ~~~ (BitVec.ofInt 64 16384)).toNat:Int)=IntKind.i64.wrap ((BitVec.ofInt 64 (n:Int) &&& BitVec.ofInt 64 49151).toNat:Int)
 congr 2
 have e:BitVec.ofInt 64 (n:Int) &&& ~~~ (BitVec.ofInt 64 16384)=BitVec.ofInt 64 (n:Int) &&& BitVec.ofInt 64 49151:=by
   apply BitVec.eq_of_getLsbD_eq
   intro i hi
   simp only [BitVec.getLsbD_and,BitVec.getLsbD_not]
   by_cases c:i< 16
   · have:(decide (i< 64)&& !(BitVec.ofInt 64 16384).getLsbD i)=(BitVec.ofInt 64 49151).getLsbD i:=by
       have key:∀ j:Fin 16,(decide (j.val< 64)&& !(BitVec.ofInt 64 16384).getLsbD j.val)=(BitVec.ofInt 64 49151).getLsbD j.val:=by decide
       exact key ⟨i,c⟩
     rw [this]
   · have z:(BitVec.ofInt 64 (n:Int)).getLsbD i=false:=by
       rw [BitVec.ofInt_natCast,BitVec.getLsbD_ofNat]
       have:n.testBit i=false:=Nat.testBit_lt_two_pow (Nat.lt_of_lt_of_le (show n< 2 ^ 16 by omega) (Nat.pow_le_pow_right (by decide) (by omega)))
       simp [this]
     rw [z];simp
 rw [e]
theorem Y11a {N :Nat} (hN:1000≤N) (s:ByteArray):J8p N s=
   some (if s.size< 20∨512< s.size then (0,false) else if bt s 0 / 16≠4∨bt s 0 % 16< 5∨(s.size:Int)< 4*(bt s 0 % 16) then (0,false)
     else (bt s 0 % 16,decide (N2 s 2=s.size)&&decide (Y4l (s.extract 0 (4*(bt s 0 % 16)).toNat)=65535))):=by
 have hb:=Y17 s 0
 have hf:(bt s 0).fdiv (2 ^ 4)=bt s 0 / 16:=fd _ (by decide)
 have hl:Y27 .u8 (bt s 0) 15=bt s 0 % 16:=low4 _ hb.1 (by omega)
 have w1:IntKind.i64.wrap (bt s 0 % 16)=bt s 0 % 16:=w64 (by omega) (by omega)
 have w2:IntKind.i64.wrap (4*(bt s 0 % 16))=4*(bt s 0 % 16):=w64 (by omega) (by omega)
 unfold J8p J8q J5x J8r
 simp only [hf,hl,w1,w2]
 by_cases c:s.size< 20
 · rw [if_pos (show s.size< 20∨512< s.size from .inl c)]
   repeat (with_reducible first | refine stB rfl ?_ | refine Yx ?_ | (refine Y8 ?_ ?_;· first | omega | (simp only [ByteArray.size_append,ByteArray.size_extract,Yr,Yt,Yv];omega)) | (refine Yi ?_ ?_;· omega) | (refine Yo ?_ ?_;· omega) | (refine Ym ?_ ?_;· omega) | (refine Yl ?_ ?_;· omega) | (refine Y13 ?_ ?_;· omega) | (refine Y1c ?_ ?_;· omega) | refine Yk ?_ | refine Yj ?_ | refine Yc ?_ | refine Y14 ?_)
   rfl
 by_cases c1:512< s.size
 · rw [if_pos (show s.size< 20∨512< s.size from .inr c1),decide_eq_true (show ((s.size:Int) > 512) by omega)]
   repeat (with_reducible first | refine stB rfl ?_ | refine Yx ?_ | (refine Y8 ?_ ?_;· first | omega | (simp only [ByteArray.size_append,ByteArray.size_extract,Yr,Yt,Yv];omega)) | (refine Yi ?_ ?_;· omega) | (refine Yo ?_ ?_;· omega) | (refine Ym ?_ ?_;· omega) | (refine Yl ?_ ?_;· omega) | (refine Y13 ?_ ?_;· omega) | (refine Y1c ?_ ?_;· omega) | refine Yk ?_ | refine Yj ?_ | refine Yc ?_ | refine Y14 ?_)
   rfl
 rw [if_neg (show ¬ (s.size< 20∨512< s.size) by omega),decide_eq_false (show ¬ ((s.size:Int) > 512) by omega)]
 by_cases c2:bt s 0 / 16=4
 · by_cases c3:bt s 0 % 16< 5
   · rw [if_pos (show bt s 0 / 16≠4∨bt s 0 % 16< 5∨(s.size:Int)< 4*(bt s 0 % 16) from .inr (.inl c3))]
     repeat (with_reducible first | refine stB rfl ?_ | refine Yx ?_ | (refine Y8 ?_ ?_;· first | omega | (simp only [ByteArray.size_append,ByteArray.size_extract,Yr,Yt,Yv];omega)) | (refine Yi ?_ ?_;· omega) | (refine Yo ?_ ?_;· omega) | (refine Ym ?_ ?_;· omega) | (refine Yl ?_ ?_;· omega) | (refine Y13 ?_ ?_;· omega) | (refine Y1c ?_ ?_;· omega) | refine Yk ?_ | refine Yj ?_ | refine Yc ?_ | refine Y14 ?_)
     rfl
   · by_cases c4:(s.size:Int)< 4*(bt s 0 % 16)
     · rw [if_pos (show bt s 0 / 16≠4∨bt s 0 % 16< 5∨(s.size:Int)< 4*(bt s 0 % 16) from .inr (.inr c4))]
       repeat (with_reducible first | refine stB rfl ?_ | refine Yx ?_ | (refine Y8 ?_ ?_;· first | omega | (simp only [ByteArray.size_append,ByteArray.size_extract,Yr,Yt,Yv];omega)) | (refine Yi ?_ ?_;· omega) | (refine Yo ?_ ?_;· omega) | (refine Ym ?_ ?_;· omega) | (refine Yl ?_ ?_;· omega) | (refine Y13 ?_ ?_;· omega) | (refine Y1c ?_ ?_;· omega) | refine Yk ?_ | refine Yj ?_ | refine Yc ?_ | refine Y14 ?_)
       rfl
     · have z1:(s.extract 0 (4*(bt s 0 % 16)).toNat).size≤512:=by simp [ByteArray.size_extract];omega
       rw [if_neg (show ¬ (bt s 0 / 16≠4∨bt s 0 % 16< 5∨(s.size:Int)< 4*(bt s 0 % 16)) by omega)]
       by_cases c5:N2 s 2=s.size
       · repeat (with_reducible first | refine stB rfl ?_ | refine Yx ?_ | (refine Y8 ?_ ?_;· first | omega | (simp only [ByteArray.size_append,ByteArray.size_extract,Yr,Yt,Yv];omega)) | (refine Yi ?_ ?_;· omega) | (refine Yo ?_ ?_;· omega) | (refine Ym ?_ ?_;· omega) | (refine Yl ?_ ?_;· omega) | (refine Y13 ?_ ?_;· omega) | (refine Y1c ?_ ?_;· omega) | refine Yk ?_ | refine Yj ?_ | refine Yc ?_ | refine Y14 ?_ | refine stB (Y5l hN s 2 4 rfl (by omega)) ?_ | refine stB (Yek hN (s.extract 0 (4*(bt s 0 % 16)).toNat) (by omega) (by omega)) ?_)
         rw [decide_eq_true c5,Bool.true_and]
         rfl
       · repeat (with_reducible first | refine stB rfl ?_ | refine Yx ?_ | (refine Y8 ?_ ?_;· first | omega | (simp only [ByteArray.size_append,ByteArray.size_extract,Yr,Yt,Yv];omega)) | (refine Yi ?_ ?_;· omega) | (refine Yo ?_ ?_;· omega) | (refine Ym ?_ ?_;· omega) | (refine Yl ?_ ?_;· omega) | (refine Y13 ?_ ?_;· omega) | (refine Y1c ?_ ?_;· omega) | refine Yk ?_ | refine Yj ?_ | refine Yc ?_ | refine Y14 ?_ | refine stB (Y5l hN s 2 4 rfl (by omega)) ?_)
         rw [decide_eq_false c5,Bool.false_and]
 · rw [if_pos (show bt s 0 / 16≠4∨bt s 0 % 16< 5∨(s.size:Int)< 4*(bt s 0 % 16) from .inl c2)]
   repeat (with_reducible first | refine stB rfl ?_ | refine Yx ?_ | (refine Y8 ?_ ?_;· first | omega | (simp only [ByteArray.size_append,ByteArray.size_extract,Yr,Yt,Yv];omega)) | (refine Yi ?_ ?_;· omega) | (refine Yo ?_ ?_;· omega) | (refine Ym ?_ ?_;· omega) | (refine Yl ?_ ?_;· omega) | (refine Y13 ?_ ?_;· omega) | (refine Y1c ?_ ?_;· omega) | refine Yk ?_ | refine Yj ?_ | refine Yc ?_ | refine Y14 ?_)
   rfl
theorem Yx6 {N :Nat} (hN:1000≤N) (s:ByteArray):J5y N s=some (Y19 s):=by
 have hb:=Y17 s 0
 have hn:=Ynx s 6
 unfold J5y Y19
 rw [Y11a hN s,Option.bind_some]
 by_cases c:s.size< 20∨512< s.size
 · rw [if_pos c,if_pos c];rfl
 rw [if_neg c,if_neg c]
 by_cases c1:bt s 0 / 16≠4∨bt s 0 % 16< 5∨(s.size:Int)< 4*(bt s 0 % 16)
 · rw [if_pos c1,if_pos c1];rfl
 rw [if_neg c1,if_neg c1]
 by_cases c2:N2 s 2=s.size
 · by_cases c3:Y4l (s.extract 0 (4*(bt s 0 % 16)).toNat)=65535
   · have h8:=Y17 s 8;have h9:=Y17 s 9
     rw [if_neg (show ¬ (N2 s 2≠s.size) by omega),if_neg (show ¬ (Y4l (s.extract 0 (4*(bt s 0 % 16)).toNat)≠65535) by omega),decide_eq_true c2,decide_eq_true c3]
     simp only [Bool.and_self]
     by_cases c4:5< bt s 0 % 16
     · rw [if_pos c4]
       repeat (with_reducible first | refine stB rfl ?_ | refine Yx ?_ | (refine Y8 ?_ ?_;· first | omega | (simp only [ByteArray.size_append,ByteArray.size_extract,Yr,Yt,Yv];omega)) | (refine Yi ?_ ?_;· omega) | (refine Yo ?_ ?_;· omega) | (refine Ym ?_ ?_;· omega) | (refine Yl ?_ ?_;· omega) | (refine Y13 ?_ ?_;· omega) | (refine Y1c ?_ ?_;· omega) | refine Yk ?_ | refine Yj ?_ | refine Yc ?_ | refine Y14 ?_)
       rfl
     · rw [if_neg c4]
       by_cases c5:Y27 .i64 (N2 s 6) 49151=0
       · rw [if_neg (show ¬ (Y27 .i64 (N2 s 6) 49151≠0) by omega)]
         rw [← Yjk _ hn.1 hn.2] at c5
         repeat (with_reducible first | refine stB rfl ?_ | refine Yx ?_ | (refine Y8 ?_ ?_;· first | omega | (simp only [ByteArray.size_append,ByteArray.size_extract,Yr,Yt,Yv];omega)) | (refine Yi ?_ ?_;· omega) | (refine Yo ?_ ?_;· omega) | (refine Ym ?_ ?_;· omega) | (refine Yl ?_ ?_;· omega) | (refine Y13 ?_ ?_;· omega) | (refine Y1c ?_ ?_;· omega) | refine Yk ?_ | refine Yj ?_ | refine Yc ?_ | refine Y14 ?_ | refine stB (Y5l hN s 6 8 rfl (by omega)) ?_ | refine stB (Y83 hN s 12 16 rfl (by omega)) ?_ | refine stB (Y83 hN s 16 20 rfl (by omega)) ?_ | refine stB (Y5l hN s 4 6 rfl (by omega)) ?_)
         rw [w64 (by omega) (by omega),w64 (by omega) (by omega)]
       · rw [if_pos (show Y27 .i64 (N2 s 6) 49151≠0 from c5)]
         rw [← Yjk _ hn.1 hn.2] at c5
         repeat (with_reducible first | refine stB rfl ?_ | refine Yx ?_ | (refine Y8 ?_ ?_;· first | omega | (simp only [ByteArray.size_append,ByteArray.size_extract,Yr,Yt,Yv];omega)) | (refine Yi ?_ ?_;· omega) | (refine Yo ?_ ?_;· omega) | (refine Ym ?_ ?_;· omega) | (refine Yl ?_ ?_;· omega) | (refine Y13 ?_ ?_;· omega) | (refine Y1c ?_ ?_;· omega) | refine Yk ?_ | refine Yj ?_ | refine Yc ?_ | refine Y14 ?_ | refine stB (Y5l hN s 6 8 rfl (by omega)) ?_)
         rfl
   · rw [if_neg (show ¬ (N2 s 2≠s.size) by omega),if_pos (show Y4l (s.extract 0 (4*(bt s 0 % 16)).toNat)≠65535 from c3),decide_eq_false c3,Bool.and_false]
     repeat (with_reducible first | refine stB rfl ?_ | refine Yx ?_ | (refine Y8 ?_ ?_;· first | omega | (simp only [ByteArray.size_append,ByteArray.size_extract,Yr,Yt,Yv];omega)) | (refine Yi ?_ ?_;· omega) | (refine Yo ?_ ?_;· omega) | (refine Ym ?_ ?_;· omega) | (refine Yl ?_ ?_;· omega) | (refine Y13 ?_ ?_;· omega) | (refine Y1c ?_ ?_;· omega) | refine Yk ?_ | refine Yj ?_ | refine Yc ?_ | refine Y14 ?_)
     rfl
 · rw [if_pos (show N2 s 2≠s.size from c2),decide_eq_false c2,Bool.false_and]
   repeat (with_reducible first | refine stB rfl ?_ | refine Yx ?_ | (refine Y8 ?_ ?_;· first | omega | (simp only [ByteArray.size_append,ByteArray.size_extract,Yr,Yt,Yv];omega)) | (refine Yi ?_ ?_;· omega) | (refine Yo ?_ ?_;· omega) | (refine Ym ?_ ?_;· omega) | (refine Yl ?_ ?_;· omega) | (refine Y13 ?_ ?_;· omega) | (refine Y1c ?_ ?_;· omega) | refine Yk ?_ | refine Yj ?_ | refine Yc ?_ | refine Y14 ?_)
   rfl
theorem Y11b {N :Nat} (hN:1000≤N) (s:ByteArray):J8s N s=some (Y19 s):=by
 have hb:=Y17 s 0
 have hn:=Ynx s 6
 have hf:(bt s 0).fdiv (2 ^ 4)=bt s 0 / 16:=fd _ (by decide)
 have hl:Y27 .u8 (bt s 0) 15=bt s 0 % 16:=low4 _ hb.1 (by omega)
 have w1:IntKind.i64.wrap (bt s 0 % 16)=bt s 0 % 16:=w64 (by omega) (by omega)
 have w2:IntKind.i64.wrap (4*(bt s 0 % 16))=4*(bt s 0 % 16):=w64 (by omega) (by omega)
 unfold J8s J5z J4d Y19
 simp only [hf,hl,w1,w2]
 by_cases c:s.size< 20
 · rw [if_pos (show s.size< 20∨512< s.size from .inl c)]
   repeat (with_reducible first | refine stB rfl ?_ | refine Yx ?_ | (refine Y8 ?_ ?_;· first | omega | (simp only [ByteArray.size_append,ByteArray.size_extract,Yr,Yt,Yv];omega)) | (refine Yi ?_ ?_;· omega) | (refine Yo ?_ ?_;· omega) | (refine Ym ?_ ?_;· omega) | (refine Yl ?_ ?_;· omega) | (refine Y13 ?_ ?_;· omega) | (refine Y1c ?_ ?_;· omega) | refine Yk ?_ | refine Yj ?_ | refine Yc ?_ | refine Y14 ?_)
   rfl
 by_cases c':512< s.size
 · rw [if_pos (show s.size< 20∨512< s.size from .inr c')]
   repeat (with_reducible first | refine stB rfl ?_ | refine Yx ?_ | (refine Y8 ?_ ?_;· first | omega | (simp only [ByteArray.size_append,ByteArray.size_extract,Yr,Yt,Yv];omega)) | (refine Yi ?_ ?_;· omega) | (refine Yo ?_ ?_;· omega) | (refine Ym ?_ ?_;· omega) | (refine Yl ?_ ?_;· omega) | (refine Y13 ?_ ?_;· omega) | (refine Y1c ?_ ?_;· omega) | refine Yk ?_ | refine Yj ?_ | refine Yc ?_ | refine Y14 ?_)
   rfl
 rw [if_neg (show ¬ (s.size< 20∨512< s.size) by omega)]
 by_cases c2:bt s 0 / 16=4
 · rw [show (bt s 0 / 16 != 4)=false by rw [c2];rfl]
   by_cases c3:bt s 0 % 16< 5
   · rw [if_pos (show bt s 0 / 16≠4∨bt s 0 % 16< 5∨(s.size:Int)< 4*(bt s 0 % 16) from .inr (.inl c3))]
     repeat (with_reducible first | refine stB rfl ?_ | refine Yx ?_ | (refine Y8 ?_ ?_;· first | omega | (simp only [ByteArray.size_append,ByteArray.size_extract,Yr,Yt,Yv];omega)) | (refine Yi ?_ ?_;· omega) | (refine Yo ?_ ?_;· omega) | (refine Ym ?_ ?_;· omega) | (refine Yl ?_ ?_;· omega) | (refine Y13 ?_ ?_;· omega) | (refine Y1c ?_ ?_;· omega) | refine Yk ?_ | refine Yj ?_ | refine Yc ?_ | refine Y14 ?_)
     rfl
   · by_cases c4:(s.size:Int)< 4*(bt s 0 % 16)
     · rw [if_pos (show bt s 0 / 16≠4∨bt s 0 % 16< 5∨(s.size:Int)< 4*(bt s 0 % 16) from .inr (.inr c4))]
       repeat (with_reducible first | refine stB rfl ?_ | refine Yx ?_ | (refine Y8 ?_ ?_;· first | omega | (simp only [ByteArray.size_append,ByteArray.size_extract,Yr,Yt,Yv];omega)) | (refine Yi ?_ ?_;· omega) | (refine Yo ?_ ?_;· omega) | (refine Ym ?_ ?_;· omega) | (refine Yl ?_ ?_;· omega) | (refine Y13 ?_ ?_;· omega) | (refine Y1c ?_ ?_;· omega) | refine Yk ?_ | refine Yj ?_ | refine Yc ?_ | refine Y14 ?_)
       rfl
     · have z1:(s.extract 0 (4*(bt s 0 % 16)).toNat).size≤512:=by simp [ByteArray.size_extract];omega
       rw [if_neg (show ¬ (bt s 0 / 16≠4∨bt s 0 % 16< 5∨(s.size:Int)< 4*(bt s 0 % 16)) by omega)]
       by_cases c5:N2 s 2=s.size
       · rw [if_neg (show ¬ (N2 s 2≠s.size) by omega)]
         by_cases c6:Y4l (s.extract 0 (4*(bt s 0 % 16)).toNat)=65535
         · have c6':(Y4l (s.extract 0 (4*(bt s 0 % 16)).toNat) != 65535)=false:=by rw [c6];rfl
           rw [if_neg (show ¬ (Y4l (s.extract 0 (4*(bt s 0 % 16)).toNat)≠65535) by omega)]
           repeat (with_reducible first | refine stB rfl ?_ | refine Yx ?_ | (refine Y8 ?_ ?_;· first | omega | (simp only [ByteArray.size_append,ByteArray.size_extract,Yr,Yt,Yv];omega)) | (refine Yi ?_ ?_;· omega) | (refine Yo ?_ ?_;· omega) | (refine Ym ?_ ?_;· omega) | (refine Yl ?_ ?_;· omega) | (refine Y13 ?_ ?_;· omega) | (refine Y1c ?_ ?_;· omega) | refine Yk ?_ | refine Yj ?_ | refine Yc ?_ | refine Y14 ?_ | refine stB (Y2v hN s 2 4 rfl (by omega)) ?_ | refine stB (Yis hN (s.extract 0 (4*(bt s 0 % 16)).toNat) (by omega) (by omega)) ?_)
           have h8:=Y17 s 8;have h9:=Y17 s 9
           by_cases c7:5< bt s 0 % 16
           · rw [if_pos c7]
             repeat (with_reducible first | refine stB rfl ?_ | refine Yx ?_ | (refine Y8 ?_ ?_;· first | omega | (simp only [ByteArray.size_append,ByteArray.size_extract,Yr,Yt,Yv];omega)) | (refine Yi ?_ ?_;· omega) | (refine Yo ?_ ?_;· omega) | (refine Ym ?_ ?_;· omega) | (refine Yl ?_ ?_;· omega) | (refine Y13 ?_ ?_;· omega) | (refine Y1c ?_ ?_;· omega) | refine Yk ?_ | refine Yj ?_ | refine Yc ?_ | refine Y14 ?_)
             rfl
           · rw [if_neg c7]
             by_cases c8:Y27 .i64 (N2 s 6) 49151=0
             · rw [if_neg (show ¬ (Y27 .i64 (N2 s 6) 49151≠0) by omega)]
               repeat (with_reducible first | refine stB rfl ?_ | refine Yx ?_ | (refine Y8 ?_ ?_;· first | omega | (simp only [ByteArray.size_append,ByteArray.size_extract,Yr,Yt,Yv];omega)) | (refine Yi ?_ ?_;· omega) | (refine Yo ?_ ?_;· omega) | (refine Ym ?_ ?_;· omega) | (refine Yl ?_ ?_;· omega) | (refine Y13 ?_ ?_;· omega) | (refine Y1c ?_ ?_;· omega) | refine Yk ?_ | refine Yj ?_ | refine Yc ?_ | refine Y14 ?_ | refine stB (Y2v hN s 6 8 rfl (by omega)) ?_ | refine stB (Yej hN s 12 16 rfl (by omega)) ?_ | refine stB (Yej hN s 16 20 rfl (by omega)) ?_ | refine stB (Y2v hN s 4 6 rfl (by omega)) ?_)
               rw [w64 (by omega) (by omega),w64 (by omega) (by omega)]
             · rw [if_pos (show Y27 .i64 (N2 s 6) 49151≠0 from c8)]
               repeat (with_reducible first | refine stB rfl ?_ | refine Yx ?_ | (refine Y8 ?_ ?_;· first | omega | (simp only [ByteArray.size_append,ByteArray.size_extract,Yr,Yt,Yv];omega)) | (refine Yi ?_ ?_;· omega) | (refine Yo ?_ ?_;· omega) | (refine Ym ?_ ?_;· omega) | (refine Yl ?_ ?_;· omega) | (refine Y13 ?_ ?_;· omega) | (refine Y1c ?_ ?_;· omega) | refine Yk ?_ | refine Yj ?_ | refine Yc ?_ | refine Y14 ?_ | refine stB (Y2v hN s 6 8 rfl (by omega)) ?_)
               rfl
         · rw [if_pos (show Y4l (s.extract 0 (4*(bt s 0 % 16)).toNat)≠65535 from c6)]
           repeat (with_reducible first | refine stB rfl ?_ | refine Yx ?_ | (refine Y8 ?_ ?_;· first | omega | (simp only [ByteArray.size_append,ByteArray.size_extract,Yr,Yt,Yv];omega)) | (refine Yi ?_ ?_;· omega) | (refine Yo ?_ ?_;· omega) | (refine Ym ?_ ?_;· omega) | (refine Yl ?_ ?_;· omega) | (refine Y13 ?_ ?_;· omega) | (refine Y1c ?_ ?_;· omega) | refine Yk ?_ | refine Yj ?_ | refine Yc ?_ | refine Y14 ?_ | refine stB (Y2v hN s 2 4 rfl (by omega)) ?_ | refine stB (Yis hN (s.extract 0 (4*(bt s 0 % 16)).toNat) (by omega) (by omega)) ?_)
           rfl
       · rw [if_pos (show N2 s 2≠s.size from c5)]
         repeat (with_reducible first | refine stB rfl ?_ | refine Yx ?_ | (refine Y8 ?_ ?_;· first | omega | (simp only [ByteArray.size_append,ByteArray.size_extract,Yr,Yt,Yv];omega)) | (refine Yi ?_ ?_;· omega) | (refine Yo ?_ ?_;· omega) | (refine Ym ?_ ?_;· omega) | (refine Yl ?_ ?_;· omega) | (refine Y13 ?_ ?_;· omega) | (refine Y1c ?_ ?_;· omega) | refine Yk ?_ | refine Yj ?_ | refine Yc ?_ | refine Y14 ?_ | refine stB (Y2v hN s 2 4 rfl (by omega)) ?_)
         rfl
 · rw [if_pos (show bt s 0 / 16≠4∨bt s 0 % 16< 5∨(s.size:Int)< 4*(bt s 0 % 16) from .inl c2),show (bt s 0 / 16 != 4)=true by rw [bne_iff_ne];exact c2]
   repeat (with_reducible first | refine stB rfl ?_ | refine Yx ?_ | (refine Y8 ?_ ?_;· first | omega | (simp only [ByteArray.size_append,ByteArray.size_extract,Yr,Yt,Yv];omega)) | (refine Yi ?_ ?_;· omega) | (refine Yo ?_ ?_;· omega) | (refine Ym ?_ ?_;· omega) | (refine Yl ?_ ?_;· omega) | (refine Y13 ?_ ?_;· omega) | (refine Y1c ?_ ?_;· omega) | refine Yk ?_ | refine Yj ?_ | refine Yc ?_ | refine Y14 ?_)
   rfl
end Go.Proofs.YtpdcnikdoikldaaGreatDoor.Pu
