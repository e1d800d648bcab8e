import Derived.Laws.BitsLemmas
import Derived.Test.YtpdcnikdoikldaaGreatDoorAll
set_option linter.unusedVariables false
set_option linter.unusedSimpArgs false
namespace Go.Proofs.YtpdcnikdoikldaaGreatDoor.Pu
open Go Go.RowKit Go.Proofs.YtpdcnikdoikldaaGreatDoor.Sv Go.Proofs.YtpdcnikdoikldaaGreatDoor.Lf
theorem i64w (n :Int):IntKind.i64.wrap n=(n+9223372036854775808) % 18446744073709551616 - 9223372036854775808:=by rw [IntKind.wrap_i64]
theorem w64 {n :Int} (h0: -9223372036854775808<=n) (h1:n<=9223372036854775807):IntKind.i64.wrap n=n:=by rw [i64w];omega
theorem wu64 (n :Int):IntKind.u64.wrap n=n % 18446744073709551616:=by simp [IntKind.wrap,IntKind.bits,IntKind.signed]
theorem wu8 (n :Int):IntKind.u8.wrap n=n % 256:=by simp [IntKind.wrap,IntKind.bits,IntKind.signed]
theorem Y3u {U :Type} (p:Prop) [Decidable p] (a b:U):(bif decide p then a else b)=if p then a else b:=by
 by_cases h:p <;> simp [h]
theorem Yv4 {U :Type} (p:Bool) (a b:U):(bif !p then a else b)=bif p then b else a:=by cases p <;> rfl
theorem Yzb {U :Type} (p:Bool) (a b:U):(bif !p then a else b)=bif p then b else a:=by cases p <;> rfl
theorem ceq {U :Type} (x y:Int) (a b:U):(bif x==y then a else b)=if x=y then a else b:=by
 by_cases h:x=y
 . rw [if_pos h,beq_iff_eq.2 h];rfl
 . rw [if_neg h,beq_eq_false_iff_ne.2 h];rfl
theorem cne {U :Type} (x y:Int) (a b:U):(bif x != y then a else b)=if x=y then b else a:=by
 unfold bne
 rw [Yzb,ceq]
theorem Y7z {U Qb :Type} (a:U) (f:U->Option Qb):via a f=f a:=rfl
section
variable {U Qb : Type} {r : Option U}
theorem Y15 {Qg :Type} {a:Qg} {f:Qg->Option U} (k:f a=r):via a f=r:=k
theorem Yb {p :Prop} [Decidable p] {a b:Option U} (h:p) (k:a=r):(if p then a else b)=r:=by rw [if_pos h,k]
theorem stB {a :Option Qb} {x:Qb} {f:Qb->Option U} (h:a=some x) (k:f x=r):a.bind f=r:=by rw [h,Option.bind_some,k]
theorem Yj {p :Prop} [Decidable p] {a b:Option U} (h:p) (k:a=r):(bif decide p then a else b)=r:=by rw [Y3u,if_pos h,k]
theorem Yt {p :Prop} [Decidable p] {a b:Option U} (h:¬p) (k:b=r):(bif decide p then a else b)=r:=by rw [Y3u,if_neg h,k]
theorem Yr {x y :Int} {a b:Option U} (h:x=y) (k:a=r):(bif x==y then a else b)=r:=by rw [ceq,if_pos h,k]
theorem Yo {x y :Int} {a b:Option U} (h:¬x=y) (k:b=r):(bif x==y then a else b)=r:=by rw [ceq,if_neg h,k]
theorem Y1p {x y :Int} {a b:Option U} (h:x=y) (k:b=r):(bif x != y then a else b)=r:=by rw [cne,if_pos h,k]
theorem Y25 {x y :Int} {a b:Option U} (h:¬x=y) (k:a=r):(bif x != y then a else b)=r:=by rw [cne,if_neg h,k]
theorem Ym {a b :Option U} (k:a=r):(bif true then a else b)=r:=k
theorem Yk {a b :Option U} (k:b=r):(bif false then a else b)=r:=k
theorem Yi {a b :Option U} (k:b=r):(bif !true then a else b)=r:=k
theorem Y1k {a b :Option U} (k:a=r):(bif !false then a else b)=r:=k
end
theorem fd (x :Int) {k:Int} (h:0<=k):x.fdiv k=x / k:=Int.fdiv_eq_ediv_of_nonneg x h
theorem Yd1 {a b :ByteArray} (h:a.data.toList=b.data.toList):a=b:=by
 cases a;cases b;congr;exact Array.toList_inj.1 h
theorem Yit (a b :ByteArray):a.toList=b.toList↔a=b:=by
 rw [ByteArray.toList_eq,ByteArray.toList_eq]
 exact ⟨fun h=>Yd1 h,fun h=>by rw [h]⟩
theorem Y80 (a b :ByteArray):(a.toList==b.toList)=decide (a=b):=by
 rw [Bool.eq_iff_iff,beq_iff_eq,Yit,decide_eq_true_iff]
theorem Ym3 (x :Int):(BitVec.ofInt 64 x).toNat=(x % 18446744073709551616).toNat:=by
 rw [BitVec.toNat_ofInt];rfl
theorem Ypq (i :Nat) (hi:i<=62) (x:Int):Y2f .i64 x (2 ^ i - 1)=x % 2 ^ i:=by
 have hp:(2:Nat) ^ i<=2 ^ 62:=Nat.pow_le_pow_right (by decide) hi
 have hpos:0< 2 ^ i:=Nat.two_pow_pos i
 have hc:((2:Int) ^ i - 1)=((2 ^ i - 1:Nat):Int):=by
   rw [Int.natCast_sub hpos];simp
 have hlt:2 ^ i - 1< 2 ^ 64:=by omega
 have e1:(BitVec.ofInt 64 x &&& BitVec.ofInt 64 ((2 ^ i - 1:Nat):Int)).toNat=(x % 18446744073709551616).toNat % 2 ^ i:=by
   rw [BitVec.toNat_and,Ym3,BitVec.ofInt_natCast,BitVec.toNat_ofNat,Nat.mod_eq_of_lt hlt,Nat.and_two_pow_sub_one_eq_mod]
 have e2:(((x % 18446744073709551616).toNat % 2 ^ i:Nat):Int)=x % 2 ^ i:=by
   rw [Int.natCast_emod,Int.toNat_of_nonneg (Int.emod_nonneg _ (by decide))]
   have hd:((2 ^ i:Nat):Int) ∣ 18446744073709551616:=by
     have h64:(2:Nat) ^ i ∣ 2 ^ 64:=Nat.pow_dvd_pow 2 (by omega)
     exact Int.natCast_dvd_natCast.mpr h64
   rw [Int.emod_emod_of_dvd _ hd];simp
 have e3:0<=x % 2 ^ i/\x % 2 ^ i< 2 ^ 62:=by
   have hpi:(0:Int)< 2 ^ i:=by exact_mod_cast hpos
   refine ⟨Int.emod_nonneg _ (by omega),?_⟩
   have:=Int.emod_lt_of_pos x hpi
   have hp':(2:Int) ^ i<=2 ^ 62:=by exact_mod_cast hp
   omega
 show IntKind.i64.wrap ((BitVec.ofInt 64 x &&& BitVec.ofInt 64 (2 ^ i - 1)).toNat:Int)=_
 rw [hc,e1,e2,w64 (by omega) (by omega)]
theorem Yl4 (x :Int):Y2f .i64 x 65535=x % 65536:=Ypq 16 (by decide) x
theorem Y1e0 (x :Int):Y2f .i64 x 63=x % 64:=Ypq 6 (by decide) x
theorem Y13m :((List.range 256).all fun n=>Y2f .u8 (n:Int) 15==(n:Int) % 16)=true:=by decide +kernel
theorem low4 (x :Int) (h0:0<=x) (h1:x< 256):Y2f .u8 x 15=x % 16:=by
 obtain ⟨n,rfl⟩:=Int.eq_ofNat_of_zero_le h0
 have:=List.all_eq_true.1 Y13m n (List.mem_range.2 (by omega))
 simpa using this
theorem Y17l (x b :Int) (h0:0<=x) (h1:x< 9007199254740992) (b0:0<=b) (b1:b<=255):bOr .i64 (x*256) b=x*256+b:=
 bits_join .i64 62 (by decide) (fun n h0 h1=>by rw [w64 (by omega) (by omega)]) 8 _ _ (by omega) (by omega) (by omega) (by omega) (by omega) (by omega)
theorem Y1w (s :ByteArray) (i:Int):0<=bt s i/\bt s i<=255:=by
 unfold bt
 have:=(s.data.toList.getD i.toNat 0).toNat_lt
 omega
theorem Yad (L :List Int):(mkS L).size=L.length:=by simp [mkS,ByteArray.size]
theorem Yae (s :ByteArray):∀ x∈Y12 s,0<=x/\x<=255:=by
 intro x hx
 simp only [Y12,List.mem_map] at hx
 obtain ⟨b,_,rfl⟩:=hx
 have:=b.toNat_lt
 omega
theorem bt_get (s :ByteArray) (i:Nat):bt s i=(Y12 s).getD i 0:=by
 unfold bt Y12
 rw [Int.toNat_natCast]
 rw [List.getD_eq_getElem?_getD,List.getD_eq_getElem?_getD,List.getElem?_map]
 cases s.data.toList[i]? <;> rfl
theorem Y3n {t :ByteArray} {L:List Int} (h:Y12 t=L) (i:Nat):bt t i=L.getD i 0:=by rw [bt_get,h]
theorem Yd2 {a b :ByteArray} (h:Y12 a=Y12 b):a=b:=by
 apply Yd1
 unfold Y12 at h
 have hl:a.data.toList.length=b.data.toList.length:=by simpa using congrArg List.length h
 refine List.ext_getElem hl fun i h1 h2=> ?_
 have:=congrArg (fun l=>l[i]?) h
 simp only [List.getElem?_map,List.getElem?_eq_getElem h1,List.getElem?_eq_getElem h2,Option.map_some,Option.some.injEq] at this
 exact UInt8.toNat_inj.1 (by omega)
theorem Y4s (a b :ByteArray):Y12 (a++b)=Y12 a++Y12 b:=by
 unfold Y12
 rw [<- List.map_append]
 congr 1
theorem Y81 (L :List Int) (h:∀ x∈L,0<=x/\x<=255):Y12 (mkS L)=L:=by
 unfold Y12 mkS
 simp only [List.map_map]
 refine List.ext_getElem (by simp) fun i h1 h2=> ?_
 simp only [List.getElem_map,Function.comp]
 have:=h L[i] (List.getElem_mem _)
 simp only [UInt8.toNat_ofNat']
 omega
theorem Y8w (s :ByteArray) (a b:Nat):Y12 (s.extract a b)=((Y12 s).drop a).take (b - a):=by
 unfold Y12
 rw [ByteArray.data_extract,Array.toList_extract,List.extract_eq_take_drop,List.map_take,List.map_drop]
theorem Y1fr (s :ByteArray) (a b:Nat) (h:a+b<=s.size):(s.extract a s.size).extract b (s.extract a s.size).size=s.extract (a+b) s.size:=by
 apply Yd2
 have hl:=Y4v s
 rw [Y8w,Y8w,Y8w,ByteArray.size_extract,Nat.min_self,List.take_of_length_le (i:=s.size - a) (by rw [List.length_drop,hl];exact Nat.le_refl _),List.drop_drop,Nat.sub_sub]
def B1 (x :Int):ByteArray:=mkS [x % 256]
def B2 (x :Int):ByteArray:=mkS [x / 256 % 256,x % 256]
def B4 (x :Int):ByteArray:=mkS [x / 16777216 % 256,x / 65536 % 256,x / 256 % 256,x % 256]
theorem Y10 (x :Int):(B1 x).size=1:=Yad _
theorem Y11 (x :Int):(B2 x).size=2:=Yad _
theorem Y18 (x :Int):(B4 x).size=4:=Yad _
theorem Y8g (N k :Nat) (x i:Int) (L:List Int) (h0:0<=i) (h1:i< (L.length:Int)) (hi:i<=100):J24 N (k+1) x L i=J24 N k (x / 256) (L.set i.toNat (x % 256)) (i - 1):=by
 rw [J24,Y3u,if_pos h0,if_pos ⟨h0,h1⟩,w64 (by omega) (by omega),fd _ (by decide),wu8]
 rfl
theorem Ypr (N k :Nat) (x i:Int) (L:List Int) (h:i< 0):J24 N (k+1) x L i=some (mkS L):=by
 rw [J24,Y3u,if_neg (by omega)]
theorem Yew {N :Nat} (hN:1000<=N) (x:Int):J8 N x 1=some (B1 x):=by
 obtain ⟨k,rfl⟩:∃ k,N=k+5:=⟨N - 5,by omega⟩
 rw [J8,if_pos (by decide),w64 (by decide) (by decide),Y8g _ _ x _ _ (by decide) (by decide) (by decide),Ypr _ _ _ _ _ (by decide)]
 rfl
theorem Yiu {N :Nat} (hN:1000<=N) (x:Int):J8 N x 2=some (B2 x):=by
 obtain ⟨k,rfl⟩:∃ k,N=k+5:=⟨N - 5,by omega⟩
 rw [J8,if_pos (by decide),w64 (by decide) (by decide),Y8g _ _ x _ _ (by decide) (by decide) (by decide),Y8g _ _ _ _ _ (by decide) (by simp) (by decide),Ypr _ _ _ _ _ (by decide)]
 rfl
theorem Yzc {N :Nat} (hN:1000<=N) (x:Int):J8 N x 4=some (B4 x):=by
 obtain ⟨k,rfl⟩:∃ k,N=k+5:=⟨N - 5,by omega⟩
 rw [J8,if_pos (by decide),w64 (by decide) (by decide),Y8g _ _ x _ _ (by decide) (by decide) (by decide),Y8g _ _ _ _ _ (by decide) (by simp) (by decide),Y8g _ _ _ _ _ (by decide) (by simp) (by decide),Y8g _ _ _ _ _ (by decide) (by simp) (by decide),Ypr _ _ _ _ _ (by decide)]
 unfold B4
 rw [show x / 16777216=x / 256 / 256 / 256 by omega,show x / 65536=x / 256 / 256 by omega]
 rfl
def N2 (s :ByteArray) (i:Nat):Int:=bt s i*256+bt s (i+1:Nat)
def N4 (s :ByteArray) (i:Nat):Int:=((bt s i*256+bt s (i+1:Nat))*256+bt s (i+2:Nat))*256+bt s (i+3:Nat)
theorem Y13n (s :ByteArray) (i:Nat):0<=N2 s i/\N2 s i< 65536:=by
 have a:=Y1w s i;have b:=Y1w s (i+1:Nat);unfold N2;omega
theorem Ygu (s :ByteArray) (i:Nat):0<=N4 s i/\N4 s i< 4294967296:=by
 have a:=Y1w s i;have b:=Y1w s (i+1:Nat);have c:=Y1w s (i+2:Nat);have d:=Y1w s (i+3:Nat);unfold N4;omega
theorem Y3o (s :ByteArray) (a b:Nat) (i:Nat) (h:a+i< b) (hb:b<=s.size):bt (s.extract a b) i=bt s (a+i:Nat):=by
 rw [bt_get,bt_get,Y8w]
 simp only [List.getD_eq_getElem?_getD,List.getElem?_take,List.getElem?_drop]
 rw [if_pos (by omega)]
theorem Y79 (N k :Nat) (x i e:Int) (L:List Int) (h0:0<=i) (hi:i<=7) (h1:L.length< 100) (he:x / 2 ^ (8*i).toNat % 256=e):J25 N (k+1) x L i=J25 N k x (L++[e]) (i - 1):=by
 rw [J25]
 have g:Y1a 1 (L.length+1):=⟨by omega,by omega⟩
 rw [Y3u,if_pos (by omega)]
 simp (disch:=omega) only [Option.bind_some,Y7z,Y3u,Yv4,ceq,cne,cond_true,cond_false,if_pos,if_neg,w64,reduceIte,Bool.not_true,Bool.not_false,Bool.and_true,Bool.and_self,wu8]
 rw [Nat.min_eq_left (by omega),fd _ (Int.le_of_lt (Int.pow_pos (by decide))),he]
theorem Ykb (N k :Nat) (x i:Int) (L:List Int) (h:i< 0):J25 N (k+1) x L i=some (mkS L):=by
 rw [J25,Y3u,if_neg (by omega)]
theorem Yv5 {N :Nat} (hN:1000<=N) (x:Int):J9 N x 1=some (B1 x):=by
 obtain ⟨k,rfl⟩:∃ k,N=k+5:=⟨N - 5,by omega⟩
 rw [J9,w64 (by decide) (by decide),Y79 _ (k+4) x _ (x % 256) _ (by decide) (by decide) (by simp) (by show x / 1 % 256=_;omega),Ykb _ _ _ _ _ (by decide)]
 rfl
theorem Yps {N :Nat} (hN:1000<=N) (x:Int):J9 N x 2=some (B2 x):=by
 obtain ⟨k,rfl⟩:∃ k,N=k+5:=⟨N - 5,by omega⟩
 rw [J9,w64 (by decide) (by decide),Y79 _ (k+4) x _ (x / 256 % 256) _ (by decide) (by decide) (by simp) (by show x / 256 % 256=_;omega),Y79 _ (k+3) x _ (x % 256) _ (by decide) (by decide) (by simp) (by show x / 1 % 256=_;omega),Ykb _ _ _ _ _ (by decide)]
 rfl
theorem Ypt {N :Nat} (hN:1000<=N) (x:Int):J9 N x 4=some (B4 x):=by
 obtain ⟨k,rfl⟩:∃ k,N=k+5:=⟨N - 5,by omega⟩
 rw [J9,w64 (by decide) (by decide),Y79 _ (k+4) x _ (x / 16777216 % 256) _ (by decide) (by decide) (by simp) (by show x / 16777216 % 256=_;omega),Y79 _ (k+3) x _ (x / 65536 % 256) _ (by decide) (by decide) (by simp) (by show x / 65536 % 256=_;omega),Y79 _ (k+2) x _ (x / 256 % 256) _ (by decide) (by decide) (by simp) (by show x / 256 % 256=_;omega),Y79 _ (k+1) x _ (x % 256) _ (by decide) (by decide) (by simp) (by show x / 1 % 256=_;omega),Ykb _ _ _ _ _ (by decide)]
 rfl
theorem Y9w (N k :Nat) (s:ByteArray) (x i n:Int) (h0:0<=i) (hn:n=s.size) (h1:i< n) (hi:i<=100) (x0:0<=x) (x1:x< 4294967296):J26 N (k+1) s x n i=J26 N k s (x*256+bt s i) n (i+1):=by
 have hb:=Y1w s i
 rw [J26]
 simp only [Int.reducePow]
 simp (disch:=omega) only [Option.bind_some,Y7z,Y3u,Yv4,ceq,cne,cond_true,cond_false,if_pos,if_neg,w64,reduceIte,Bool.not_true,Bool.not_false,Bool.and_true,Bool.and_self,Y17l]
theorem Yzd (N k :Nat) (s:ByteArray) (x i n:Int) (h:¬ i< n):J26 N (k+1) s x n i=some x:=by
 rw [J26,Y3u,if_neg h]
theorem Ysa {N :Nat} (hN:1000<=N) (s:ByteArray) (hs:s.size=2):Jc N s=some (N2 s 0):=by
 obtain ⟨k,rfl⟩:∃ k,N=k+5:=⟨N - 5,by omega⟩
 have b0:=Y1w s 0;have b1:=Y1w s 1
 unfold Jc
 rw [Y9w _ (k+4) s 0 0 _ (by decide) rfl (by omega) (by decide) (by decide) (by decide),Y9w _ (k+3) s _ _ _ (by omega) rfl (by omega) (by omega) (by omega) (by omega),Yzd _ _ s _ _ _ (by omega)]
 simp [N2]
theorem Y17m {N :Nat} (hN:1000<=N) (s:ByteArray) (hs:s.size=4):Jc N s=some (N4 s 0):=by
 obtain ⟨k,rfl⟩:∃ k,N=k+5:=⟨N - 5,by omega⟩
 have b0:=Y1w s 0;have b1:=Y1w s 1;have b2:=Y1w s 2;have b3:=Y1w s 3
 unfold Jc
 rw [Y9w _ (k+4) s 0 0 _ (by decide) rfl (by omega) (by decide) (by decide) (by decide),Y9w _ (k+3) s _ _ _ (by omega) rfl (by omega) (by omega) (by omega) (by omega),Y9w _ (k+2) s _ _ _ (by omega) rfl (by omega) (by omega) (by simp only [Int.reduceAdd];omega) (by simp only [Int.reduceAdd];omega),Y9w _ (k+1) s _ _ _ (by omega) rfl (by omega) (by omega) (by simp only [Int.reduceAdd];omega) (by simp only [Int.reduceAdd];omega),Yzd _ _ s _ _ _ (by omega)]
 simp [N4]
theorem Yiv (s :ByteArray) (a:Nat) (h:a+2<=s.size):N2 (s.extract a (a+2)) 0=N2 s a:=by
 unfold N2
 rw [Y3o s a (a+2) 0 (by omega) h,Y3o s a (a+2) (0+1) (by omega) h]
 simp
theorem Yv6 (s :ByteArray) (a:Nat) (h:a+4<=s.size):N4 (s.extract a (a+4)) 0=N4 s a:=by
 unfold N4
 rw [Y3o s a (a+4) 0 (by omega) h,Y3o s a (a+4) (0+1) (by omega) h,Y3o s a (a+4) (0+2) (by omega) h,Y3o s a (a+4) (0+3) (by omega) h]
 simp
theorem Y6b {N :Nat} (hN:1000<=N) (s:ByteArray) (a b:Nat) (e:b=a+2) (h:a+2<=s.size):Jc N (s.extract a b)=some (N2 s a):=by
 subst e
 rw [Ysa hN _ (by simp [ByteArray.size_extract];omega),Yiv s a h]
theorem Y8x {N :Nat} (hN:1000<=N) (s:ByteArray) (a b:Nat) (e:b=a+4) (h:a+4<=s.size):Jc N (s.extract a b)=some (N4 s a):=by
 subst e
 rw [Y17m hN _ (by simp [ByteArray.size_extract];omega),Yv6 s a h]
def Y3e (x :Int):Int:=if x=0 then 0 else (x - 1) % 65535+1
theorem Y3j {x :Int} (h0:0<=x) (h1:x< 65536):Y3e x=x:=by unfold Y3e;split <;> omega
theorem Ybo {x :Int} (_h0:0<=x):0<=Y3e x/\Y3e x< 65536:=by unfold Y3e;split <;> omega
theorem Y5j {x :Int} (h:65536<=x):Y3e (x % 65536+x / 65536)=Y3e x:=by
 unfold Y3e
 rw [if_neg (by omega),if_neg (by omega)]
 omega
theorem Y82 (N k :Nat) (x:Int) (h:65536<=x) (h1:x< 9223372036854775808):J27 N (k+1) x=J27 N k (x % 65536+x / 65536):=by
 rw [J27,Y3u,if_pos h,Y7z,Int.tmod_eq_emod_of_nonneg (by omega),Int.tdiv_eq_ediv_of_nonneg (by omega),wu64,wu64]
 congr 1
 omega
theorem Y7h (N k :Nat) (x:Int) (h0:0<=x) (h:x< 65536):J27 N (k+1) x=some x:=by
 rw [J27,Y3u,if_neg (by omega),w64 (by omega) (by omega)]
theorem Yiw (N k :Nat) (x:Int) (h:65536<=x) (h1:x< 9223372036854775808):J28 N (k+1) x=J28 N k (x % 65536+x / 65536):=by
 rw [J28,Y3u,if_pos (by omega),Y7z,Yl4,fd _ (by decide),w64 (by omega) (by omega)]
 rfl
theorem Yex (N k :Nat) (x:Int) (h:x< 65536):J28 N (k+1) x=some x:=by
 rw [J28,Y3u,if_neg (by omega)]
theorem Y13o {N :Nat} (hN:1000<=N) (x:Int) (h0:0<=x) (h1:x< 9223372036854775808):J8e N x=some (Y3e x):=by
 obtain ⟨k,rfl⟩:∃ k,N=k+6:=⟨N - 6,by omega⟩
 unfold J8e
 by_cases c1:x< 65536
 . rw [Y7h _ _ x h0 c1,Y3j h0 c1]
 rw [Y82 _ _ x (by omega) h1,<- Y5j (by omega:65536<=x)]
 have d:x % 65536+x / 65536< 140737488421000/\0<=x % 65536+x / 65536:=by omega
 generalize x % 65536+x / 65536=x at*
 by_cases c1:x< 65536
 . rw [Y7h _ _ x d.2 c1,Y3j d.2 c1]
 rw [Y82 _ _ x (by omega) (by omega),<- Y5j (by omega:65536<=x)]
 have d:x % 65536+x / 65536< 2147600000/\0<=x % 65536+x / 65536:=by omega
 generalize x % 65536+x / 65536=x at*
 by_cases c1:x< 65536
 . rw [Y7h _ _ x d.2 c1,Y3j d.2 c1]
 rw [Y82 _ _ x (by omega) (by omega),<- Y5j (by omega:65536<=x)]
 have d:x % 65536+x / 65536< 131072/\0<=x % 65536+x / 65536:=by omega
 generalize x % 65536+x / 65536=x at*
 by_cases c1:x< 65536
 . rw [Y7h _ _ x d.2 c1,Y3j d.2 c1]
 rw [Y82 _ _ x (by omega) (by omega),<- Y5j (by omega:65536<=x)]
 have d:x % 65536+x / 65536< 65537/\0<=x % 65536+x / 65536:=by omega
 generalize x % 65536+x / 65536=x at*
 by_cases c1:x< 65536
 . rw [Y7h _ _ x d.2 c1,Y3j d.2 c1]
 rw [Y82 _ _ x (by omega) (by omega),<- Y5j (by omega:65536<=x),Y7h _ _ _ (by omega) (by omega),Y3j (by omega) (by omega)]
theorem Ypu {N :Nat} (hN:1000<=N) (x:Int) (h0:0<=x) (h1:x< 20000000):J8f N x=some (Y3e x):=by
 obtain ⟨k,rfl⟩:∃ k,N=k+6:=⟨N - 6,by omega⟩
 unfold J8f
 by_cases c1:x< 65536
 . rw [Yex _ _ x c1,Y3j h0 c1]
 rw [Yiw _ _ x (by omega) (by omega),<- Y5j (by omega:65536<=x)]
 have d:x % 65536+x / 65536< 65842/\0<=x % 65536+x / 65536:=by omega
 generalize x % 65536+x / 65536=x at*
 by_cases c1:x< 65536
 . rw [Yex _ _ x c1,Y3j d.2 c1]
 rw [Yiw _ _ x (by omega) (by omega),<- Y5j (by omega:65536<=x),Yex _ _ _ (by omega),Y3j (by omega) (by omega)]
def Y3g :List Int->Int
 | []=>0
 | [a]=>a*256
 | a :: b :: t=>a*256+b+Y3g t
def Y4x (s :ByteArray):Int:=Y3e (Y3g (Y12 s))
theorem Y7i (s :ByteArray) (i:Nat) (h:i< s.size):(Y12 s).drop i=bt s i :: (Y12 s).drop (i+1):=by
 have hl:i< (Y12 s).length:=by rw [Y4v];exact h
 rw [List.drop_eq_getElem_cons hl]
 congr 1
 rw [bt_get,List.getD_eq_getElem?_getD,List.getElem?_eq_getElem hl]
 rfl
theorem Y8h (s :ByteArray) (i:Nat) (h:s.size<=i):(Y12 s).drop i=[]:=List.drop_eq_nil_of_le (by rw [Y4v];exact h)
theorem Yd3 :∀ (n:Nat) (L:List Int),L.length<=n->(∀ x∈L,0<=x/\x<=255)->0<=Y3g L/\Y3g L<=65535*L.length
 | 0,L,hn,h=>by
   have:L=[]:=List.length_eq_zero_iff.mp (by omega)
   subst this;simp [Y3g]
 | n+1,[],hn,h=>by simp [Y3g]
 | n+1,[a],hn,h=>by
   have:=h a (by simp)
   simp [Y3g];omega
 | n+1,a :: b :: t,hn,h=>by
   have h1:=h a (by simp);have h2:=h b (by simp)
   have ih:=Yd3 n t (by simp at hn;omega) (fun x hx=>h x (by simp [hx]))
   simp only [Y3g,List.length_cons]
   omega
theorem Yl5 (s :ByteArray):0<=Y3g (Y12 s)/\Y3g (Y12 s)<=65535*s.size:=by
 have:=Yd3 _ (Y12 s) (Nat.le_refl _) (Yae s)
 rw [Y4v] at this
 exact this
theorem Y9l (s :ByteArray):0<=Y4x s/\Y4x s< 65536:=Ybo (Yl5 s).1
theorem Yze {N :Nat} (hN:1000<=N) (s:ByteArray) (hs:s.size<=140737488351300):∀ (d k i:Nat) (acc:Int),s.size<=i+d->d+1<=k->i<=s.size+2->0<=acc->acc<=65535*i->
   J48 N k s acc i=some (Y3e (acc+Y3g ((Y12 s).drop i))):=by
 intro d
 induction d using Nat.strongRecOn with
 | _ d ih=>
 intro k i acc hd hk hi h0 h1
 obtain ⟨k,rfl⟩:∃ m,k=m+1:=⟨k - 1,by omega⟩
 have hb0:=Y1w s i
 have hb1:=Y1w s ((i+1:Nat):Int)
 rw [J48]
 unfold J8g
 simp only [Int.reducePow,wu64]
 by_cases c:i< s.size
 . rw [Y3u,if_pos (by omega),if_pos (by omega),w64 (n:=(i:Int)+1) (by omega) (by omega),w64 (n:=(i:Int)+2) (by omega) (by omega),Y7z,Y3u]
   by_cases c2:i+1< s.size
   . rw [if_pos (by omega),if_pos (by omega),show (i:Int)+1=((i+1:Nat):Int) by omega,show (i:Int)+2=((i+2:Nat):Int) by omega,Y7z,Y7z]
     rw [show (((acc+bt s ↑i % 18446744073709551616*256 % 18446744073709551616) % 18446744073709551616+bt s ((i+1:Nat):Int) % 18446744073709551616) % 18446744073709551616)=acc+(bt s i*256+bt s ((i+1:Nat):Int)) by omega]
     rw [ih (d - 2) (by omega) k (i+2) _ (by omega) (by omega) (by omega) (by omega) (by omega),Y7i s i c,Y7i s (i+1) c2,show i+1+1=i+2 from rfl]
     simp only [Y3g]
     congr 2
     omega
   . rw [if_neg (by omega),show (i:Int)+2=((i+2:Nat):Int) by omega]
     rw [show ((acc+bt s ↑i % 18446744073709551616*256 % 18446744073709551616) % 18446744073709551616)=acc+bt s i*256 by omega]
     rw [ih (d - 1) (by omega) k (i+2) _ (by omega) (by omega) (by omega) (by omega) (by omega),Y7i s i c,Y8h s (i+1) (by omega),Y8h s (i+2) (by omega)]
     simp only [Y3g]
     congr 2
     omega
 . rw [Y3u,if_neg (by omega),Y8h s i (by omega)]
   rw [Y13o hN acc h0 (by omega)]
   simp [Y3g]
theorem Yfs {N :Nat} (hN:1000<=N) (s:ByteArray) (hs:s.size+10<=N) (hs2:s.size<=140737488351300):J19 N s=some (Y4x s):=by
 have:=Yze hN s hs2 s.size N 0 0 (by omega) (by omega) (by omega) (by omega) (by omega)
 simpa [J19,Y4x] using this
theorem Yl6 (a b :Int) (h0:0<=a) (h1:0<=b):Y3e (Y3e a+b)=Y3e (a+b):=by
 unfold Y3e
 split
 . rename_i e;subst e;simp
 . rw [if_neg (by omega),if_neg (by omega)];omega
theorem Yzf {N :Nat} (hN:1000<=N) (s:ByteArray) (hs:s.size<=140737488351300):∀ (d k i:Nat) (acc:Int),s.size<=i+d->d+1<=k->i<=s.size+2->0<=acc->acc< 65536->
   J49 N k s acc i=some (Y3e (acc+Y3g ((Y12 s).drop i))):=by
 intro d
 induction d using Nat.strongRecOn with
 | _ d ih=>
 intro k i acc hd hk hi h0 h1
 obtain ⟨k,rfl⟩:∃ m,k=m+1:=⟨k - 1,by omega⟩
 have hb0:=Y1w s i
 have hb1:=Y1w s ((i+1:Nat):Int)
 have hr:=Yd3 _ ((Y12 s).drop (i+2)) (Nat.le_refl _) (fun x hx=>Yae s x (List.mem_of_mem_drop hx))
 rw [J49]
 unfold J8h
 simp only [Int.reducePow]
 by_cases c:i< s.size
 . rw [Y3u,if_pos (by omega),if_pos (by omega),w64 (n:=(i:Int)+1) (by omega) (by omega),w64 (n:=(i:Int)+2) (by omega) (by omega),w64 (n:=bt s i) (by omega) (by omega),w64 (n:=bt s i*256) (by omega) (by omega),Y7z,w64 (n:=acc+bt s i*256) (by omega) (by omega),Y3u]
   by_cases c2:i+1< s.size
   . rw [if_pos (by omega),if_pos (by omega),show (i:Int)+1=((i+1:Nat):Int) by omega,show (i:Int)+2=((i+2:Nat):Int) by omega,w64 (n:=bt s ((i+1:Nat):Int)) (by omega) (by omega),Y7z,Y7z,w64 (by omega) (by omega),Ypu hN _ (by omega) (by omega)]
     simp only [Option.bind_some]
     have hf:=Ybo (x:=acc+bt s i*256+bt s ((i+1:Nat):Int)) (by omega)
     rw [ih (d - 2) (by omega) k (i+2) _ (by omega) (by omega) (by omega) hf.1 hf.2,Yl6 _ _ (by omega) hr.1,Y7i s i c,Y7i s (i+1) c2,show i+1+1=i+2 from rfl]
     simp only [Y3g]
     congr 2
     omega
   . rw [if_neg (by omega),show (i:Int)+2=((i+2:Nat):Int) by omega,Ypu hN _ (by omega) (by omega)]
     simp only [Option.bind_some]
     have hf:=Ybo (x:=acc+bt s i*256) (by omega)
     rw [ih (d - 1) (by omega) k (i+2) _ (by omega) (by omega) (by omega) hf.1 hf.2,Yl6 _ _ (by omega) hr.1,Y7i s i c,Y8h s (i+1) (by omega),Y8h s (i+2) (by omega)]
     simp only [Y3g]
     congr 2
     omega
 . rw [Y3u,if_neg (by omega),Y8h s i (by omega)]
   simp [Y3g,Y3j h0 h1]
theorem Ysb {N :Nat} (hN:1000<=N) (s:ByteArray) (hs:s.size+10<=N) (hs2:s.size<=140737488351300):J13 N s=some (Y4x s):=by
 have:=Yzf hN s hs2 s.size N 0 0 (by omega) (by omega) (by omega) (by omega) (by omega)
 simpa [J13,Y4x] using this
theorem Yix (N :Nat) (a:Int) (n:Nat) (h:n<=62):J7 N a (n:Int)=some (decide (0<=a/\a< 2 ^ n)):=by
 have hp:(0:Int)< 2 ^ n:=Int.pow_pos (by decide)
 unfold J7 J8i
 rw [Y3u,if_pos (by omega:0<=(n:Int)),Int.toNat_natCast,Nat.min_eq_left (by omega),fd _ (by omega)]
 by_cases h0:a>=0
 . rw [if_pos h0]
   congr 1
   rw [Bool.eq_iff_iff]
   simp only [beq_iff_eq,decide_eq_true_eq]
   constructor
   . intro h;exact ⟨h0,by have:=Int.lt_ediv_add_one_mul_self a hp;rw [h] at this;omega⟩
   . intro h;exact Int.ediv_eq_zero_of_lt h.1 h.2
 . rw [if_neg h0];congr 1;symm;simp;omega
theorem Ygv (N :Nat) (a:Int):J7 N a 32=some (decide (0<=a/\a< 4294967296)):=Yix N a 32 (by decide)
theorem in16 (N :Nat) (a:Int):J7 N a 16=some (decide (0<=a/\a< 65536)):=Yix N a 16 (by decide)
theorem in8 (N :Nat) (a:Int):J7 N a 8=some (decide (0<=a/\a< 256)):=Yix N a 8 (by decide)
theorem in6 (N :Nat) (a:Int):J7 N a 6=some (decide (0<=a/\a< 64)):=Yix N a 6 (by decide)
theorem Yb8 (N :Nat) (a:Int) (n:Nat) (h:n<=62):Jb N a (n:Int)=some (decide (0<=a/\a< 2 ^ n)):=by
 have hp:(0:Int)< 2 ^ n:=Int.pow_pos (by decide)
 have hq:(2:Nat) ^ n<=2 ^ 62:=Nat.pow_le_pow_right (by decide) h
 have hq:(2:Int) ^ n<=2 ^ 62:=by exact_mod_cast hq
 unfold Jb J8j
 rw [Y3u,if_pos (by omega:0<=(n:Int)),Int.toNat_natCast,Nat.min_eq_left (by omega),Y7z,w64 (by omega) (by omega)]
 by_cases h0:a>=0
 . rw [if_pos h0,Option.some.injEq,Bool.eq_iff_iff]
   simp only [decide_eq_true_eq]
   omega
 . rw [if_neg h0];congr 1;symm;simp;omega
theorem Yaf (N :Nat) (a:Int):Jb N a 32=some (decide (0<=a/\a< 4294967296)):=Yb8 N a 32 (by decide)
theorem Ygw (N :Nat) (a:Int):Jb N a 16=some (decide (0<=a/\a< 65536)):=Yb8 N a 16 (by decide)
theorem Y17n (N :Nat) (a:Int):Jb N a 8=some (decide (0<=a/\a< 256)):=Yb8 N a 8 (by decide)
theorem Y17o (N :Nat) (a:Int):Jb N a 6=some (decide (0<=a/\a< 64)):=Yb8 N a 6 (by decide)
end Go.Proofs.YtpdcnikdoikldaaGreatDoor.Pu
namespace Go.Proofs.YtpdcnikdoikldaaGreatDoor.Pu
open Go Go.RowKit Go.Proofs.YtpdcnikdoikldaaGreatDoor.Sv Go.Proofs.YtpdcnikdoikldaaGreatDoor.Lf
attribute [local irreducible] J9 J8 Jc Jm J19 J13
theorem Ypv (p q :Bool):(bif p then some q else some false)=some (p&&q):=by cases p <;> rfl
def Y7a (p :GIp):Bool:=
 decide (0<=p.Src/\p.Src< 4294967296)&&(decide (0<=p.Dst/\p.Dst< 4294967296)&&(decide (0<=p.Proto/\p.Proto< 256)&&(decide (0<=p.Ttl/\p.Ttl< 256)&&(decide (0<=p.Id/\p.Id< 65536)&&decide ((p.Body.size:Int)<=492)))))
theorem Y9m {p :GIp} (h:Y7a p=true):
   (0<=p.Src/\p.Src< 4294967296)/\(0<=p.Dst/\p.Dst< 4294967296)/\(0<=p.Proto/\p.Proto< 256)/\(0<=p.Ttl/\p.Ttl< 256)/\(0<=p.Id/\p.Id< 65536)/\p.Body.size<=492:=by
 simp [Y7a] at h;omega
theorem Ypw (p :GIp):Y7a p=true↔(0<=p.Src/\p.Src< 4294967296)/\(0<=p.Dst/\p.Dst< 4294967296)/\(0<=p.Proto/\p.Proto< 256)/\(0<=p.Ttl/\p.Ttl< 256)/\(0<=p.Id/\p.Id< 65536)/\p.Body.size<=492:=by
 constructor
 . exact Y9m
 . intro h;simp [Y7a];omega
theorem Y1e1 (N :Nat) (p:GIp):J8k N p=some (Y7a p):=by
 unfold J8k Y7a J29
 simp only [Ygv,in8,in16,Option.bind_some,Ypv]
theorem Y13q (N :Nat) (p:GIp):J8l N p=some (Y7a p):=by
 unfold J8l Y7a J2a
 simp only [Yaf,Y17n,Ygw,Option.bind_some,Ypv]
def Y3v (p :GIp) (chk:Int):ByteArray:=
 B1 69++B1 0++B2 (20+(p.Body.size:Int))++B2 p.Id++B1 64++B1 0++B1 p.Ttl++B1 p.Proto++B2 chk++B4 p.Src++B4 p.Dst
theorem Y4d (p :GIp) (chk:Int):(Y3v p chk).size=20:=by
 simp [Y3v,ByteArray.size_append,Y10,Y11,Y18]
theorem Y17p {N :Nat} (hN:1000<=N) (p:GIp) (hb:p.Body.size<=1000) (chk:Int):J5q N p chk=some (Y3v p chk):=by
 unfold J5q Y3v
 repeat (with_reducible first | refine stB rfl ?_ | refine Y15 ?_ | (refine Yb ?_ ?_;· first | omega | (simp only [ByteArray.size_append,ByteArray.size_extract,Y10,Y11,Y18];omega)) | (refine Yj ?_ ?_;· omega) | (refine Yt ?_ ?_;· omega) | (refine Yr ?_ ?_;· omega) | (refine Yo ?_ ?_;· omega) | (refine Y1p ?_ ?_;· omega) | (refine Y25 ?_ ?_;· omega) | refine Ym ?_ | refine Yk ?_ | refine Yi ?_ | refine Y1k ?_ | refine stB (Yew hN _) ?_ | refine stB (Yiu hN _) ?_ | refine stB (Yzc hN _) ?_)
 rw [w64 (by omega) (by omega)]
def Y56 (p :GIp):Int:=65535 - Y4x (Y3v p 0)
def Y46 (p :GIp):ByteArray:=Y3v p (Y56 p)++p.Body
theorem Yb9 (p :GIp):(Y46 p).size=20+p.Body.size:=by
 simp [Y46,ByteArray.size_append,Y4d]
theorem Yv7 (p :GIp):0<=Y56 p/\Y56 p< 65536:=by
 have:=Y9l (Y3v p 0)
 unfold Y56;omega
theorem Y1e2 {N :Nat} (hN:1000<=N) (p:GIp):J8m N p=some (if Y7a p then (Y46 p,0) else (ByteArray.empty,200)):=by
 unfold J8m
 rw [Y1e1,Option.bind_some,Yv4]
 by_cases h:Y7a p=true
 . obtain ⟨_,_,_,_,_,hb⟩:=Y9m h
   have hs:=Y9l (Y3v p 0)
   have z:=Y4d p 0;have z1:=Y4d p (IntKind.i64.wrap (65535 - Y4x (Y3v p 0)))
   rw [h,if_pos rfl,cond_true]
   repeat (with_reducible first | refine stB rfl ?_ | refine Y15 ?_ | (refine Yb ?_ ?_;· first | omega | (simp only [ByteArray.size_append,ByteArray.size_extract,Y10,Y11,Y18];omega)) | (refine Yj ?_ ?_;· omega) | (refine Yt ?_ ?_;· omega) | (refine Yr ?_ ?_;· omega) | (refine Yo ?_ ?_;· omega) | (refine Y1p ?_ ?_;· omega) | (refine Y25 ?_ ?_;· omega) | refine Ym ?_ | refine Yk ?_ | refine Yi ?_ | refine Y1k ?_ | refine stB (Y17p hN p (by omega) _) ?_ | refine stB (Yfs hN (Y3v p 0) (by omega) (by omega)) ?_)
   rw [w64 (by omega) (by omega)]
   rfl
 . rw [Bool.not_eq_true] at h
   rw [h];rfl
theorem Y13r :(⟨#[69,0]⟩:ByteArray)=B1 69++B1 0:=by decide +kernel
theorem Y13s :(⟨#[64,0]⟩:ByteArray)=B1 64++B1 0:=by decide +kernel
theorem Ysc :(⟨#[0,0]⟩:ByteArray)=B2 0:=by decide +kernel
theorem Y13t {N :Nat} (hN:1000<=N) (p:GIp):J8n N p=some (if Y7a p then (Y46 p,0) else (ByteArray.empty,200)):=by
 unfold J8n
 rw [Y13q,Option.bind_some,Yv4]
 by_cases h:Y7a p=true
 . obtain ⟨_,_,_,_,_,hb⟩:=Y9m h
   have hs:=Y9l (Y3v p 0)
   rw [h,if_pos rfl,cond_true,Y13r,Y13s,Ysc]
   have e:B1 69++B1 0++B2 (20+(p.Body.size:Int))++B2 p.Id++(B1 64++B1 0)++B1 p.Ttl++B1 p.Proto++B2 0++(B4 p.Src++B4 p.Dst)=Y3v p 0:=by
     simp only [Y3v,ByteArray.append_assoc]
   have s1:J13 N (Y3v p 0)=some (Y4x (Y3v p 0)):=Ysb hN _ (by rw [Y4d];omega) (by rw [Y4d];omega)
   repeat (with_reducible first | refine stB rfl ?_ | refine Y15 ?_ | (refine Yb ?_ ?_;· first | omega | (simp only [ByteArray.size_append,ByteArray.size_extract,Y10,Y11,Y18];omega)) | (refine Yj ?_ ?_;· omega) | (refine Yt ?_ ?_;· omega) | (refine Yr ?_ ?_;· omega) | (refine Yo ?_ ?_;· omega) | (refine Y1p ?_ ?_;· omega) | (refine Y25 ?_ ?_;· omega) | refine Ym ?_ | refine Yk ?_ | refine Yi ?_ | refine Y1k ?_ | refine stB (Yv5 hN _) ?_ | refine stB (Yps hN _) ?_ | refine stB (Ypt hN _) ?_ | refine stB ((congrArg (J13 N) (by rw [w64 (by omega) (by omega),e])).trans s1) ?_)
   rw [w64 (by omega) (by omega),w64 (by omega) (by omega)]
   simp only [Y46,Y3v,ByteArray.append_assoc,Y56]
 . rw [Bool.not_eq_true] at h
   rw [h];rfl
abbrev IpR:=GIp× Int× Int
def Yey :IpR:=(⟨0,0,0,0,0,ByteArray.empty⟩,1,200)
def Y1b (s :ByteArray):IpR:=
 if s.size< 20\/512< s.size then Yey
 else if bt s 0 / 16≠4\/bt s 0 % 16< 5\/(s.size:Int)< 4*(bt s 0 % 16) then Yey
 else if N2 s 2≠s.size then Yey
 else if Y4x (s.extract 0 (4*(bt s 0 % 16)).toNat)≠65535 then Yey
 else if 5< bt s 0 % 16 then (⟨0,0,0,0,0,ByteArray.empty⟩,3,0)
 else if Y2f .i64 (N2 s 6) 49151≠0 then (⟨0,0,0,0,0,ByteArray.empty⟩,2,0)
 else (⟨N4 s 12,N4 s 16,bt s 9,bt s 8,N2 s 4,s.extract 20 s.size⟩,0,0)
theorem Yl7 (x :Int) (h0:0<=x) (h1:x< 65536):Yru .i64 x 16384=Y2f .i64 x 49151:=by
 obtain ⟨n,rfl⟩:=Int.eq_ofNat_of_zero_le h0
 show IntKind.i64.wrap ((BitVec.ofInt 64 (n:Int) &&& ~~~ (BitVec.ofInt 64 16384)).toNat:Int)=IntKind.i64.wrap ((BitVec.ofInt 64 (n:Int) &&& BitVec.ofInt 64 49151).toNat:Int)
 congr 2
 have e:BitVec.ofInt 64 (n:Int) &&& ~~~ (BitVec.ofInt 64 16384)=BitVec.ofInt 64 (n:Int) &&& BitVec.ofInt 64 49151:=by
   apply BitVec.eq_of_getLsbD_eq
   intro i hi
   simp only [BitVec.getLsbD_and,BitVec.getLsbD_not]
   by_cases c:i< 16
   . have:(decide (i< 64)&& !(BitVec.ofInt 64 16384).getLsbD i)=(BitVec.ofInt 64 49151).getLsbD i:=by
       have key:∀ j:Fin 16,(decide (j.val< 64)&& !(BitVec.ofInt 64 16384).getLsbD j.val)=(BitVec.ofInt 64 49151).getLsbD j.val:=by decide
       exact key ⟨i,c⟩
     rw [this]
   . have z:(BitVec.ofInt 64 (n:Int)).getLsbD i=false:=by
       rw [BitVec.ofInt_natCast,BitVec.getLsbD_ofNat]
       have:n.testBit i=false:=Nat.testBit_lt_two_pow (Nat.lt_of_lt_of_le (show n< 2 ^ 16 by omega) (Nat.pow_le_pow_right (by decide) (by omega)))
       simp [this]
     rw [z];simp
 rw [e]
theorem Y13u {N :Nat} (hN:1000<=N) (s:ByteArray):J8o N s=
   some (if s.size< 20\/512< s.size then (0,false) else if bt s 0 / 16≠4\/bt s 0 % 16< 5\/(s.size:Int)< 4*(bt s 0 % 16) then (0,false)
     else (bt s 0 % 16,decide (N2 s 2=s.size)&&decide (Y4x (s.extract 0 (4*(bt s 0 % 16)).toNat)=65535))):=by
 have hb:=Y1w s 0
 have hf:(bt s 0).fdiv (2 ^ 4)=bt s 0 / 16:=fd _ (by decide)
 have hl:Y2f .u8 (bt s 0) 15=bt s 0 % 16:=low4 _ hb.1 (by omega)
 have w1:IntKind.i64.wrap (bt s 0 % 16)=bt s 0 % 16:=w64 (by omega) (by omega)
 have w2:IntKind.i64.wrap (4*(bt s 0 % 16))=4*(bt s 0 % 16):=w64 (by omega) (by omega)
 unfold J8o J8p J5r J8q
 simp only [hf,hl,w1,w2]
 by_cases c:s.size< 20
 . rw [if_pos (show s.size< 20\/512< s.size from .inl c)]
   repeat (with_reducible first | refine stB rfl ?_ | refine Y15 ?_ | (refine Yb ?_ ?_;· first | omega | (simp only [ByteArray.size_append,ByteArray.size_extract,Y10,Y11,Y18];omega)) | (refine Yj ?_ ?_;· omega) | (refine Yt ?_ ?_;· omega) | (refine Yr ?_ ?_;· omega) | (refine Yo ?_ ?_;· omega) | (refine Y1p ?_ ?_;· omega) | (refine Y25 ?_ ?_;· omega) | refine Ym ?_ | refine Yk ?_ | refine Yi ?_ | refine Y1k ?_)
   rfl
 by_cases c1:512< s.size
 . rw [if_pos (show s.size< 20\/512< s.size from .inr c1),decide_eq_true (show ((s.size:Int) > 512) by omega)]
   repeat (with_reducible first | refine stB rfl ?_ | refine Y15 ?_ | (refine Yb ?_ ?_;· first | omega | (simp only [ByteArray.size_append,ByteArray.size_extract,Y10,Y11,Y18];omega)) | (refine Yj ?_ ?_;· omega) | (refine Yt ?_ ?_;· omega) | (refine Yr ?_ ?_;· omega) | (refine Yo ?_ ?_;· omega) | (refine Y1p ?_ ?_;· omega) | (refine Y25 ?_ ?_;· omega) | refine Ym ?_ | refine Yk ?_ | refine Yi ?_ | refine Y1k ?_)
   rfl
 rw [if_neg (show ¬ (s.size< 20\/512< s.size) by omega),decide_eq_false (show ¬ ((s.size:Int) > 512) by omega)]
 by_cases c2:bt s 0 / 16=4
 . by_cases c3:bt s 0 % 16< 5
   . rw [if_pos (show bt s 0 / 16≠4\/bt s 0 % 16< 5\/(s.size:Int)< 4*(bt s 0 % 16) from .inr (.inl c3))]
     repeat (with_reducible first | refine stB rfl ?_ | refine Y15 ?_ | (refine Yb ?_ ?_;· first | omega | (simp only [ByteArray.size_append,ByteArray.size_extract,Y10,Y11,Y18];omega)) | (refine Yj ?_ ?_;· omega) | (refine Yt ?_ ?_;· omega) | (refine Yr ?_ ?_;· omega) | (refine Yo ?_ ?_;· omega) | (refine Y1p ?_ ?_;· omega) | (refine Y25 ?_ ?_;· omega) | refine Ym ?_ | refine Yk ?_ | refine Yi ?_ | refine Y1k ?_)
     rfl
   . by_cases c4:(s.size:Int)< 4*(bt s 0 % 16)
     . rw [if_pos (show bt s 0 / 16≠4\/bt s 0 % 16< 5\/(s.size:Int)< 4*(bt s 0 % 16) from .inr (.inr c4))]
       repeat (with_reducible first | refine stB rfl ?_ | refine Y15 ?_ | (refine Yb ?_ ?_;· first | omega | (simp only [ByteArray.size_append,ByteArray.size_extract,Y10,Y11,Y18];omega)) | (refine Yj ?_ ?_;· omega) | (refine Yt ?_ ?_;· omega) | (refine Yr ?_ ?_;· omega) | (refine Yo ?_ ?_;· omega) | (refine Y1p ?_ ?_;· omega) | (refine Y25 ?_ ?_;· omega) | refine Ym ?_ | refine Yk ?_ | refine Yi ?_ | refine Y1k ?_)
       rfl
     . have z1:(s.extract 0 (4*(bt s 0 % 16)).toNat).size<=512:=by simp [ByteArray.size_extract];omega
       rw [if_neg (show ¬ (bt s 0 / 16≠4\/bt s 0 % 16< 5\/(s.size:Int)< 4*(bt s 0 % 16)) by omega)]
       by_cases c5:N2 s 2=s.size
       . repeat (with_reducible first | refine stB rfl ?_ | refine Y15 ?_ | (refine Yb ?_ ?_;· first | omega | (simp only [ByteArray.size_append,ByteArray.size_extract,Y10,Y11,Y18];omega)) | (refine Yj ?_ ?_;· omega) | (refine Yt ?_ ?_;· omega) | (refine Yr ?_ ?_;· omega) | (refine Yo ?_ ?_;· omega) | (refine Y1p ?_ ?_;· omega) | (refine Y25 ?_ ?_;· omega) | refine Ym ?_ | refine Yk ?_ | refine Yi ?_ | refine Y1k ?_ | refine stB (Y6b hN s 2 4 rfl (by omega)) ?_ | refine stB (Yfs hN (s.extract 0 (4*(bt s 0 % 16)).toNat) (by omega) (by omega)) ?_)
         rw [decide_eq_true c5,Bool.true_and]
         rfl
       . repeat (with_reducible first | refine stB rfl ?_ | refine Y15 ?_ | (refine Yb ?_ ?_;· first | omega | (simp only [ByteArray.size_append,ByteArray.size_extract,Y10,Y11,Y18];omega)) | (refine Yj ?_ ?_;· omega) | (refine Yt ?_ ?_;· omega) | (refine Yr ?_ ?_;· omega) | (refine Yo ?_ ?_;· omega) | (refine Y1p ?_ ?_;· omega) | (refine Y25 ?_ ?_;· omega) | refine Ym ?_ | refine Yk ?_ | refine Yi ?_ | refine Y1k ?_ | refine stB (Y6b hN s 2 4 rfl (by omega)) ?_)
         rw [decide_eq_false c5,Bool.false_and]
 . rw [if_pos (show bt s 0 / 16≠4\/bt s 0 % 16< 5\/(s.size:Int)< 4*(bt s 0 % 16) from .inl c2)]
   repeat (with_reducible first | refine stB rfl ?_ | refine Y15 ?_ | (refine Yb ?_ ?_;· first | omega | (simp only [ByteArray.size_append,ByteArray.size_extract,Y10,Y11,Y18];omega)) | (refine Yj ?_ ?_;· omega) | (refine Yt ?_ ?_;· omega) | (refine Yr ?_ ?_;· omega) | (refine Yo ?_ ?_;· omega) | (refine Y1p ?_ ?_;· omega) | (refine Y25 ?_ ?_;· omega) | refine Ym ?_ | refine Yk ?_ | refine Yi ?_ | refine Y1k ?_)
   rfl
theorem Yzg {N :Nat} (hN:1000<=N) (s:ByteArray):J5s N s=some (Y1b s):=by
 have hb:=Y1w s 0
 have hn:=Y13n s 6
 unfold J5s Y1b
 rw [Y13u hN s,Option.bind_some]
 by_cases c:s.size< 20\/512< s.size
 . rw [if_pos c,if_pos c];rfl
 rw [if_neg c,if_neg c]
 by_cases c1:bt s 0 / 16≠4\/bt s 0 % 16< 5\/(s.size:Int)< 4*(bt s 0 % 16)
 . rw [if_pos c1,if_pos c1];rfl
 rw [if_neg c1,if_neg c1]
 by_cases c2:N2 s 2=s.size
 . by_cases c3:Y4x (s.extract 0 (4*(bt s 0 % 16)).toNat)=65535
   . have h8:=Y1w s 8;have h9:=Y1w s 9
     rw [if_neg (show ¬ (N2 s 2≠s.size) by omega),if_neg (show ¬ (Y4x (s.extract 0 (4*(bt s 0 % 16)).toNat)≠65535) by omega),decide_eq_true c2,decide_eq_true c3]
     simp only [Bool.and_self]
     by_cases c4:5< bt s 0 % 16
     . rw [if_pos c4]
       repeat (with_reducible first | refine stB rfl ?_ | refine Y15 ?_ | (refine Yb ?_ ?_;· first | omega | (simp only [ByteArray.size_append,ByteArray.size_extract,Y10,Y11,Y18];omega)) | (refine Yj ?_ ?_;· omega) | (refine Yt ?_ ?_;· omega) | (refine Yr ?_ ?_;· omega) | (refine Yo ?_ ?_;· omega) | (refine Y1p ?_ ?_;· omega) | (refine Y25 ?_ ?_;· omega) | refine Ym ?_ | refine Yk ?_ | refine Yi ?_ | refine Y1k ?_)
       rfl
     . rw [if_neg c4]
       by_cases c5:Y2f .i64 (N2 s 6) 49151=0
       . rw [if_neg (show ¬ (Y2f .i64 (N2 s 6) 49151≠0) by omega)]
         rw [<- Yl7 _ hn.1 hn.2] at c5
         repeat (with_reducible first | refine stB rfl ?_ | refine Y15 ?_ | (refine Yb ?_ ?_;· first | omega | (simp only [ByteArray.size_append,ByteArray.size_extract,Y10,Y11,Y18];omega)) | (refine Yj ?_ ?_;· omega) | (refine Yt ?_ ?_;· omega) | (refine Yr ?_ ?_;· omega) | (refine Yo ?_ ?_;· omega) | (refine Y1p ?_ ?_;· omega) | (refine Y25 ?_ ?_;· omega) | refine Ym ?_ | refine Yk ?_ | refine Yi ?_ | refine Y1k ?_ | refine stB (Y6b hN s 6 8 rfl (by omega)) ?_ | refine stB (Y8x hN s 12 16 rfl (by omega)) ?_ | refine stB (Y8x hN s 16 20 rfl (by omega)) ?_ | refine stB (Y6b hN s 4 6 rfl (by omega)) ?_)
         rw [w64 (by omega) (by omega),w64 (by omega) (by omega)]
       . rw [if_pos (show Y2f .i64 (N2 s 6) 49151≠0 from c5)]
         rw [<- Yl7 _ hn.1 hn.2] at c5
         repeat (with_reducible first | refine stB rfl ?_ | refine Y15 ?_ | (refine Yb ?_ ?_;· first | omega | (simp only [ByteArray.size_append,ByteArray.size_extract,Y10,Y11,Y18];omega)) | (refine Yj ?_ ?_;· omega) | (refine Yt ?_ ?_;· omega) | (refine Yr ?_ ?_;· omega) | (refine Yo ?_ ?_;· omega) | (refine Y1p ?_ ?_;· omega) | (refine Y25 ?_ ?_;· omega) | refine Ym ?_ | refine Yk ?_ | refine Yi ?_ | refine Y1k ?_ | refine stB (Y6b hN s 6 8 rfl (by omega)) ?_)
         rfl
   . rw [if_neg (show ¬ (N2 s 2≠s.size) by omega),if_pos (show Y4x (s.extract 0 (4*(bt s 0 % 16)).toNat)≠65535 from c3),decide_eq_false c3,Bool.and_false]
     repeat (with_reducible first | refine stB rfl ?_ | refine Y15 ?_ | (refine Yb ?_ ?_;· first | omega | (simp only [ByteArray.size_append,ByteArray.size_extract,Y10,Y11,Y18];omega)) | (refine Yj ?_ ?_;· omega) | (refine Yt ?_ ?_;· omega) | (refine Yr ?_ ?_;· omega) | (refine Yo ?_ ?_;· omega) | (refine Y1p ?_ ?_;· omega) | (refine Y25 ?_ ?_;· omega) | refine Ym ?_ | refine Yk ?_ | refine Yi ?_ | refine Y1k ?_)
     rfl
 . rw [if_pos (show N2 s 2≠s.size from c2),decide_eq_false c2,Bool.false_and]
   repeat (with_reducible first | refine stB rfl ?_ | refine Y15 ?_ | (refine Yb ?_ ?_;· first | omega | (simp only [ByteArray.size_append,ByteArray.size_extract,Y10,Y11,Y18];omega)) | (refine Yj ?_ ?_;· omega) | (refine Yt ?_ ?_;· omega) | (refine Yr ?_ ?_;· omega) | (refine Yo ?_ ?_;· omega) | (refine Y1p ?_ ?_;· omega) | (refine Y25 ?_ ?_;· omega) | refine Ym ?_ | refine Yk ?_ | refine Yi ?_ | refine Y1k ?_)
   rfl
end Go.Proofs.YtpdcnikdoikldaaGreatDoor.Pu
