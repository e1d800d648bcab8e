import Derived.Laws.BitsLemmas
import Derived.Test.YtpdcnikdoikldaaGreatDoorAll
set_option linter.unusedVariables false
set_option linter.unusedSimpArgs false
namespace Go.Proofs.YtpdcnikdoikldaaGreatDoor.Pu
open Go Go.RowKit Go.Proofs.YtpdcnikdoikldaaGreatDoor.Sv Go.Proofs.YtpdcnikdoikldaaGreatDoor.Lf
theorem i64w (n :Int):IntKind.i64.wrap n=(n+9223372036854775808) % 18446744073709551616 - 9223372036854775808:=by rw [IntKind.wrap_i64]
theorem w64 {n :Int} (h0: -9223372036854775808<=n) (h1:n<=9223372036854775807):IntKind.i64.wrap n=n:=by rw [i64w];omega
theorem wu64 (n :Int):IntKind.u64.wrap n=n % 18446744073709551616:=by simp [IntKind.wrap,IntKind.bits,IntKind.signed]
theorem wu8 (n :Int):IntKind.u8.wrap n=n % 256:=by simp [IntKind.wrap,IntKind.bits,IntKind.signed]
theorem Y6v {U :Type} (p:Prop) [Decidable p] (a b:U):(bif decide p then a else b)=if p then a else b:=by
 by_cases h:p <;> simp [h]
theorem cnot {U :Type} (p:Bool) (a b:U):(bif !p then a else b)=bif p then b else a:=by cases p <;> rfl
theorem Yxn {U :Type} (p:Bool) (a b:U):(bif !p then a else b)=bif p then b else a:=by cases p <;> rfl
theorem ceq {U :Type} (x y:Int) (a b:U):(bif x==y then a else b)=if x=y then a else b:=by
 by_cases h:x=y
 . rw [if_pos h,beq_iff_eq.2 h];rfl
 . rw [if_neg h,beq_eq_false_iff_ne.2 h];rfl
theorem cne {U :Type} (x y:Int) (a b:U):(bif x != y then a else b)=if x=y then b else a:=by
 unfold bne
 rw [Yxn,ceq]
theorem Ye2 {U Qb :Type} (a:U) (f:U->Option Qb):via a f=f a:=rfl
section
variable {U Qb : Type} {r : Option U}
theorem Y1a {Qg :Type} {a:Qg} {f:Qg->Option U} (k:f a=r):via a f=r:=k
theorem Yd {p :Prop} [Decidable p] {a b:Option U} (h:p) (k:a=r):(if p then a else b)=r:=by rw [if_pos h,k]
theorem stB {a :Option Qb} {x:Qb} {f:Qb->Option U} (h:a=some x) (k:f x=r):a.bind f=r:=by rw [h,Option.bind_some,k]
theorem Ym {p :Prop} [Decidable p] {a b:Option U} (h:p) (k:a=r):(bif decide p then a else b)=r:=by rw [Y6v,if_pos h,k]
theorem Yu {p :Prop} [Decidable p] {a b:Option U} (h:¬p) (k:b=r):(bif decide p then a else b)=r:=by rw [Y6v,if_neg h,k]
theorem Ys {x y :Int} {a b:Option U} (h:x=y) (k:a=r):(bif x==y then a else b)=r:=by rw [ceq,if_pos h,k]
theorem Yo {x y :Int} {a b:Option U} (h:¬x=y) (k:b=r):(bif x==y then a else b)=r:=by rw [ceq,if_neg h,k]
theorem Y1z {x y :Int} {a b:Option U} (h:x=y) (k:b=r):(bif x != y then a else b)=r:=by rw [cne,if_pos h,k]
theorem Y2h {x y :Int} {a b:Option U} (h:¬x=y) (k:a=r):(bif x != y then a else b)=r:=by rw [cne,if_neg h,k]
theorem Yq {a b :Option U} (k:a=r):(bif true then a else b)=r:=k
theorem Yn {a b :Option U} (k:b=r):(bif false then a else b)=r:=k
theorem Yj {a b :Option U} (k:b=r):(bif !true then a else b)=r:=k
theorem Y1u {a b :Option U} (k:a=r):(bif !false then a else b)=r:=k
end
theorem fd (x :Int) {k:Int} (h:0<=k):x.fdiv k=x / k:=Int.fdiv_eq_ediv_of_nonneg x h
theorem Ycb {a b :ByteArray} (h:a.data.toList=b.data.toList):a=b:=by
 cases a;cases b;congr;exact Array.toList_inj.1 h
theorem Yi4 (a b :ByteArray):a.toList=b.toList↔a=b:=by
 rw [ByteArray.toList_eq,ByteArray.toList_eq]
 exact ⟨fun h=>Ycb h,fun h=>by rw [h]⟩
theorem Y92 (a b :ByteArray):(a.toList==b.toList)=decide (a=b):=by
 rw [Bool.eq_iff_iff,beq_iff_eq,Yi4,decide_eq_true_iff]
theorem Y11r :((List.range 256).all fun n=>Y2i .u8 (n:Int) 15==(n:Int) % 16)=true:=by decide +kernel
theorem low4 (x :Int) (h0:0<=x) (h1:x< 256):Y2i .u8 x 15=x % 16:=by
 obtain ⟨n,rfl⟩:=Int.eq_ofNat_of_zero_le h0
 have:=List.all_eq_true.1 Y11r n (List.mem_range.2 (by omega))
 simpa using this
theorem Y15i (x b :Int) (h0:0<=x) (h1:x< 9007199254740992) (b0:0<=b) (b1:b<=255):bOr .i64 (x*256) b=x*256+b:=
 bits_join .i64 62 (by decide) (fun n h0 h1=>by rw [w64 (by omega) (by omega)]) 8 _ _ (by omega) (by omega) (by omega) (by omega) (by omega) (by omega)
theorem Y21 (s :ByteArray) (i:Int):0<=bt s i/\bt s i<=255:=by
 unfold bt
 have:=(s.data.toList.getD i.toNat 0).toNat_lt
 omega
theorem Y9s (L :List Int):(mkS L).size=L.length:=by simp [mkS,ByteArray.size]
theorem Ye3 (s :ByteArray):∀ x∈Y18 s,0<=x/\x<=255:=by
 intro x hx
 simp only [Y18,List.mem_map] at hx
 obtain ⟨b,_,rfl⟩:=hx
 have:=b.toNat_lt
 omega
theorem bt_get (s :ByteArray) (i:Nat):bt s i=(Y18 s).getD i 0:=by
 unfold bt Y18
 rw [Int.toNat_natCast]
 rw [List.getD_eq_getElem?_getD,List.getD_eq_getElem?_getD,List.getElem?_map]
 cases s.data.toList[i]? <;> rfl
theorem Ytn {t :ByteArray} {L:List Int} (h:Y18 t=L) (i:Nat):bt t i=L.getD i 0:=by rw [bt_get,h]
theorem Ycc {a b :ByteArray} (h:Y18 a=Y18 b):a=b:=by
 apply Ycb
 unfold Y18 at h
 have hl:a.data.toList.length=b.data.toList.length:=by simpa using congrArg List.length h
 refine List.ext_getElem hl fun i h1 h2=> ?_
 have:=congrArg (fun l=>l[i]?) h
 simp only [List.getElem?_map,List.getElem?_eq_getElem h1,List.getElem?_eq_getElem h2,Option.map_some,Option.some.injEq] at this
 exact UInt8.toNat_inj.1 (by omega)
theorem Y8t (a b :ByteArray):Y18 (a++b)=Y18 a++Y18 b:=by
 unfold Y18
 rw [<- List.map_append]
 congr 1
theorem Yi5 (L :List Int) (h:∀ x∈L,0<=x/\x<=255):Y18 (mkS L)=L:=by
 unfold Y18 mkS
 simp only [List.map_map]
 refine List.ext_getElem (by simp) fun i h1 h2=> ?_
 simp only [List.getElem_map,Function.comp]
 have:=h L[i] (List.getElem_mem _)
 simp only [UInt8.toNat_ofNat']
 omega
theorem Y8g (s :ByteArray) (a b:Nat):Y18 (s.extract a b)=((Y18 s).drop a).take (b - a):=by
 unfold Y18
 rw [ByteArray.data_extract,Array.toList_extract,List.extract_eq_take_drop,List.map_take,List.map_drop]
theorem Y1db (s :ByteArray) (a b:Nat) (h:a+b<=s.size):(s.extract a s.size).extract b (s.extract a s.size).size=s.extract (a+b) s.size:=by
 apply Ycc
 have hl:=Y4m s
 rw [Y8g,Y8g,Y8g,ByteArray.size_extract,Nat.min_self,List.take_of_length_le (i:=s.size - a) (by rw [List.length_drop,hl];exact Nat.le_refl _),List.drop_drop,Nat.sub_sub]
def B1 (x :Int):ByteArray:=mkS [x % 256]
def B2 (x :Int):ByteArray:=mkS [x / 256 % 256,x % 256]
def B4 (x :Int):ByteArray:=mkS [x / 16777216 % 256,x / 65536 % 256,x / 256 % 256,x % 256]
theorem Y15 (x :Int):(B1 x).size=1:=Y9s _
theorem Y19 (x :Int):(B2 x).size=2:=Y9s _
theorem Y1m (x :Int):(B4 x).size=4:=Y9s _
theorem Y84 (N k :Nat) (x i:Int) (L:List Int) (h0:0<=i) (h1:i< (L.length:Int)) (hi:i<=100):J21 N (k+1) x L i=J21 N k (x / 256) (L.set i.toNat (x % 256)) (i - 1):=by
 rw [J21,Y6v,if_pos h0,if_pos ⟨h0,h1⟩,w64 (by omega) (by omega),fd _ (by decide),wu8]
 rfl
theorem Yow (N k :Nat) (x i:Int) (L:List Int) (h:i< 0):J21 N (k+1) x L i=some (mkS L):=by
 rw [J21,Y6v,if_neg (by omega)]
theorem Ye4 {N :Nat} (hN:1000<=N) (x:Int):J7 N x 1=some (B1 x):=by
 obtain ⟨k,rfl⟩:∃ k,N=k+5:=⟨N - 5,by omega⟩
 rw [J7,if_pos (by decide),w64 (by decide) (by decide),Y84 _ _ x _ _ (by decide) (by decide) (by decide),Yow _ _ _ _ _ (by decide)]
 rfl
theorem Yi6 {N :Nat} (hN:1000<=N) (x:Int):J7 N x 2=some (B2 x):=by
 obtain ⟨k,rfl⟩:∃ k,N=k+5:=⟨N - 5,by omega⟩
 rw [J7,if_pos (by decide),w64 (by decide) (by decide),Y84 _ _ x _ _ (by decide) (by decide) (by decide),Y84 _ _ _ _ _ (by decide) (by simp) (by decide),Yow _ _ _ _ _ (by decide)]
 rfl
theorem Yxo {N :Nat} (hN:1000<=N) (x:Int):J7 N x 4=some (B4 x):=by
 obtain ⟨k,rfl⟩:∃ k,N=k+5:=⟨N - 5,by omega⟩
 rw [J7,if_pos (by decide),w64 (by decide) (by decide),Y84 _ _ x _ _ (by decide) (by decide) (by decide),Y84 _ _ _ _ _ (by decide) (by simp) (by decide),Y84 _ _ _ _ _ (by decide) (by simp) (by decide),Y84 _ _ _ _ _ (by decide) (by simp) (by decide),Yow _ _ _ _ _ (by decide)]
 unfold B4
 rw [show x / 16777216=x / 256 / 256 / 256 by omega,show x / 65536=x / 256 / 256 by omega]
 rfl
def N2 (s :ByteArray) (i:Nat):Int:=bt s i*256+bt s (i+1:Nat)
def N4 (s :ByteArray) (i:Nat):Int:=((bt s i*256+bt s (i+1:Nat))*256+bt s (i+2:Nat))*256+bt s (i+3:Nat)
theorem Y11s (s :ByteArray) (i:Nat):0<=N2 s i/\N2 s i< 65536:=by
 have a:=Y21 s i;have b:=Y21 s (i+1:Nat);unfold N2;omega
theorem Yg4 (s :ByteArray) (i:Nat):0<=N4 s i/\N4 s i< 4294967296:=by
 have a:=Y21 s i;have b:=Y21 s (i+1:Nat);have c:=Y21 s (i+2:Nat);have d:=Y21 s (i+3:Nat);unfold N4;omega
theorem Y3g (s :ByteArray) (a b:Nat) (i:Nat) (h:a+i< b) (hb:b<=s.size):bt (s.extract a b) i=bt s (a+i:Nat):=by
 rw [bt_get,bt_get,Y8g]
 simp only [List.getD_eq_getElem?_getD,List.getElem?_take,List.getElem?_drop]
 rw [if_pos (by omega)]
theorem Y9b (N k :Nat) (s:ByteArray) (x i n:Int) (h0:0<=i) (hn:n=s.size) (h1:i< n) (hi:i<=100) (x0:0<=x) (x1:x< 4294967296):J22 N (k+1) s x n i=J22 N k s (x*256+bt s i) n (i+1):=by
 have hb:=Y21 s i
 rw [J22]
 simp only [Int.reducePow]
 simp (disch:=omega) only [Option.bind_some,Ye2,Y6v,cnot,ceq,cne,cond_true,cond_false,if_pos,if_neg,w64,reduceIte,Bool.not_true,Bool.not_false,Bool.and_true,Bool.and_self,Y15i]
theorem Yxp (N k :Nat) (s:ByteArray) (x i n:Int) (h:¬ i< n):J22 N (k+1) s x n i=some x:=by
 rw [J22,Y6v,if_neg h]
theorem Yqy {N :Nat} (hN:1000<=N) (s:ByteArray) (hs:s.size=2):Ja N s=some (N2 s 0):=by
 obtain ⟨k,rfl⟩:∃ k,N=k+5:=⟨N - 5,by omega⟩
 have b0:=Y21 s 0;have b1:=Y21 s 1
 unfold Ja
 rw [Y9b _ (k+4) s 0 0 _ (by decide) rfl (by omega) (by decide) (by decide) (by decide),Y9b _ (k+3) s _ _ _ (by omega) rfl (by omega) (by omega) (by omega) (by omega),Yxp _ _ s _ _ _ (by omega)]
 simp [N2]
theorem Y15j {N :Nat} (hN:1000<=N) (s:ByteArray) (hs:s.size=4):Ja N s=some (N4 s 0):=by
 obtain ⟨k,rfl⟩:∃ k,N=k+5:=⟨N - 5,by omega⟩
 have b0:=Y21 s 0;have b1:=Y21 s 1;have b2:=Y21 s 2;have b3:=Y21 s 3
 unfold Ja
 rw [Y9b _ (k+4) s 0 0 _ (by decide) rfl (by omega) (by decide) (by decide) (by decide),Y9b _ (k+3) s _ _ _ (by omega) rfl (by omega) (by omega) (by omega) (by omega),Y9b _ (k+2) s _ _ _ (by omega) rfl (by omega) (by omega) (by simp only [Int.reduceAdd];omega) (by simp only [Int.reduceAdd];omega),Y9b _ (k+1) s _ _ _ (by omega) rfl (by omega) (by omega) (by simp only [Int.reduceAdd];omega) (by simp only [Int.reduceAdd];omega),Yxp _ _ s _ _ _ (by omega)]
 simp [N4]
theorem Yi7 (s :ByteArray) (a:Nat) (h:a+2<=s.size):N2 (s.extract a (a+2)) 0=N2 s a:=by
 unfold N2
 rw [Y3g s a (a+2) 0 (by omega) h,Y3g s a (a+2) (0+1) (by omega) h]
 simp
theorem Yto (s :ByteArray) (a:Nat) (h:a+4<=s.size):N4 (s.extract a (a+4)) 0=N4 s a:=by
 unfold N4
 rw [Y3g s a (a+4) 0 (by omega) h,Y3g s a (a+4) (0+1) (by omega) h,Y3g s a (a+4) (0+2) (by omega) h,Y3g s a (a+4) (0+3) (by omega) h]
 simp
theorem Y63 {N :Nat} (hN:1000<=N) (s:ByteArray) (a b:Nat) (e:b=a+2) (h:a+2<=s.size):Ja N (s.extract a b)=some (N2 s a):=by
 subst e
 rw [Yqy hN _ (by simp [ByteArray.size_extract];omega),Yi7 s a h]
theorem Y8h {N :Nat} (hN:1000<=N) (s:ByteArray) (a b:Nat) (e:b=a+4) (h:a+4<=s.size):Ja N (s.extract a b)=some (N4 s a):=by
 subst e
 rw [Y15j hN _ (by simp [ByteArray.size_extract];omega),Yto s a h]
def Y5t (x :Int):Int:=if x=0 then 0 else (x - 1) % 65535+1
theorem Y5h {x :Int} (h0:0<=x) (h1:x< 65536):Y5t x=x:=by unfold Y5t;split <;> omega
theorem Yq1 {x :Int} (_h0:0<=x):0<=Y5t x/\Y5t x< 65536:=by unfold Y5t;split <;> omega
theorem Y7q {x :Int} (h:65536<=x):Y5t (x % 65536+x / 65536)=Y5t x:=by
 unfold Y5t
 rw [if_neg (by omega),if_neg (by omega)]
 omega
theorem Y7r (N k :Nat) (x:Int) (h:65536<=x) (h1:x< 9223372036854775808):J23 N (k+1) x=J23 N k (x % 65536+x / 65536):=by
 rw [J23,Y6v,if_pos h,Ye2,Int.tmod_eq_emod_of_nonneg (by omega),Int.tdiv_eq_ediv_of_nonneg (by omega),wu64,wu64]
 congr 1
 omega
theorem Y79 (N k :Nat) (x:Int) (h0:0<=x) (h:x< 65536):J23 N (k+1) x=some x:=by
 rw [J23,Y6v,if_neg (by omega),w64 (by omega) (by omega)]
theorem Y11t {N :Nat} (hN:1000<=N) (x:Int) (h0:0<=x) (h1:x< 9223372036854775808):J88 N x=some (Y5t x):=by
 obtain ⟨k,rfl⟩:∃ k,N=k+6:=⟨N - 6,by omega⟩
 unfold J88
 by_cases c1:x< 65536
 . rw [Y79 _ _ x h0 c1,Y5h h0 c1]
 rw [Y7r _ _ x (by omega) h1,<- Y7q (by omega:65536<=x)]
 have d:x % 65536+x / 65536< 140737488421000/\0<=x % 65536+x / 65536:=by omega
 generalize x % 65536+x / 65536=x at*
 by_cases c1:x< 65536
 . rw [Y79 _ _ x d.2 c1,Y5h d.2 c1]
 rw [Y7r _ _ x (by omega) (by omega),<- Y7q (by omega:65536<=x)]
 have d:x % 65536+x / 65536< 2147600000/\0<=x % 65536+x / 65536:=by omega
 generalize x % 65536+x / 65536=x at*
 by_cases c1:x< 65536
 . rw [Y79 _ _ x d.2 c1,Y5h d.2 c1]
 rw [Y7r _ _ x (by omega) (by omega),<- Y7q (by omega:65536<=x)]
 have d:x % 65536+x / 65536< 131072/\0<=x % 65536+x / 65536:=by omega
 generalize x % 65536+x / 65536=x at*
 by_cases c1:x< 65536
 . rw [Y79 _ _ x d.2 c1,Y5h d.2 c1]
 rw [Y7r _ _ x (by omega) (by omega),<- Y7q (by omega:65536<=x)]
 have d:x % 65536+x / 65536< 65537/\0<=x % 65536+x / 65536:=by omega
 generalize x % 65536+x / 65536=x at*
 by_cases c1:x< 65536
 . rw [Y79 _ _ x d.2 c1,Y5h d.2 c1]
 rw [Y7r _ _ x (by omega) (by omega),<- Y7q (by omega:65536<=x),Y79 _ _ _ (by omega) (by omega),Y5h (by omega) (by omega)]
def Y56 :List Int->Int
 | []=>0
 | [a]=>a*256
 | a :: b :: t=>a*256+b+Y56 t
def Y64 (s :ByteArray):Int:=Y5t (Y56 (Y18 s))
theorem Ye5 (s :ByteArray) (i:Nat) (h:i< s.size):(Y18 s).drop i=bt s i :: (Y18 s).drop (i+1):=by
 have hl:i< (Y18 s).length:=by rw [Y4m];exact h
 rw [List.drop_eq_getElem_cons hl]
 congr 1
 rw [bt_get,List.getD_eq_getElem?_getD,List.getElem?_eq_getElem hl]
 rfl
theorem Yg5 (s :ByteArray) (i:Nat) (h:s.size<=i):(Y18 s).drop i=[]:=List.drop_eq_nil_of_le (by rw [Y4m];exact h)
theorem Yi8 :∀ (n:Nat) (L:List Int),L.length<=n->(∀ x∈L,0<=x/\x<=255)->0<=Y56 L/\Y56 L<=65535*L.length
 | 0,L,hn,h=>by
   have:L=[]:=List.length_eq_zero_iff.mp (by omega)
   subst this;simp [Y56]
 | n+1,[],hn,h=>by simp [Y56]
 | n+1,[a],hn,h=>by
   have:=h a (by simp)
   simp [Y56];omega
 | n+1,a :: b :: t,hn,h=>by
   have h1:=h a (by simp);have h2:=h b (by simp)
   have ih:=Yi8 n t (by simp at hn;omega) (fun x hx=>h x (by simp [hx]))
   simp only [Y56,List.length_cons]
   omega
theorem Yxq (s :ByteArray):0<=Y56 (Y18 s)/\Y56 (Y18 s)<=65535*s.size:=by
 have:=Yi8 _ (Y18 s) (Nat.le_refl _) (Ye3 s)
 rw [Y4m] at this
 exact this
theorem Yi9 (s :ByteArray):0<=Y64 s/\Y64 s< 65536:=Yq1 (Yxq s).1
theorem Yxr {N :Nat} (hN:1000<=N) (s:ByteArray) (hs:s.size<=140737488351300):∀ (d k i:Nat) (acc:Int),s.size<=i+d->d+1<=k->i<=s.size+2->0<=acc->acc<=65535*i->
   J49 N k s acc i=some (Y5t (acc+Y56 ((Y18 s).drop i))):=by
 intro d
 induction d using Nat.strongRecOn with
 | _ d ih=>
 intro k i acc hd hk hi h0 h1
 obtain ⟨k,rfl⟩:∃ m,k=m+1:=⟨k - 1,by omega⟩
 have hb0:=Y21 s i
 have hb1:=Y21 s ((i+1:Nat):Int)
 rw [J49]
 unfold J89
 simp only [Int.reducePow,wu64]
 by_cases c:i< s.size
 . rw [Y6v,if_pos (by omega),if_pos (by omega),w64 (n:=(i:Int)+1) (by omega) (by omega),w64 (n:=(i:Int)+2) (by omega) (by omega),Ye2,Y6v]
   by_cases c2:i+1< s.size
   . rw [if_pos (by omega),if_pos (by omega),show (i:Int)+1=((i+1:Nat):Int) by omega,show (i:Int)+2=((i+2:Nat):Int) by omega,Ye2,Ye2]
     rw [show (((acc+bt s ↑i % 18446744073709551616*256 % 18446744073709551616) % 18446744073709551616+bt s ((i+1:Nat):Int) % 18446744073709551616) % 18446744073709551616)=acc+(bt s i*256+bt s ((i+1:Nat):Int)) by omega]
     rw [ih (d - 2) (by omega) k (i+2) _ (by omega) (by omega) (by omega) (by omega) (by omega),Ye5 s i c,Ye5 s (i+1) c2,show i+1+1=i+2 from rfl]
     simp only [Y56]
     congr 2
     omega
   . rw [if_neg (by omega),show (i:Int)+2=((i+2:Nat):Int) by omega]
     rw [show ((acc+bt s ↑i % 18446744073709551616*256 % 18446744073709551616) % 18446744073709551616)=acc+bt s i*256 by omega]
     rw [ih (d - 1) (by omega) k (i+2) _ (by omega) (by omega) (by omega) (by omega) (by omega),Ye5 s i c,Yg5 s (i+1) (by omega),Yg5 s (i+2) (by omega)]
     simp only [Y56]
     congr 2
     omega
 . rw [Y6v,if_neg (by omega),Yg5 s i (by omega)]
   rw [Y11t hN acc h0 (by omega)]
   simp [Y56]
theorem Yf5 {N :Nat} (hN:1000<=N) (s:ByteArray) (hs:s.size+10<=N) (hs2:s.size<=140737488351300):J16 N s=some (Y64 s):=by
 have:=Yxr hN s hs2 s.size N 0 0 (by omega) (by omega) (by omega) (by omega) (by omega)
 simpa [J16,Y64] using this
theorem Yia (N :Nat) (a:Int) (n:Nat) (h:n<=62):J8 N a (n:Int)=some (decide (0<=a/\a< 2 ^ n)):=by
 have hp:(0:Int)< 2 ^ n:=Int.pow_pos (by decide)
 unfold J8 J8a
 rw [Y6v,if_pos (by omega:0<=(n:Int)),Int.toNat_natCast,Nat.min_eq_left (by omega),fd _ (by omega)]
 by_cases h0:a>=0
 . rw [if_pos h0]
   congr 1
   rw [Bool.eq_iff_iff]
   simp only [beq_iff_eq,decide_eq_true_eq]
   constructor
   . intro h;exact ⟨h0,by have:=Int.lt_ediv_add_one_mul_self a hp;rw [h] at this;omega⟩
   . intro h;exact Int.ediv_eq_zero_of_lt h.1 h.2
 . rw [if_neg h0];congr 1;symm;simp;omega
theorem Yg6 (N :Nat) (a:Int):J8 N a 32=some (decide (0<=a/\a< 4294967296)):=Yia N a 32 (by decide)
theorem in16 (N :Nat) (a:Int):J8 N a 16=some (decide (0<=a/\a< 65536)):=Yia N a 16 (by decide)
theorem in8 (N :Nat) (a:Int):J8 N a 8=some (decide (0<=a/\a< 256)):=Yia N a 8 (by decide)
theorem in6 (N :Nat) (a:Int):J8 N a 6=some (decide (0<=a/\a< 64)):=Yia N a 6 (by decide)
end Go.Proofs.YtpdcnikdoikldaaGreatDoor.Pu
namespace Go.Proofs.YtpdcnikdoikldaaGreatDoor.Pu
open Go Go.RowKit Go.Proofs.YtpdcnikdoikldaaGreatDoor.Sv Go.Proofs.YtpdcnikdoikldaaGreatDoor.Lf
attribute [local irreducible] Jb J7 Ja Jm J16 J2y
theorem Yxs (p q :Bool):(bif p then some q else some false)=some (p&&q):=by cases p <;> rfl
def Yay (p :GIp):Bool:=
 decide (0<=p.Src/\p.Src< 4294967296)&&(decide (0<=p.Dst/\p.Dst< 4294967296)&&(decide (0<=p.Proto/\p.Proto< 256)&&(decide (0<=p.Ttl/\p.Ttl< 256)&&(decide (0<=p.Id/\p.Id< 65536)&&decide ((p.Body.size:Int)<=492)))))
theorem Ycd {p :GIp} (h:Yay p=true):
   (0<=p.Src/\p.Src< 4294967296)/\(0<=p.Dst/\p.Dst< 4294967296)/\(0<=p.Proto/\p.Proto< 256)/\(0<=p.Ttl/\p.Ttl< 256)/\(0<=p.Id/\p.Id< 65536)/\p.Body.size<=492:=by
 simp [Yay] at h;omega
theorem Y11v (p :GIp):Yay p=true↔(0<=p.Src/\p.Src< 4294967296)/\(0<=p.Dst/\p.Dst< 4294967296)/\(0<=p.Proto/\p.Proto< 256)/\(0<=p.Ttl/\p.Ttl< 256)/\(0<=p.Id/\p.Id< 65536)/\p.Body.size<=492:=by
 constructor
 . exact Ycd
 . intro h;simp [Yay];omega
theorem Y1bp (N :Nat) (p:GIp):J8b N p=some (Yay p):=by
 unfold J8b Yay J24
 simp only [Yg6,in8,in16,Option.bind_some,Yxs]
def Y57 (p :GIp) (chk:Int):ByteArray:=
 B1 69++B1 0++B2 (20+(p.Body.size:Int))++B2 p.Id++B1 64++B1 0++B1 p.Ttl++B1 p.Proto++B2 chk++B4 p.Src++B4 p.Dst
theorem Y58 (p :GIp) (chk:Int):(Y57 p chk).size=20:=by
 simp [Y57,ByteArray.size_append,Y15,Y19,Y1m]
theorem Y15k {N :Nat} (hN:1000<=N) (p:GIp) (hb:p.Body.size<=1000) (chk:Int):J5n N p chk=some (Y57 p chk):=by
 unfold J5n Y57
 repeat (with_reducible first | refine stB rfl ?_ | refine Y1a ?_ | (refine Yd ?_ ?_;· first | omega | (simp only [ByteArray.size_append,ByteArray.size_extract,Y15,Y19,Y1m];omega)) | (refine Ym ?_ ?_;· omega) | (refine Yu ?_ ?_;· omega) | (refine Ys ?_ ?_;· omega) | (refine Yo ?_ ?_;· omega) | (refine Y1z ?_ ?_;· omega) | (refine Y2h ?_ ?_;· omega) | refine Yq ?_ | refine Yn ?_ | refine Yj ?_ | refine Y1u ?_ | refine stB (Ye4 hN _) ?_ | refine stB (Yi6 hN _) ?_ | refine stB (Yxo hN _) ?_)
 rw [w64 (by omega) (by omega)]
def Y59 (p :GIp):Int:=65535 - Y64 (Y57 p 0)
def Y4i (p :GIp):ByteArray:=Y57 p (Y59 p)++p.Body
theorem Ye6 (p :GIp):(Y4i p).size=20+p.Body.size:=by
 simp [Y4i,ByteArray.size_append,Y58]
theorem Ytp (p :GIp):0<=Y59 p/\Y59 p< 65536:=by
 have:=Yi9 (Y57 p 0)
 unfold Y59;omega
theorem Y1bq {N :Nat} (hN:1000<=N) (p:GIp):J8c N p=some (if Yay p then (Y4i p,0) else (ByteArray.empty,200)):=by
 unfold J8c
 rw [Y1bp,Option.bind_some,cnot]
 by_cases h:Yay p=true
 . obtain ⟨_,_,_,_,_,hb⟩:=Ycd h
   have hs:=Yi9 (Y57 p 0)
   have z:=Y58 p 0;have z1:=Y58 p (IntKind.i64.wrap (65535 - Y64 (Y57 p 0)))
   rw [h,if_pos rfl,cond_true]
   repeat (with_reducible first | refine stB rfl ?_ | refine Y1a ?_ | (refine Yd ?_ ?_;· first | omega | (simp only [ByteArray.size_append,ByteArray.size_extract,Y15,Y19,Y1m];omega)) | (refine Ym ?_ ?_;· omega) | (refine Yu ?_ ?_;· omega) | (refine Ys ?_ ?_;· omega) | (refine Yo ?_ ?_;· omega) | (refine Y1z ?_ ?_;· omega) | (refine Y2h ?_ ?_;· omega) | refine Yq ?_ | refine Yn ?_ | refine Yj ?_ | refine Y1u ?_ | refine stB (Y15k hN p (by omega) _) ?_ | refine stB (Yf5 hN (Y57 p 0) (by omega) (by omega)) ?_)
   rw [w64 (by omega) (by omega)]
   rfl
 . rw [Bool.not_eq_true] at h
   rw [h];rfl
abbrev IpR:=GIp× Int× Int
def Ye7 :IpR:=(⟨0,0,0,0,0,ByteArray.empty⟩,1,200)
def Y16 (s :ByteArray):IpR:=
 if s.size< 20\/512< s.size then Ye7
 else if bt s 0 / 16≠4\/bt s 0 % 16< 5\/(s.size:Int)< 4*(bt s 0 % 16) then Ye7
 else if N2 s 2≠s.size then Ye7
 else if Y64 (s.extract 0 (4*(bt s 0 % 16)).toNat)≠65535 then Ye7
 else if 5< bt s 0 % 16 then (⟨0,0,0,0,0,ByteArray.empty⟩,3,0)
 else if Y2i .i64 (N2 s 6) 49151≠0 then (⟨0,0,0,0,0,ByteArray.empty⟩,2,0)
 else (⟨N4 s 12,N4 s 16,bt s 9,bt s 8,N2 s 4,s.extract 20 s.size⟩,0,0)
theorem Ykc (x :Int) (h0:0<=x) (h1:x< 65536):Yqi .i64 x 16384=Y2i .i64 x 49151:=by
 obtain ⟨n,rfl⟩:=Int.eq_ofNat_of_zero_le h0
 show IntKind.i64.wrap ((BitVec.ofInt 64 (n:Int) &&& ~~~ (BitVec.ofInt 64 16384)).toNat:Int)=IntKind.i64.wrap ((BitVec.ofInt 64 (n:Int) &&& BitVec.ofInt 64 49151).toNat:Int)
 congr 2
 have e:BitVec.ofInt 64 (n:Int) &&& ~~~ (BitVec.ofInt 64 16384)=BitVec.ofInt 64 (n:Int) &&& BitVec.ofInt 64 49151:=by
   apply BitVec.eq_of_getLsbD_eq
   intro i hi
   simp only [BitVec.getLsbD_and,BitVec.getLsbD_not]
   by_cases c:i< 16
   . have:(decide (i< 64)&& !(BitVec.ofInt 64 16384).getLsbD i)=(BitVec.ofInt 64 49151).getLsbD i:=by
       have key:∀ j:Fin 16,(decide (j.val< 64)&& !(BitVec.ofInt 64 16384).getLsbD j.val)=(BitVec.ofInt 64 49151).getLsbD j.val:=by decide
       exact key ⟨i,c⟩
     rw [this]
   . have z:(BitVec.ofInt 64 (n:Int)).getLsbD i=false:=by
       rw [BitVec.ofInt_natCast,BitVec.getLsbD_ofNat]
       have:n.testBit i=false:=Nat.testBit_lt_two_pow (Nat.lt_of_lt_of_le (show n< 2 ^ 16 by omega) (Nat.pow_le_pow_right (by decide) (by omega)))
       simp [this]
     rw [z];simp
 rw [e]
theorem Y11w {N :Nat} (hN:1000<=N) (s:ByteArray):J8d N s=
   some (if s.size< 20\/512< s.size then (0,false) else if bt s 0 / 16≠4\/bt s 0 % 16< 5\/(s.size:Int)< 4*(bt s 0 % 16) then (0,false)
     else (bt s 0 % 16,decide (N2 s 2=s.size)&&decide (Y64 (s.extract 0 (4*(bt s 0 % 16)).toNat)=65535))):=by
 have hb:=Y21 s 0
 have hf:(bt s 0).fdiv (2 ^ 4)=bt s 0 / 16:=fd _ (by decide)
 have hl:Y2i .u8 (bt s 0) 15=bt s 0 % 16:=low4 _ hb.1 (by omega)
 have w1:IntKind.i64.wrap (bt s 0 % 16)=bt s 0 % 16:=w64 (by omega) (by omega)
 have w2:IntKind.i64.wrap (4*(bt s 0 % 16))=4*(bt s 0 % 16):=w64 (by omega) (by omega)
 unfold J8d J8e J5o J8f
 simp only [hf,hl,w1,w2]
 by_cases c:s.size< 20
 . rw [if_pos (show s.size< 20\/512< s.size from .inl c)]
   repeat (with_reducible first | refine stB rfl ?_ | refine Y1a ?_ | (refine Yd ?_ ?_;· first | omega | (simp only [ByteArray.size_append,ByteArray.size_extract,Y15,Y19,Y1m];omega)) | (refine Ym ?_ ?_;· omega) | (refine Yu ?_ ?_;· omega) | (refine Ys ?_ ?_;· omega) | (refine Yo ?_ ?_;· omega) | (refine Y1z ?_ ?_;· omega) | (refine Y2h ?_ ?_;· omega) | refine Yq ?_ | refine Yn ?_ | refine Yj ?_ | refine Y1u ?_)
   rfl
 by_cases c1:512< s.size
 . rw [if_pos (show s.size< 20\/512< s.size from .inr c1),decide_eq_true (show ((s.size:Int) > 512) by omega)]
   repeat (with_reducible first | refine stB rfl ?_ | refine Y1a ?_ | (refine Yd ?_ ?_;· first | omega | (simp only [ByteArray.size_append,ByteArray.size_extract,Y15,Y19,Y1m];omega)) | (refine Ym ?_ ?_;· omega) | (refine Yu ?_ ?_;· omega) | (refine Ys ?_ ?_;· omega) | (refine Yo ?_ ?_;· omega) | (refine Y1z ?_ ?_;· omega) | (refine Y2h ?_ ?_;· omega) | refine Yq ?_ | refine Yn ?_ | refine Yj ?_ | refine Y1u ?_)
   rfl
 rw [if_neg (show ¬ (s.size< 20\/512< s.size) by omega),decide_eq_false (show ¬ ((s.size:Int) > 512) by omega)]
 by_cases c2:bt s 0 / 16=4
 . by_cases c3:bt s 0 % 16< 5
   . rw [if_pos (show bt s 0 / 16≠4\/bt s 0 % 16< 5\/(s.size:Int)< 4*(bt s 0 % 16) from .inr (.inl c3))]
     repeat (with_reducible first | refine stB rfl ?_ | refine Y1a ?_ | (refine Yd ?_ ?_;· first | omega | (simp only [ByteArray.size_append,ByteArray.size_extract,Y15,Y19,Y1m];omega)) | (refine Ym ?_ ?_;· omega) | (refine Yu ?_ ?_;· omega) | (refine Ys ?_ ?_;· omega) | (refine Yo ?_ ?_;· omega) | (refine Y1z ?_ ?_;· omega) | (refine Y2h ?_ ?_;· omega) | refine Yq ?_ | refine Yn ?_ | refine Yj ?_ | refine Y1u ?_)
     rfl
   . by_cases c4:(s.size:Int)< 4*(bt s 0 % 16)
     . rw [if_pos (show bt s 0 / 16≠4\/bt s 0 % 16< 5\/(s.size:Int)< 4*(bt s 0 % 16) from .inr (.inr c4))]
       repeat (with_reducible first | refine stB rfl ?_ | refine Y1a ?_ | (refine Yd ?_ ?_;· first | omega | (simp only [ByteArray.size_append,ByteArray.size_extract,Y15,Y19,Y1m];omega)) | (refine Ym ?_ ?_;· omega) | (refine Yu ?_ ?_;· omega) | (refine Ys ?_ ?_;· omega) | (refine Yo ?_ ?_;· omega) | (refine Y1z ?_ ?_;· omega) | (refine Y2h ?_ ?_;· omega) | refine Yq ?_ | refine Yn ?_ | refine Yj ?_ | refine Y1u ?_)
       rfl
     . have z1:(s.extract 0 (4*(bt s 0 % 16)).toNat).size<=512:=by simp [ByteArray.size_extract];omega
       rw [if_neg (show ¬ (bt s 0 / 16≠4\/bt s 0 % 16< 5\/(s.size:Int)< 4*(bt s 0 % 16)) by omega)]
       by_cases c5:N2 s 2=s.size
       . repeat (with_reducible first | refine stB rfl ?_ | refine Y1a ?_ | (refine Yd ?_ ?_;· first | omega | (simp only [ByteArray.size_append,ByteArray.size_extract,Y15,Y19,Y1m];omega)) | (refine Ym ?_ ?_;· omega) | (refine Yu ?_ ?_;· omega) | (refine Ys ?_ ?_;· omega) | (refine Yo ?_ ?_;· omega) | (refine Y1z ?_ ?_;· omega) | (refine Y2h ?_ ?_;· omega) | refine Yq ?_ | refine Yn ?_ | refine Yj ?_ | refine Y1u ?_ | refine stB (Y63 hN s 2 4 rfl (by omega)) ?_ | refine stB (Yf5 hN (s.extract 0 (4*(bt s 0 % 16)).toNat) (by omega) (by omega)) ?_)
         rw [decide_eq_true c5,Bool.true_and]
         rfl
       . repeat (with_reducible first | refine stB rfl ?_ | refine Y1a ?_ | (refine Yd ?_ ?_;· first | omega | (simp only [ByteArray.size_append,ByteArray.size_extract,Y15,Y19,Y1m];omega)) | (refine Ym ?_ ?_;· omega) | (refine Yu ?_ ?_;· omega) | (refine Ys ?_ ?_;· omega) | (refine Yo ?_ ?_;· omega) | (refine Y1z ?_ ?_;· omega) | (refine Y2h ?_ ?_;· omega) | refine Yq ?_ | refine Yn ?_ | refine Yj ?_ | refine Y1u ?_ | refine stB (Y63 hN s 2 4 rfl (by omega)) ?_)
         rw [decide_eq_false c5,Bool.false_and]
 . rw [if_pos (show bt s 0 / 16≠4\/bt s 0 % 16< 5\/(s.size:Int)< 4*(bt s 0 % 16) from .inl c2)]
   repeat (with_reducible first | refine stB rfl ?_ | refine Y1a ?_ | (refine Yd ?_ ?_;· first | omega | (simp only [ByteArray.size_append,ByteArray.size_extract,Y15,Y19,Y1m];omega)) | (refine Ym ?_ ?_;· omega) | (refine Yu ?_ ?_;· omega) | (refine Ys ?_ ?_;· omega) | (refine Yo ?_ ?_;· omega) | (refine Y1z ?_ ?_;· omega) | (refine Y2h ?_ ?_;· omega) | refine Yq ?_ | refine Yn ?_ | refine Yj ?_ | refine Y1u ?_)
   rfl
theorem Yxt {N :Nat} (hN:1000<=N) (s:ByteArray):J5p N s=some (Y16 s):=by
 have hb:=Y21 s 0
 have hn:=Y11s s 6
 unfold J5p Y16
 rw [Y11w hN s,Option.bind_some]
 by_cases c:s.size< 20\/512< s.size
 . rw [if_pos c,if_pos c];rfl
 rw [if_neg c,if_neg c]
 by_cases c1:bt s 0 / 16≠4\/bt s 0 % 16< 5\/(s.size:Int)< 4*(bt s 0 % 16)
 . rw [if_pos c1,if_pos c1];rfl
 rw [if_neg c1,if_neg c1]
 by_cases c2:N2 s 2=s.size
 . by_cases c3:Y64 (s.extract 0 (4*(bt s 0 % 16)).toNat)=65535
   . have h8:=Y21 s 8;have h9:=Y21 s 9
     rw [if_neg (show ¬ (N2 s 2≠s.size) by omega),if_neg (show ¬ (Y64 (s.extract 0 (4*(bt s 0 % 16)).toNat)≠65535) by omega),decide_eq_true c2,decide_eq_true c3]
     simp only [Bool.and_self]
     by_cases c4:5< bt s 0 % 16
     . rw [if_pos c4]
       repeat (with_reducible first | refine stB rfl ?_ | refine Y1a ?_ | (refine Yd ?_ ?_;· first | omega | (simp only [ByteArray.size_append,ByteArray.size_extract,Y15,Y19,Y1m];omega)) | (refine Ym ?_ ?_;· omega) | (refine Yu ?_ ?_;· omega) | (refine Ys ?_ ?_;· omega) | (refine Yo ?_ ?_;· omega) | (refine Y1z ?_ ?_;· omega) | (refine Y2h ?_ ?_;· omega) | refine Yq ?_ | refine Yn ?_ | refine Yj ?_ | refine Y1u ?_)
       rfl
     . rw [if_neg c4]
       by_cases c5:Y2i .i64 (N2 s 6) 49151=0
       . rw [if_neg (show ¬ (Y2i .i64 (N2 s 6) 49151≠0) by omega)]
         rw [<- Ykc _ hn.1 hn.2] at c5
         repeat (with_reducible first | refine stB rfl ?_ | refine Y1a ?_ | (refine Yd ?_ ?_;· first | omega | (simp only [ByteArray.size_append,ByteArray.size_extract,Y15,Y19,Y1m];omega)) | (refine Ym ?_ ?_;· omega) | (refine Yu ?_ ?_;· omega) | (refine Ys ?_ ?_;· omega) | (refine Yo ?_ ?_;· omega) | (refine Y1z ?_ ?_;· omega) | (refine Y2h ?_ ?_;· omega) | refine Yq ?_ | refine Yn ?_ | refine Yj ?_ | refine Y1u ?_ | refine stB (Y63 hN s 6 8 rfl (by omega)) ?_ | refine stB (Y8h hN s 12 16 rfl (by omega)) ?_ | refine stB (Y8h hN s 16 20 rfl (by omega)) ?_ | refine stB (Y63 hN s 4 6 rfl (by omega)) ?_)
         rw [w64 (by omega) (by omega),w64 (by omega) (by omega)]
       . rw [if_pos (show Y2i .i64 (N2 s 6) 49151≠0 from c5)]
         rw [<- Ykc _ hn.1 hn.2] at c5
         repeat (with_reducible first | refine stB rfl ?_ | refine Y1a ?_ | (refine Yd ?_ ?_;· first | omega | (simp only [ByteArray.size_append,ByteArray.size_extract,Y15,Y19,Y1m];omega)) | (refine Ym ?_ ?_;· omega) | (refine Yu ?_ ?_;· omega) | (refine Ys ?_ ?_;· omega) | (refine Yo ?_ ?_;· omega) | (refine Y1z ?_ ?_;· omega) | (refine Y2h ?_ ?_;· omega) | refine Yq ?_ | refine Yn ?_ | refine Yj ?_ | refine Y1u ?_ | refine stB (Y63 hN s 6 8 rfl (by omega)) ?_)
         rfl
   . rw [if_neg (show ¬ (N2 s 2≠s.size) by omega),if_pos (show Y64 (s.extract 0 (4*(bt s 0 % 16)).toNat)≠65535 from c3),decide_eq_false c3,Bool.and_false]
     repeat (with_reducible first | refine stB rfl ?_ | refine Y1a ?_ | (refine Yd ?_ ?_;· first | omega | (simp only [ByteArray.size_append,ByteArray.size_extract,Y15,Y19,Y1m];omega)) | (refine Ym ?_ ?_;· omega) | (refine Yu ?_ ?_;· omega) | (refine Ys ?_ ?_;· omega) | (refine Yo ?_ ?_;· omega) | (refine Y1z ?_ ?_;· omega) | (refine Y2h ?_ ?_;· omega) | refine Yq ?_ | refine Yn ?_ | refine Yj ?_ | refine Y1u ?_)
     rfl
 . rw [if_pos (show N2 s 2≠s.size from c2),decide_eq_false c2,Bool.false_and]
   repeat (with_reducible first | refine stB rfl ?_ | refine Y1a ?_ | (refine Yd ?_ ?_;· first | omega | (simp only [ByteArray.size_append,ByteArray.size_extract,Y15,Y19,Y1m];omega)) | (refine Ym ?_ ?_;· omega) | (refine Yu ?_ ?_;· omega) | (refine Ys ?_ ?_;· omega) | (refine Yo ?_ ?_;· omega) | (refine Y1z ?_ ?_;· omega) | (refine Y2h ?_ ?_;· omega) | refine Yq ?_ | refine Yn ?_ | refine Yj ?_ | refine Y1u ?_)
   rfl
end Go.Proofs.YtpdcnikdoikldaaGreatDoor.Pu
