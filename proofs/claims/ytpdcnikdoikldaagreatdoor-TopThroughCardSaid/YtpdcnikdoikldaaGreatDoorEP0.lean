import Derived.Test.YtpdcnikdoikldaaGreatDoorP0
set_option linter.unusedVariables false
set_option linter.unusedSimpArgs false
namespace Go.Proofs.YtpdcnikdoikldaaGreatDoor.Pu
open Go Go.RowKit Go.Proofs.YtpdcnikdoikldaaGreatDoor.Sv Go.Proofs.YtpdcnikdoikldaaGreatDoor.Lf
attribute [local irreducible] J9 J8 Jc Jm J19 J13
theorem Y8i {U :Type} (c:Bool) (x y:U):(bif c then some x else some y)=some (bif c then x else y):=by cases c <;> rfl
theorem Ykc {c p q :Bool}:(bif c then p else q)=true↔(c=true/\p=true)\/(c=false/\q=true):=by cases c <;> simp
def Y9n (proto seq ack flags :Int):Prop:=(proto=6/\(0<=seq/\seq< 4294967296)/\(0<=ack/\ack< 4294967296)/\(0<=flags/\flags< 64))\/(proto=17/\seq=0/\ack=0/\flags=0)
instance (a b c d :Int):Decidable (Y9n a b c d):=by unfold Y9n;infer_instance
def Y5z (g :Y13):Bool:=
 decide (((0<=g.Sport/\g.Sport< 65536)/\(0<=g.Dport/\g.Dport< 65536)/\(g.Body.size:Int)<=256)/\Y9n g.Proto g.Seq g.Ack g.Flags)
theorem Y9o {g :Y13} (h:Y5z g=true):
   (0<=g.Sport/\g.Sport< 65536)/\(0<=g.Dport/\g.Dport< 65536)/\g.Body.size<=256/\Y9n g.Proto g.Seq g.Ack g.Flags:=by
 simp only [Y5z,decide_eq_true_eq] at h
 exact ⟨h.1.1,h.1.2.1,by omega,h.2⟩
theorem Yzh (N :Nat) (g:Y13):Jae N g=some (Y5z g):=by
 unfold Jae J70 J4y J4z
 simp only [Ygv,in16,in6,Option.bind_some,Y8i]
 congr 1
 rw [Bool.eq_iff_iff]
 unfold Y5z Y9n
 simp only [Ykc,decide_eq_true_eq,decide_eq_false_iff_not,beq_iff_eq,beq_eq_false_iff_ne,bne_iff_ne,Bool.not_eq_true',Bool.not_eq_false',Bool.and_eq_true,Bool.false_eq_true,Bool.true_eq_false,reduceCtorEq,and_false,false_and,or_false,false_or,true_and,and_true,Bool.not_eq_eq_eq_not,Bool.not_true,Bool.not_false]
 omega
theorem Yiy (N :Nat) (g:Y13):J4o N g=some (Y5z g):=by
 unfold J4o J6y J6x J4x
 simp only [Yaf,Ygw,Y17o,Option.bind_some,Y8i]
 congr 1
 rw [Bool.eq_iff_iff]
 unfold Y5z Y9n
 simp only [Ykc,decide_eq_true_eq,decide_eq_false_iff_not,beq_iff_eq,beq_eq_false_iff_ne,bne_iff_ne,Bool.not_eq_true',Bool.not_eq_false',Bool.and_eq_true,Bool.false_eq_true,Bool.true_eq_false,reduceCtorEq,and_false,false_and,or_false,false_or,true_and,and_true,Bool.not_eq_eq_eq_not,Bool.not_true,Bool.not_false]
 omega
def Y9b (src dst :Int):Bool:=decide (0<=src/\src< 4294967296)&&decide (0<=dst/\dst< 4294967296)
theorem Yv8 {src dst :Int} (h:Y9b src dst=true):(0<=src/\src< 4294967296)/\(0<=dst/\dst< 4294967296):=by simpa [Y9b] using h
theorem Yv9 (N :Nat) (src dst:Int):Jag N ⟨src,dst⟩=some (Y9b src dst):=by
 unfold Jag Jaf
 simp only [Ygv,Option.bind_some,Ypv];rfl
def Y83 (g :Y13) (chk:Int):ByteArray:=B2 g.Sport++B2 g.Dport++B4 g.Seq++B4 g.Ack++B1 80++B1 g.Flags++B2 1024++B2 chk++B2 0++g.Body
def Y8j (g :Y13) (chk:Int):ByteArray:=B2 g.Sport++B2 g.Dport++B2 (8+g.Body.size)++B2 chk++g.Body
def Y2c (g :Y13) (chk:Int):ByteArray:=if g.Proto=6 then Y83 g chk else Y8j g chk
theorem Yez (g :Y13) (chk:Int):(Y83 g chk).size=20+g.Body.size:=by
 simp only [Y83,ByteArray.size_append,Y10,Y11,Y18]
theorem Yf0 (g :Y13) (chk:Int):(Y8j g chk).size=8+g.Body.size:=by
 simp only [Y8j,ByteArray.size_append,Y11]
theorem Yd4 (g :Y13) (chk:Int):(Y2c g chk).size=(if g.Proto=6 then 20 else 8)+g.Body.size:=by
 unfold Y2c
 by_cases h:g.Proto=6
 . rw [if_pos h,if_pos h,Yez]
 . rw [if_neg h,if_neg h,Yf0]
theorem Ypx (g :Y13) (chk:Int):(Y2c g chk).size<=20+g.Body.size:=by
 rw [Yd4];split <;> omega
def psL (src dst proto :Int) (n:Nat):ByteArray:=B4 src++B4 dst++B2 proto++B2 n
theorem Ypy (src dst proto :Int) (n:Nat):(psL src dst proto n).size=12:=by
 simp only [psL,ByteArray.size_append,Y11,Y18]
def Y57 (src dst proto :Int) (s:ByteArray):Int:=Y4x (psL src dst proto s.size++s)
theorem Yiz (src dst proto :Int) (s:ByteArray):0<=Y57 src dst proto s/\Y57 src dst proto s< 65536:=Y9l _
theorem Yva {N :Nat} (hN:1000<=N) (src dst proto:Int) (s:ByteArray) (hs:s.size<=140737488351232) (hk:s.size+30<=N):Jah N ⟨src,dst⟩ proto s=some (Y57 src dst proto s):=by
 have hz:=Ypy src dst proto s.size
 have hsum:=Yfs hN (psL src dst proto s.size++s) (by rw [ByteArray.size_append,hz];omega) (by rw [ByteArray.size_append,hz];omega)
 unfold psL at hsum
 unfold Jah
 repeat (with_reducible first | refine stB rfl ?_ | refine Y15 ?_ | (refine Yb ?_ ?_;· first | omega | (simp only [ByteArray.size_append,ByteArray.size_extract,Y10,Y11,Y18];omega)) | (refine Yj ?_ ?_;· omega) | (refine Yt ?_ ?_;· omega) | (refine Yr ?_ ?_;· omega) | (refine Yo ?_ ?_;· omega) | (refine Y1p ?_ ?_;· omega) | (refine Y25 ?_ ?_;· omega) | refine Ym ?_ | refine Yk ?_ | refine Yi ?_ | refine Y1k ?_ | refine stB (Yiu hN _) ?_ | refine stB (Yzc hN _) ?_ | refine stB (hsum) ?_)
 rfl
theorem Yzi {N :Nat} (hN:1000<=N) (src dst proto:Int) (s:ByteArray) (hs:s.size<=140737488351232) (hk:s.size+30<=N):J1q N proto s src dst=some (Y57 src dst proto s):=by
 have hz:=Ypy src dst proto s.size
 have hsum:=Ysb hN (psL src dst proto s.size++s) (by rw [ByteArray.size_append,hz];omega) (by rw [ByteArray.size_append,hz];omega)
 unfold psL at hsum
 unfold J1q
 repeat (with_reducible first | refine stB rfl ?_ | refine Y15 ?_ | (refine Yb ?_ ?_;· first | omega | (simp only [ByteArray.size_append,ByteArray.size_extract,Y10,Y11,Y18];omega)) | (refine Yj ?_ ?_;· omega) | (refine Yt ?_ ?_;· omega) | (refine Yr ?_ ?_;· omega) | (refine Yo ?_ ?_;· omega) | (refine Y1p ?_ ?_;· omega) | (refine Y25 ?_ ?_;· omega) | refine Ym ?_ | refine Yk ?_ | refine Yi ?_ | refine Y1k ?_ | refine stB (Yps hN _) ?_ | refine stB (Ypt hN _) ?_ | refine stB (hsum) ?_)
 rfl
def Y4y (g :Y13) (src dst:Int):Int:=
 if g.Proto=17/\65535 - Y57 src dst g.Proto (Y2c g 0)=0 then 65535 else 65535 - Y57 src dst g.Proto (Y2c g 0)
def Y9c (g :Y13) (src dst:Int):ByteArray:=Y2c g (Y4y g src dst)
theorem Y1fs :(⟨#[80]⟩:ByteArray)=B1 80:=by decide +kernel
theorem Ysd {g :Y13} (h:Y5z g=true):g.Proto=6\/g.Proto=17:=by
 obtain ⟨_,_,_,p4⟩:=Y9o h
 unfold Y9n at p4
 omega
theorem Yzj {N :Nat} (hN:1000<=N) (g:Y13) (src dst:Int):Ja9 N g src dst=some (if Y5z g=true/\Y9b src dst=true then (Y9c g src dst,0) else (ByteArray.empty,300)):=by
 unfold Ja9 J6z Ja8
 rw [Yiy,Option.bind_some]
 by_cases h:Y5z g=true
 . rw [h,Yaf,Yaf]
   by_cases he:Y9b src dst=true
   . rw [if_pos (show true=true/\Y9b src dst=true from ⟨rfl,he⟩)]
     obtain ⟨_,_,hb,_⟩:=Y9o h
     obtain ⟨e1,e2⟩:=Yv8 he
     have hk:=Ysd h
     rw [decide_eq_true e1,decide_eq_true e2]
     have hz:=Ypx g 0
     have hr:=Yiz src dst g.Proto (Y2c g 0)
     have w:IntKind.i64.wrap (65535 - Y57 src dst g.Proto (Y2c g 0))=65535 - Y57 src dst g.Proto (Y2c g 0):=w64 (by omega) (by omega)
     have es:=Yzi hN src dst g.Proto (Y2c g 0) (by omega) (by omega)
     have w8:IntKind.i64.wrap (8+(g.Body.size:Int))=8+(g.Body.size:Int):=w64 (by omega) (by omega)
     rw [Y1fs,Ysc,w8]
     unfold Y9c Y4y
     by_cases e:g.Proto=17
     . have et:Y2c g 0=B2 g.Sport++B2 g.Dport++B2 (8+g.Body.size)++B2 0++g.Body:=by unfold Y2c Y8j;rw [if_neg (by omega)]
       have es':J1q N g.Proto (B2 g.Sport++B2 g.Dport++B2 (8+g.Body.size)++B2 0++g.Body) src dst=some (Y57 src dst g.Proto (Y2c g 0)):=by rw [<- et];exact es
       by_cases z:65535 - Y57 src dst g.Proto (Y2c g 0)=0
       . rw [if_pos ⟨e,z⟩]
         repeat (with_reducible first | refine stB rfl ?_ | refine Y15 ?_ | (refine Yb ?_ ?_;· first | omega | (simp only [ByteArray.size_append,ByteArray.size_extract,Y10,Y11,Y18];omega)) | (refine Yj ?_ ?_;· omega) | (refine Yt ?_ ?_;· omega) | (refine Yr ?_ ?_;· omega) | (refine Yo ?_ ?_;· omega) | (refine Y1p ?_ ?_;· omega) | (refine Y25 ?_ ?_;· omega) | refine Ym ?_ | refine Yk ?_ | refine Yi ?_ | refine Y1k ?_ | refine stB (Yv5 hN _) ?_ | refine stB (Yps hN _) ?_ | refine stB (Ypt hN _) ?_ | refine stB (es') ?_)
         unfold Y2c Y8j
         rw [if_neg (by omega)]
       . rw [if_neg (fun hh=>z hh.2)]
         repeat (with_reducible first | refine stB rfl ?_ | refine Y15 ?_ | (refine Yb ?_ ?_;· first | omega | (simp only [ByteArray.size_append,ByteArray.size_extract,Y10,Y11,Y18];omega)) | (refine Yj ?_ ?_;· omega) | (refine Yt ?_ ?_;· omega) | (refine Yr ?_ ?_;· omega) | (refine Yo ?_ ?_;· omega) | (refine Y1p ?_ ?_;· omega) | (refine Y25 ?_ ?_;· omega) | refine Ym ?_ | refine Yk ?_ | refine Yi ?_ | refine Y1k ?_ | refine stB (Yv5 hN _) ?_ | refine stB (Yps hN _) ?_ | refine stB (Ypt hN _) ?_ | refine stB (es') ?_)
         rw [w]
         show some (_,_)=some (Y2c g _,_)
         generalize 65535 - Y57 src dst g.Proto (Y2c g 0)=c
         unfold Y2c Y8j
         rw [if_neg (show ¬ g.Proto=6 by omega)]
     . have e6:g.Proto=6:=by omega
       have ea:Y83 g 0=B2 g.Sport++B2 g.Dport++B4 g.Seq++B4 g.Ack++B1 80++B1 g.Flags++B2 1024++B2 0++(B2 0++g.Body):=by
         unfold Y83;simp only [ByteArray.append_assoc]
       have et:Y2c g 0=Y83 g 0:=by unfold Y2c;rw [if_pos e6]
       have es':J1q N g.Proto (B2 g.Sport++B2 g.Dport++B4 g.Seq++B4 g.Ack++B1 80++B1 g.Flags++B2 1024++B2 0++(B2 0++g.Body)) src dst=some (Y57 src dst g.Proto (Y2c g 0)):=by rw [<- ea,<- et];exact es
       rw [if_neg (fun hh=>e hh.1)]
       repeat (with_reducible first | refine stB rfl ?_ | refine Y15 ?_ | (refine Yb ?_ ?_;· first | omega | (simp only [ByteArray.size_append,ByteArray.size_extract,Y10,Y11,Y18];omega)) | (refine Yj ?_ ?_;· omega) | (refine Yt ?_ ?_;· omega) | (refine Yr ?_ ?_;· omega) | (refine Yo ?_ ?_;· omega) | (refine Y1p ?_ ?_;· omega) | (refine Y25 ?_ ?_;· omega) | refine Ym ?_ | refine Yk ?_ | refine Yi ?_ | refine Y1k ?_ | refine stB (Yv5 hN _) ?_ | refine stB (Yps hN _) ?_ | refine stB (Ypt hN _) ?_ | refine stB (es') ?_)
       rw [w]
       show some (_,_)=some (Y2c g _,_)
       generalize 65535 - Y57 src dst g.Proto (Y2c g 0)=c
       unfold Y2c Y83
       rw [if_pos e6]
       simp only [ByteArray.append_assoc]
   . rw [if_neg (fun hh=>he hh.2)]
     by_cases e1:0<=src/\src< 4294967296
     . have e2:¬ (0<=dst/\dst< 4294967296):=fun h=>he (by unfold Y9b;rw [decide_eq_true e1,decide_eq_true h];rfl)
       rw [decide_eq_true e1,decide_eq_false e2]
       rfl
     . rw [decide_eq_false e1]
       rfl
 . rw [if_neg (fun hh=>h hh.1)]
   rw [Bool.not_eq_true] at h
   rw [h]
   rfl
abbrev SegR:=Y13× Int
def Yd5 :SegR:=(⟨0,0,0,0,0,0,ByteArray.empty⟩,300)
def okS (proto :Int) (s:ByteArray) (src dst:Int) (is un:Bool) (g:Y13):SegR:=
 if is=true/\Y5z g=true/\Y9b src dst=true/\(un=true\/Y57 src dst proto s=65535) then (g,0) else Yd5
def Y8k (proto :Int) (s:ByteArray) (src dst:Int):SegR:=
 if proto=6 then
   if s.size< 20\/bt s 12≠80 then Yd5
   else okS 6 s src dst true false ⟨6,N2 s 0,N2 s 2,N4 s 4,N4 s 8,bt s 13,s.extract 20 s.size⟩
 else if proto=17 then
   if s.size< 8\/N2 s 4≠s.size then Yd5
   else okS 17 s src dst true (decide (N2 s 6=0)) ⟨17,N2 s 0,N2 s 2,0,0,0,s.extract 8 s.size⟩
 else Yd5
theorem Y7j (proto :Int) (s:ByteArray) (src dst:Int) (un:Bool) (g:Y13):okS proto s src dst false un g=Yd5:=by
 unfold okS;rw [if_neg (fun h=>by cases h.1)]
theorem Yd6 {N :Nat} (hN:1000<=N) (proto:Int) (s:ByteArray) (src dst:Int) (is un:Bool) (g:Y13) (hs:s.size<=512):
   J3l N proto s 0 0 0 0 0 0 ByteArray.empty src dst g.Proto g.Sport g.Dport g.Seq g.Ack g.Flags g.Body is un=some (okS proto s src dst is un g):=by
 unfold J3l J3k
 cases is
 . rw [Y7j];rfl
 . rw [show (⟨g.Proto,g.Sport,g.Dport,g.Seq,g.Ack,g.Flags,g.Body⟩:Y13)=g from rfl,Yzh]
   unfold okS
   by_cases a:Y5z g=true
   . rw [a,Yv9]
     by_cases b:Y9b src dst=true
     . rw [b]
       cases un
       . have es:=Yva hN src dst proto s (by omega) (by omega)
         by_cases c:Y57 src dst proto s=65535
         . rw [if_pos ⟨rfl,rfl,rfl,.inr c⟩]
           repeat (with_reducible first | refine stB rfl ?_ | refine Y15 ?_ | (refine Yb ?_ ?_;· first | omega | (simp only [ByteArray.size_append,ByteArray.size_extract,Y10,Y11,Y18];omega)) | (refine Yj ?_ ?_;· omega) | (refine Yt ?_ ?_;· omega) | (refine Yr ?_ ?_;· omega) | (refine Yo ?_ ?_;· omega) | (refine Y1p ?_ ?_;· omega) | (refine Y25 ?_ ?_;· omega) | refine Ym ?_ | refine Yk ?_ | refine Yi ?_ | refine Y1k ?_ | refine stB (es) ?_ | refine stB (rfl) ?_)
           rfl
         . rw [if_neg (fun h=>by rcases h.2.2.2 with e | e;cases e;exact c e)]
           repeat (with_reducible first | refine stB rfl ?_ | refine Y15 ?_ | (refine Yb ?_ ?_;· first | omega | (simp only [ByteArray.size_append,ByteArray.size_extract,Y10,Y11,Y18];omega)) | (refine Yj ?_ ?_;· omega) | (refine Yt ?_ ?_;· omega) | (refine Yr ?_ ?_;· omega) | (refine Yo ?_ ?_;· omega) | (refine Y1p ?_ ?_;· omega) | (refine Y25 ?_ ?_;· omega) | refine Ym ?_ | refine Yk ?_ | refine Yi ?_ | refine Y1k ?_ | refine stB (es) ?_ | refine stB (rfl) ?_)
           rfl
       . rw [if_pos ⟨rfl,rfl,rfl,.inl rfl⟩];rfl
     . rw [if_neg (fun h=>b h.2.2.1)]
       rw [Bool.not_eq_true] at b
       rw [b];rfl
   . rw [if_neg (fun h=>a h.2.1)]
     rw [Bool.not_eq_true] at a
     rw [a];rfl
theorem Y13w (s :ByteArray) (h:¬ s.size< 8):((s.extract 6 8).toList==(ByteArray.mk #[0,0]).toList)=decide (N2 s 6=0):=by
 have hz:(s.extract 6 8).size=2:=by rw [ByteArray.size_extract];omega
 have e:=Yiv s 6 (by omega)
 rw [Y80,<- e]
 generalize s.extract 6 8=t at*
 have hl:=Y4v t
 have hr:=Yae t
 rw [Bool.eq_iff_iff,decide_eq_true_iff,decide_eq_true_iff]
 unfold N2
 rw [bt_get,bt_get]
 constructor
 . rintro rfl;rfl
 . intro h
   apply Yd2
   rw [show Y12 (ByteArray.mk #[0,0])=[0,0] from rfl]
   generalize Y12 t=L at*
   rw [hz] at hl
   match L,hl with
   | [a,b],_=>
     have r1:=hr a (by simp);have r2:=hr b (by simp)
     simp only [List.getD_cons_zero,List.getD_cons_succ] at h
     rw [show a=0 by omega,show b=0 by omega]
theorem Yl8 {N :Nat} (hN:1000<=N) (proto:Int) (s:ByteArray) (src dst:Int) (hs:s.size<=512):Jai N proto s src dst=some (Y8k proto s src dst):=by
 have hb:=Y1w s 13
 unfold Jai Jcn Jco Jac Jad Y8k
 by_cases e:proto=6
 . subst e
   rw [if_pos rfl]
   by_cases c1:s.size< 20
   . rw [if_pos (show s.size< 20\/bt s 12≠80 from .inl c1),<- Y7j 6 s src dst false ⟨0,0,0,0,0,0,ByteArray.empty⟩,<- Yd6 hN _ _ _ _ _ _ _ hs]
     refine Yr rfl (stB (x:=(⟨0,0,0,0,0,0,ByteArray.empty⟩,false)) ?_ rfl)
     repeat (with_reducible first | refine stB rfl ?_ | refine Y15 ?_ | (refine Yb ?_ ?_;· first | omega | (simp only [ByteArray.size_append,ByteArray.size_extract,Y10,Y11,Y18];omega)) | (refine Yj ?_ ?_;· omega) | (refine Yt ?_ ?_;· omega) | (refine Yr ?_ ?_;· omega) | (refine Yo ?_ ?_;· omega) | (refine Y1p ?_ ?_;· omega) | (refine Y25 ?_ ?_;· omega) | refine Ym ?_ | refine Yk ?_ | refine Yi ?_ | refine Y1k ?_)
     rfl
   . by_cases c2:bt s 12=80
     . rw [if_neg (show ¬ (s.size< 20\/bt s 12≠80) by omega),<- Yd6 hN _ _ _ _ _ _ _ hs]
       refine Yr rfl (stB (x:=(⟨6,N2 s 0,N2 s 2,N4 s 4,N4 s 8,bt s 13,s.extract 20 s.size⟩,true)) ?_ rfl)
       rw [show (bt s 12 != 80)=false by rw [c2];rfl]
       repeat (with_reducible first | refine stB rfl ?_ | refine Y15 ?_ | (refine Yb ?_ ?_;· first | omega | (simp only [ByteArray.size_append,ByteArray.size_extract,Y10,Y11,Y18];omega)) | (refine Yj ?_ ?_;· omega) | (refine Yt ?_ ?_;· omega) | (refine Yr ?_ ?_;· omega) | (refine Yo ?_ ?_;· omega) | (refine Y1p ?_ ?_;· omega) | (refine Y25 ?_ ?_;· omega) | refine Ym ?_ | refine Yk ?_ | refine Yi ?_ | refine Y1k ?_ | refine stB (Y6b hN s 0 2 rfl (by omega)) ?_ | refine stB (Y6b hN s 2 4 rfl (by omega)) ?_ | refine stB (Y8x hN s 4 8 rfl (by omega)) ?_ | refine stB (Y8x hN s 8 12 rfl (by omega)) ?_)
       rw [w64 (by omega) (by omega)]
     . rw [if_pos (show s.size< 20\/bt s 12≠80 from .inr c2),<- Y7j 6 s src dst false ⟨0,0,0,0,0,0,ByteArray.empty⟩,<- Yd6 hN _ _ _ _ _ _ _ hs]
       refine Yr rfl (stB (x:=(⟨0,0,0,0,0,0,ByteArray.empty⟩,false)) ?_ rfl)
       rw [show (bt s 12 != 80)=true by rw [bne_iff_ne];exact c2]
       repeat (with_reducible first | refine stB rfl ?_ | refine Y15 ?_ | (refine Yb ?_ ?_;· first | omega | (simp only [ByteArray.size_append,ByteArray.size_extract,Y10,Y11,Y18];omega)) | (refine Yj ?_ ?_;· omega) | (refine Yt ?_ ?_;· omega) | (refine Yr ?_ ?_;· omega) | (refine Yo ?_ ?_;· omega) | (refine Y1p ?_ ?_;· omega) | (refine Y25 ?_ ?_;· omega) | refine Ym ?_ | refine Yk ?_ | refine Yi ?_ | refine Y1k ?_)
       rfl
 . rw [if_neg e]
   refine Yo e ?_
   by_cases e2:proto=17
   . subst e2
     rw [if_pos rfl]
     refine Yr rfl ?_
     by_cases c1:s.size< 8
     . rw [if_pos (show s.size< 8\/N2 s 4≠s.size from .inl c1),<- Y7j 17 s src dst false ⟨0,0,0,0,0,0,ByteArray.empty⟩,<- Yd6 hN _ _ _ _ _ _ _ hs]
       refine stB (x:=(⟨0,0,0,0,0,0,ByteArray.empty⟩,false)) ?_ rfl
       repeat (with_reducible first | refine stB rfl ?_ | refine Y15 ?_ | (refine Yb ?_ ?_;· first | omega | (simp only [ByteArray.size_append,ByteArray.size_extract,Y10,Y11,Y18];omega)) | (refine Yj ?_ ?_;· omega) | (refine Yt ?_ ?_;· omega) | (refine Yr ?_ ?_;· omega) | (refine Yo ?_ ?_;· omega) | (refine Y1p ?_ ?_;· omega) | (refine Y25 ?_ ?_;· omega) | refine Ym ?_ | refine Yk ?_ | refine Yi ?_ | refine Y1k ?_)
       rfl
     . by_cases c2:N2 s 4=s.size
       . rw [if_neg (show ¬ (s.size< 8\/N2 s 4≠s.size) by omega),<- Yd6 hN _ _ _ _ _ _ _ hs]
         refine stB (x:=(⟨17,N2 s 0,N2 s 2,0,0,0,s.extract 8 s.size⟩,true)) ?_ ?_
         . repeat (with_reducible first | refine stB rfl ?_ | refine Y15 ?_ | (refine Yb ?_ ?_;· first | omega | (simp only [ByteArray.size_append,ByteArray.size_extract,Y10,Y11,Y18];omega)) | (refine Yj ?_ ?_;· omega) | (refine Yt ?_ ?_;· omega) | (refine Yr ?_ ?_;· omega) | (refine Yo ?_ ?_;· omega) | (refine Y1p ?_ ?_;· omega) | (refine Y25 ?_ ?_;· omega) | refine Ym ?_ | refine Yk ?_ | refine Yi ?_ | refine Y1k ?_ | refine stB (Y6b hN s 4 6 rfl (by omega)) ?_ | refine stB (Y6b hN s 0 2 rfl (by omega)) ?_ | refine stB (Y6b hN s 2 4 rfl (by omega)) ?_)
           rfl
         . repeat (with_reducible first | refine stB rfl ?_ | refine Y15 ?_ | (refine Yb ?_ ?_;· first | omega | (simp only [ByteArray.size_append,ByteArray.size_extract,Y10,Y11,Y18];omega)) | (refine Yj ?_ ?_;· omega) | (refine Yt ?_ ?_;· omega) | (refine Yr ?_ ?_;· omega) | (refine Yo ?_ ?_;· omega) | (refine Y1p ?_ ?_;· omega) | (refine Y25 ?_ ?_;· omega) | refine Ym ?_ | refine Yk ?_ | refine Yi ?_ | refine Y1k ?_)
           rw [Y13w s c1]
       . rw [if_pos (show s.size< 8\/N2 s 4≠s.size from .inr c2),<- Y7j 17 s src dst false ⟨0,0,0,0,0,0,ByteArray.empty⟩,<- Yd6 hN _ _ _ _ _ _ _ hs]
         refine stB (x:=(⟨0,0,0,0,0,0,ByteArray.empty⟩,false)) ?_ rfl
         repeat (with_reducible first | refine stB rfl ?_ | refine Y15 ?_ | (refine Yb ?_ ?_;· first | omega | (simp only [ByteArray.size_append,ByteArray.size_extract,Y10,Y11,Y18];omega)) | (refine Yj ?_ ?_;· omega) | (refine Yt ?_ ?_;· omega) | (refine Yr ?_ ?_;· omega) | (refine Yo ?_ ?_;· omega) | (refine Y1p ?_ ?_;· omega) | (refine Y25 ?_ ?_;· omega) | refine Ym ?_ | refine Yk ?_ | refine Yi ?_ | refine Y1k ?_ | refine stB (Y6b hN s 4 6 rfl (by omega)) ?_)
         rfl
   . rw [if_neg e2,<- Y7j proto s src dst false ⟨0,0,0,0,0,0,ByteArray.empty⟩,<- Yd6 hN _ _ _ _ _ _ _ hs]
     exact Yo e2 rfl
def Y47 (f :Y9):Bool:=decide ((0<=f.Src/\f.Src< 4294967296)/\(0<=f.Dst/\f.Dst< 4294967296)/\(f.Proto=6\/f.Proto=17)/\(0<=f.Sport/\f.Sport< 65536)/\(0<=f.Dport/\f.Dport< 65536))
theorem Yj0 (N :Nat) (p:Int):J6w N p=some (decide (p=6\/p=17)):=by
 unfold J6w Ja6
 simp only [Y8i]
 congr 1
 rw [Bool.eq_iff_iff]
 simp only [Ykc,decide_eq_true_eq,decide_eq_false_iff_not,beq_iff_eq,beq_eq_false_iff_ne,bne_iff_ne,Bool.not_eq_true',Bool.not_eq_false',Bool.and_eq_true,Bool.false_eq_true,Bool.true_eq_false,reduceCtorEq,and_false,false_and,or_false,false_or,true_and,and_true,Bool.not_eq_eq_eq_not,Bool.not_true,Bool.not_false]
 all_goals omega
theorem Yj1 (N :Nat) (f:Y9):J5b N f=some (Y47 f):=by
 unfold J5b J3j
 simp only [Ygv,in16,Yj0,Option.bind_some,Y8i]
 congr 1
 rw [Bool.eq_iff_iff]
 unfold Y47
 simp only [Ykc,decide_eq_true_eq,decide_eq_false_iff_not,beq_iff_eq,beq_eq_false_iff_ne,bne_iff_ne,Bool.not_eq_true',Bool.not_eq_false',Bool.and_eq_true,Bool.false_eq_true,Bool.true_eq_false,reduceCtorEq,and_false,false_and,or_false,false_or,true_and,and_true,Bool.not_eq_eq_eq_not,Bool.not_true,Bool.not_false]
 all_goals omega
theorem Yrc (N :Nat) (f:Y9):Ja7 N f=some (Y47 f):=by
 unfold Ja7 J1s
 simp only [Yaf,Ygw,Option.bind_some,Y8i]
 congr 1
 rw [Bool.eq_iff_iff]
 unfold Y47
 simp only [Ykc,decide_eq_true_eq,decide_eq_false_iff_not,beq_iff_eq,beq_eq_false_iff_ne,bne_iff_ne,Bool.not_eq_true',Bool.not_eq_false',Bool.and_eq_true,Bool.false_eq_true,Bool.true_eq_false,reduceCtorEq,and_false,false_and,or_false,false_or,true_and,and_true,Bool.not_eq_eq_eq_not,Bool.not_true,Bool.not_false]
 all_goals omega
theorem Yzk {s :ByteArray} (h:(Y1b s).2.1=0):(Y1b s).1.Body.size<=492:=by
 unfold Y1b at h ⊢
 unfold Yey at h ⊢
 repeat' split at h
 all_goals (try (simp at h;done))
 rename_i c _ _ _ _ _
 rw [if_neg (by assumption),if_neg (by assumption),if_neg (by assumption),if_neg (by assumption),if_neg (by assumption),if_neg (by assumption)]
 simp only [ByteArray.size_extract]
 omega
abbrev Yvb:=Y9× Y13× Int
def noF (c :Int):Yvb:=(⟨0,0,0,0,0⟩,⟨0,0,0,0,0,0,ByteArray.empty⟩,c)
def ofF (s :ByteArray):Yvb:=
 if (Y1b s).2.1≠0 then noF (Y1b s).2.1
 else if ¬ ((Y1b s).1.Proto=6\/(Y1b s).1.Proto=17)\/(Y1b s).1.Dst≠167772161 then noF 3
 else if (Y8k (Y1b s).1.Proto (Y1b s).1.Body (Y1b s).1.Src (Y1b s).1.Dst).2≠0 then noF 1
 else (⟨(Y1b s).1.Src,(Y1b s).1.Dst,(Y1b s).1.Proto,(Y8k (Y1b s).1.Proto (Y1b s).1.Body (Y1b s).1.Src (Y1b s).1.Dst).1.Sport,(Y8k (Y1b s).1.Proto (Y1b s).1.Body (Y1b s).1.Src (Y1b s).1.Dst).1.Dport⟩,
   (Y8k (Y1b s).1.Proto (Y1b s).1.Body (Y1b s).1.Src (Y1b s).1.Dst).1,0)
theorem Yvc {N :Nat} (hN:1000<=N) (s:ByteArray):J2u N s=some (ofF s):=by
 unfold J2u Jaj ofF
 have h0:=Yzk (s:=s)
 refine stB (Yzg hN s) ?_
 generalize Y1b s=r at*
 obtain ⟨p,c,e⟩:=r
 dsimp only at*
 by_cases c0:c=0
 . have hz:=h0 c0
   rw [if_neg (not_not_intro c0),Yj0]
   by_cases hp:p.Proto=6\/p.Proto=17
   . rw [decide_eq_true hp]
     by_cases hd:p.Dst=167772161
     . rw [if_neg (by omega),show (p.Dst != 167772161)=false by rw [hd];rfl]
       by_cases he:(Y8k p.Proto p.Body p.Src p.Dst).2=0
       . rw [if_neg (not_not_intro he)]
         repeat (with_reducible first | refine stB rfl ?_ | refine Y15 ?_ | (refine Yb ?_ ?_;· first | omega | (simp only [ByteArray.size_append,ByteArray.size_extract,Y10,Y11,Y18];omega)) | (refine Yj ?_ ?_;· omega) | (refine Yt ?_ ?_;· omega) | (refine Yr ?_ ?_;· omega) | (refine Yo ?_ ?_;· omega) | (refine Y1p ?_ ?_;· omega) | (refine Y25 ?_ ?_;· omega) | refine Ym ?_ | refine Yk ?_ | refine Yi ?_ | refine Y1k ?_ | refine stB (Yl8 hN _ _ _ _ (by omega)) ?_)
         rfl
       . rw [if_pos he]
         repeat (with_reducible first | refine stB rfl ?_ | refine Y15 ?_ | (refine Yb ?_ ?_;· first | omega | (simp only [ByteArray.size_append,ByteArray.size_extract,Y10,Y11,Y18];omega)) | (refine Yj ?_ ?_;· omega) | (refine Yt ?_ ?_;· omega) | (refine Yr ?_ ?_;· omega) | (refine Yo ?_ ?_;· omega) | (refine Y1p ?_ ?_;· omega) | (refine Y25 ?_ ?_;· omega) | refine Ym ?_ | refine Yk ?_ | refine Yi ?_ | refine Y1k ?_ | refine stB (Yl8 hN _ _ _ _ (by omega)) ?_)
         rfl
     . rw [if_pos (.inr hd),show (p.Dst != 167772161)=true by rw [bne_iff_ne];exact hd]
       repeat (with_reducible first | refine stB rfl ?_ | refine Y15 ?_ | (refine Yb ?_ ?_;· first | omega | (simp only [ByteArray.size_append,ByteArray.size_extract,Y10,Y11,Y18];omega)) | (refine Yj ?_ ?_;· omega) | (refine Yt ?_ ?_;· omega) | (refine Yr ?_ ?_;· omega) | (refine Yo ?_ ?_;· omega) | (refine Y1p ?_ ?_;· omega) | (refine Y25 ?_ ?_;· omega) | refine Ym ?_ | refine Yk ?_ | refine Yi ?_ | refine Y1k ?_)
       rfl
   . rw [if_pos (.inl hp),decide_eq_false hp]
     repeat (with_reducible first | refine stB rfl ?_ | refine Y15 ?_ | (refine Yb ?_ ?_;· first | omega | (simp only [ByteArray.size_append,ByteArray.size_extract,Y10,Y11,Y18];omega)) | (refine Yj ?_ ?_;· omega) | (refine Yt ?_ ?_;· omega) | (refine Yr ?_ ?_;· omega) | (refine Yo ?_ ?_;· omega) | (refine Y1p ?_ ?_;· omega) | (refine Y25 ?_ ?_;· omega) | refine Ym ?_ | refine Yk ?_ | refine Yi ?_ | refine Y1k ?_)
     rfl
 . rw [if_pos c0]
   repeat (with_reducible first | refine stB rfl ?_ | refine Y15 ?_ | (refine Yb ?_ ?_;· first | omega | (simp only [ByteArray.size_append,ByteArray.size_extract,Y10,Y11,Y18];omega)) | (refine Yj ?_ ?_;· omega) | (refine Yt ?_ ?_;· omega) | (refine Yr ?_ ?_;· omega) | (refine Yo ?_ ?_;· omega) | (refine Y1p ?_ ?_;· omega) | (refine Y25 ?_ ?_;· omega) | refine Ym ?_ | refine Yk ?_ | refine Yi ?_ | refine Y1k ?_)
   rfl
def Y52 (f :Y9) (flags:Int) (body:ByteArray):Y13:=⟨f.Proto,f.Sport,f.Dport,0,0,flags,body⟩
def Yft (f :Y9) (flags:Int) (body:ByteArray):ByteArray:=Y46 ⟨f.Src,f.Dst,f.Proto,64,0,Y9c (Y52 f flags body) f.Src f.Dst⟩
def okP (f :Y9) (flags:Int) (body:ByteArray):Prop:=Y47 f=true/\Y5z (Y52 f flags body)=true
instance (f :Y9) (flags:Int) (body:ByteArray):Decidable (okP f flags body):=by unfold okP;infer_instance
theorem Yd7 {f :Y9} (h:Y47 f=true):(0<=f.Src/\f.Src< 4294967296)/\(0<=f.Dst/\f.Dst< 4294967296)/\(f.Proto=6\/f.Proto=17)/\(0<=f.Sport/\f.Sport< 65536)/\(0<=f.Dport/\f.Dport< 65536):=of_decide_eq_true h
theorem Yzl {f :Y9} (h:Y47 f=true):Y9b f.Src f.Dst=true:=by
 obtain ⟨a,b,_⟩:=Yd7 h
 unfold Y9b;rw [decide_eq_true a,decide_eq_true b];rfl
theorem Ypz {f :Y9} {flags:Int} {body:ByteArray} (h:okP f flags body):Y7a ⟨f.Src,f.Dst,f.Proto,64,0,Y9c (Y52 f flags body) f.Src f.Dst⟩=true:=by
 obtain ⟨a,b,c,d,e⟩:=Yd7 h.1
 obtain ⟨_,_,hb,_⟩:=Y9o h.2
 have hz:=Ypx (Y52 f flags body) (Y4y (Y52 f flags body) f.Src f.Dst)
 unfold Y52 at hb
 rw [Ypw]
 refine ⟨a,b,?_,(⟨by decide,by decide⟩:(0:Int)<=64/\(64:Int)< 256),(⟨by decide,by decide⟩:(0:Int)<=0/\(0:Int)< 65536),?_⟩
 . dsimp only;omega
 . show (Y2c _ _).size<=492
   refine Nat.le_trans hz ?_
   show 20+body.size<=492
   dsimp only at hb
   omega
theorem Yrd {N :Nat} (hN:1000<=N) (f:Y9) (flags:Int) (body:ByteArray):Jab N f flags body=some (if okP f flags body then (Yft f flags body,0) else (ByteArray.empty,400)):=by
 unfold Jab Jaa
 rw [Yrc,show (⟨f.Proto,f.Sport,f.Dport,0,0,flags,body⟩:Y13)=Y52 f flags body from rfl,Yiy,Option.bind_some]
 by_cases h2:Y47 f=true
 . rw [h2]
   by_cases h1:Y5z (Y52 f flags body)=true
   . have hq:=Yzj hN (Y52 f flags body) f.Src f.Dst
     rw [if_pos ⟨h1,Yzl h2⟩] at hq
     have hp:=Y13t hN ⟨f.Src,f.Dst,f.Proto,64,0,Y9c (Y52 f flags body) f.Src f.Dst⟩
     rw [if_pos (Ypz ⟨h2,h1⟩)] at hp
     rw [if_pos ⟨h2,h1⟩,h1]
     repeat (with_reducible first | refine stB rfl ?_ | refine Y15 ?_ | (refine Yb ?_ ?_;· first | omega | (simp only [ByteArray.size_append,ByteArray.size_extract,Y10,Y11,Y18];omega)) | (refine Yj ?_ ?_;· omega) | (refine Yt ?_ ?_;· omega) | (refine Yr ?_ ?_;· omega) | (refine Yo ?_ ?_;· omega) | (refine Y1p ?_ ?_;· omega) | (refine Y25 ?_ ?_;· omega) | refine Ym ?_ | refine Yk ?_ | refine Yi ?_ | refine Y1k ?_ | refine stB (hq) ?_ | refine stB (hp) ?_)
     rfl
   . rw [if_neg (fun h=>h1 h.2)]
     rw [Bool.not_eq_true] at h1
     rw [h1]
     rfl
 . rw [if_neg (fun h=>h2 h.1)]
   rw [Bool.not_eq_true] at h2
   rw [h2]
   rfl
theorem Y84 (a b :List Int):mkS a++mkS b=mkS (a++b):=by
 apply Yd1
 simp [mkS,ByteArray.data_append]
theorem Y17q (a b :ByteArray) (i:Nat) (h:i< a.size):bt (a++b) i=bt a i:=by
 rw [bt_get,bt_get,Y4s]
 simp only [List.getD_eq_getElem?_getD]
 rw [List.getElem?_append_left (by rw [Y4v];exact h)]
def Y44 (p :GIp) (chk:Int):List Int:=
 [69,0,(20+(p.Body.size:Int)) / 256 % 256,(20+(p.Body.size:Int)) % 256,p.Id / 256 % 256,p.Id % 256,64,0,p.Ttl % 256,p.Proto % 256,chk / 256 % 256,chk % 256,
   p.Src / 16777216 % 256,p.Src / 65536 % 256,p.Src / 256 % 256,p.Src % 256,p.Dst / 16777216 % 256,p.Dst / 65536 % 256,p.Dst / 256 % 256,p.Dst % 256]
theorem Y13x (p :GIp) (chk:Int):Y3v p chk=mkS (Y44 p chk):=by
 unfold Y3v B1 B2 B4
 simp only [Y84,List.cons_append,List.nil_append]
 rfl
theorem Yg7 (p :GIp) (chk:Int):∀ x∈Y44 p chk,0<=x/\x<=255:=by
 intro x hx
 simp only [Y44,List.mem_cons,List.not_mem_nil,or_false] at hx
 omega
theorem Y8s (p :GIp) (chk:Int):Y12 (Y3v p chk)=Y44 p chk:=by
 rw [Y13x,Y81 _ (Yg7 _ _)]
theorem Yj2 (p :GIp):Y12 (Y46 p)=Y44 p (Y56 p)++Y12 p.Body:=by
 rw [Y46,Y4s,Y8s]
theorem Y85 (p :GIp) (i:Nat) (h:i< 20):bt (Y46 p) i=(Y44 p (Y56 p)).getD i 0:=by
 rw [Y46,Y17q _ _ _ (by rw [Y4d];exact h),bt_get,Y8s]
theorem Y13y (p :GIp):(Y46 p).extract 20 (Y46 p).size=p.Body:=by
 apply ByteArray.extract_append_eq_right
 . rw [Y4d]
 . rw [Yb9,Y4d]
theorem Y13z (p :GIp):(Y46 p).extract 0 20=Y3v p (Y56 p):=by
 apply ByteArray.extract_append_eq_left
 rw [Y4d]
theorem Yre (r c :Int) (h0:0< r) (hc:c=65535 - Y3e r):Y3e (r+c)=65535:=by
 subst hc
 unfold Y3e
 rw [if_neg (show ¬ r=0 by omega)]
 rw [if_neg (by omega)]
 omega
theorem Y140 (p :GIp) (chk:Int):Y3g (Y44 p chk)=Y3g (Y44 p 0)+(chk / 256 % 256*256+chk % 256):=by
 simp only [Y44,Y3g]
 omega
theorem Yq0 (p :GIp):0< Y3g (Y44 p 0):=by
 have:=Yg7 p 0
 simp only [Y44,List.mem_cons,List.not_mem_nil,or_false,forall_eq_or_imp,forall_eq] at this
 simp only [Y44,Y3g]
 omega
theorem Y17r (p :GIp):Y4x (Y3v p (Y56 p))=65535:=by
 have hr:=Yv7 p
 unfold Y4x
 rw [Y8s,Y140,show Y56 p / 256 % 256*256+Y56 p % 256=Y56 p by omega]
 apply Yre _ _ (Yq0 _)
 unfold Y56 Y4x
 rw [Y8s]
theorem Yq1 (p :GIp) (i:Nat) (h:i+1< 20):N2 (Y46 p) i=(Y44 p (Y56 p)).getD i 0*256+(Y44 p (Y56 p)).getD (i+1) 0:=by
 unfold N2
 rw [Y85 _ i (by omega),Y85 _ (i+1) h]
theorem Yj3 (p :GIp) (i:Nat) (h:i+3< 20):N4 (Y46 p) i=
   (((Y44 p (Y56 p)).getD i 0*256+(Y44 p (Y56 p)).getD (i+1) 0)*256+(Y44 p (Y56 p)).getD (i+2) 0)*256+(Y44 p (Y56 p)).getD (i+3) 0:=by
 unfold N4
 rw [Y85 _ i (by omega),Y85 _ (i+1) (by omega),Y85 _ (i+2) (by omega),Y85 _ (i+3) h]
theorem Y17s :Y2f .i64 16384 49151=0:=by decide
theorem Yse {p :GIp} (h:Y7a p=true):Y1b (Y46 p)=(p,0,0):=by
 obtain ⟨h1,h2,h3,h4,h5,hb⟩:=Y9m h
 have b0:bt (Y46 p) 0=69:=Y85 _ 0 (by decide)
 have b8:bt (Y46 p) 8=p.Ttl % 256:=Y85 _ 8 (by decide)
 have b9:bt (Y46 p) 9=p.Proto % 256:=Y85 _ 9 (by decide)
 have n2:N2 (Y46 p) 2=(20+(p.Body.size:Int)) / 256 % 256*256+(20+(p.Body.size:Int)) % 256:=Yq1 _ 2 (by decide)
 have n4:N2 (Y46 p) 4=p.Id / 256 % 256*256+p.Id % 256:=Yq1 _ 4 (by decide)
 have n6:N2 (Y46 p) 6=64*256+0:=Yq1 _ 6 (by decide)
 have n12:N4 (Y46 p) 12=((p.Src / 16777216 % 256*256+p.Src / 65536 % 256)*256+p.Src / 256 % 256)*256+p.Src % 256:=Yj3 _ 12 (by decide)
 have n16:N4 (Y46 p) 16=((p.Dst / 16777216 % 256*256+p.Dst / 65536 % 256)*256+p.Dst / 256 % 256)*256+p.Dst % 256:=Yj3 _ 16 (by decide)
 have hsz:=Yb9 p
 unfold Y1b
 rw [b0,if_neg (by omega),if_neg (by omega),if_neg (by rw [n2,hsz];omega),show (4*((69:Int) % 16)).toNat=20 from rfl,Y13z,Y17r,if_neg (by decide),if_neg (by decide),n6,show (64*256+0:Int)=16384 from rfl,Y17s,if_neg (by decide),Y13y,b8,b9,n4,n12,n16]
 refine Prod.ext ?_ rfl
 obtain ⟨a,b,c,d,e,g⟩:=p
 simp only [GIp.mk.injEq,and_true] at*
 omega
end Go.Proofs.YtpdcnikdoikldaaGreatDoor.Pu
namespace Go.Proofs.YtpdcnikdoikldaaGreatDoor.Pu
open Go Go.RowKit Go.Proofs.YtpdcnikdoikldaaGreatDoor.Sv Go.Proofs.YtpdcnikdoikldaaGreatDoor.Lf
attribute [local irreducible] J9 J8 Jc Jm J19 J13
def Q2 (x :Int):Int:=x / 256 % 256*256+x % 256
def Q4 (x :Int):Int:=x / 16777216 % 256*256+x / 65536 % 256+(x / 256 % 256*256+x % 256)
def Yvd (g :Y13) (chk:Int):List Int:=
 [g.Sport / 256 % 256,g.Sport % 256,g.Dport / 256 % 256,g.Dport % 256,g.Seq / 16777216 % 256,g.Seq / 65536 % 256,g.Seq / 256 % 256,g.Seq % 256,g.Ack / 16777216 % 256,g.Ack / 65536 % 256,g.Ack / 256 % 256,g.Ack % 256,80,g.Flags % 256,4,0,chk / 256 % 256,chk % 256,0,0]
def Yve (g :Y13) (chk:Int):List Int:=
 [g.Sport / 256 % 256,g.Sport % 256,g.Dport / 256 % 256,g.Dport % 256,(8+(g.Body.size:Int)) / 256 % 256,(8+(g.Body.size:Int)) % 256,chk / 256 % 256,chk % 256]
theorem Ygx (g :Y13) (chk:Int):Y12 (Y83 g chk)=Yvd g chk++Y12 g.Body:=by
 have e:Y83 g chk=mkS (Yvd g chk)++g.Body:=by
   unfold Y83 B1 B2 B4
   simp only [Y84,List.cons_append,List.nil_append]
   rfl
 rw [e,Y4s,Y81 _ (by
   intro x hx
   simp only [Yvd,List.mem_cons,List.not_mem_nil,or_false] at hx
   omega)]
theorem Ygy (g :Y13) (chk:Int):Y12 (Y8j g chk)=Yve g chk++Y12 g.Body:=by
 have e:Y8j g chk=mkS (Yve g chk)++g.Body:=by
   unfold Y8j B2
   simp only [Y84,List.cons_append,List.nil_append]
   rfl
 rw [e,Y4s,Y81 _ (by
   intro x hx
   simp only [Yve,List.mem_cons,List.not_mem_nil,or_false] at hx
   omega)]
theorem Y17t (src dst proto :Int) (n:Nat):Y12 (psL src dst proto n)=[src / 16777216 % 256,src / 65536 % 256,src / 256 % 256,src % 256,dst / 16777216 % 256,dst / 65536 % 256,dst / 256 % 256,dst % 256,proto / 256 % 256,proto % 256,(n:Int) / 256 % 256,(n:Int) % 256]:=by
 have e:psL src dst proto n=mkS [src / 16777216 % 256,src / 65536 % 256,src / 256 % 256,src % 256,dst / 16777216 % 256,dst / 65536 % 256,dst / 256 % 256,dst % 256,proto / 256 % 256,proto % 256,(n:Int) / 256 % 256,(n:Int) % 256]:=by
   unfold psL B2 B4
   simp only [Y84,List.cons_append,List.nil_append]
 rw [e,Y81 _ (by
   intro x hx
   simp only [List.mem_cons,List.not_mem_nil,or_false] at hx
   omega)]
theorem Y17u (src dst proto :Int) (s:ByteArray):Y57 src dst proto s=Y3e (Q4 src+Q4 dst+Q2 proto+Q2 s.size+Y3g (Y12 s)):=by
 unfold Y57 Y4x
 rw [Y4s,Y17t]
 congr 1
 simp only [List.cons_append,List.nil_append,Y3g,Q4,Q2]
 omega
theorem Y141 (g :Y13) (chk:Int):Y3g (Y12 (Y2c g chk))=Y3g (Y12 (Y2c g 0))+Q2 chk:=by
 unfold Y2c
 by_cases e:g.Proto=6
 . rw [if_pos e,if_pos e,Ygx,Ygx]
   simp only [Yvd,List.cons_append,List.nil_append,Y3g,Q2]
   omega
 . rw [if_neg e,if_neg e,Ygy,Ygy]
   simp only [Yve,List.cons_append,List.nil_append,Y3g,Q2]
   omega
theorem Y1ft {x :Int} (h0:0<=x) (h1:x< 65536):Q2 x=x:=by unfold Q2;omega
theorem Y1e3 (x :Int):0<=Q2 x:=by unfold Q2;omega
theorem Yzm (x :Int):0<=Q4 x:=by unfold Q4;omega
def Ykd (g :Y13) (src dst:Int):Int:=
 Q4 src+Q4 dst+Q2 g.Proto+Q2 (Y2c g 0).size+Y3g (Y12 (Y2c g 0))
theorem Y142 (g :Y13) (src dst:Int) (hp:g.Proto=6\/g.Proto=17):0< Ykd g src dst:=by
 unfold Ykd
 have a:=Yzm src;have b:=Yzm dst;have c:=Y1e3 (Y2c g 0).size
 have d:=(Yl5 (Y2c g 0)).1
 have e:0< Q2 g.Proto:=by rcases hp with h | h <;> rw [h] <;> decide
 omega
theorem Yq2 (g :Y13) (chk src dst:Int) (h0:0<=chk) (h1:chk< 65536):
   Y57 src dst g.Proto (Y2c g chk)=Y3e (Ykd g src dst+chk):=by
 rw [Y17u,Y141,Y1ft h0 h1,Yd4]
 unfold Ykd
 rw [Yd4]
 congr 1
 omega
theorem Yl9 (g :Y13) (src dst:Int):0<=Y4y g src dst/\Y4y g src dst< 65536/\(g.Proto=17->Y4y g src dst≠0):=by
 have h:=Yiz src dst g.Proto (Y2c g 0)
 unfold Y4y
 by_cases c:g.Proto=17/\65535 - Y57 src dst g.Proto (Y2c g 0)=0
 . rw [if_pos c];omega
 . rw [if_neg c];omega
theorem Y17v (g :Y13) (src dst:Int) (hp:g.Proto=6\/g.Proto=17):Y3e (Ykd g src dst+Y4y g src dst)=65535:=by
 have hpos:=Y142 g src dst hp
 have h0:=Yq2 g 0 src dst (by decide) (by decide)
 rw [Int.add_zero] at h0
 unfold Y4y
 rw [h0]
 generalize Ykd g src dst=R at*
 unfold Y3e
 rw [if_neg (show ¬ R=0 by omega)]
 by_cases c:g.Proto=17/\65535 - ((R - 1) % 65535+1)=0
 . rw [if_pos c,if_neg (by omega)];omega
 . rw [if_neg c,if_neg (by omega)];omega
theorem Y143 {g :Y13} (src dst:Int) (hp:g.Proto=6\/g.Proto=17):Y57 src dst g.Proto (Y9c g src dst)=65535:=by
 obtain ⟨c0,c1,_⟩:=Yl9 g src dst
 exact (Yq2 g _ src dst c0 c1).trans (Y17v _ _ _ hp)
theorem Yq3 (N :Nat) (a b:Int):J1h N a b=some (decide (0<=a/\a< b)):=by
 unfold J1h Ja5
 rw [Y8i]
 congr 1
 by_cases h:a>=0 <;> by_cases k:a< b <;> simp [h,k] <;> omega
def Y22 (a :Int):Int× Int× Int× Bool:=
 if 167837696<=a/\a< 167837698 then (0,0,a - 167837696,true)
 else if 167903232<=a/\a< 167903235 then (1,a - 167903232,0,true)
 else if 167968768<=a/\a< 167969536/\(a - 167968768) % 256< 4 then (2,(a - 167968768) / 256,(a - 167968768) % 256,true)
 else (0,0,0,false)
def RA (a :Int):Prop:= -4611686018427387904<=a/\a<=4611686018427387904
theorem Yd8 (N :Nat) (a:Int) (h:RA a):J2x N a=some (Y22 a):=by
 unfold RA at h
 unfold J2x Jak Y22
 simp only [Yq3,Option.bind_some]
 rw [w64 (n:=a - 167837696) (by omega) (by omega),w64 (n:=a - 167903232) (by omega) (by omega),w64 (n:=a - 167968768) (by omega) (by omega)]
 by_cases c1:167837696<=a/\a< 167837698
 . rw [if_pos c1,decide_eq_true (show 0<=a - 167837696/\a - 167837696< 2 by omega)];rfl
 rw [if_neg c1,decide_eq_false (show ¬ (0<=a - 167837696/\a - 167837696< 2) by omega)]
 by_cases c2:167903232<=a/\a< 167903235
 . rw [if_pos c2,decide_eq_true (show 0<=a - 167903232/\a - 167903232< 3 by omega)];rfl
 rw [if_neg c2,decide_eq_false (show ¬ (0<=a - 167903232/\a - 167903232< 3) by omega)]
 by_cases c3:0<=a - 167968768/\a - 167968768< 768
 . rw [decide_eq_true c3,Int.tmod_eq_emod_of_nonneg c3.1,Int.tdiv_eq_ediv_of_nonneg c3.1,w64 (by omega) (by omega)]
   by_cases c4:(a - 167968768) % 256< 4
   . rw [if_pos (by omega)]
     refine Yk (Yk (Ym (Y15 ?_)))
     rw [decide_eq_true c4];rfl
   . rw [if_neg (by omega)]
     refine Yk (Yk (Ym (Y15 ?_)))
     rw [decide_eq_false c4];rfl
 . rw [decide_eq_false c3,if_neg (by omega)];rfl
def Y6j (role site id :Int):Int× Int:=
 if role=0/\site=0/\0<=id/\id< 2 then (167837696+id,0)
 else if role=1/\id=0/\0<=site/\site< 3 then (167903232+site,0)
 else if role=2/\0<=site/\site< 3/\0<=id/\id< 4 then (167968768+256*site+id,0)
 else (0,500)
theorem Y30 (N :Nat) (role site id:Int):Ji N role site id=some (Y6j role site id):=by
 unfold Ji J6v J6u J6t Y6j
 simp only [Yq3,Option.bind_some,Y7z]
 by_cases c1:role=0/\site=0/\0<=id/\id< 2
 . rw [if_pos c1,decide_eq_true c1.2.2]
   refine Yr c1.1 (Yr c1.2.1 (Ym ?_))
   rw [w64 (by omega) (by omega)]
 rw [if_neg c1]
 by_cases c2:role=1/\id=0/\0<=site/\site< 3
 . rw [if_pos c2,decide_eq_true c2.2.2]
   refine Yo (by omega) (Yk (Yr c2.1 (Ym ?_)))
   rw [show (id==0)=true by rw [c2.2.1];rfl,w64 (by omega) (by omega)]
   rfl
 rw [if_neg c2]
 by_cases c3:role=2/\0<=site/\site< 3/\0<=id/\id< 4
 . rw [if_pos c3,decide_eq_true (show 0<=site/\site< 3 by omega),decide_eq_true (show 0<=id/\id< 4 by omega)]
   refine Yo (by omega) (Yk (Yo (by omega) (Yk (Yr c3.1 (Ym (Ym ?_))))))
   rw [w64 (n:=256*site) (by omega) (by omega),w64 (n:=167968768+256*site) (by omega) (by omega),w64 (by omega) (by omega)]
 rw [if_neg c3]
 by_cases r0:role=0
 . refine Yr r0 ?_
   by_cases s0:site=0
   . rw [decide_eq_false (show ¬ (0<=id/\id< 2) by omega)]
     refine Yr s0 (Yk (Yo (by omega) (Yk (Yo (by omega) rfl))))
   . refine Yo s0 (Yk (Yo (by omega) (Yk (Yo (by omega) rfl))))
 . refine Yo r0 (Yk ?_)
   by_cases r1:role=1
   . refine Yr r1 ?_
     by_cases s1:0<=site/\site< 3
     . rw [decide_eq_true s1,show (id==0)=false by rw [beq_eq_false_iff_ne];omega]
       refine Ym (Yk (Yo (by omega) rfl))
     . rw [decide_eq_false s1]
       refine Yk (Yk (Yo (by omega) rfl))
   . refine Yo r1 (Yk ?_)
     by_cases r2:role=2
     . refine Yr r2 ?_
       by_cases s1:0<=site/\site< 3
       . rw [decide_eq_true s1,decide_eq_false (show ¬ (0<=id/\id< 4) by omega)]
         rfl
       . rw [decide_eq_false s1]
         rfl
     . exact Yo r2 rfl
def Y3w (a :Int):Prop:=167837696<=a/\a< 167837698\/167903232<=a/\a< 167903235\/167968768<=a/\a< 167969536/\(a - 167968768) % 256< 4
instance (a :Int):Decidable (Y3w a):=by unfold Y3w;infer_instance
theorem Y5t {a :Int} (h:Y3w a):0<=a/\a< 4294967296:=by unfold Y3w at h;omega
theorem Y17w (a :Int):(Y22 a).2.2.2=decide (Y3w a):=by
 unfold Y22
 by_cases c1:167837696<=a/\a< 167837698
 . rw [if_pos c1,decide_eq_true (show Y3w a from .inl c1)]
 by_cases c2:167903232<=a/\a< 167903235
 . rw [if_neg c1,if_pos c2,decide_eq_true (show Y3w a from .inr (.inl c2))]
 by_cases c3:167968768<=a/\a< 167969536/\(a - 167968768) % 256< 4
 . rw [if_neg c1,if_neg c2,if_pos c3,decide_eq_true (show Y3w a from .inr (.inr c3))]
 . rw [if_neg c1,if_neg c2,if_neg c3,decide_eq_false (show ¬ Y3w a from fun h=>h.elim c1 fun h=>h.elim c2 c3)]
def Y3h (o :Yv):Bool:=
 decide (Y3w o.Src/\Y3w o.Dst/\1<=o.Tier/\o.Tier<=4/\(0<=o.Marker/\o.Marker< 256)/\(0<=o.Origin/\o.Origin< 256)/\o.Body.size<=512)
theorem Y5k {o :Yv} (h:Y3h o=true):Y3w o.Src/\Y3w o.Dst/\1<=o.Tier/\o.Tier<=4/\(0<=o.Marker/\o.Marker< 256)/\(0<=o.Origin/\o.Origin< 256)/\o.Body.size<=512:=of_decide_eq_true h
theorem Ysf (N :Nat) (a:Int) (h:RA a):J71 N a=some (decide (Y3w a)):=by
 unfold J71
 exact stB (Yd8 N a h) (by rw [Y17w])
theorem Y17x (N :Nat) (o:Yv) (hs:RA o.Src) (hd:RA o.Dst):Jal N o=some (Y3h o):=by
 unfold Jal J1t
 rw [Ysf N _ hs,Ysf N _ hd]
 simp only [in8,Option.bind_some,Y8i]
 congr 1
 rw [Bool.eq_iff_iff]
 unfold Y3h
 simp only [Ykc,decide_eq_true_eq,decide_eq_false_iff_not,beq_iff_eq,beq_eq_false_iff_ne,bne_iff_ne,Bool.not_eq_true',Bool.not_eq_false',Bool.and_eq_true,Bool.false_eq_true,Bool.true_eq_false,reduceCtorEq,and_false,false_and,or_false,false_or,true_and,and_true,Bool.not_eq_eq_eq_not,Bool.not_true,Bool.not_false]
 generalize Y3w o.Src=A
 generalize Y3w o.Dst=B
 by_cases a:A <;> by_cases b:B <;> simp only [a,b,true_and,false_and,and_false,true_iff,false_iff,not_true,not_false_iff,or_false]
 all_goals omega
def inG (o :Yv):ByteArray:=B1 0++B1 o.Tier++B1 o.Marker++B1 o.Origin++B2 o.Body.size++B2 0++o.Body
def Yd9 (o :Yv):ByteArray:=B2 61440++B2 6080++B2 (16+o.Body.size)++B2 0++inG o
theorem Yq4 (o :Yv):(inG o).size=8+o.Body.size:=by
 simp only [inG,ByteArray.size_append,Y10,Y11]
theorem Yla (o :Yv):(Yd9 o).size=16+o.Body.size:=by
 simp only [Yd9,ByteArray.size_append,Y11,Yq4];omega
def ipG (o :Yv):GIp:=⟨o.Src,o.Dst,17,64,0,Yd9 o⟩
def Y17 (o :Yv):ByteArray:=Y46 (ipG o)
theorem Y6k (o :Yv):(Y17 o).size=36+o.Body.size:=by
 rw [Y17,Yb9]
 show 20+(Yd9 o).size=_
 rw [Yla];omega
theorem Ylb {o :Yv} (h:Y3h o=true) (h2:o.Body.size<=324):Y7a (ipG o)=true:=by
 obtain ⟨h0,h1,_⟩:=Y5k h
 have a:=Y5t h0;have b:=Y5t h1
 have c:=Yla o
 rw [Ypw]
 unfold ipG
 dsimp only
 omega
abbrev Y1fu:=ByteArray× Int
def Y75 (o :Yv):Y1fu:=if Y3h o=true then if 324< o.Body.size then (ByteArray.empty,601) else (Y17 o,0) else (ByteArray.empty,600)
theorem Yke {N :Nat} (hN:1000<=N) (o:Yv) (hs:RA o.Src) (hd:RA o.Dst):J2t N o=some (Y75 o):=by
 unfold J2t Y75
 refine stB (Y17x N o hs hd) ?_
 by_cases h:Y3h o=true
 . rw [if_pos h,h]
   have hp:=Y5k h
   refine Yi (Y15 ?_)
   rw [w64 (n:=36+(o.Body.size:Int)) (by omega) (by omega)]
   by_cases h2:324< o.Body.size
   . rw [if_pos h2]
     exact Yj (by omega) rfl
   . rw [if_neg h2]
     refine Yt (by omega) ?_
     have hput:=Y1e2 hN (ipG o)
     rw [if_pos (Ylb h (by omega))] at hput
     have sz:=Yq4 o
     unfold inG at sz
     unfold ipG Yd9 inG at hput
     have e16:(16+(o.Body.size:Int))=8+((B1 0++B1 o.Tier++B1 o.Marker++B1 o.Origin++B2 o.Body.size++B2 0++o.Body).size:Int):=by omega
     rw [e16] at hput
     repeat (with_reducible first | refine stB rfl ?_ | refine Y15 ?_ | (refine Yb ?_ ?_;· first | omega | (simp only [ByteArray.size_append,ByteArray.size_extract,Y10,Y11,Y18];omega)) | (refine Yj ?_ ?_;· omega) | (refine Yt ?_ ?_;· omega) | (refine Yr ?_ ?_;· omega) | (refine Yo ?_ ?_;· omega) | (refine Y1p ?_ ?_;· omega) | (refine Y25 ?_ ?_;· omega) | refine Ym ?_ | refine Yk ?_ | refine Yi ?_ | refine Y1k ?_ | refine stB (Yew hN _) ?_ | refine stB (Yiu hN _) ?_)
     rw [w64 (n:=8+((B1 0++B1 o.Tier++B1 o.Marker++B1 o.Origin++B2 o.Body.size++B2 0++o.Body).size:Int)) (by omega) (by omega)]
     refine stB hput ?_
     rw [<- e16]
     rfl
 . rw [if_neg h]
   rw [Bool.not_eq_true] at h
   rw [h];rfl
abbrev OutR:=Yv× Int
def Ygz :OutR:=(⟨0,0,0,0,0,ByteArray.empty⟩,600)
def Y4z (s :ByteArray):Yv:=⟨N4 s 12,N4 s 16,bt s 29,bt s 30,bt s 31,s.extract 36 s.size⟩
def Yp (s :ByteArray):OutR:=
 if s.size< 36 then Ygz
 else if Y3h (Y4z s)=true/\s.size<=360/\Y17 (Y4z s)=s then (Y4z s,0) else Ygz
theorem Ymh (s :ByteArray) (i:Nat):RA (N4 s i):=by
 have:=Ygu s i
 exact ⟨by omega,by omega⟩
theorem Y17y (s :ByteArray) (c:¬ s.size< 36):(if (Y75 (Y4z s)).2=0/\(Y75 (Y4z s)).1=s then (Y4z s,0) else Ygz)=Yp s:=by
 have hb:(Y4z s).Body.size=s.size - 36:=by unfold Y4z;dsimp only;rw [ByteArray.size_extract];omega
 unfold Yp
 rw [if_neg c]
 unfold Y75
 by_cases m:Y3h (Y4z s)=true
 . rw [if_pos m]
   by_cases z:324< (Y4z s).Body.size
   . rw [if_pos z,if_neg (fun h=>absurd h.1 (by decide)),if_neg (fun h=>by omega)]
   . rw [if_neg z]
     by_cases e:Y17 (Y4z s)=s
     . rw [if_pos ⟨rfl,e⟩,if_pos ⟨m,by omega,e⟩]
     . rw [if_neg (fun h=>e h.2),if_neg (fun h=>e h.2.2)]
 . rw [if_neg m,if_neg (fun h=>absurd h.1 (by decide)),if_neg (fun h=>m h.1)]
theorem Yq5 {N :Nat} (hN:1000<=N) (s:ByteArray):J2z N s=some (Yp s):=by
 unfold J2z Jam
 by_cases c:s.size< 36
 . unfold Yp
   rw [if_pos c]
   exact Yj (by omega) rfl
 have hg:(s.extract 28 s.size).size=s.size - 28:=by rw [ByteArray.size_extract];omega
 have e1:bt (s.extract 28 s.size) 1=bt s 29:=Y3o s 28 s.size 1 (by omega) (Nat.le_refl _)
 have e2:bt (s.extract 28 s.size) 2=bt s 30:=Y3o s 28 s.size 2 (by omega) (Nat.le_refl _)
 have e3:bt (s.extract 28 s.size) 3=bt s 31:=Y3o s 28 s.size 3 (by omega) (Nat.le_refl _)
 have e4:=Y1fr s 28 8 (by omega)
 have r1:=Y1w s 29;have r2:=Y1w s 30;have r3:=Y1w s 31
 have hp:J2t N ⟨N4 s 12,N4 s 16,bt s 29,bt s 30,bt s 31,s.extract (28+8) s.size⟩=some (Y75 (Y4z s)):=Yke hN (Y4z s) (Ymh s 12) (Ymh s 16)
 rw [<- Y17y s c]
 refine Yt (by omega) ?_
 simp only [Y7z]
 rw [e4,e1,e2,e3,w64 (n:=bt s 29) (by omega) (by omega),w64 (n:=bt s 30) (by omega) (by omega),w64 (n:=bt s 31) (by omega) (by omega)]
 by_cases q:(Y75 (Y4z s)).2=0
 . repeat (with_reducible first | refine stB rfl ?_ | refine Y15 ?_ | (refine Yb ?_ ?_;· first | omega | (simp only [ByteArray.size_append,ByteArray.size_extract,Y10,Y11,Y18];omega)) | (refine Yj ?_ ?_;· omega) | (refine Yt ?_ ?_;· omega) | (refine Yr ?_ ?_;· omega) | (refine Yo ?_ ?_;· omega) | (refine Y1p ?_ ?_;· omega) | (refine Y25 ?_ ?_;· omega) | refine Ym ?_ | refine Yk ?_ | refine Yi ?_ | refine Y1k ?_ | refine stB (Y8x hN s 12 16 rfl (by omega)) ?_ | refine stB (Y8x hN s 16 20 rfl (by omega)) ?_ | refine stB (hp) ?_)
   rw [Y80]
   by_cases e:(Y75 (Y4z s)).1=s
   . rw [if_pos ⟨q,e⟩,decide_eq_true e];rfl
   . rw [if_neg (fun h=>e h.2),decide_eq_false e];rfl
 . rw [if_neg (show ¬ ((Y75 (Y4z s)).2=0/\(Y75 (Y4z s)).1=s) from fun h=>q h.1)]
   repeat (with_reducible first | refine stB rfl ?_ | refine Y15 ?_ | (refine Yb ?_ ?_;· first | omega | (simp only [ByteArray.size_append,ByteArray.size_extract,Y10,Y11,Y18];omega)) | (refine Yj ?_ ?_;· omega) | (refine Yt ?_ ?_;· omega) | (refine Yr ?_ ?_;· omega) | (refine Yo ?_ ?_;· omega) | (refine Y1p ?_ ?_;· omega) | (refine Y25 ?_ ?_;· omega) | refine Ym ?_ | refine Yk ?_ | refine Yi ?_ | refine Y1k ?_ | refine stB (Y8x hN s 12 16 rfl (by omega)) ?_ | refine stB (Y8x hN s 16 20 rfl (by omega)) ?_ | refine stB (hp) ?_)
   rfl
theorem Ylc (o :Yv):Y12 (Yd9 o)=
   [240,0,23,192,(16+(o.Body.size:Int)) / 256 % 256,(16+(o.Body.size:Int)) % 256,0,0,0,o.Tier % 256,o.Marker % 256,o.Origin % 256,(o.Body.size:Int) / 256 % 256,(o.Body.size:Int) % 256,0,0]++Y12 o.Body:=by
 have e:Yd9 o=mkS [240,0,23,192,(16+(o.Body.size:Int)) / 256 % 256,(16+(o.Body.size:Int)) % 256,0,0,0,o.Tier % 256,o.Marker % 256,o.Origin % 256,(o.Body.size:Int) / 256 % 256,(o.Body.size:Int) % 256,0,0]++o.Body:=by
   unfold Yd9 inG B1 B2
   rw [<- ByteArray.append_assoc]
   simp only [Y84,List.cons_append,List.nil_append]
   rfl
 rw [e,Y4s,Y81 _ (by
   intro x hx
   simp only [List.mem_cons,List.not_mem_nil,or_false] at hx
   omega)]
theorem Yzn (o :Yv):(Y17 o).extract 36 (Y17 o).size=o.Body:=by
 apply Yd2
 have hz:=Y6k o
 have hl:(Y12 (Y17 o)).length=36+o.Body.size:=by rw [Y4v,hz]
 rw [Y8w,List.take_of_length_le (by rw [List.length_drop,hl,hz];omega)]
 unfold Y17
 rw [Yj2]
 show List.drop 36 (Y44 _ _++Y12 (Yd9 o))=_
 rw [Ylc]
 rfl
theorem Yh0 {o :Yv} (h:Y3h o=true) (z:o.Body.size<=324):Yp (Y17 o)=(o,0):=by
 obtain ⟨k1,k2,t1,t2,m1,o1,_⟩:=Y5k h
 have r1:=Y5t k1;have r2:=Y5t k2
 have hz:=Y6k o
 have n12:N4 (Y17 o) 12=o.Src:=by
   refine (Yj3 _ 12 (by decide)).trans ?_
   show ((o.Src / 16777216 % 256*256+o.Src / 65536 % 256)*256+o.Src / 256 % 256)*256+o.Src % 256=_
   omega
 have n16:N4 (Y17 o) 16=o.Dst:=by
   refine (Yj3 _ 16 (by decide)).trans ?_
   show ((o.Dst / 16777216 % 256*256+o.Dst / 65536 % 256)*256+o.Dst / 256 % 256)*256+o.Dst % 256=_
   omega
 have hL:Y12 (Y17 o)=Y44 (ipG o) (Y56 (ipG o))++([240,0,23,192,(16+(o.Body.size:Int)) / 256 % 256,(16+(o.Body.size:Int)) % 256,0,0,0,o.Tier % 256,o.Marker % 256,o.Origin % 256,(o.Body.size:Int) / 256 % 256,(o.Body.size:Int) % 256,0,0]++Y12 o.Body):=(Yj2 (ipG o)).trans (by rw [<- Ylc];rfl)
 have b29:bt (Y17 o) 29=o.Tier:=(Y3n hL 29).trans (show o.Tier % 256=o.Tier by omega)
 have b30:bt (Y17 o) 30=o.Marker:=(Y3n hL 30).trans (show o.Marker % 256=o.Marker by omega)
 have b31:bt (Y17 o) 31=o.Origin:=(Y3n hL 31).trans (show o.Origin % 256=o.Origin by omega)
 have ho:Y4z (Y17 o)=o:=by
   unfold Y4z
   rw [n12,n16,b29,b30,b31,Yzn]
 unfold Yp
 rw [ho,if_neg (by omega),if_pos ⟨h,by omega,rfl⟩]
def Yf1 (c :Int):Int:=if c=1 then 2 else if c=2 then 3 else 4
theorem Yda (N :Nat) (c:Int):J3v N c=some (Yf1 c):=by
 unfold J3v Yf1
 simp only [ceq]
 by_cases a:c=1
 . rw [if_pos a,if_pos a]
 . rw [if_neg a,if_neg a]
   by_cases b:c=2
   . rw [if_pos b,if_pos b]
   . rw [if_neg b,if_neg b]
end Go.Proofs.YtpdcnikdoikldaaGreatDoor.Pu
namespace Go.Proofs.YtpdcnikdoikldaaGreatDoor.Pu
open Go Go.RowKit Go.Proofs.YtpdcnikdoikldaaGreatDoor.Sv Go.Proofs.YtpdcnikdoikldaaGreatDoor.Lf
theorem Yq6 (a b :ByteArray) (n:Nat) (h:a.size=n):(a++b).extract n (a++b).size=b:=by
 rw [ByteArray.size_append,ByteArray.extract_append,ByteArray.extract_eq_empty_iff.2 (by omega),ByteArray.empty_append]
 simp [h]
theorem Y144 (g :Y13) (chk:Int):(Y83 g chk).extract 20 (Y83 g chk).size=g.Body:=Yq6 _ _ 20 (by simp only [ByteArray.size_append,Y10,Y11,Y18])
theorem Y145 (g :Y13) (chk:Int):(Y8j g chk).extract 8 (Y8j g chk).size=g.Body:=Yq6 _ _ 8 (by simp only [ByteArray.size_append,Y10,Y11,Y18])
theorem Y146 {g :Y13} (h:Y5z g=true) {src dst:Int} (he:Y9b src dst=true):Y8k g.Proto (Y9c g src dst) src dst=(g,0):=by
 obtain ⟨p1,p2,p3,p4⟩:=Y9o h
 have hp:=Ysd h
 have hsum:=Y143 (g:=g) src dst hp
 obtain ⟨c0,c1,c2⟩:=Yl9 g src dst
 unfold Y8k
 rcases p4 with ⟨e,q1,q2,q3⟩ | ⟨e,q1,q2,q3⟩
 . rw [if_pos e]
   have hs:Y9c g src dst=Y83 g (Y4y g src dst):=by unfold Y9c Y2c;rw [if_pos e]
   have hL:=Ygx g (Y4y g src dst)
   have hz:=Yez g (Y4y g src dst)
   have hd:=Y144 g (Y4y g src dst)
   rw [e] at hsum
   rw [hs] at hsum ⊢
   generalize Y83 g (Y4y g src dst)=t at*
   generalize Y4y g src dst=c at*
   have b12:bt t 12=80:=Y3n hL (i:=12)
   have b13:bt t 13=g.Flags % 256:=Y3n hL (i:=13)
   have n0:N2 t 0=g.Sport:=by unfold N2;rw [Y3n hL,Y3n hL];show g.Sport / 256 % 256*256+g.Sport % 256=_;omega
   have n2:N2 t 2=g.Dport:=by unfold N2;rw [Y3n hL,Y3n hL];show g.Dport / 256 % 256*256+g.Dport % 256=_;omega
   have n4:N4 t 4=g.Seq:=by unfold N4;rw [Y3n hL,Y3n hL,Y3n hL,Y3n hL];show ((g.Seq / 16777216 % 256*256+g.Seq / 65536 % 256)*256+g.Seq / 256 % 256)*256+g.Seq % 256=_;omega
   have n8:N4 t 8=g.Ack:=by unfold N4;rw [Y3n hL,Y3n hL,Y3n hL,Y3n hL];show ((g.Ack / 16777216 % 256*256+g.Ack / 65536 % 256)*256+g.Ack / 256 % 256)*256+g.Ack % 256=_;omega
   rw [if_neg (by omega),b13,n0,n2,n4,n8,hd,show g.Flags % 256=g.Flags by omega]
   have eg:(⟨6,g.Sport,g.Dport,g.Seq,g.Ack,g.Flags,g.Body⟩:Y13)=g:=by rw [<- e]
   unfold okS
   rw [eg,if_pos ⟨rfl,h,he,.inr hsum⟩]
 . rw [if_neg (by omega),if_pos e]
   have hs:Y9c g src dst=Y8j g (Y4y g src dst):=by unfold Y9c Y2c;rw [if_neg (by omega)]
   have hL:=Ygy g (Y4y g src dst)
   have hz:=Yf0 g (Y4y g src dst)
   have hd:=Y145 g (Y4y g src dst)
   rw [e] at hsum
   rw [hs] at hsum ⊢
   generalize Y8j g (Y4y g src dst)=t at*
   generalize Y4y g src dst=c at*
   have n0:N2 t 0=g.Sport:=by unfold N2;rw [Y3n hL,Y3n hL];show g.Sport / 256 % 256*256+g.Sport % 256=_;omega
   have n2:N2 t 2=g.Dport:=by unfold N2;rw [Y3n hL,Y3n hL];show g.Dport / 256 % 256*256+g.Dport % 256=_;omega
   have n4:N2 t 4=(t.size:Int):=by unfold N2;rw [Y3n hL,Y3n hL];show (8+(g.Body.size:Int)) / 256 % 256*256+(8+(g.Body.size:Int)) % 256=_;omega
   rw [if_neg (by omega),n0,n2,hd]
   have eg:(⟨17,g.Sport,g.Dport,0,0,0,g.Body⟩:Y13)=g:=by
     obtain ⟨a,b,c',d,e',f',g'⟩:=g
     simp only at*
     subst e q1 q2 q3
     rfl
   unfold okS
   rw [eg,if_pos ⟨rfl,h,he,.inr hsum⟩]
theorem Y17z {f :Y9} {flags:Int} {body:ByteArray} (h:okP f flags body) (hd:f.Dst=167772161):ofF (Yft f flags body)=(f,Y52 f flags body,0):=by
 have g:=Yse (Ypz h)
 have he:=Yzl h.1
 have gs:=Y146 h.2 he
 have hp:=(Yd7 h.1).2.2.1
 unfold ofF Yft
 rw [g]
 dsimp only
 rw [if_neg (fun h=>h rfl),if_neg (by rintro (q | q);exact q hp;exact q hd)]
 have e1:(Y52 f flags body).Proto=f.Proto:=rfl
 rw [e1] at gs
 rw [gs,if_neg (fun h=>h rfl)]
 obtain ⟨a,b,c,d,e⟩:=f
 rfl
theorem Yzo {f :Y9} {flags:Int} {body:ByteArray} (h:okP f flags body):(Yft f flags body).size<=40+body.size:=by
 unfold Yft Y9c Y2c
 rw [Yb9]
 dsimp only
 split
 . rw [Yez];unfold Y52;dsimp only;omega
 . rw [Yf0];unfold Y52;dsimp only;omega
end Go.Proofs.YtpdcnikdoikldaaGreatDoor.Pu
namespace Go.Proofs.YtpdcnikdoikldaaGreatDoor.Pu
open Go Go.RowKit Go.Proofs.YtpdcnikdoikldaaGreatDoor.Sv Go.Proofs.YtpdcnikdoikldaaGreatDoor.Lf
theorem Ydb (n :Int):IntKind.u32.wrap n=n % 4294967296:=by simp [IntKind.wrap,IntKind.bits,IntKind.signed]
theorem Yvf (a b :Nat) (ha:a< 4294967296) (hb:b< 4294967296):Y8b .u32 (a:Int) (b:Int)=((a ^^^ b:Nat):Int)/\a ^^^ b< 4294967296:=by
 have hx:(a ^^^ b)< 4294967296:=Nat.xor_lt_two_pow (n:=32) ha hb
 refine ⟨?_,hx⟩
 show IntKind.u32.wrap ((BitVec.ofInt 32 (a:Int) ^^^ BitVec.ofInt 32 (b:Int)).toNat:Int)=_
 rw [BitVec.toNat_xor,BitVec.ofInt_natCast,BitVec.ofInt_natCast,BitVec.toNat_ofNat,BitVec.toNat_ofNat,Nat.mod_eq_of_lt (show a< 2 ^ 32 from ha),Nat.mod_eq_of_lt (show b< 2 ^ 32 from hb),Ydb]
 omega
def X (s x :Nat):Nat:=x ^^^ (x >>> s)
theorem X_lt {s x :Nat} (h:x< 4294967296):X s x< 4294967296:=by
 unfold X
 refine Nat.xor_lt_two_pow (n:=32) h (Nat.lt_of_le_of_lt ?_ h)
 rw [Nat.shiftRight_eq_div_pow]
 exact Nat.div_le_self _ _
def Yh1 (k x :Nat):Nat:=X 16 (X 13 (X 16 ((k+2654435769) % 4294967296 ^^^ x)*2246822507 % 4294967296)*3266489909 % 4294967296)
theorem Yfu (k x :Nat):Yh1 k x< 4294967296:=X_lt (Nat.mod_lt _ (by decide))
theorem Y1fv (a :Nat) (s:Nat):((a:Int)).fdiv (2 ^ s)=((a >>> s:Nat):Int):=by
 rw [fd _ (Int.le_of_lt (Int.pow_pos (by decide))),Nat.shiftRight_eq_div_pow,Int.natCast_ediv]
 simp
theorem bX (s a :Nat) (h:a< 4294967296):Y8b .u32 (a:Int) ((a:Int).fdiv (2 ^ s))=((X s a:Nat):Int):=by
 rw [Y1fv,(Yvf a (a >>> s) h (Nat.lt_of_le_of_lt (by rw [Nat.shiftRight_eq_div_pow];exact Nat.div_le_self _ _) h)).1]
 rfl
theorem Yzp (N :Nat) (k x:Nat) (hk:k< 4294967296) (hx:x< 4294967296):J5a N (k:Int) (x:Int)=some ((Yh1 k x:Nat):Int):=by
 unfold J5a Yh1
 have h1:(k+2654435769) % 4294967296< 4294967296:=Nat.mod_lt _ (by decide)
 have w1:IntKind.u32.wrap ((k:Int)+2654435769)=(((k+2654435769) % 4294967296:Nat):Int):=by rw [Ydb];omega
 rw [w1,(Yvf _ x h1 hx).1]
 have hx1:=(Yvf _ x h1 hx).2
 generalize (k+2654435769) % 4294967296 ^^^ x=a at*
 simp only [Y7z]
 rw [bX 16 a hx1]
 have w2:IntKind.u32.wrap (((X 16 a:Nat):Int)*2246822507)=((X 16 a*2246822507 % 4294967296:Nat):Int):=by rw [Ydb];omega
 rw [w2,bX 13 _ (Nat.mod_lt _ (by decide))]
 have w3:∀ y:Nat,IntKind.u32.wrap ((y:Int)*3266489909)=((y*3266489909 % 4294967296:Nat):Int):=fun y=>by rw [Ydb];omega
 rw [w3,bX 16 _ (Nat.mod_lt _ (by decide))]
theorem Yzq (N :Nat) (k x:Nat) (hk:k< 4294967296) (hx:x< 4294967296):J5c N (k:Int) (x:Int)=some (((Yh1 k x:Nat):Int),0):=by
 have hm:=Yfu k x
 have wk:IntKind.u32.wrap (k:Int)=(k:Int):=by rw [Ydb];omega
 have wx:IntKind.u32.wrap (x:Int)=(x:Int):=by rw [Ydb];omega
 unfold J5c J7e
 rw [Ygv,Ygv,decide_eq_true (show 0<=(k:Int)/\(k:Int)< 4294967296 by omega),decide_eq_true (show 0<=(x:Int)/\(x:Int)< 4294967296 by omega),wk,wx]
 refine stB rfl (Yi (stB rfl (Yk (stB (Yzp N k x hk hx) ?_))))
 rw [w64 (by omega) (by omega)]
end Go.Proofs.YtpdcnikdoikldaaGreatDoor.Pu
