import Derived.Test.YtpdcnikdoikldaaGreatDoorP0
set_option linter.unusedVariables false
set_option linter.unusedSimpArgs false
namespace Go.Proofs.YtpdcnikdoikldaaGreatDoor.Pu
open Go Go.RowKit Go.Proofs.YtpdcnikdoikldaaGreatDoor.Sv Go.Proofs.YtpdcnikdoikldaaGreatDoor.Lf
attribute [local irreducible] Jb J7 Ja Jm J16 J2y
theorem Y9t {U :Type} (c:Bool) (x y:U):(bif c then some x else some y)=some (bif c then x else y):=by cases c <;> rfl
theorem Ytq {c p q :Bool}:(bif c then p else q)=true↔(c=true/\p=true)\/(c=false/\q=true):=by cases c <;> simp
def Yib (proto seq ack flags :Int):Prop:=(proto=6/\(0<=seq/\seq< 4294967296)/\(0<=ack/\ack< 4294967296)/\(0<=flags/\flags< 64))\/(proto=17/\seq=0/\ack=0/\flags=0)
instance (a b c d :Int):Decidable (Yib a b c d):=by unfold Yib;infer_instance
def Yg7 (g :Y20):Bool:=
 decide (((0<=g.Sport/\g.Sport< 65536)/\(0<=g.Dport/\g.Dport< 65536)/\(g.Body.size:Int)<=256)/\Yib g.Proto g.Seq g.Ack g.Flags)
theorem Yxu (N :Nat) (g:Y20):J9z N g=some (Yg7 g):=by
 unfold J9z J6r J4r J4s
 simp only [Yg6,in16,in6,Option.bind_some,Y9t]
 congr 1
 rw [Bool.eq_iff_iff]
 unfold Yg7 Yib
 simp only [Ytq,decide_eq_true_eq,decide_eq_false_iff_not,beq_iff_eq,beq_eq_false_iff_ne,bne_iff_ne,Bool.not_eq_true',Bool.not_eq_false',Bool.and_eq_true,Bool.false_eq_true,Bool.true_eq_false,reduceCtorEq,and_false,false_and,or_false,false_or,true_and,and_true,Bool.not_eq_eq_eq_not,Bool.not_true,Bool.not_false]
 omega
def mayE (src dst :Int):Bool:=decide (0<=src/\src< 4294967296)&&decide (0<=dst/\dst< 4294967296)
theorem Ytr (N :Nat) (src dst:Int):Ja1 N ⟨src,dst⟩=some (mayE src dst):=by
 unfold Ja1 Ja0
 simp only [Yg6,Option.bind_some,Yxs];rfl
def psL (src dst proto :Int) (n:Nat):ByteArray:=B4 src++B4 dst++B2 proto++B2 n
theorem Y11y (src dst proto :Int) (n:Nat):(psL src dst proto n).size=12:=by
 simp only [psL,ByteArray.size_append,Y19,Y1m]
def sumS (src dst proto :Int) (s:ByteArray):Int:=Y64 (psL src dst proto s.size++s)
theorem Yts {N :Nat} (hN:1000<=N) (src dst proto:Int) (s:ByteArray) (hs:s.size<=140737488351232) (hk:s.size+30<=N):Ja2 N ⟨src,dst⟩ proto s=some (sumS src dst proto s):=by
 have hz:=Y11y src dst proto s.size
 have hsum:=Yf5 hN (psL src dst proto s.size++s) (by rw [ByteArray.size_append,hz];omega) (by rw [ByteArray.size_append,hz];omega)
 unfold psL at hsum
 unfold Ja2
 repeat (with_reducible first | refine stB rfl ?_ | refine Y1a ?_ | (refine Yd ?_ ?_;· first | omega | (simp only [ByteArray.size_append,ByteArray.size_extract,Y15,Y19,Y1m];omega)) | (refine Ym ?_ ?_;· omega) | (refine Yu ?_ ?_;· omega) | (refine Ys ?_ ?_;· omega) | (refine Yo ?_ ?_;· omega) | (refine Y1z ?_ ?_;· omega) | (refine Y2h ?_ ?_;· omega) | refine Yq ?_ | refine Yn ?_ | refine Yj ?_ | refine Y1u ?_ | refine stB (Yi6 hN _) ?_ | refine stB (Yxo hN _) ?_ | refine stB (hsum) ?_)
 rfl
abbrev SegR:=Y20× Int
def Yce :SegR:=(⟨0,0,0,0,0,0,ByteArray.empty⟩,300)
def okS (proto :Int) (s:ByteArray) (src dst:Int) (is un:Bool) (g:Y20):SegR:=
 if is=true/\Yg7 g=true/\mayE src dst=true/\(un=true\/sumS src dst proto s=65535) then (g,0) else Yce
def Y9u (proto :Int) (s:ByteArray) (src dst:Int):SegR:=
 if proto=6 then
   if s.size< 20\/bt s 12≠80 then Yce
   else okS 6 s src dst true false ⟨6,N2 s 0,N2 s 2,N4 s 4,N4 s 8,bt s 13,s.extract 20 s.size⟩
 else if proto=17 then
   if s.size< 8\/N2 s 4≠s.size then Yce
   else okS 17 s src dst true (decide (N2 s 6=0)) ⟨17,N2 s 0,N2 s 2,0,0,0,s.extract 8 s.size⟩
 else Yce
theorem Y7a (proto :Int) (s:ByteArray) (src dst:Int) (un:Bool) (g:Y20):okS proto s src dst false un g=Yce:=by
 unfold okS;rw [if_neg (fun h=>by cases h.1)]
theorem Ycf {N :Nat} (hN:1000<=N) (proto:Int) (s:ByteArray) (src dst:Int) (is un:Bool) (g:Y20) (hs:s.size<=512):
   J3k N proto s 0 0 0 0 0 0 ByteArray.empty src dst g.Proto g.Sport g.Dport g.Seq g.Ack g.Flags g.Body is un=some (okS proto s src dst is un g):=by
 unfold J3k J3j
 cases is
 . rw [Y7a];rfl
 . rw [show (⟨g.Proto,g.Sport,g.Dport,g.Seq,g.Ack,g.Flags,g.Body⟩:Y20)=g from rfl,Yxu]
   unfold okS
   by_cases a:Yg7 g=true
   . rw [a,Ytr]
     by_cases b:mayE src dst=true
     . rw [b]
       cases un
       . have es:=Yts hN src dst proto s (by omega) (by omega)
         by_cases c:sumS src dst proto s=65535
         . rw [if_pos ⟨rfl,rfl,rfl,.inr c⟩]
           repeat (with_reducible first | refine stB rfl ?_ | refine Y1a ?_ | (refine Yd ?_ ?_;· first | omega | (simp only [ByteArray.size_append,ByteArray.size_extract,Y15,Y19,Y1m];omega)) | (refine Ym ?_ ?_;· omega) | (refine Yu ?_ ?_;· omega) | (refine Ys ?_ ?_;· omega) | (refine Yo ?_ ?_;· omega) | (refine Y1z ?_ ?_;· omega) | (refine Y2h ?_ ?_;· omega) | refine Yq ?_ | refine Yn ?_ | refine Yj ?_ | refine Y1u ?_ | refine stB (es) ?_ | refine stB (rfl) ?_)
           rfl
         . rw [if_neg (fun h=>by rcases h.2.2.2 with e | e;cases e;exact c e)]
           repeat (with_reducible first | refine stB rfl ?_ | refine Y1a ?_ | (refine Yd ?_ ?_;· first | omega | (simp only [ByteArray.size_append,ByteArray.size_extract,Y15,Y19,Y1m];omega)) | (refine Ym ?_ ?_;· omega) | (refine Yu ?_ ?_;· omega) | (refine Ys ?_ ?_;· omega) | (refine Yo ?_ ?_;· omega) | (refine Y1z ?_ ?_;· omega) | (refine Y2h ?_ ?_;· omega) | refine Yq ?_ | refine Yn ?_ | refine Yj ?_ | refine Y1u ?_ | refine stB (es) ?_ | refine stB (rfl) ?_)
           rfl
       . rw [if_pos ⟨rfl,rfl,rfl,.inl rfl⟩];rfl
     . rw [if_neg (fun h=>b h.2.2.1)]
       rw [Bool.not_eq_true] at b
       rw [b];rfl
   . rw [if_neg (fun h=>a h.2.1)]
     rw [Bool.not_eq_true] at a
     rw [a];rfl
theorem Y121 (s :ByteArray) (h:¬ s.size< 8):((s.extract 6 8).toList==(ByteArray.mk #[0,0]).toList)=decide (N2 s 6=0):=by
 have hz:(s.extract 6 8).size=2:=by rw [ByteArray.size_extract];omega
 have e:=Yi7 s 6 (by omega)
 rw [Y92,<- e]
 generalize s.extract 6 8=t at*
 have hl:=Y4m t
 have hr:=Ye3 t
 rw [Bool.eq_iff_iff,decide_eq_true_iff,decide_eq_true_iff]
 unfold N2
 rw [bt_get,bt_get]
 constructor
 . rintro rfl;rfl
 . intro h
   apply Ycc
   rw [show Y18 (ByteArray.mk #[0,0])=[0,0] from rfl]
   generalize Y18 t=L at*
   rw [hz] at hl
   match L,hl with
   | [a,b],_=>
     have r1:=hr a (by simp);have r2:=hr b (by simp)
     simp only [List.getD_cons_zero,List.getD_cons_succ] at h
     rw [show a=0 by omega,show b=0 by omega]
theorem Ykd {N :Nat} (hN:1000<=N) (proto:Int) (s:ByteArray) (src dst:Int) (hs:s.size<=512):Ja3 N proto s src dst=some (Y9u proto s src dst):=by
 have hb:=Y21 s 13
 unfold Ja3 Jch Jci J9x J9y Y9u
 by_cases e:proto=6
 . subst e
   rw [if_pos rfl]
   by_cases c1:s.size< 20
   . rw [if_pos (show s.size< 20\/bt s 12≠80 from .inl c1),<- Y7a 6 s src dst false ⟨0,0,0,0,0,0,ByteArray.empty⟩,<- Ycf hN _ _ _ _ _ _ _ hs]
     refine Ys rfl (stB (x:=(⟨0,0,0,0,0,0,ByteArray.empty⟩,false)) ?_ rfl)
     repeat (with_reducible first | refine stB rfl ?_ | refine Y1a ?_ | (refine Yd ?_ ?_;· first | omega | (simp only [ByteArray.size_append,ByteArray.size_extract,Y15,Y19,Y1m];omega)) | (refine Ym ?_ ?_;· omega) | (refine Yu ?_ ?_;· omega) | (refine Ys ?_ ?_;· omega) | (refine Yo ?_ ?_;· omega) | (refine Y1z ?_ ?_;· omega) | (refine Y2h ?_ ?_;· omega) | refine Yq ?_ | refine Yn ?_ | refine Yj ?_ | refine Y1u ?_)
     rfl
   . by_cases c2:bt s 12=80
     . rw [if_neg (show ¬ (s.size< 20\/bt s 12≠80) by omega),<- Ycf hN _ _ _ _ _ _ _ hs]
       refine Ys rfl (stB (x:=(⟨6,N2 s 0,N2 s 2,N4 s 4,N4 s 8,bt s 13,s.extract 20 s.size⟩,true)) ?_ rfl)
       rw [show (bt s 12 != 80)=false by rw [c2];rfl]
       repeat (with_reducible first | refine stB rfl ?_ | refine Y1a ?_ | (refine Yd ?_ ?_;· first | omega | (simp only [ByteArray.size_append,ByteArray.size_extract,Y15,Y19,Y1m];omega)) | (refine Ym ?_ ?_;· omega) | (refine Yu ?_ ?_;· omega) | (refine Ys ?_ ?_;· omega) | (refine Yo ?_ ?_;· omega) | (refine Y1z ?_ ?_;· omega) | (refine Y2h ?_ ?_;· omega) | refine Yq ?_ | refine Yn ?_ | refine Yj ?_ | refine Y1u ?_ | refine stB (Y63 hN s 0 2 rfl (by omega)) ?_ | refine stB (Y63 hN s 2 4 rfl (by omega)) ?_ | refine stB (Y8h hN s 4 8 rfl (by omega)) ?_ | refine stB (Y8h hN s 8 12 rfl (by omega)) ?_)
       rw [w64 (by omega) (by omega)]
     . rw [if_pos (show s.size< 20\/bt s 12≠80 from .inr c2),<- Y7a 6 s src dst false ⟨0,0,0,0,0,0,ByteArray.empty⟩,<- Ycf hN _ _ _ _ _ _ _ hs]
       refine Ys rfl (stB (x:=(⟨0,0,0,0,0,0,ByteArray.empty⟩,false)) ?_ rfl)
       rw [show (bt s 12 != 80)=true by rw [bne_iff_ne];exact c2]
       repeat (with_reducible first | refine stB rfl ?_ | refine Y1a ?_ | (refine Yd ?_ ?_;· first | omega | (simp only [ByteArray.size_append,ByteArray.size_extract,Y15,Y19,Y1m];omega)) | (refine Ym ?_ ?_;· omega) | (refine Yu ?_ ?_;· omega) | (refine Ys ?_ ?_;· omega) | (refine Yo ?_ ?_;· omega) | (refine Y1z ?_ ?_;· omega) | (refine Y2h ?_ ?_;· omega) | refine Yq ?_ | refine Yn ?_ | refine Yj ?_ | refine Y1u ?_)
       rfl
 . rw [if_neg e]
   refine Yo e ?_
   by_cases e2:proto=17
   . subst e2
     rw [if_pos rfl]
     refine Ys rfl ?_
     by_cases c1:s.size< 8
     . rw [if_pos (show s.size< 8\/N2 s 4≠s.size from .inl c1),<- Y7a 17 s src dst false ⟨0,0,0,0,0,0,ByteArray.empty⟩,<- Ycf hN _ _ _ _ _ _ _ hs]
       refine stB (x:=(⟨0,0,0,0,0,0,ByteArray.empty⟩,false)) ?_ rfl
       repeat (with_reducible first | refine stB rfl ?_ | refine Y1a ?_ | (refine Yd ?_ ?_;· first | omega | (simp only [ByteArray.size_append,ByteArray.size_extract,Y15,Y19,Y1m];omega)) | (refine Ym ?_ ?_;· omega) | (refine Yu ?_ ?_;· omega) | (refine Ys ?_ ?_;· omega) | (refine Yo ?_ ?_;· omega) | (refine Y1z ?_ ?_;· omega) | (refine Y2h ?_ ?_;· omega) | refine Yq ?_ | refine Yn ?_ | refine Yj ?_ | refine Y1u ?_)
       rfl
     . by_cases c2:N2 s 4=s.size
       . rw [if_neg (show ¬ (s.size< 8\/N2 s 4≠s.size) by omega),<- Ycf hN _ _ _ _ _ _ _ hs]
         refine stB (x:=(⟨17,N2 s 0,N2 s 2,0,0,0,s.extract 8 s.size⟩,true)) ?_ ?_
         . repeat (with_reducible first | refine stB rfl ?_ | refine Y1a ?_ | (refine Yd ?_ ?_;· first | omega | (simp only [ByteArray.size_append,ByteArray.size_extract,Y15,Y19,Y1m];omega)) | (refine Ym ?_ ?_;· omega) | (refine Yu ?_ ?_;· omega) | (refine Ys ?_ ?_;· omega) | (refine Yo ?_ ?_;· omega) | (refine Y1z ?_ ?_;· omega) | (refine Y2h ?_ ?_;· omega) | refine Yq ?_ | refine Yn ?_ | refine Yj ?_ | refine Y1u ?_ | refine stB (Y63 hN s 4 6 rfl (by omega)) ?_ | refine stB (Y63 hN s 0 2 rfl (by omega)) ?_ | refine stB (Y63 hN s 2 4 rfl (by omega)) ?_)
           rfl
         . repeat (with_reducible first | refine stB rfl ?_ | refine Y1a ?_ | (refine Yd ?_ ?_;· first | omega | (simp only [ByteArray.size_append,ByteArray.size_extract,Y15,Y19,Y1m];omega)) | (refine Ym ?_ ?_;· omega) | (refine Yu ?_ ?_;· omega) | (refine Ys ?_ ?_;· omega) | (refine Yo ?_ ?_;· omega) | (refine Y1z ?_ ?_;· omega) | (refine Y2h ?_ ?_;· omega) | refine Yq ?_ | refine Yn ?_ | refine Yj ?_ | refine Y1u ?_)
           rw [Y121 s c1]
       . rw [if_pos (show s.size< 8\/N2 s 4≠s.size from .inr c2),<- Y7a 17 s src dst false ⟨0,0,0,0,0,0,ByteArray.empty⟩,<- Ycf hN _ _ _ _ _ _ _ hs]
         refine stB (x:=(⟨0,0,0,0,0,0,ByteArray.empty⟩,false)) ?_ rfl
         repeat (with_reducible first | refine stB rfl ?_ | refine Y1a ?_ | (refine Yd ?_ ?_;· first | omega | (simp only [ByteArray.size_append,ByteArray.size_extract,Y15,Y19,Y1m];omega)) | (refine Ym ?_ ?_;· omega) | (refine Yu ?_ ?_;· omega) | (refine Ys ?_ ?_;· omega) | (refine Yo ?_ ?_;· omega) | (refine Y1z ?_ ?_;· omega) | (refine Y2h ?_ ?_;· omega) | refine Yq ?_ | refine Yn ?_ | refine Yj ?_ | refine Y1u ?_ | refine stB (Y63 hN s 4 6 rfl (by omega)) ?_)
         rfl
   . rw [if_neg e2,<- Y7a proto s src dst false ⟨0,0,0,0,0,0,ByteArray.empty⟩,<- Ycf hN _ _ _ _ _ _ _ hs]
     exact Yo e2 rfl
def Y5o (f :Y9):Bool:=decide ((0<=f.Src/\f.Src< 4294967296)/\(0<=f.Dst/\f.Dst< 4294967296)/\(f.Proto=6\/f.Proto=17)/\(0<=f.Sport/\f.Sport< 65536)/\(0<=f.Dport/\f.Dport< 65536))
theorem Yic (N :Nat) (p:Int):J6p N p=some (decide (p=6\/p=17)):=by
 unfold J6p J9s
 simp only [Y9t]
 congr 1
 rw [Bool.eq_iff_iff]
 simp only [Ytq,decide_eq_true_eq,decide_eq_false_iff_not,beq_iff_eq,beq_eq_false_iff_ne,bne_iff_ne,Bool.not_eq_true',Bool.not_eq_false',Bool.and_eq_true,Bool.false_eq_true,Bool.true_eq_false,reduceCtorEq,and_false,false_and,or_false,false_or,true_and,and_true,Bool.not_eq_eq_eq_not,Bool.not_true,Bool.not_false]
 all_goals omega
theorem Yid (N :Nat) (f:Y9):J56 N f=some (Y5o f):=by
 unfold J56 J3h
 simp only [Yg6,in16,Yic,Option.bind_some,Y9t]
 congr 1
 rw [Bool.eq_iff_iff]
 unfold Y5o
 simp only [Ytq,decide_eq_true_eq,decide_eq_false_iff_not,beq_iff_eq,beq_eq_false_iff_ne,bne_iff_ne,Bool.not_eq_true',Bool.not_eq_false',Bool.and_eq_true,Bool.false_eq_true,Bool.true_eq_false,reduceCtorEq,and_false,false_and,or_false,false_or,true_and,and_true,Bool.not_eq_eq_eq_not,Bool.not_true,Bool.not_false]
 all_goals omega
theorem Yxv {s :ByteArray} (h:(Y16 s).2.1=0):(Y16 s).1.Body.size<=492:=by
 unfold Y16 at h ⊢
 unfold Ye7 at h ⊢
 repeat' split at h
 all_goals (try (simp at h;done))
 rename_i c _ _ _ _ _
 rw [if_neg (by assumption),if_neg (by assumption),if_neg (by assumption),if_neg (by assumption),if_neg (by assumption),if_neg (by assumption)]
 simp only [ByteArray.size_extract]
 omega
abbrev Y14q:=Y9× Y20× Int
def noF (c :Int):Y14q:=(⟨0,0,0,0,0⟩,⟨0,0,0,0,0,0,ByteArray.empty⟩,c)
def ofF (s :ByteArray):Y14q:=
 if (Y16 s).2.1≠0 then noF (Y16 s).2.1
 else if ¬ ((Y16 s).1.Proto=6\/(Y16 s).1.Proto=17)\/(Y16 s).1.Dst≠167772161 then noF 3
 else if (Y9u (Y16 s).1.Proto (Y16 s).1.Body (Y16 s).1.Src (Y16 s).1.Dst).2≠0 then noF 1
 else (⟨(Y16 s).1.Src,(Y16 s).1.Dst,(Y16 s).1.Proto,(Y9u (Y16 s).1.Proto (Y16 s).1.Body (Y16 s).1.Src (Y16 s).1.Dst).1.Sport,(Y9u (Y16 s).1.Proto (Y16 s).1.Body (Y16 s).1.Src (Y16 s).1.Dst).1.Dport⟩,
   (Y9u (Y16 s).1.Proto (Y16 s).1.Body (Y16 s).1.Src (Y16 s).1.Dst).1,0)
theorem Ytt {N :Nat} (hN:1000<=N) (s:ByteArray):J2r N s=some (ofF s):=by
 unfold J2r Ja4 ofF
 have h0:=Yxv (s:=s)
 refine stB (Yxt hN s) ?_
 generalize Y16 s=r at*
 obtain ⟨p,c,e⟩:=r
 dsimp only at*
 by_cases c0:c=0
 . have hz:=h0 c0
   rw [if_neg (not_not_intro c0),Yic]
   by_cases hp:p.Proto=6\/p.Proto=17
   . rw [decide_eq_true hp]
     by_cases hd:p.Dst=167772161
     . rw [if_neg (by omega),show (p.Dst != 167772161)=false by rw [hd];rfl]
       by_cases he:(Y9u p.Proto p.Body p.Src p.Dst).2=0
       . rw [if_neg (not_not_intro he)]
         repeat (with_reducible first | refine stB rfl ?_ | refine Y1a ?_ | (refine Yd ?_ ?_;· first | omega | (simp only [ByteArray.size_append,ByteArray.size_extract,Y15,Y19,Y1m];omega)) | (refine Ym ?_ ?_;· omega) | (refine Yu ?_ ?_;· omega) | (refine Ys ?_ ?_;· omega) | (refine Yo ?_ ?_;· omega) | (refine Y1z ?_ ?_;· omega) | (refine Y2h ?_ ?_;· omega) | refine Yq ?_ | refine Yn ?_ | refine Yj ?_ | refine Y1u ?_ | refine stB (Ykd hN _ _ _ _ (by omega)) ?_)
         rfl
       . rw [if_pos he]
         repeat (with_reducible first | refine stB rfl ?_ | refine Y1a ?_ | (refine Yd ?_ ?_;· first | omega | (simp only [ByteArray.size_append,ByteArray.size_extract,Y15,Y19,Y1m];omega)) | (refine Ym ?_ ?_;· omega) | (refine Yu ?_ ?_;· omega) | (refine Ys ?_ ?_;· omega) | (refine Yo ?_ ?_;· omega) | (refine Y1z ?_ ?_;· omega) | (refine Y2h ?_ ?_;· omega) | refine Yq ?_ | refine Yn ?_ | refine Yj ?_ | refine Y1u ?_ | refine stB (Ykd hN _ _ _ _ (by omega)) ?_)
         rfl
     . rw [if_pos (.inr hd),show (p.Dst != 167772161)=true by rw [bne_iff_ne];exact hd]
       repeat (with_reducible first | refine stB rfl ?_ | refine Y1a ?_ | (refine Yd ?_ ?_;· first | omega | (simp only [ByteArray.size_append,ByteArray.size_extract,Y15,Y19,Y1m];omega)) | (refine Ym ?_ ?_;· omega) | (refine Yu ?_ ?_;· omega) | (refine Ys ?_ ?_;· omega) | (refine Yo ?_ ?_;· omega) | (refine Y1z ?_ ?_;· omega) | (refine Y2h ?_ ?_;· omega) | refine Yq ?_ | refine Yn ?_ | refine Yj ?_ | refine Y1u ?_)
       rfl
   . rw [if_pos (.inl hp),decide_eq_false hp]
     repeat (with_reducible first | refine stB rfl ?_ | refine Y1a ?_ | (refine Yd ?_ ?_;· first | omega | (simp only [ByteArray.size_append,ByteArray.size_extract,Y15,Y19,Y1m];omega)) | (refine Ym ?_ ?_;· omega) | (refine Yu ?_ ?_;· omega) | (refine Ys ?_ ?_;· omega) | (refine Yo ?_ ?_;· omega) | (refine Y1z ?_ ?_;· omega) | (refine Y2h ?_ ?_;· omega) | refine Yq ?_ | refine Yn ?_ | refine Yj ?_ | refine Y1u ?_)
     rfl
 . rw [if_pos c0]
   repeat (with_reducible first | refine stB rfl ?_ | refine Y1a ?_ | (refine Yd ?_ ?_;· first | omega | (simp only [ByteArray.size_append,ByteArray.size_extract,Y15,Y19,Y1m];omega)) | (refine Ym ?_ ?_;· omega) | (refine Yu ?_ ?_;· omega) | (refine Ys ?_ ?_;· omega) | (refine Yo ?_ ?_;· omega) | (refine Y1z ?_ ?_;· omega) | (refine Y2h ?_ ?_;· omega) | refine Yq ?_ | refine Yn ?_ | refine Yj ?_ | refine Y1u ?_)
   rfl
theorem Yie (a b :List Int):mkS a++mkS b=mkS (a++b):=by
 apply Ycb
 simp [mkS,ByteArray.data_append]
theorem Y15l (a b :ByteArray) (i:Nat) (h:i< a.size):bt (a++b) i=bt a i:=by
 rw [bt_get,bt_get,Y8t]
 simp only [List.getD_eq_getElem?_getD]
 rw [List.getElem?_append_left (by rw [Y4m];exact h)]
def Y3v (p :GIp) (chk:Int):List Int:=
 [69,0,(20+(p.Body.size:Int)) / 256 % 256,(20+(p.Body.size:Int)) % 256,p.Id / 256 % 256,p.Id % 256,64,0,p.Ttl % 256,p.Proto % 256,chk / 256 % 256,chk % 256,
   p.Src / 16777216 % 256,p.Src / 65536 % 256,p.Src / 256 % 256,p.Src % 256,p.Dst / 16777216 % 256,p.Dst / 65536 % 256,p.Dst / 256 % 256,p.Dst % 256]
theorem Y122 (p :GIp) (chk:Int):Y57 p chk=mkS (Y3v p chk):=by
 unfold Y57 B1 B2 B4
 simp only [Yie,List.cons_append,List.nil_append]
 rfl
theorem Yfh (p :GIp) (chk:Int):∀ x∈Y3v p chk,0<=x/\x<=255:=by
 intro x hx
 simp only [Y3v,List.mem_cons,List.not_mem_nil,or_false] at hx
 omega
theorem Y8c (p :GIp) (chk:Int):Y18 (Y57 p chk)=Y3v p chk:=by
 rw [Y122,Yi5 _ (Yfh _ _)]
theorem Yif (p :GIp):Y18 (Y4i p)=Y3v p (Y59 p)++Y18 p.Body:=by
 rw [Y4i,Y8t,Y8c]
theorem Y7s (p :GIp) (i:Nat) (h:i< 20):bt (Y4i p) i=(Y3v p (Y59 p)).getD i 0:=by
 rw [Y4i,Y15l _ _ _ (by rw [Y58];exact h),bt_get,Y8c]
theorem Y123 (p :GIp):(Y4i p).extract 20 (Y4i p).size=p.Body:=by
 apply ByteArray.extract_append_eq_right
 . rw [Y58]
 . rw [Ye6,Y58]
theorem Y124 (p :GIp):(Y4i p).extract 0 20=Y57 p (Y59 p):=by
 apply ByteArray.extract_append_eq_left
 rw [Y58]
theorem Yq2 (r c :Int) (h0:0< r) (hc:c=65535 - Y5t r):Y5t (r+c)=65535:=by
 subst hc
 unfold Y5t
 rw [if_neg (show ¬ r=0 by omega)]
 rw [if_neg (by omega)]
 omega
theorem Y125 (p :GIp) (chk:Int):Y56 (Y3v p chk)=Y56 (Y3v p 0)+(chk / 256 % 256*256+chk % 256):=by
 simp only [Y3v,Y56]
 omega
theorem Yox (p :GIp):0< Y56 (Y3v p 0):=by
 have:=Yfh p 0
 simp only [Y3v,List.mem_cons,List.not_mem_nil,or_false,forall_eq_or_imp,forall_eq] at this
 simp only [Y3v,Y56]
 omega
theorem Y15m (p :GIp):Y64 (Y57 p (Y59 p))=65535:=by
 have hr:=Ytp p
 unfold Y64
 rw [Y8c,Y125,show Y59 p / 256 % 256*256+Y59 p % 256=Y59 p by omega]
 apply Yq2 _ _ (Yox _)
 unfold Y59 Y64
 rw [Y8c]
theorem Yoy (p :GIp) (i:Nat) (h:i+1< 20):N2 (Y4i p) i=(Y3v p (Y59 p)).getD i 0*256+(Y3v p (Y59 p)).getD (i+1) 0:=by
 unfold N2
 rw [Y7s _ i (by omega),Y7s _ (i+1) h]
theorem Yig (p :GIp) (i:Nat) (h:i+3< 20):N4 (Y4i p) i=
   (((Y3v p (Y59 p)).getD i 0*256+(Y3v p (Y59 p)).getD (i+1) 0)*256+(Y3v p (Y59 p)).getD (i+2) 0)*256+(Y3v p (Y59 p)).getD (i+3) 0:=by
 unfold N4
 rw [Y7s _ i (by omega),Y7s _ (i+1) (by omega),Y7s _ (i+2) (by omega),Y7s _ (i+3) h]
theorem Y15n :Y2i .i64 16384 49151=0:=by decide
theorem Y15o {p :GIp} (h:Yay p=true):Y16 (Y4i p)=(p,0,0):=by
 obtain ⟨h1,h2,h3,h4,h5,hb⟩:=Ycd h
 have b0:bt (Y4i p) 0=69:=Y7s _ 0 (by decide)
 have b8:bt (Y4i p) 8=p.Ttl % 256:=Y7s _ 8 (by decide)
 have b9:bt (Y4i p) 9=p.Proto % 256:=Y7s _ 9 (by decide)
 have n2:N2 (Y4i p) 2=(20+(p.Body.size:Int)) / 256 % 256*256+(20+(p.Body.size:Int)) % 256:=Yoy _ 2 (by decide)
 have n4:N2 (Y4i p) 4=p.Id / 256 % 256*256+p.Id % 256:=Yoy _ 4 (by decide)
 have n6:N2 (Y4i p) 6=64*256+0:=Yoy _ 6 (by decide)
 have n12:N4 (Y4i p) 12=((p.Src / 16777216 % 256*256+p.Src / 65536 % 256)*256+p.Src / 256 % 256)*256+p.Src % 256:=Yig _ 12 (by decide)
 have n16:N4 (Y4i p) 16=((p.Dst / 16777216 % 256*256+p.Dst / 65536 % 256)*256+p.Dst / 256 % 256)*256+p.Dst % 256:=Yig _ 16 (by decide)
 have hsz:=Ye6 p
 unfold Y16
 rw [b0,if_neg (by omega),if_neg (by omega),if_neg (by rw [n2,hsz];omega),show (4*((69:Int) % 16)).toNat=20 from rfl,Y124,Y15m,if_neg (by decide),if_neg (by decide),n6,show (64*256+0:Int)=16384 from rfl,Y15n,if_neg (by decide),Y123,b8,b9,n4,n12,n16]
 refine Prod.ext ?_ rfl
 obtain ⟨a,b,c,d,e,g⟩:=p
 simp only [GIp.mk.injEq,and_true] at*
 omega
end Go.Proofs.YtpdcnikdoikldaaGreatDoor.Pu
namespace Go.Proofs.YtpdcnikdoikldaaGreatDoor.Pu
open Go Go.RowKit Go.Proofs.YtpdcnikdoikldaaGreatDoor.Sv Go.Proofs.YtpdcnikdoikldaaGreatDoor.Lf
attribute [local irreducible] Jb J7 Ja Jm J16 J2y
theorem Yoz (N :Nat) (a b:Int):J1d N a b=some (decide (0<=a/\a< b)):=by
 unfold J1d J9r
 rw [Y9t]
 congr 1
 by_cases h:a>=0 <;> by_cases k:a< b <;> simp [h,k] <;> omega
def Y2a (a :Int):Int× Int× Int× Bool:=
 if 167837696<=a/\a< 167837698 then (0,0,a - 167837696,true)
 else if 167903232<=a/\a< 167903235 then (1,a - 167903232,0,true)
 else if 167968768<=a/\a< 167969536/\(a - 167968768) % 256< 4 then (2,(a - 167968768) / 256,(a - 167968768) % 256,true)
 else (0,0,0,false)
def RA (a :Int):Prop:= -4611686018427387904<=a/\a<=4611686018427387904
theorem Ycg (N :Nat) (a:Int) (h:RA a):J2u N a=some (Y2a a):=by
 unfold RA at h
 unfold J2u Ja5 Y2a
 simp only [Yoz,Option.bind_some]
 rw [w64 (n:=a - 167837696) (by omega) (by omega),w64 (n:=a - 167903232) (by omega) (by omega),w64 (n:=a - 167968768) (by omega) (by omega)]
 by_cases c1:167837696<=a/\a< 167837698
 . rw [if_pos c1,decide_eq_true (show 0<=a - 167837696/\a - 167837696< 2 by omega)];rfl
 rw [if_neg c1,decide_eq_false (show ¬ (0<=a - 167837696/\a - 167837696< 2) by omega)]
 by_cases c2:167903232<=a/\a< 167903235
 . rw [if_pos c2,decide_eq_true (show 0<=a - 167903232/\a - 167903232< 3 by omega)];rfl
 rw [if_neg c2,decide_eq_false (show ¬ (0<=a - 167903232/\a - 167903232< 3) by omega)]
 by_cases c3:0<=a - 167968768/\a - 167968768< 768
 . rw [decide_eq_true c3,Int.tmod_eq_emod_of_nonneg c3.1,Int.tdiv_eq_ediv_of_nonneg c3.1,w64 (by omega) (by omega)]
   by_cases c4:(a - 167968768) % 256< 4
   . rw [if_pos (by omega)]
     refine Yn (Yn (Yq (Y1a ?_)))
     rw [decide_eq_true c4];rfl
   . rw [if_neg (by omega)]
     refine Yn (Yn (Yq (Y1a ?_)))
     rw [decide_eq_false c4];rfl
 . rw [decide_eq_false c3,if_neg (by omega)];rfl
def Y6b (role site id :Int):Int× Int:=
 if role=0/\site=0/\0<=id/\id< 2 then (167837696+id,0)
 else if role=1/\id=0/\0<=site/\site< 3 then (167903232+site,0)
 else if role=2/\0<=site/\site< 3/\0<=id/\id< 4 then (167968768+256*site+id,0)
 else (0,500)
theorem Y30 (N :Nat) (role site id:Int):Ji N role site id=some (Y6b role site id):=by
 unfold Ji J6o J6n J6m Y6b
 simp only [Yoz,Option.bind_some,Ye2]
 by_cases c1:role=0/\site=0/\0<=id/\id< 2
 . rw [if_pos c1,decide_eq_true c1.2.2]
   refine Ys c1.1 (Ys c1.2.1 (Yq ?_))
   rw [w64 (by omega) (by omega)]
 rw [if_neg c1]
 by_cases c2:role=1/\id=0/\0<=site/\site< 3
 . rw [if_pos c2,decide_eq_true c2.2.2]
   refine Yo (by omega) (Yn (Ys c2.1 (Yq ?_)))
   rw [show (id==0)=true by rw [c2.2.1];rfl,w64 (by omega) (by omega)]
   rfl
 rw [if_neg c2]
 by_cases c3:role=2/\0<=site/\site< 3/\0<=id/\id< 4
 . rw [if_pos c3,decide_eq_true (show 0<=site/\site< 3 by omega),decide_eq_true (show 0<=id/\id< 4 by omega)]
   refine Yo (by omega) (Yn (Yo (by omega) (Yn (Ys c3.1 (Yq (Yq ?_))))))
   rw [w64 (n:=256*site) (by omega) (by omega),w64 (n:=167968768+256*site) (by omega) (by omega),w64 (by omega) (by omega)]
 rw [if_neg c3]
 by_cases r0:role=0
 . refine Ys r0 ?_
   by_cases s0:site=0
   . rw [decide_eq_false (show ¬ (0<=id/\id< 2) by omega)]
     refine Ys s0 (Yn (Yo (by omega) (Yn (Yo (by omega) rfl))))
   . refine Yo s0 (Yn (Yo (by omega) (Yn (Yo (by omega) rfl))))
 . refine Yo r0 (Yn ?_)
   by_cases r1:role=1
   . refine Ys r1 ?_
     by_cases s1:0<=site/\site< 3
     . rw [decide_eq_true s1,show (id==0)=false by rw [beq_eq_false_iff_ne];omega]
       refine Yq (Yn (Yo (by omega) rfl))
     . rw [decide_eq_false s1]
       refine Yn (Yn (Yo (by omega) rfl))
   . refine Yo r1 (Yn ?_)
     by_cases r2:role=2
     . refine Ys r2 ?_
       by_cases s1:0<=site/\site< 3
       . rw [decide_eq_true s1,decide_eq_false (show ¬ (0<=id/\id< 4) by omega)]
         rfl
       . rw [decide_eq_false s1]
         rfl
     . exact Yo r2 rfl
def Y41 (a :Int):Prop:=167837696<=a/\a< 167837698\/167903232<=a/\a< 167903235\/167968768<=a/\a< 167969536/\(a - 167968768) % 256< 4
instance (a :Int):Decidable (Y41 a):=by unfold Y41;infer_instance
theorem Y5i {a :Int} (h:Y41 a):0<=a/\a< 4294967296:=by unfold Y41 at h;omega
theorem Y15p (a :Int):(Y2a a).2.2.2=decide (Y41 a):=by
 unfold Y2a
 by_cases c1:167837696<=a/\a< 167837698
 . rw [if_pos c1,decide_eq_true (show Y41 a from .inl c1)]
 by_cases c2:167903232<=a/\a< 167903235
 . rw [if_neg c1,if_pos c2,decide_eq_true (show Y41 a from .inr (.inl c2))]
 by_cases c3:167968768<=a/\a< 167969536/\(a - 167968768) % 256< 4
 . rw [if_neg c1,if_neg c2,if_pos c3,decide_eq_true (show Y41 a from .inr (.inr c3))]
 . rw [if_neg c1,if_neg c2,if_neg c3,decide_eq_false (show ¬ Y41 a from fun h=>h.elim c1 fun h=>h.elim c2 c3)]
def Y35 (o :Yw):Bool:=
 decide (Y41 o.Src/\Y41 o.Dst/\1<=o.Tier/\o.Tier<=4/\(0<=o.Marker/\o.Marker< 256)/\(0<=o.Origin/\o.Origin< 256)/\o.Body.size<=512)
theorem Y5a {o :Yw} (h:Y35 o=true):Y41 o.Src/\Y41 o.Dst/\1<=o.Tier/\o.Tier<=4/\(0<=o.Marker/\o.Marker< 256)/\(0<=o.Origin/\o.Origin< 256)/\o.Body.size<=512:=of_decide_eq_true h
theorem Yqz (N :Nat) (a:Int) (h:RA a):J6s N a=some (decide (Y41 a)):=by
 unfold J6s
 exact stB (Ycg N a h) (by rw [Y15p])
theorem Y15q (N :Nat) (o:Yw) (hs:RA o.Src) (hd:RA o.Dst):Ja6 N o=some (Y35 o):=by
 unfold Ja6 J1m
 rw [Yqz N _ hs,Yqz N _ hd]
 simp only [in8,Option.bind_some,Y9t]
 congr 1
 rw [Bool.eq_iff_iff]
 unfold Y35
 simp only [Ytq,decide_eq_true_eq,decide_eq_false_iff_not,beq_iff_eq,beq_eq_false_iff_ne,bne_iff_ne,Bool.not_eq_true',Bool.not_eq_false',Bool.and_eq_true,Bool.false_eq_true,Bool.true_eq_false,reduceCtorEq,and_false,false_and,or_false,false_or,true_and,and_true,Bool.not_eq_eq_eq_not,Bool.not_true,Bool.not_false]
 generalize Y41 o.Src=A
 generalize Y41 o.Dst=B
 by_cases a:A <;> by_cases b:B <;> simp only [a,b,true_and,false_and,and_false,true_iff,false_iff,not_true,not_false_iff,or_false]
 all_goals omega
def inG (o :Yw):ByteArray:=B1 0++B1 o.Tier++B1 o.Marker++B1 o.Origin++B2 o.Body.size++B2 0++o.Body
def Ych (o :Yw):ByteArray:=B2 61440++B2 6080++B2 (16+o.Body.size)++B2 0++inG o
theorem Yp0 (o :Yw):(inG o).size=8+o.Body.size:=by
 simp only [inG,ByteArray.size_append,Y15,Y19]
theorem Yke (o :Yw):(Ych o).size=16+o.Body.size:=by
 simp only [Ych,ByteArray.size_append,Y19,Yp0];omega
def ipG (o :Yw):GIp:=⟨o.Src,o.Dst,17,64,0,Ych o⟩
def Y13 (o :Yw):ByteArray:=Y4i (ipG o)
theorem Y93 (o :Yw):(Y13 o).size=36+o.Body.size:=by
 rw [Y13,Ye6]
 show 20+(Ych o).size=_
 rw [Yke];omega
theorem Ykf {o :Yw} (h:Y35 o=true) (h2:o.Body.size<=324):Yay (ipG o)=true:=by
 obtain ⟨h0,h1,_⟩:=Y5a h
 have a:=Y5i h0;have b:=Y5i h1
 have c:=Yke o
 rw [Y11v]
 unfold ipG
 dsimp only
 omega
abbrev Y1dc:=ByteArray× Int
def Y6w (o :Yw):Y1dc:=if Y35 o=true then if 324< o.Body.size then (ByteArray.empty,601) else (Y13 o,0) else (ByteArray.empty,600)
theorem Yjk {N :Nat} (hN:1000<=N) (o:Yw) (hs:RA o.Src) (hd:RA o.Dst):J2q N o=some (Y6w o):=by
 unfold J2q Y6w
 refine stB (Y15q N o hs hd) ?_
 by_cases h:Y35 o=true
 . rw [if_pos h,h]
   have hp:=Y5a h
   refine Yj (Y1a ?_)
   rw [w64 (n:=36+(o.Body.size:Int)) (by omega) (by omega)]
   by_cases h2:324< o.Body.size
   . rw [if_pos h2]
     exact Ym (by omega) rfl
   . rw [if_neg h2]
     refine Yu (by omega) ?_
     have hput:=Y1bq hN (ipG o)
     rw [if_pos (Ykf h (by omega))] at hput
     have sz:=Yp0 o
     unfold inG at sz
     unfold ipG Ych inG at hput
     have e16:(16+(o.Body.size:Int))=8+((B1 0++B1 o.Tier++B1 o.Marker++B1 o.Origin++B2 o.Body.size++B2 0++o.Body).size:Int):=by omega
     rw [e16] at hput
     repeat (with_reducible first | refine stB rfl ?_ | refine Y1a ?_ | (refine Yd ?_ ?_;· first | omega | (simp only [ByteArray.size_append,ByteArray.size_extract,Y15,Y19,Y1m];omega)) | (refine Ym ?_ ?_;· omega) | (refine Yu ?_ ?_;· omega) | (refine Ys ?_ ?_;· omega) | (refine Yo ?_ ?_;· omega) | (refine Y1z ?_ ?_;· omega) | (refine Y2h ?_ ?_;· omega) | refine Yq ?_ | refine Yn ?_ | refine Yj ?_ | refine Y1u ?_ | refine stB (Ye4 hN _) ?_ | refine stB (Yi6 hN _) ?_)
     rw [w64 (n:=8+((B1 0++B1 o.Tier++B1 o.Marker++B1 o.Origin++B2 o.Body.size++B2 0++o.Body).size:Int)) (by omega) (by omega)]
     refine stB hput ?_
     rw [<- e16]
     rfl
 . rw [if_neg h]
   rw [Bool.not_eq_true] at h
   rw [h];rfl
abbrev OutR:=Yw× Int
def Yg8 :OutR:=(⟨0,0,0,0,0,ByteArray.empty⟩,600)
def Y4p (s :ByteArray):Yw:=⟨N4 s 12,N4 s 16,bt s 29,bt s 30,bt s 31,s.extract 36 s.size⟩
def Yl (s :ByteArray):OutR:=
 if s.size< 36 then Yg8
 else if Y35 (Y4p s)=true/\s.size<=360/\Y13 (Y4p s)=s then (Y4p s,0) else Yg8
theorem Ylm (s :ByteArray) (i:Nat):RA (N4 s i):=by
 have:=Yg4 s i
 exact ⟨by omega,by omega⟩
theorem Y15r (s :ByteArray) (c:¬ s.size< 36):(if (Y6w (Y4p s)).2=0/\(Y6w (Y4p s)).1=s then (Y4p s,0) else Yg8)=Yl s:=by
 have hb:(Y4p s).Body.size=s.size - 36:=by unfold Y4p;dsimp only;rw [ByteArray.size_extract];omega
 unfold Yl
 rw [if_neg c]
 unfold Y6w
 by_cases m:Y35 (Y4p s)=true
 . rw [if_pos m]
   by_cases z:324< (Y4p s).Body.size
   . rw [if_pos z,if_neg (fun h=>absurd h.1 (by decide)),if_neg (fun h=>by omega)]
   . rw [if_neg z]
     by_cases e:Y13 (Y4p s)=s
     . rw [if_pos ⟨rfl,e⟩,if_pos ⟨m,by omega,e⟩]
     . rw [if_neg (fun h=>e h.2),if_neg (fun h=>e h.2.2)]
 . rw [if_neg m,if_neg (fun h=>absurd h.1 (by decide)),if_neg (fun h=>m h.1)]
theorem Yp1 {N :Nat} (hN:1000<=N) (s:ByteArray):J2w N s=some (Yl s):=by
 unfold J2w Ja7
 by_cases c:s.size< 36
 . unfold Yl
   rw [if_pos c]
   exact Ym (by omega) rfl
 have hg:(s.extract 28 s.size).size=s.size - 28:=by rw [ByteArray.size_extract];omega
 have e1:bt (s.extract 28 s.size) 1=bt s 29:=Y3g s 28 s.size 1 (by omega) (Nat.le_refl _)
 have e2:bt (s.extract 28 s.size) 2=bt s 30:=Y3g s 28 s.size 2 (by omega) (Nat.le_refl _)
 have e3:bt (s.extract 28 s.size) 3=bt s 31:=Y3g s 28 s.size 3 (by omega) (Nat.le_refl _)
 have e4:=Y1db s 28 8 (by omega)
 have r1:=Y21 s 29;have r2:=Y21 s 30;have r3:=Y21 s 31
 have hp:J2q N ⟨N4 s 12,N4 s 16,bt s 29,bt s 30,bt s 31,s.extract (28+8) s.size⟩=some (Y6w (Y4p s)):=Yjk hN (Y4p s) (Ylm s 12) (Ylm s 16)
 rw [<- Y15r s c]
 refine Yu (by omega) ?_
 simp only [Ye2]
 rw [e4,e1,e2,e3,w64 (n:=bt s 29) (by omega) (by omega),w64 (n:=bt s 30) (by omega) (by omega),w64 (n:=bt s 31) (by omega) (by omega)]
 by_cases q:(Y6w (Y4p s)).2=0
 . repeat (with_reducible first | refine stB rfl ?_ | refine Y1a ?_ | (refine Yd ?_ ?_;· first | omega | (simp only [ByteArray.size_append,ByteArray.size_extract,Y15,Y19,Y1m];omega)) | (refine Ym ?_ ?_;· omega) | (refine Yu ?_ ?_;· omega) | (refine Ys ?_ ?_;· omega) | (refine Yo ?_ ?_;· omega) | (refine Y1z ?_ ?_;· omega) | (refine Y2h ?_ ?_;· omega) | refine Yq ?_ | refine Yn ?_ | refine Yj ?_ | refine Y1u ?_ | refine stB (Y8h hN s 12 16 rfl (by omega)) ?_ | refine stB (Y8h hN s 16 20 rfl (by omega)) ?_ | refine stB (hp) ?_)
   rw [Y92]
   by_cases e:(Y6w (Y4p s)).1=s
   . rw [if_pos ⟨q,e⟩,decide_eq_true e];rfl
   . rw [if_neg (fun h=>e h.2),decide_eq_false e];rfl
 . rw [if_neg (show ¬ ((Y6w (Y4p s)).2=0/\(Y6w (Y4p s)).1=s) from fun h=>q h.1)]
   repeat (with_reducible first | refine stB rfl ?_ | refine Y1a ?_ | (refine Yd ?_ ?_;· first | omega | (simp only [ByteArray.size_append,ByteArray.size_extract,Y15,Y19,Y1m];omega)) | (refine Ym ?_ ?_;· omega) | (refine Yu ?_ ?_;· omega) | (refine Ys ?_ ?_;· omega) | (refine Yo ?_ ?_;· omega) | (refine Y1z ?_ ?_;· omega) | (refine Y2h ?_ ?_;· omega) | refine Yq ?_ | refine Yn ?_ | refine Yj ?_ | refine Y1u ?_ | refine stB (Y8h hN s 12 16 rfl (by omega)) ?_ | refine stB (Y8h hN s 16 20 rfl (by omega)) ?_ | refine stB (hp) ?_)
   rfl
theorem Ykg (o :Yw):Y18 (Ych o)=
   [240,0,23,192,(16+(o.Body.size:Int)) / 256 % 256,(16+(o.Body.size:Int)) % 256,0,0,0,o.Tier % 256,o.Marker % 256,o.Origin % 256,(o.Body.size:Int) / 256 % 256,(o.Body.size:Int) % 256,0,0]++Y18 o.Body:=by
 have e:Ych o=mkS [240,0,23,192,(16+(o.Body.size:Int)) / 256 % 256,(16+(o.Body.size:Int)) % 256,0,0,0,o.Tier % 256,o.Marker % 256,o.Origin % 256,(o.Body.size:Int) / 256 % 256,(o.Body.size:Int) % 256,0,0]++o.Body:=by
   unfold Ych inG B1 B2
   rw [<- ByteArray.append_assoc]
   simp only [Yie,List.cons_append,List.nil_append]
   rfl
 rw [e,Y8t,Yi5 _ (by
   intro x hx
   simp only [List.mem_cons,List.not_mem_nil,or_false] at hx
   omega)]
theorem Yxw (o :Yw):(Y13 o).extract 36 (Y13 o).size=o.Body:=by
 apply Ycc
 have hz:=Y93 o
 have hl:(Y18 (Y13 o)).length=36+o.Body.size:=by rw [Y4m,hz]
 rw [Y8g,List.take_of_length_le (by rw [List.length_drop,hl,hz];omega)]
 unfold Y13
 rw [Yif]
 show List.drop 36 (Y3v _ _++Y18 (Ych o))=_
 rw [Ykg]
 rfl
theorem Y126 {o :Yw} (h:Y35 o=true) (z:o.Body.size<=324):Yl (Y13 o)=(o,0):=by
 obtain ⟨k1,k2,t1,t2,m1,o1,_⟩:=Y5a h
 have r1:=Y5i k1;have r2:=Y5i k2
 have hz:=Y93 o
 have n12:N4 (Y13 o) 12=o.Src:=by
   refine (Yig _ 12 (by decide)).trans ?_
   show ((o.Src / 16777216 % 256*256+o.Src / 65536 % 256)*256+o.Src / 256 % 256)*256+o.Src % 256=_
   omega
 have n16:N4 (Y13 o) 16=o.Dst:=by
   refine (Yig _ 16 (by decide)).trans ?_
   show ((o.Dst / 16777216 % 256*256+o.Dst / 65536 % 256)*256+o.Dst / 256 % 256)*256+o.Dst % 256=_
   omega
 have hL:Y18 (Y13 o)=Y3v (ipG o) (Y59 (ipG o))++([240,0,23,192,(16+(o.Body.size:Int)) / 256 % 256,(16+(o.Body.size:Int)) % 256,0,0,0,o.Tier % 256,o.Marker % 256,o.Origin % 256,(o.Body.size:Int) / 256 % 256,(o.Body.size:Int) % 256,0,0]++Y18 o.Body):=(Yif (ipG o)).trans (by rw [<- Ykg];rfl)
 have b29:bt (Y13 o) 29=o.Tier:=(Ytn hL 29).trans (show o.Tier % 256=o.Tier by omega)
 have b30:bt (Y13 o) 30=o.Marker:=(Ytn hL 30).trans (show o.Marker % 256=o.Marker by omega)
 have b31:bt (Y13 o) 31=o.Origin:=(Ytn hL 31).trans (show o.Origin % 256=o.Origin by omega)
 have ho:Y4p (Y13 o)=o:=by
   unfold Y4p
   rw [n12,n16,b29,b30,b31,Yxw]
 unfold Yl
 rw [ho,if_neg (by omega),if_pos ⟨h,by omega,rfl⟩]
def Ye8 (c :Int):Int:=if c=1 then 2 else if c=2 then 3 else 4
theorem Yci (N :Nat) (c:Int):J3t N c=some (Ye8 c):=by
 unfold J3t Ye8
 simp only [ceq]
 by_cases a:c=1
 . rw [if_pos a,if_pos a]
 . rw [if_neg a,if_neg a]
   by_cases b:c=2
   . rw [if_pos b,if_pos b]
   . rw [if_neg b,if_neg b]
end Go.Proofs.YtpdcnikdoikldaaGreatDoor.Pu
namespace Go.Proofs.YtpdcnikdoikldaaGreatDoor.Pu
open Go Go.RowKit Go.Proofs.YtpdcnikdoikldaaGreatDoor.Sv Go.Proofs.YtpdcnikdoikldaaGreatDoor.Lf
end Go.Proofs.YtpdcnikdoikldaaGreatDoor.Pu
namespace Go.Proofs.YtpdcnikdoikldaaGreatDoor.Pu
open Go Go.RowKit Go.Proofs.YtpdcnikdoikldaaGreatDoor.Sv Go.Proofs.YtpdcnikdoikldaaGreatDoor.Lf
theorem Ycj (n :Int):IntKind.u32.wrap n=n % 4294967296:=by simp [IntKind.wrap,IntKind.bits,IntKind.signed]
theorem Ytu (a b :Nat) (ha:a< 4294967296) (hb:b< 4294967296):Y7z .u32 (a:Int) (b:Int)=((a ^^^ b:Nat):Int)/\a ^^^ b< 4294967296:=by
 have hx:(a ^^^ b)< 4294967296:=Nat.xor_lt_two_pow (n:=32) ha hb
 refine ⟨?_,hx⟩
 show IntKind.u32.wrap ((BitVec.ofInt 32 (a:Int) ^^^ BitVec.ofInt 32 (b:Int)).toNat:Int)=_
 rw [BitVec.toNat_xor,BitVec.ofInt_natCast,BitVec.ofInt_natCast,BitVec.toNat_ofNat,BitVec.toNat_ofNat,Nat.mod_eq_of_lt (show a< 2 ^ 32 from ha),Nat.mod_eq_of_lt (show b< 2 ^ 32 from hb),Ycj]
 omega
def X (s x :Nat):Nat:=x ^^^ (x >>> s)
theorem X_lt {s x :Nat} (h:x< 4294967296):X s x< 4294967296:=by
 unfold X
 refine Nat.xor_lt_two_pow (n:=32) h (Nat.lt_of_le_of_lt ?_ h)
 rw [Nat.shiftRight_eq_div_pow]
 exact Nat.div_le_self _ _
def Yg9 (k x :Nat):Nat:=X 16 (X 13 (X 16 ((k+2654435769) % 4294967296 ^^^ x)*2246822507 % 4294967296)*3266489909 % 4294967296)
theorem Yf6 (k x :Nat):Yg9 k x< 4294967296:=X_lt (Nat.mod_lt _ (by decide))
theorem Y1dd (a :Nat) (s:Nat):((a:Int)).fdiv (2 ^ s)=((a >>> s:Nat):Int):=by
 rw [fd _ (Int.le_of_lt (Int.pow_pos (by decide))),Nat.shiftRight_eq_div_pow,Int.natCast_ediv]
 simp
theorem bX (s a :Nat) (h:a< 4294967296):Y7z .u32 (a:Int) ((a:Int).fdiv (2 ^ s))=((X s a:Nat):Int):=by
 rw [Y1dd,(Ytu a (a >>> s) h (Nat.lt_of_le_of_lt (by rw [Nat.shiftRight_eq_div_pow];exact Nat.div_le_self _ _) h)).1]
 rfl
theorem Yxx (N :Nat) (k x:Nat) (hk:k< 4294967296) (hx:x< 4294967296):J55 N (k:Int) (x:Int)=some ((Yg9 k x:Nat):Int):=by
 unfold J55 Yg9
 have h1:(k+2654435769) % 4294967296< 4294967296:=Nat.mod_lt _ (by decide)
 have w1:IntKind.u32.wrap ((k:Int)+2654435769)=(((k+2654435769) % 4294967296:Nat):Int):=by rw [Ycj];omega
 rw [w1,(Ytu _ x h1 hx).1]
 have hx1:=(Ytu _ x h1 hx).2
 generalize (k+2654435769) % 4294967296 ^^^ x=a at*
 simp only [Ye2]
 rw [bX 16 a hx1]
 have w2:IntKind.u32.wrap (((X 16 a:Nat):Int)*2246822507)=((X 16 a*2246822507 % 4294967296:Nat):Int):=by rw [Ycj];omega
 rw [w2,bX 13 _ (Nat.mod_lt _ (by decide))]
 have w3:∀ y:Nat,IntKind.u32.wrap ((y:Int)*3266489909)=((y*3266489909 % 4294967296:Nat):Int):=fun y=>by rw [Ycj];omega
 rw [w3,bX 16 _ (Nat.mod_lt _ (by decide))]
theorem Yxy (N :Nat) (k x:Nat) (hk:k< 4294967296) (hx:x< 4294967296):J57 N (k:Int) (x:Int)=some (((Yg9 k x:Nat):Int),0):=by
 have hm:=Yf6 k x
 have wk:IntKind.u32.wrap (k:Int)=(k:Int):=by rw [Ycj];omega
 have wx:IntKind.u32.wrap (x:Int)=(x:Int):=by rw [Ycj];omega
 unfold J57 J76
 rw [Yg6,Yg6,decide_eq_true (show 0<=(k:Int)/\(k:Int)< 4294967296 by omega),decide_eq_true (show 0<=(x:Int)/\(x:Int)< 4294967296 by omega),wk,wx]
 refine stB rfl (Yj (stB rfl (Yn (stB (Yxx N k x hk hx) ?_))))
 rw [w64 (by omega) (by omega)]
end Go.Proofs.YtpdcnikdoikldaaGreatDoor.Pu
