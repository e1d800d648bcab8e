import Derived.Test.YtpdcnikdoikldaaGreatDoorP0
set_option linter.unusedVariables false
set_option linter.unusedSimpArgs false
namespace Go.Proofs.YtpdcnikdoikldaaGreatDoor.Pu
open Go Go.RowKit Go.Proofs.YtpdcnikdoikldaaGreatDoor.Sv Go.Proofs.YtpdcnikdoikldaaGreatDoor.Lf
attribute [local irreducible] Ja J8 Jc Jd J16 J1k
theorem Y8d {α :Type} (c:Bool) (x y:α):(bif c then some x else some y)=some (bif c then x else y):=by cases c <;> rfl
theorem Ynz {c p q :Bool}:(bif c then p else q)=true↔(c=true∧p=true)∨(c=false∧q=true):=by cases c <;> simp
def Yel (proto seq ack flags :Int):Prop:=(proto=6∧(0≤seq∧seq< 4294967296)∧(0≤ack∧ack< 4294967296)∧(0≤flags∧flags< 64))∨(proto=17∧seq=0∧ack=0∧flags=0)
instance (a b c d :Int):Decidable (Yel a b c d):=by unfold Yel;infer_instance
def Y8e (g :Y1v):Bool:=
 decide (((0≤g.Sport∧g.Sport< 65536)∧(0≤g.Dport∧g.Dport< 65536)∧(g.Body.size:Int)≤256)∧Yel g.Proto g.Seq g.Ack g.Flags)
theorem Yx7 (N :Nat) (g:Y1v):Jai N g=some (Y8e g):=by
 unfold Jai J74 J54 J55
 simp only [Yfl,in16,in6,Option.bind_some,Y8d]
 congr 1
 rw [Bool.eq_iff_iff]
 unfold Y8e Yel
 simp only [Ynz,decide_eq_true_eq,decide_eq_false_iff_not,beq_iff_eq,beq_eq_false_iff_ne,bne_iff_ne,Bool.not_eq_true',Bool.not_eq_false',Bool.and_eq_true,Bool.false_eq_true,Bool.true_eq_false,reduceCtorEq,and_false,false_and,or_false,false_or,true_and,and_true,Bool.not_eq_eq_eq_not,Bool.not_true,Bool.not_false]
 omega
theorem Ysv (N :Nat) (g:Y1v):J4w N g=some (Y8e g):=by
 unfold J4w J73 J72 J53
 simp only [Yfm,Y118,Y14t,Option.bind_some,Y8d]
 congr 1
 rw [Bool.eq_iff_iff]
 unfold Y8e Yel
 simp only [Ynz,decide_eq_true_eq,decide_eq_false_iff_not,beq_iff_eq,beq_eq_false_iff_ne,bne_iff_ne,Bool.not_eq_true',Bool.not_eq_false',Bool.and_eq_true,Bool.false_eq_true,Bool.true_eq_false,reduceCtorEq,and_false,false_and,or_false,false_or,true_and,and_true,Bool.not_eq_eq_eq_not,Bool.not_true,Bool.not_false]
 omega
def Yc2 (src dst :Int):Bool:=decide (0≤src∧src< 4294967296)&&decide (0≤dst∧dst< 4294967296)
theorem Yhp {src dst :Int} (h:Yc2 src dst=true):(0≤src∧src< 4294967296)∧(0≤dst∧dst< 4294967296):=by simpa [Yc2] using h
theorem Ysw (N :Nat) (src dst:Int):Jak N ⟨src,dst⟩=some (Yc2 src dst):=by
 unfold Jak Jaj
 simp only [Yfl,Option.bind_some,Yx4];rfl
def psL (src dst proto :Int) (n:Nat):ByteArray:=B4 src++B4 dst++B2 proto++B2 n
theorem Yo0 (src dst proto :Int) (n:Nat):(psL src dst proto n).size=12:=by
 simp only [psL,ByteArray.size_append,Yt,Yv]
def Yfn (src dst proto :Int) (s:ByteArray):Int:=Y4l (psL src dst proto s.size++s)
theorem Ysx {N :Nat} (hN:1000≤N) (src dst proto:Int) (s:ByteArray) (hs:s.size≤140737488351232) (hk:s.size+30≤N):Jal N ⟨src,dst⟩ proto s=some (Yfn src dst proto s):=by
 have hz:=Yo0 src dst proto s.size
 have hsum:=Yek hN (psL src dst proto s.size++s) (by rw [ByteArray.size_append,hz];omega) (by rw [ByteArray.size_append,hz];omega)
 unfold psL at hsum
 unfold Jal
 repeat (with_reducible first | refine stB rfl ?_ | refine Yx ?_ | (refine Y8 ?_ ?_;· first | omega | (simp only [ByteArray.size_append,ByteArray.size_extract,Yr,Yt,Yv];omega)) | (refine Yi ?_ ?_;· omega) | (refine Yo ?_ ?_;· omega) | (refine Ym ?_ ?_;· omega) | (refine Yl ?_ ?_;· omega) | (refine Y13 ?_ ?_;· omega) | (refine Y1c ?_ ?_;· omega) | refine Yk ?_ | refine Yj ?_ | refine Yc ?_ | refine Y14 ?_ | refine stB (Yhk hN _) ?_ | refine stB (Ywy hN _) ?_ | refine stB (hsum) ?_)
 rfl
theorem Yx8 {N :Nat} (hN:1000≤N) (src dst proto:Int) (s:ByteArray) (hs:s.size≤140737488351232) (hk:s.size+30≤N):J3h N proto s src dst=some (Yfn src dst proto s):=by
 have hz:=Yo0 src dst proto s.size
 have hsum:=Yis hN (psL src dst proto s.size++s) (by rw [ByteArray.size_append,hz];omega) (by rw [ByteArray.size_append,hz];omega)
 unfold psL at hsum
 unfold J3h
 repeat (with_reducible first | refine stB rfl ?_ | refine Yx ?_ | (refine Y8 ?_ ?_;· first | omega | (simp only [ByteArray.size_append,ByteArray.size_extract,Yr,Yt,Yv];omega)) | (refine Yi ?_ ?_;· omega) | (refine Yo ?_ ?_;· omega) | (refine Ym ?_ ?_;· omega) | (refine Yl ?_ ?_;· omega) | (refine Y13 ?_ ?_;· omega) | (refine Y1c ?_ ?_;· omega) | refine Yk ?_ | refine Yj ?_ | refine Yc ?_ | refine Y14 ?_ | refine stB (num2 hN _) ?_ | refine stB (num4 hN _) ?_ | refine stB (hsum) ?_)
 rfl
abbrev SegR:=Y1v× Int
def Y66 :SegR:=(⟨0,0,0,0,0,0,ByteArray.empty⟩,300)
def okS (proto :Int) (s:ByteArray) (src dst:Int) (is un:Bool) (g:Y1v):SegR:=
 if is=true∧Y8e g=true∧Yc2 src dst=true∧(un=true∨Yfn src dst proto s=65535) then (g,0) else Y66
def Y3m (proto :Int) (s:ByteArray) (src dst:Int):SegR:=
 if proto=6 then
   if s.size< 20∨bt s 12≠80 then Y66
   else okS 6 s src dst true false ⟨6,N2 s 0,N2 s 2,N4 s 4,N4 s 8,bt s 13,s.extract 20 s.size⟩
 else if proto=17 then
   if s.size< 8∨N2 s 4≠s.size then Y66
   else okS 17 s src dst true (decide (N2 s 6=0)) ⟨17,N2 s 0,N2 s 2,0,0,0,s.extract 8 s.size⟩
 else Y66
theorem Y6y (proto :Int) (s:ByteArray) (src dst:Int) (un:Bool) (g:Y1v):okS proto s src dst false un g=Y66:=by
 unfold okS;rw [if_neg (fun h=>by cases h.1)]
theorem Yc3 {N :Nat} (hN:1000≤N) (proto:Int) (s:ByteArray) (src dst:Int) (is un:Bool) (g:Y1v) (hs:s.size≤512):
   J3m N proto s 0 0 0 0 0 0 ByteArray.empty src dst g.Proto g.Sport g.Dport g.Seq g.Ack g.Flags g.Body is un=some (okS proto s src dst is un g):=by
 unfold J3m J3l
 cases is
 · rw [Y6y];rfl
 · rw [show (⟨g.Proto,g.Sport,g.Dport,g.Seq,g.Ack,g.Flags,g.Body⟩:Y1v)=g from rfl,Yx7]
   unfold okS
   by_cases a:Y8e g=true
   · rw [a,Ysw]
     by_cases b:Yc2 src dst=true
     · rw [b]
       cases un
       · have es:=Ysx hN src dst proto s (by omega) (by omega)
         by_cases c:Yfn src dst proto s=65535
         · rw [if_pos ⟨rfl,rfl,rfl,.inr c⟩]
           repeat (with_reducible first | refine stB rfl ?_ | refine Yx ?_ | (refine Y8 ?_ ?_;· first | omega | (simp only [ByteArray.size_append,ByteArray.size_extract,Yr,Yt,Yv];omega)) | (refine Yi ?_ ?_;· omega) | (refine Yo ?_ ?_;· omega) | (refine Ym ?_ ?_;· omega) | (refine Yl ?_ ?_;· omega) | (refine Y13 ?_ ?_;· omega) | (refine Y1c ?_ ?_;· omega) | refine Yk ?_ | refine Yj ?_ | refine Yc ?_ | refine Y14 ?_ | refine stB (es) ?_ | refine stB (rfl) ?_)
           rfl
         · rw [if_neg (fun h=>by rcases h.2.2.2 with e | e;cases e;exact c e)]
           repeat (with_reducible first | refine stB rfl ?_ | refine Yx ?_ | (refine Y8 ?_ ?_;· first | omega | (simp only [ByteArray.size_append,ByteArray.size_extract,Yr,Yt,Yv];omega)) | (refine Yi ?_ ?_;· omega) | (refine Yo ?_ ?_;· omega) | (refine Ym ?_ ?_;· omega) | (refine Yl ?_ ?_;· omega) | (refine Y13 ?_ ?_;· omega) | (refine Y1c ?_ ?_;· omega) | refine Yk ?_ | refine Yj ?_ | refine Yc ?_ | refine Y14 ?_ | refine stB (es) ?_ | refine stB (rfl) ?_)
           rfl
       · rw [if_pos ⟨rfl,rfl,rfl,.inl rfl⟩];rfl
     · rw [if_neg (fun h=>b h.2.2.1)]
       rw [Bool.not_eq_true] at b
       rw [b];rfl
   · rw [if_neg (fun h=>a h.2.1)]
     rw [Bool.not_eq_true] at a
     rw [a];rfl
theorem Y11d (s :ByteArray) (h:¬ s.size< 8):((s.extract 6 8).toList==(ByteArray.mk #[0,0]).toList)=decide (N2 s 6=0):=by
 have hz:(s.extract 6 8).size=2:=by rw [ByteArray.size_extract];omega
 have e:=Ybx s 6 (by omega)
 rw [Y8n,← e]
 generalize s.extract 6 8=t at*
 have hl:=Y5v t
 have hr:=Y9h t
 rw [Bool.eq_iff_iff,decide_eq_true_iff,decide_eq_true_iff]
 unfold N2
 rw [bt_get,bt_get]
 constructor
 · rintro rfl;rfl
 · intro h
   apply Yhj
   rw [show Y24 (ByteArray.mk #[0,0])=[0,0] from rfl]
   generalize Y24 t=L at*
   rw [hz] at hl
   match L,hl with
   | [a,b],_=>
     have r1:=hr a (by simp);have r2:=hr b (by simp)
     simp only [List.getD_cons_zero,List.getD_cons_succ] at h
     rw [show a=0 by omega,show b=0 by omega]
theorem Yjl {N :Nat} (hN:1000≤N) (proto:Int) (s:ByteArray) (src dst:Int) (hs:s.size≤512):Jam N proto s src dst=some (Y3m proto s src dst):=by
 have hb:=Y17 s 13
 unfold Jam Jcr Jcs Jag Jah Y3m
 by_cases e:proto=6
 · subst e
   rw [if_pos rfl]
   by_cases c1:s.size< 20
   · rw [if_pos (show s.size< 20∨bt s 12≠80 from .inl c1),← Y6y 6 s src dst false ⟨0,0,0,0,0,0,ByteArray.empty⟩,← Yc3 hN _ _ _ _ _ _ _ hs]
     refine Ym rfl (stB (x:=(⟨0,0,0,0,0,0,ByteArray.empty⟩,false)) ?_ rfl)
     repeat (with_reducible first | refine stB rfl ?_ | refine Yx ?_ | (refine Y8 ?_ ?_;· first | omega | (simp only [ByteArray.size_append,ByteArray.size_extract,Yr,Yt,Yv];omega)) | (refine Yi ?_ ?_;· omega) | (refine Yo ?_ ?_;· omega) | (refine Ym ?_ ?_;· omega) | (refine Yl ?_ ?_;· omega) | (refine Y13 ?_ ?_;· omega) | (refine Y1c ?_ ?_;· omega) | refine Yk ?_ | refine Yj ?_ | refine Yc ?_ | refine Y14 ?_)
     rfl
   · by_cases c2:bt s 12=80
     · rw [if_neg (show ¬ (s.size< 20∨bt s 12≠80) by omega),← Yc3 hN _ _ _ _ _ _ _ hs]
       refine Ym rfl (stB (x:=(⟨6,N2 s 0,N2 s 2,N4 s 4,N4 s 8,bt s 13,s.extract 20 s.size⟩,true)) ?_ rfl)
       rw [show (bt s 12 != 80)=false by rw [c2];rfl]
       repeat (with_reducible first | refine stB rfl ?_ | refine Yx ?_ | (refine Y8 ?_ ?_;· first | omega | (simp only [ByteArray.size_append,ByteArray.size_extract,Yr,Yt,Yv];omega)) | (refine Yi ?_ ?_;· omega) | (refine Yo ?_ ?_;· omega) | (refine Ym ?_ ?_;· omega) | (refine Yl ?_ ?_;· omega) | (refine Y13 ?_ ?_;· omega) | (refine Y1c ?_ ?_;· omega) | refine Yk ?_ | refine Yj ?_ | refine Yc ?_ | refine Y14 ?_ | refine stB (Y5l hN s 0 2 rfl (by omega)) ?_ | refine stB (Y5l hN s 2 4 rfl (by omega)) ?_ | refine stB (Y83 hN s 4 8 rfl (by omega)) ?_ | refine stB (Y83 hN s 8 12 rfl (by omega)) ?_)
       rw [w64 (by omega) (by omega)]
     · rw [if_pos (show s.size< 20∨bt s 12≠80 from .inr c2),← Y6y 6 s src dst false ⟨0,0,0,0,0,0,ByteArray.empty⟩,← Yc3 hN _ _ _ _ _ _ _ hs]
       refine Ym rfl (stB (x:=(⟨0,0,0,0,0,0,ByteArray.empty⟩,false)) ?_ rfl)
       rw [show (bt s 12 != 80)=true by rw [bne_iff_ne];exact c2]
       repeat (with_reducible first | refine stB rfl ?_ | refine Yx ?_ | (refine Y8 ?_ ?_;· first | omega | (simp only [ByteArray.size_append,ByteArray.size_extract,Yr,Yt,Yv];omega)) | (refine Yi ?_ ?_;· omega) | (refine Yo ?_ ?_;· omega) | (refine Ym ?_ ?_;· omega) | (refine Yl ?_ ?_;· omega) | (refine Y13 ?_ ?_;· omega) | (refine Y1c ?_ ?_;· omega) | refine Yk ?_ | refine Yj ?_ | refine Yc ?_ | refine Y14 ?_)
       rfl
 · rw [if_neg e]
   refine Yl e ?_
   by_cases e2:proto=17
   · subst e2
     rw [if_pos rfl]
     refine Ym rfl ?_
     by_cases c1:s.size< 8
     · rw [if_pos (show s.size< 8∨N2 s 4≠s.size from .inl c1),← Y6y 17 s src dst false ⟨0,0,0,0,0,0,ByteArray.empty⟩,← Yc3 hN _ _ _ _ _ _ _ hs]
       refine stB (x:=(⟨0,0,0,0,0,0,ByteArray.empty⟩,false)) ?_ rfl
       repeat (with_reducible first | refine stB rfl ?_ | refine Yx ?_ | (refine Y8 ?_ ?_;· first | omega | (simp only [ByteArray.size_append,ByteArray.size_extract,Yr,Yt,Yv];omega)) | (refine Yi ?_ ?_;· omega) | (refine Yo ?_ ?_;· omega) | (refine Ym ?_ ?_;· omega) | (refine Yl ?_ ?_;· omega) | (refine Y13 ?_ ?_;· omega) | (refine Y1c ?_ ?_;· omega) | refine Yk ?_ | refine Yj ?_ | refine Yc ?_ | refine Y14 ?_)
       rfl
     · by_cases c2:N2 s 4=s.size
       · rw [if_neg (show ¬ (s.size< 8∨N2 s 4≠s.size) by omega),← Yc3 hN _ _ _ _ _ _ _ hs]
         refine stB (x:=(⟨17,N2 s 0,N2 s 2,0,0,0,s.extract 8 s.size⟩,true)) ?_ ?_
         · repeat (with_reducible first | refine stB rfl ?_ | refine Yx ?_ | (refine Y8 ?_ ?_;· first | omega | (simp only [ByteArray.size_append,ByteArray.size_extract,Yr,Yt,Yv];omega)) | (refine Yi ?_ ?_;· omega) | (refine Yo ?_ ?_;· omega) | (refine Ym ?_ ?_;· omega) | (refine Yl ?_ ?_;· omega) | (refine Y13 ?_ ?_;· omega) | (refine Y1c ?_ ?_;· omega) | refine Yk ?_ | refine Yj ?_ | refine Yc ?_ | refine Y14 ?_ | refine stB (Y5l hN s 4 6 rfl (by omega)) ?_ | refine stB (Y5l hN s 0 2 rfl (by omega)) ?_ | refine stB (Y5l hN s 2 4 rfl (by omega)) ?_)
           rfl
         · repeat (with_reducible first | refine stB rfl ?_ | refine Yx ?_ | (refine Y8 ?_ ?_;· first | omega | (simp only [ByteArray.size_append,ByteArray.size_extract,Yr,Yt,Yv];omega)) | (refine Yi ?_ ?_;· omega) | (refine Yo ?_ ?_;· omega) | (refine Ym ?_ ?_;· omega) | (refine Yl ?_ ?_;· omega) | (refine Y13 ?_ ?_;· omega) | (refine Y1c ?_ ?_;· omega) | refine Yk ?_ | refine Yj ?_ | refine Yc ?_ | refine Y14 ?_)
           rw [Y11d s c1]
       · rw [if_pos (show s.size< 8∨N2 s 4≠s.size from .inr c2),← Y6y 17 s src dst false ⟨0,0,0,0,0,0,ByteArray.empty⟩,← Yc3 hN _ _ _ _ _ _ _ hs]
         refine stB (x:=(⟨0,0,0,0,0,0,ByteArray.empty⟩,false)) ?_ rfl
         repeat (with_reducible first | refine stB rfl ?_ | refine Yx ?_ | (refine Y8 ?_ ?_;· first | omega | (simp only [ByteArray.size_append,ByteArray.size_extract,Yr,Yt,Yv];omega)) | (refine Yi ?_ ?_;· omega) | (refine Yo ?_ ?_;· omega) | (refine Ym ?_ ?_;· omega) | (refine Yl ?_ ?_;· omega) | (refine Y13 ?_ ?_;· omega) | (refine Y1c ?_ ?_;· omega) | refine Yk ?_ | refine Yj ?_ | refine Yc ?_ | refine Y14 ?_ | refine stB (Y5l hN s 4 6 rfl (by omega)) ?_)
         rfl
   · rw [if_neg e2,← Y6y proto s src dst false ⟨0,0,0,0,0,0,ByteArray.empty⟩,← Yc3 hN _ _ _ _ _ _ _ hs]
     exact Yl e2 rfl
theorem Yx9 {proto :Int} {s:ByteArray} {src dst:Int} (h:¬ Yc2 src dst=true):Y3m proto s src dst=Y66:=by
 unfold Y3m okS
 split
 · split
   · rfl
   · rw [if_neg (fun hh=>h hh.2.2.1)]
 · split
   · split
     · rfl
     · rw [if_neg (fun hh=>h hh.2.2.1)]
   · rfl
theorem Yb3 (N :Nat) (g:Y1v) (ok:Bool):J1o N 0 0 0 0 0 0 ByteArray.empty g.Proto g.Sport g.Dport g.Seq g.Ack g.Flags g.Body ok=some (if ok=true∧Y8e g=true then (g,0) else Y66):=by
 unfold J1o J9w
 cases ok
 · rw [if_neg (fun hh=>by cases hh.1)];rfl
 · rw [show (⟨g.Proto,g.Sport,g.Dport,g.Seq,g.Ack,g.Flags,g.Body⟩:Y1v)=g from rfl,Ysv]
   by_cases a:Y8e g=true
   · rw [if_pos ⟨rfl,a⟩,a];rfl
   · rw [if_neg (fun hh=>a hh.2)]
     rw [Bool.not_eq_true] at a
     rw [a];rfl
theorem Yds {proto :Int} {s:ByteArray} {src dst:Int} (p:proto=6) (h:s.size< 20∨bt s 12≠80):Y3m proto s src dst=Y66:=by
 unfold Y3m;rw [if_pos p];exact if_pos h
theorem Y1av {proto :Int} {s:ByteArray} {src dst:Int} (p:proto=6) (h:¬ s.size< 20) (h2:bt s 12=80):Y3m proto s src dst=okS proto s src dst true false ⟨proto,N2 s 0,N2 s 2,N4 s 4,N4 s 8,bt s 13,s.extract 20 s.size⟩:=by
 subst p;unfold Y3m;rw [if_pos rfl];exact if_neg (by omega)
theorem Yhq {proto :Int} {s:ByteArray} {src dst:Int} (p:proto=17) (h:s.size< 8∨N2 s 4≠s.size):Y3m proto s src dst=Y66:=by
 subst p;unfold Y3m;rw [if_neg (by decide),if_pos rfl];exact if_pos h
theorem Yq2 {proto :Int} {s:ByteArray} {src dst:Int} (p:proto=17) (h:¬ s.size< 8) (h2:N2 s 4=s.size):Y3m proto s src dst=okS proto s src dst true (decide (N2 s 6=0)) ⟨proto,N2 s 0,N2 s 2,0,0,0,s.extract 8 s.size⟩:=by
 subst p;unfold Y3m;rw [if_neg (by decide),if_pos rfl];exact if_neg (by omega)
theorem Yq3 {proto :Int} {s:ByteArray} {src dst:Int} (p:¬ proto=6) (q:¬ proto=17):Y3m proto s src dst=Y66:=by
 unfold Y3m;rw [if_neg p,if_neg q]
theorem Yo1 {proto :Int} {s:ByteArray} {src dst:Int} {un:Bool} {g:Y1v} (he:Yc2 src dst=true):okS proto s src dst true un g=if (un||Yfn src dst proto s==65535)=true∧Y8e g=true then (g,0) else Y66:=by
 unfold okS
 refine ite_congr (propext ⟨fun hh=>⟨by simpa using hh.2.2.2,hh.2.1⟩,fun hh=>⟨rfl,hh.2,he,by simpa using hh.1⟩⟩) (fun _=>rfl) (fun _=>rfl)
theorem Y8p {N :Nat} (hN:1000≤N) (proto:Int) (s:ByteArray) (src dst:Int) (hs:s.size≤512):J9y N proto s src dst=some (Y3m proto s src dst):=by
 have hb:=Y17 s 13
 unfold J9y J6o J9x
 rw [Yfm,Yfm]
 by_cases e1:0≤src∧src< 4294967296
 · by_cases e2:0≤dst∧dst< 4294967296
   · have he:Yc2 src dst=true:=by unfold Yc2;rw [decide_eq_true e1,decide_eq_true e2];rfl
     rw [decide_eq_true e1,decide_eq_true e2]
     by_cases c0:s.size< 8
     · rw [show Y3m proto s src dst=Y66 by
         by_cases p6:proto=6
         · exact Yds p6 (.inl (by omega))
         · by_cases p17:proto=17
           · exact Yhq p17 (.inl c0)
           · exact Yq3 p6 p17,decide_eq_true (show (s.size:Int)< 8 by omega)]
       rfl
     rw [decide_eq_false (show ¬ (s.size:Int)< 8 by omega)]
     have ps:=Yx8 hN src dst proto s (by omega) (by omega)
     by_cases p6:proto=6
     · by_cases c1:s.size< 20
       · rw [Yds p6 (.inl c1),decide_eq_false (show ¬ (s.size:Int)≥20 by omega)]
         repeat (with_reducible first | refine stB rfl ?_ | refine Yx ?_ | (refine Y8 ?_ ?_;· first | omega | (simp only [ByteArray.size_append,ByteArray.size_extract,Yr,Yt,Yv];omega)) | (refine Yi ?_ ?_;· omega) | (refine Yo ?_ ?_;· omega) | (refine Ym ?_ ?_;· omega) | (refine Yl ?_ ?_;· omega) | (refine Y13 ?_ ?_;· omega) | (refine Y1c ?_ ?_;· omega) | refine Yk ?_ | refine Yj ?_ | refine Yc ?_ | refine Y14 ?_ | refine stB (Y2v hN s 0 2 rfl (by omega)) ?_ | refine stB (Y2v hN s 2 4 rfl (by omega)) ?_)
         rfl
       · rw [decide_eq_true (show (s.size:Int)≥20 by omega)]
         by_cases c2:bt s 12=80
         · have h3:=Yb3 N ⟨proto,N2 s 0,N2 s 2,N4 s 4,N4 s 8,bt s 13,s.extract 20 s.size⟩ (Yfn src dst proto s==65535)
           repeat (with_reducible first | refine stB rfl ?_ | refine Yx ?_ | (refine Y8 ?_ ?_;· first | omega | (simp only [ByteArray.size_append,ByteArray.size_extract,Yr,Yt,Yv];omega)) | (refine Yi ?_ ?_;· omega) | (refine Yo ?_ ?_;· omega) | (refine Ym ?_ ?_;· omega) | (refine Yl ?_ ?_;· omega) | (refine Y13 ?_ ?_;· omega) | (refine Y1c ?_ ?_;· omega) | refine Yk ?_ | refine Yj ?_ | refine Yc ?_ | refine Y14 ?_ | refine stB (Y2v hN s 0 2 rfl (by omega)) ?_ | refine stB (Y2v hN s 2 4 rfl (by omega)) ?_ | refine stB (Yej hN s 4 8 rfl (by omega)) ?_ | refine stB (Yej hN s 8 12 rfl (by omega)) ?_ | refine stB (ps) ?_)
           rw [w64 (by omega) (by omega)]
           refine h3.trans ?_
           rw [Y1av p6 c1 c2,Yo1 he,Bool.false_or]
         · have h3:=Yb3 N ⟨proto,N2 s 0,N2 s 2,N4 s 4,N4 s 8,bt s 13,s.extract 20 s.size⟩ false
           repeat (with_reducible first | refine stB rfl ?_ | refine Yx ?_ | (refine Y8 ?_ ?_;· first | omega | (simp only [ByteArray.size_append,ByteArray.size_extract,Yr,Yt,Yv];omega)) | (refine Yi ?_ ?_;· omega) | (refine Yo ?_ ?_;· omega) | (refine Ym ?_ ?_;· omega) | (refine Yl ?_ ?_;· omega) | (refine Y13 ?_ ?_;· omega) | (refine Y1c ?_ ?_;· omega) | refine Yk ?_ | refine Yj ?_ | refine Yc ?_ | refine Y14 ?_ | refine stB (Y2v hN s 0 2 rfl (by omega)) ?_ | refine stB (Y2v hN s 2 4 rfl (by omega)) ?_ | refine stB (Yej hN s 4 8 rfl (by omega)) ?_ | refine stB (Yej hN s 8 12 rfl (by omega)) ?_)
           rw [w64 (by omega) (by omega)]
           refine h3.trans ?_
           rw [if_neg (fun hh=>by cases hh.1),Yds p6 (.inr c2)]
     · by_cases p17:proto=17
       · by_cases c2:N2 s 4=s.size
         · by_cases c3:N2 s 6=0
           · have h3:=Yb3 N ⟨proto,N2 s 0,N2 s 2,0,0,0,s.extract 8 s.size⟩ true
             repeat (with_reducible first | refine stB rfl ?_ | refine Yx ?_ | (refine Y8 ?_ ?_;· first | omega | (simp only [ByteArray.size_append,ByteArray.size_extract,Yr,Yt,Yv];omega)) | (refine Yi ?_ ?_;· omega) | (refine Yo ?_ ?_;· omega) | (refine Ym ?_ ?_;· omega) | (refine Yl ?_ ?_;· omega) | (refine Y13 ?_ ?_;· omega) | (refine Y1c ?_ ?_;· omega) | refine Yk ?_ | refine Yj ?_ | refine Yc ?_ | refine Y14 ?_ | refine stB (Y2v hN s 0 2 rfl (by omega)) ?_ | refine stB (Y2v hN s 2 4 rfl (by omega)) ?_ | refine stB (Y2v hN s 4 6 rfl (by omega)) ?_ | refine stB (Y2v hN s 6 8 rfl (by omega)) ?_ | refine stB (ps) ?_)
             refine h3.trans ?_
             rw [Yq2 p17 c0 c2,Yo1 he,decide_eq_true c3,Bool.true_or]
           · have h3:=Yb3 N ⟨proto,N2 s 0,N2 s 2,0,0,0,s.extract 8 s.size⟩ (Yfn src dst proto s==65535)
             repeat (with_reducible first | refine stB rfl ?_ | refine Yx ?_ | (refine Y8 ?_ ?_;· first | omega | (simp only [ByteArray.size_append,ByteArray.size_extract,Yr,Yt,Yv];omega)) | (refine Yi ?_ ?_;· omega) | (refine Yo ?_ ?_;· omega) | (refine Ym ?_ ?_;· omega) | (refine Yl ?_ ?_;· omega) | (refine Y13 ?_ ?_;· omega) | (refine Y1c ?_ ?_;· omega) | refine Yk ?_ | refine Yj ?_ | refine Yc ?_ | refine Y14 ?_ | refine stB (Y2v hN s 0 2 rfl (by omega)) ?_ | refine stB (Y2v hN s 2 4 rfl (by omega)) ?_ | refine stB (Y2v hN s 4 6 rfl (by omega)) ?_ | refine stB (Y2v hN s 6 8 rfl (by omega)) ?_ | refine stB (ps) ?_)
             refine h3.trans ?_
             rw [Yq2 p17 c0 c2,Yo1 he,decide_eq_false c3,Bool.false_or]
         · have h3:=Yb3 N ⟨proto,N2 s 0,N2 s 2,0,0,0,s.extract 8 s.size⟩ false
           repeat (with_reducible first | refine stB rfl ?_ | refine Yx ?_ | (refine Y8 ?_ ?_;· first | omega | (simp only [ByteArray.size_append,ByteArray.size_extract,Yr,Yt,Yv];omega)) | (refine Yi ?_ ?_;· omega) | (refine Yo ?_ ?_;· omega) | (refine Ym ?_ ?_;· omega) | (refine Yl ?_ ?_;· omega) | (refine Y13 ?_ ?_;· omega) | (refine Y1c ?_ ?_;· omega) | refine Yk ?_ | refine Yj ?_ | refine Yc ?_ | refine Y14 ?_ | refine stB (Y2v hN s 0 2 rfl (by omega)) ?_ | refine stB (Y2v hN s 2 4 rfl (by omega)) ?_ | refine stB (Y2v hN s 4 6 rfl (by omega)) ?_)
           refine h3.trans ?_
           rw [if_neg (fun hh=>by cases hh.1),Yhq p17 (.inr c2)]
       · rw [Yq3 p6 p17]
         have h3:=Yb3 N ⟨proto,N2 s 0,N2 s 2,0,0,0,ByteArray.empty⟩ false
         repeat (with_reducible first | refine stB rfl ?_ | refine Yx ?_ | (refine Y8 ?_ ?_;· first | omega | (simp only [ByteArray.size_append,ByteArray.size_extract,Yr,Yt,Yv];omega)) | (refine Yi ?_ ?_;· omega) | (refine Yo ?_ ?_;· omega) | (refine Ym ?_ ?_;· omega) | (refine Yl ?_ ?_;· omega) | (refine Y13 ?_ ?_;· omega) | (refine Y1c ?_ ?_;· omega) | refine Yk ?_ | refine Yj ?_ | refine Yc ?_ | refine Y14 ?_ | refine stB (Y2v hN s 0 2 rfl (by omega)) ?_ | refine stB (Y2v hN s 2 4 rfl (by omega)) ?_)
         refine h3.trans ?_
         rw [if_neg (fun hh=>by cases hh.1)]
   · rw [Yx9 (fun h=>e2 (Yhp h).2),decide_eq_true e1,decide_eq_false e2]
     rfl
 · rw [Yx9 (fun h=>e1 (Yhp h).1),decide_eq_false e1]
   rfl
def Y57 (f :Ye):Bool:=decide ((0≤f.Src∧f.Src< 4294967296)∧(0≤f.Dst∧f.Dst< 4294967296)∧(f.Proto=6∨f.Proto=17)∧(0≤f.Sport∧f.Sport< 65536)∧(0≤f.Dport∧f.Dport< 65536))
theorem Yhr (N :Nat) (p:Int):J71 N p=some (decide (p=6∨p=17)):=by
 unfold J71 Jae
 simp only [Y8d]
 congr 1
 rw [Bool.eq_iff_iff]
 simp only [Ynz,decide_eq_true_eq,decide_eq_false_iff_not,beq_iff_eq,beq_eq_false_iff_ne,bne_iff_ne,Bool.not_eq_true',Bool.not_eq_false',Bool.and_eq_true,Bool.false_eq_true,Bool.true_eq_false,reduceCtorEq,and_false,false_and,or_false,false_or,true_and,and_true,Bool.not_eq_eq_eq_not,Bool.not_true,Bool.not_false]
 all_goals omega
theorem Yhs (N :Nat) (f:Ye):J5h N f=some (Y57 f):=by
 unfold J5h J3j
 simp only [Yfl,in16,Yhr,Option.bind_some,Y8d]
 congr 1
 rw [Bool.eq_iff_iff]
 unfold Y57
 simp only [Ynz,decide_eq_true_eq,decide_eq_false_iff_not,beq_iff_eq,beq_eq_false_iff_ne,bne_iff_ne,Bool.not_eq_true',Bool.not_eq_false',Bool.and_eq_true,Bool.false_eq_true,Bool.true_eq_false,reduceCtorEq,and_false,false_and,or_false,false_or,true_and,and_true,Bool.not_eq_eq_eq_not,Bool.not_true,Bool.not_false]
 all_goals omega
theorem Yjm {s :ByteArray} (h:(Y19 s).2.1=0):(Y19 s).1.Body.size≤492:=by
 unfold Y19 at h ⊢
 unfold Yc1 at h ⊢
 repeat' split at h
 all_goals (try (simp at h;done))
 rename_i c _ _ _ _ _
 rw [if_neg (by assumption),if_neg (by assumption),if_neg (by assumption),if_neg (by assumption),if_neg (by assumption),if_neg (by assumption)]
 simp only [ByteArray.size_extract]
 omega
abbrev Y13y:=Ye× Y1v× Int
def noF (c :Int):Y13y:=(⟨0,0,0,0,0⟩,⟨0,0,0,0,0,0,ByteArray.empty⟩,c)
def ofF (s :ByteArray):Y13y:=
 if (Y19 s).2.1≠0 then noF (Y19 s).2.1
 else if ¬ ((Y19 s).1.Proto=6∨(Y19 s).1.Proto=17)∨(Y19 s).1.Dst≠167772161 then noF 3
 else if (Y3m (Y19 s).1.Proto (Y19 s).1.Body (Y19 s).1.Src (Y19 s).1.Dst).2≠0 then noF 1
 else (⟨(Y19 s).1.Src,(Y19 s).1.Dst,(Y19 s).1.Proto,(Y3m (Y19 s).1.Proto (Y19 s).1.Body (Y19 s).1.Src (Y19 s).1.Dst).1.Sport,(Y3m (Y19 s).1.Proto (Y19 s).1.Body (Y19 s).1.Src (Y19 s).1.Dst).1.Dport⟩,
   (Y3m (Y19 s).1.Proto (Y19 s).1.Body (Y19 s).1.Src (Y19 s).1.Dst).1,0)
theorem Ysy {N :Nat} (hN:1000≤N) (s:ByteArray):J2v N s=some (ofF s):=by
 unfold J2v Jan ofF
 have h0:=Yjm (s:=s)
 refine stB (Yx6 hN s) ?_
 generalize Y19 s=r at*
 obtain ⟨p,c,e⟩:=r
 dsimp only at*
 by_cases c0:c=0
 · have hz:=h0 c0
   rw [if_neg (not_not_intro c0),Yhr]
   by_cases hp:p.Proto=6∨p.Proto=17
   · rw [decide_eq_true hp]
     by_cases hd:p.Dst=167772161
     · rw [if_neg (by omega),show (p.Dst != 167772161)=false by rw [hd];rfl]
       by_cases he:(Y3m p.Proto p.Body p.Src p.Dst).2=0
       · rw [if_neg (not_not_intro he)]
         repeat (with_reducible first | refine stB rfl ?_ | refine Yx ?_ | (refine Y8 ?_ ?_;· first | omega | (simp only [ByteArray.size_append,ByteArray.size_extract,Yr,Yt,Yv];omega)) | (refine Yi ?_ ?_;· omega) | (refine Yo ?_ ?_;· omega) | (refine Ym ?_ ?_;· omega) | (refine Yl ?_ ?_;· omega) | (refine Y13 ?_ ?_;· omega) | (refine Y1c ?_ ?_;· omega) | refine Yk ?_ | refine Yj ?_ | refine Yc ?_ | refine Y14 ?_ | refine stB (Yjl hN _ _ _ _ (by omega)) ?_)
         rfl
       · rw [if_pos he]
         repeat (with_reducible first | refine stB rfl ?_ | refine Yx ?_ | (refine Y8 ?_ ?_;· first | omega | (simp only [ByteArray.size_append,ByteArray.size_extract,Yr,Yt,Yv];omega)) | (refine Yi ?_ ?_;· omega) | (refine Yo ?_ ?_;· omega) | (refine Ym ?_ ?_;· omega) | (refine Yl ?_ ?_;· omega) | (refine Y13 ?_ ?_;· omega) | (refine Y1c ?_ ?_;· omega) | refine Yk ?_ | refine Yj ?_ | refine Yc ?_ | refine Y14 ?_ | refine stB (Yjl hN _ _ _ _ (by omega)) ?_)
         rfl
     · rw [if_pos (.inr hd),show (p.Dst != 167772161)=true by rw [bne_iff_ne];exact hd]
       repeat (with_reducible first | refine stB rfl ?_ | refine Yx ?_ | (refine Y8 ?_ ?_;· first | omega | (simp only [ByteArray.size_append,ByteArray.size_extract,Yr,Yt,Yv];omega)) | (refine Yi ?_ ?_;· omega) | (refine Yo ?_ ?_;· omega) | (refine Ym ?_ ?_;· omega) | (refine Yl ?_ ?_;· omega) | (refine Y13 ?_ ?_;· omega) | (refine Y1c ?_ ?_;· omega) | refine Yk ?_ | refine Yj ?_ | refine Yc ?_ | refine Y14 ?_)
       rfl
   · rw [if_pos (.inl hp),decide_eq_false hp]
     repeat (with_reducible first | refine stB rfl ?_ | refine Yx ?_ | (refine Y8 ?_ ?_;· first | omega | (simp only [ByteArray.size_append,ByteArray.size_extract,Yr,Yt,Yv];omega)) | (refine Yi ?_ ?_;· omega) | (refine Yo ?_ ?_;· omega) | (refine Ym ?_ ?_;· omega) | (refine Yl ?_ ?_;· omega) | (refine Y13 ?_ ?_;· omega) | (refine Y1c ?_ ?_;· omega) | refine Yk ?_ | refine Yj ?_ | refine Yc ?_ | refine Y14 ?_)
     rfl
 · rw [if_pos c0]
   repeat (with_reducible first | refine stB rfl ?_ | refine Yx ?_ | (refine Y8 ?_ ?_;· first | omega | (simp only [ByteArray.size_append,ByteArray.size_extract,Yr,Yt,Yv];omega)) | (refine Yi ?_ ?_;· omega) | (refine Yo ?_ ?_;· omega) | (refine Ym ?_ ?_;· omega) | (refine Yl ?_ ?_;· omega) | (refine Y13 ?_ ?_;· omega) | (refine Y1c ?_ ?_;· omega) | refine Yk ?_ | refine Yj ?_ | refine Yc ?_ | refine Y14 ?_)
   rfl
theorem Y1aw {N :Nat} (hN:1000≤N) (s:ByteArray):J9z N s=some (ofF s):=by
 unfold J9z J6p ofF
 have h0:=Yjm (s:=s)
 refine stB (Y11b hN s) ?_
 generalize Y19 s=r at*
 obtain ⟨p,c,e⟩:=r
 dsimp only at*
 by_cases c0:c=0
 · have hz:=h0 c0
   rw [if_neg (not_not_intro c0)]
   by_cases hp:p.Proto=6∨p.Proto=17
   · by_cases hd:p.Dst=167772161
     · rw [if_neg (by omega),show (p.Dst != 167772161)=false by rw [hd];rfl]
       by_cases he:(Y3m p.Proto p.Body p.Src p.Dst).2=0
       · rw [if_neg (not_not_intro he)]
         by_cases p6:p.Proto=6
         · repeat (with_reducible first | refine stB rfl ?_ | refine Yx ?_ | (refine Y8 ?_ ?_;· first | omega | (simp only [ByteArray.size_append,ByteArray.size_extract,Yr,Yt,Yv];omega)) | (refine Yi ?_ ?_;· omega) | (refine Yo ?_ ?_;· omega) | (refine Ym ?_ ?_;· omega) | (refine Yl ?_ ?_;· omega) | (refine Y13 ?_ ?_;· omega) | (refine Y1c ?_ ?_;· omega) | refine Yk ?_ | refine Yj ?_ | refine Yc ?_ | refine Y14 ?_ | refine stB (Y8p hN _ _ _ _ (by omega)) ?_)
           rfl
         · repeat (with_reducible first | refine stB rfl ?_ | refine Yx ?_ | (refine Y8 ?_ ?_;· first | omega | (simp only [ByteArray.size_append,ByteArray.size_extract,Yr,Yt,Yv];omega)) | (refine Yi ?_ ?_;· omega) | (refine Yo ?_ ?_;· omega) | (refine Ym ?_ ?_;· omega) | (refine Yl ?_ ?_;· omega) | (refine Y13 ?_ ?_;· omega) | (refine Y1c ?_ ?_;· omega) | refine Yk ?_ | refine Yj ?_ | refine Yc ?_ | refine Y14 ?_ | refine stB (Y8p hN _ _ _ _ (by omega)) ?_)
           rfl
       · rw [if_pos he]
         by_cases p6:p.Proto=6
         · repeat (with_reducible first | refine stB rfl ?_ | refine Yx ?_ | (refine Y8 ?_ ?_;· first | omega | (simp only [ByteArray.size_append,ByteArray.size_extract,Yr,Yt,Yv];omega)) | (refine Yi ?_ ?_;· omega) | (refine Yo ?_ ?_;· omega) | (refine Ym ?_ ?_;· omega) | (refine Yl ?_ ?_;· omega) | (refine Y13 ?_ ?_;· omega) | (refine Y1c ?_ ?_;· omega) | refine Yk ?_ | refine Yj ?_ | refine Yc ?_ | refine Y14 ?_ | refine stB (Y8p hN _ _ _ _ (by omega)) ?_)
           rfl
         · repeat (with_reducible first | refine stB rfl ?_ | refine Yx ?_ | (refine Y8 ?_ ?_;· first | omega | (simp only [ByteArray.size_append,ByteArray.size_extract,Yr,Yt,Yv];omega)) | (refine Yi ?_ ?_;· omega) | (refine Yo ?_ ?_;· omega) | (refine Ym ?_ ?_;· omega) | (refine Yl ?_ ?_;· omega) | (refine Y13 ?_ ?_;· omega) | (refine Y1c ?_ ?_;· omega) | refine Yk ?_ | refine Yj ?_ | refine Yc ?_ | refine Y14 ?_ | refine stB (Y8p hN _ _ _ _ (by omega)) ?_)
           rfl
     · rw [if_pos (.inr hd),show (p.Dst != 167772161)=true by rw [bne_iff_ne];exact hd]
       by_cases p6:p.Proto=6
       · repeat (with_reducible first | refine stB rfl ?_ | refine Yx ?_ | (refine Y8 ?_ ?_;· first | omega | (simp only [ByteArray.size_append,ByteArray.size_extract,Yr,Yt,Yv];omega)) | (refine Yi ?_ ?_;· omega) | (refine Yo ?_ ?_;· omega) | (refine Ym ?_ ?_;· omega) | (refine Yl ?_ ?_;· omega) | (refine Y13 ?_ ?_;· omega) | (refine Y1c ?_ ?_;· omega) | refine Yk ?_ | refine Yj ?_ | refine Yc ?_ | refine Y14 ?_)
         rfl
       · repeat (with_reducible first | refine stB rfl ?_ | refine Yx ?_ | (refine Y8 ?_ ?_;· first | omega | (simp only [ByteArray.size_append,ByteArray.size_extract,Yr,Yt,Yv];omega)) | (refine Yi ?_ ?_;· omega) | (refine Yo ?_ ?_;· omega) | (refine Ym ?_ ?_;· omega) | (refine Yl ?_ ?_;· omega) | (refine Y13 ?_ ?_;· omega) | (refine Y1c ?_ ?_;· omega) | refine Yk ?_ | refine Yj ?_ | refine Yc ?_ | refine Y14 ?_)
         rfl
   · rw [if_pos (.inl hp)]
     repeat (with_reducible first | refine stB rfl ?_ | refine Yx ?_ | (refine Y8 ?_ ?_;· first | omega | (simp only [ByteArray.size_append,ByteArray.size_extract,Yr,Yt,Yv];omega)) | (refine Yi ?_ ?_;· omega) | (refine Yo ?_ ?_;· omega) | (refine Ym ?_ ?_;· omega) | (refine Yl ?_ ?_;· omega) | (refine Y13 ?_ ?_;· omega) | (refine Y1c ?_ ?_;· omega) | refine Yk ?_ | refine Yj ?_ | refine Yc ?_ | refine Y14 ?_)
     rfl
 · rw [if_pos c0]
   repeat (with_reducible first | refine stB rfl ?_ | refine Yx ?_ | (refine Y8 ?_ ?_;· first | omega | (simp only [ByteArray.size_append,ByteArray.size_extract,Yr,Yt,Yv];omega)) | (refine Yi ?_ ?_;· omega) | (refine Yo ?_ ?_;· omega) | (refine Ym ?_ ?_;· omega) | (refine Yl ?_ ?_;· omega) | (refine Y13 ?_ ?_;· omega) | (refine Y1c ?_ ?_;· omega) | refine Yk ?_ | refine Yj ?_ | refine Yc ?_ | refine Y14 ?_)
   rfl
end Go.Proofs.YtpdcnikdoikldaaGreatDoor.Pu
namespace Go.Proofs.YtpdcnikdoikldaaGreatDoor.Pu
open Go Go.RowKit Go.Proofs.YtpdcnikdoikldaaGreatDoor.Sv Go.Proofs.YtpdcnikdoikldaaGreatDoor.Lf
attribute [local irreducible] Ja J8 Jc Jd J16 J1k
theorem Yo2 (N :Nat) (a b:Int):J1c N a b=some (decide (0≤a∧a< b)):=by
 unfold J1c Jad
 rw [Y8d]
 congr 1
 by_cases h:a≥0 <;> by_cases k:a< b <;> simp [h,k] <;> omega
def Y2f (a :Int):Int× Int× Int× Bool:=
 if 167837696≤a∧a< 167837698 then (0,0,a - 167837696,true)
 else if 167903232≤a∧a< 167903235 then (1,a - 167903232,0,true)
 else if 167968768≤a∧a< 167969536∧(a - 167968768) % 256< 4 then (2,(a - 167968768) / 256,(a - 167968768) % 256,true)
 else (0,0,0,false)
def RA (a :Int):Prop:= -4611686018427387904≤a∧a≤4611686018427387904
theorem Yc4 (N :Nat) (a:Int) (h:RA a):J2y N a=some (Y2f a):=by
 unfold RA at h
 unfold J2y Jao Y2f
 simp only [Yo2,Option.bind_some]
 rw [w64 (n:=a - 167837696) (by omega) (by omega),w64 (n:=a - 167903232) (by omega) (by omega),w64 (n:=a - 167968768) (by omega) (by omega)]
 by_cases c1:167837696≤a∧a< 167837698
 · rw [if_pos c1,decide_eq_true (show 0≤a - 167837696∧a - 167837696< 2 by omega)];rfl
 rw [if_neg c1,decide_eq_false (show ¬ (0≤a - 167837696∧a - 167837696< 2) by omega)]
 by_cases c2:167903232≤a∧a< 167903235
 · rw [if_pos c2,decide_eq_true (show 0≤a - 167903232∧a - 167903232< 3 by omega)];rfl
 rw [if_neg c2,decide_eq_false (show ¬ (0≤a - 167903232∧a - 167903232< 3) by omega)]
 by_cases c3:0≤a - 167968768∧a - 167968768< 768
 · rw [decide_eq_true c3,Int.tmod_eq_emod_of_nonneg c3.1,Int.tdiv_eq_ediv_of_nonneg c3.1,w64 (by omega) (by omega)]
   by_cases c4:(a - 167968768) % 256< 4
   · rw [if_pos (by omega)]
     refine Yj (Yj (Yk (Yx ?_)))
     rw [decide_eq_true c4];rfl
   · rw [if_neg (by omega)]
     refine Yj (Yj (Yk (Yx ?_)))
     rw [decide_eq_false c4];rfl
 · rw [decide_eq_false c3,if_neg (by omega)];rfl
def Y5w (role site id :Int):Int× Int:=
 if role=0∧site=0∧0≤id∧id< 2 then (167837696+id,0)
 else if role=1∧id=0∧0≤site∧site< 3 then (167903232+site,0)
 else if role=2∧0≤site∧site< 3∧0≤id∧id< 4 then (167968768+256*site+id,0)
 else (0,500)
theorem Y2w (N :Nat) (role site id:Int):Jj N role site id=some (Y5w role site id):=by
 unfold Jj J70 J6z J6y Y5w
 simp only [Yo2,Option.bind_some,Y6p]
 by_cases c1:role=0∧site=0∧0≤id∧id< 2
 · rw [if_pos c1,decide_eq_true c1.2.2]
   refine Ym c1.1 (Ym c1.2.1 (Yk ?_))
   rw [w64 (by omega) (by omega)]
 rw [if_neg c1]
 by_cases c2:role=1∧id=0∧0≤site∧site< 3
 · rw [if_pos c2,decide_eq_true c2.2.2]
   refine Yl (by omega) (Yj (Ym c2.1 (Yk ?_)))
   rw [show (id==0)=true by rw [c2.2.1];rfl,w64 (by omega) (by omega)]
   rfl
 rw [if_neg c2]
 by_cases c3:role=2∧0≤site∧site< 3∧0≤id∧id< 4
 · rw [if_pos c3,decide_eq_true (show 0≤site∧site< 3 by omega),decide_eq_true (show 0≤id∧id< 4 by omega)]
   refine Yl (by omega) (Yj (Yl (by omega) (Yj (Ym c3.1 (Yk (Yk ?_))))))
   rw [w64 (n:=256*site) (by omega) (by omega),w64 (n:=167968768+256*site) (by omega) (by omega),w64 (by omega) (by omega)]
 rw [if_neg c3]
 by_cases r0:role=0
 · refine Ym r0 ?_
   by_cases s0:site=0
   · rw [decide_eq_false (show ¬ (0≤id∧id< 2) by omega)]
     refine Ym s0 (Yj (Yl (by omega) (Yj (Yl (by omega) rfl))))
   · refine Yl s0 (Yj (Yl (by omega) (Yj (Yl (by omega) rfl))))
 · refine Yl r0 (Yj ?_)
   by_cases r1:role=1
   · refine Ym r1 ?_
     by_cases s1:0≤site∧site< 3
     · rw [decide_eq_true s1,show (id==0)=false by rw [beq_eq_false_iff_ne];omega]
       refine Yk (Yj (Yl (by omega) rfl))
     · rw [decide_eq_false s1]
       refine Yj (Yj (Yl (by omega) rfl))
   · refine Yl r1 (Yj ?_)
     by_cases r2:role=2
     · refine Ym r2 ?_
       by_cases s1:0≤site∧site< 3
       · rw [decide_eq_true s1,decide_eq_false (show ¬ (0≤id∧id< 4) by omega)]
         rfl
       · rw [decide_eq_false s1]
         rfl
     · exact Yl r2 rfl
def Y3w (a :Int):Prop:=167837696≤a∧a< 167837698∨167903232≤a∧a< 167903235∨167968768≤a∧a< 167969536∧(a - 167968768) % 256< 4
instance (a :Int):Decidable (Y3w a):=by unfold Y3w;infer_instance
theorem Y7z {a :Int} (h:Y3w a):0≤a∧a< 4294967296:=by unfold Y3w at h;omega
theorem Y14v (a :Int):(Y2f a).2.2.2=decide (Y3w a):=by
 unfold Y2f
 by_cases c1:167837696≤a∧a< 167837698
 · rw [if_pos c1,decide_eq_true (show Y3w a from .inl c1)]
 by_cases c2:167903232≤a∧a< 167903235
 · rw [if_neg c1,if_pos c2,decide_eq_true (show Y3w a from .inr (.inl c2))]
 by_cases c3:167968768≤a∧a< 167969536∧(a - 167968768) % 256< 4
 · rw [if_neg c1,if_neg c2,if_pos c3,decide_eq_true (show Y3w a from .inr (.inr c3))]
 · rw [if_neg c1,if_neg c2,if_neg c3,decide_eq_false (show ¬ Y3w a from fun h=>h.elim c1 fun h=>h.elim c2 c3)]
def Y5m (o :Y15):Bool:=
 decide (Y3w o.Src∧Y3w o.Dst∧1≤o.Tier∧o.Tier≤4∧(0≤o.Marker∧o.Marker< 256)∧(0≤o.Origin∧o.Origin< 256)∧o.Body.size≤512)
theorem Y7f {o :Y15} (h:Y5m o=true):Y3w o.Src∧Y3w o.Dst∧1≤o.Tier∧o.Tier≤4∧(0≤o.Marker∧o.Marker< 256)∧(0≤o.Origin∧o.Origin< 256)∧o.Body.size≤512:=of_decide_eq_true h
theorem Yq4 (N :Nat) (a:Int) (h:RA a):J75 N a=some (decide (Y3w a)):=by
 unfold J75
 exact stB (Yc4 N a h) (by rw [Y14v])
theorem Y14w (N :Nat) (o:Y15) (hs:RA o.Src) (hd:RA o.Dst):Jap N o=some (Y5m o):=by
 unfold Jap J1q
 rw [Yq4 N _ hs,Yq4 N _ hd]
 simp only [in8,Option.bind_some,Y8d]
 congr 1
 rw [Bool.eq_iff_iff]
 unfold Y5m
 simp only [Ynz,decide_eq_true_eq,decide_eq_false_iff_not,beq_iff_eq,beq_eq_false_iff_ne,bne_iff_ne,Bool.not_eq_true',Bool.not_eq_false',Bool.and_eq_true,Bool.false_eq_true,Bool.true_eq_false,reduceCtorEq,and_false,false_and,or_false,false_or,true_and,and_true,Bool.not_eq_eq_eq_not,Bool.not_true,Bool.not_false]
 generalize Y3w o.Src=A
 generalize Y3w o.Dst=B
 by_cases a:A <;> by_cases b:B <;> simp only [a,b,true_and,false_and,and_false,true_iff,false_iff,not_true,not_false_iff,or_false]
 all_goals omega
def inG (o :Y15):ByteArray:=B1 0++B1 o.Tier++B1 o.Marker++B1 o.Origin++B2 o.Body.size++B2 0++o.Body
def Yo3 (o :Y15):ByteArray:=B2 61440++B2 6080++B2 (16+o.Body.size)++B2 0++inG o
theorem Yo4 (o :Y15):(inG o).size=8+o.Body.size:=by
 simp only [inG,ByteArray.size_append,Yr,Yt]
theorem Yjn (o :Y15):(Yo3 o).size=16+o.Body.size:=by
 simp only [Yo3,ByteArray.size_append,Yt,Yo4];omega
def ipG (o :Y15):GIp:=⟨o.Src,o.Dst,17,64,0,Yo3 o⟩
def Y3x (o :Y15):ByteArray:=Ysu (ipG o)
theorem Yht (o :Y15):(Y3x o).size=36+o.Body.size:=by
 rw [Y3x,Yx5]
 show 20+(Yo3 o).size=_
 rw [Yjn];omega
theorem Yxa {o :Y15} (h:Y5m o=true) (h2:o.Body.size≤324):Ybz (ipG o)=true:=by
 obtain ⟨h0,h1,_⟩:=Y7f h
 have a:=Y7z h0;have b:=Y7z h1
 have c:=Yjn o
 rw [Y119]
 unfold ipG
 dsimp only
 omega
abbrev Y1ci:=ByteArray× Int
def Y6k (o :Y15):Y1ci:=if Y5m o=true then if 324< o.Body.size then (ByteArray.empty,601) else (Y3x o,0) else (ByteArray.empty,600)
theorem Yit {N :Nat} (hN:1000≤N) (o:Y15) (hs:RA o.Src) (hd:RA o.Dst):J2u N o=some (Y6k o):=by
 unfold J2u Y6k
 refine stB (Y14w N o hs hd) ?_
 by_cases h:Y5m o=true
 · rw [if_pos h,h]
   have hp:=Y7f h
   refine Yc (Yx ?_)
   rw [w64 (n:=36+(o.Body.size:Int)) (by omega) (by omega)]
   by_cases h2:324< o.Body.size
   · rw [if_pos h2]
     exact Yi (by omega) rfl
   · rw [if_neg h2]
     refine Yo (by omega) ?_
     have hput:=Y1au hN (ipG o)
     rw [if_pos (Yxa h (by omega))] at hput
     have sz:=Yo4 o
     unfold inG at sz
     unfold ipG Yo3 inG at hput
     have e16:(16+(o.Body.size:Int))=8+((B1 0++B1 o.Tier++B1 o.Marker++B1 o.Origin++B2 o.Body.size++B2 0++o.Body).size:Int):=by omega
     rw [e16] at hput
     repeat (with_reducible first | refine stB rfl ?_ | refine Yx ?_ | (refine Y8 ?_ ?_;· first | omega | (simp only [ByteArray.size_append,ByteArray.size_extract,Yr,Yt,Yv];omega)) | (refine Yi ?_ ?_;· omega) | (refine Yo ?_ ?_;· omega) | (refine Ym ?_ ?_;· omega) | (refine Yl ?_ ?_;· omega) | (refine Y13 ?_ ?_;· omega) | (refine Y1c ?_ ?_;· omega) | refine Yk ?_ | refine Yj ?_ | refine Yc ?_ | refine Y14 ?_ | refine stB (Ydp hN _) ?_ | refine stB (Yhk hN _) ?_)
     rw [w64 (n:=8+((B1 0++B1 o.Tier++B1 o.Marker++B1 o.Origin++B2 o.Body.size++B2 0++o.Body).size:Int)) (by omega) (by omega)]
     refine stB hput ?_
     rw [← e16]
     rfl
 · rw [if_neg h]
   rw [Bool.not_eq_true] at h
   rw [h];rfl
abbrev OutR:=Y15× Int
def Yfo :OutR:=(⟨0,0,0,0,0,ByteArray.empty⟩,600)
def Y4v (s :ByteArray):Y15:=⟨N4 s 12,N4 s 16,bt s 29,bt s 30,bt s 31,s.extract 36 s.size⟩
def Yz (s :ByteArray):OutR:=
 if s.size< 36 then Yfo
 else if Y5m (Y4v s)=true∧s.size≤360∧Y3x (Y4v s)=s then (Y4v s,0) else Yfo
theorem Yko (s :ByteArray) (i:Nat):RA (N4 s i):=by
 have:=Yfk s i
 exact ⟨by omega,by omega⟩
theorem Y14x (s :ByteArray) (c:¬ s.size< 36):(if (Y6k (Y4v s)).2=0∧(Y6k (Y4v s)).1=s then (Y4v s,0) else Yfo)=Yz s:=by
 have hb:(Y4v s).Body.size=s.size - 36:=by unfold Y4v;dsimp only;rw [ByteArray.size_extract];omega
 unfold Yz
 rw [if_neg c]
 unfold Y6k
 by_cases m:Y5m (Y4v s)=true
 · rw [if_pos m]
   by_cases z:324< (Y4v s).Body.size
   · rw [if_pos z,if_neg (fun h=>absurd h.1 (by decide)),if_neg (fun h=>by omega)]
   · rw [if_neg z]
     by_cases e:Y3x (Y4v s)=s
     · rw [if_pos ⟨rfl,e⟩,if_pos ⟨m,by omega,e⟩]
     · rw [if_neg (fun h=>e h.2),if_neg (fun h=>e h.2.2)]
 · rw [if_neg m,if_neg (fun h=>absurd h.1 (by decide)),if_neg (fun h=>m h.1)]
theorem Yo5 {N :Nat} (hN:1000≤N) (s:ByteArray):J30 N s=some (Yz s):=by
 unfold J30 Jaq
 by_cases c:s.size< 36
 · unfold Yz
   rw [if_pos c]
   exact Yi (by omega) rfl
 have hg:(s.extract 28 s.size).size=s.size - 28:=by rw [ByteArray.size_extract];omega
 have e1:bt (s.extract 28 s.size) 1=bt s 29:=Y3e s 28 s.size 1 (by omega) (Nat.le_refl _)
 have e2:bt (s.extract 28 s.size) 2=bt s 30:=Y3e s 28 s.size 2 (by omega) (Nat.le_refl _)
 have e3:bt (s.extract 28 s.size) 3=bt s 31:=Y3e s 28 s.size 3 (by omega) (Nat.le_refl _)
 have e4:=Y1ch s 28 8 (by omega)
 have r1:=Y17 s 29;have r2:=Y17 s 30;have r3:=Y17 s 31
 have hp:J2u N ⟨N4 s 12,N4 s 16,bt s 29,bt s 30,bt s 31,s.extract (28+8) s.size⟩=some (Y6k (Y4v s)):=Yit hN (Y4v s) (Yko s 12) (Yko s 16)
 rw [← Y14x s c]
 refine Yo (by omega) ?_
 simp only [Y6p]
 rw [e4,e1,e2,e3,w64 (n:=bt s 29) (by omega) (by omega),w64 (n:=bt s 30) (by omega) (by omega),w64 (n:=bt s 31) (by omega) (by omega)]
 by_cases q:(Y6k (Y4v s)).2=0
 · repeat (with_reducible first | refine stB rfl ?_ | refine Yx ?_ | (refine Y8 ?_ ?_;· first | omega | (simp only [ByteArray.size_append,ByteArray.size_extract,Yr,Yt,Yv];omega)) | (refine Yi ?_ ?_;· omega) | (refine Yo ?_ ?_;· omega) | (refine Ym ?_ ?_;· omega) | (refine Yl ?_ ?_;· omega) | (refine Y13 ?_ ?_;· omega) | (refine Y1c ?_ ?_;· omega) | refine Yk ?_ | refine Yj ?_ | refine Yc ?_ | refine Y14 ?_ | refine stB (Y83 hN s 12 16 rfl (by omega)) ?_ | refine stB (Y83 hN s 16 20 rfl (by omega)) ?_ | refine stB (hp) ?_)
   rw [Y8n]
   by_cases e:(Y6k (Y4v s)).1=s
   · rw [if_pos ⟨q,e⟩,decide_eq_true e];rfl
   · rw [if_neg (fun h=>e h.2),decide_eq_false e];rfl
 · rw [if_neg (show ¬ ((Y6k (Y4v s)).2=0∧(Y6k (Y4v s)).1=s) from fun h=>q h.1)]
   repeat (with_reducible first | refine stB rfl ?_ | refine Yx ?_ | (refine Y8 ?_ ?_;· first | omega | (simp only [ByteArray.size_append,ByteArray.size_extract,Yr,Yt,Yv];omega)) | (refine Yi ?_ ?_;· omega) | (refine Yo ?_ ?_;· omega) | (refine Ym ?_ ?_;· omega) | (refine Yl ?_ ?_;· omega) | (refine Y13 ?_ ?_;· omega) | (refine Y1c ?_ ?_;· omega) | refine Yk ?_ | refine Yj ?_ | refine Yc ?_ | refine Y14 ?_ | refine stB (Y83 hN s 12 16 rfl (by omega)) ?_ | refine stB (Y83 hN s 16 20 rfl (by omega)) ?_ | refine stB (hp) ?_)
   rfl
def Yc5 (c :Int):Int:=if c=1 then 2 else if c=2 then 3 else 4
theorem Ysz (s :ByteArray):(Y19 s).2.1=0∨(Y19 s).2.1=1∨(Y19 s).2.1=2∨(Y19 s).2.1=3:=by
 unfold Y19 Yc1
 repeat' split
 all_goals simp
theorem Yxb (s :ByteArray):((ofF s).2.2=0∨(ofF s).2.2=1∨(ofF s).2.2=2∨(ofF s).2.2=3)∧((ofF s).2.2≠0→(ofF s).1=⟨0,0,0,0,0⟩):=by
 have h:=Ysz s
 unfold ofF noF
 split
 · exact ⟨h,fun _=>rfl⟩
 · split
   · exact ⟨.inr (.inr (.inr rfl)),fun _=>rfl⟩
   · split
     · exact ⟨.inr (.inl rfl),fun _=>rfl⟩
     · exact ⟨.inl rfl,fun h=>absurd rfl h⟩
theorem Yc6 (N :Nat) (c:Int):J3y N c=some (Yc5 c):=by
 unfold J3y Yc5
 simp only [ceq]
 by_cases a:c=1
 · rw [if_pos a,if_pos a]
 · rw [if_neg a,if_neg a]
   by_cases b:c=2
   · rw [if_pos b,if_pos b]
   · rw [if_neg b,if_neg b]
end Go.Proofs.YtpdcnikdoikldaaGreatDoor.Pu
namespace Go.Proofs.YtpdcnikdoikldaaGreatDoor.Pu
open Go Go.RowKit Go.Proofs.YtpdcnikdoikldaaGreatDoor.Sv Go.Proofs.YtpdcnikdoikldaaGreatDoor.Lf
end Go.Proofs.YtpdcnikdoikldaaGreatDoor.Pu
namespace Go.Proofs.YtpdcnikdoikldaaGreatDoor.Pu
open Go Go.RowKit Go.Proofs.YtpdcnikdoikldaaGreatDoor.Sv Go.Proofs.YtpdcnikdoikldaaGreatDoor.Lf
theorem Yc7 (n :Int):IntKind.u32.wrap n=n % 4294967296:=by simp [IntKind.wrap,IntKind.bits,IntKind.signed]
theorem Yt0 (a b :Nat) (ha:a< 4294967296) (hb:b< 4294967296):Y7j .u32 (a:Int) (b:Int)=((a ^^^ b:Nat):Int)∧a ^^^ b< 4294967296:=by
 have hx:(a ^^^ b)< 4294967296:=Nat.xor_lt_two_pow (n:=32) ha hb
 refine ⟨?_,hx⟩
 show IntKind.u32.wrap ((BitVec.ofInt 32 (a:Int) ^^^ BitVec.ofInt 32 (b:Int)).toNat:Int)=_
 rw [BitVec.toNat_xor,BitVec.ofInt_natCast,BitVec.ofInt_natCast,BitVec.toNat_ofNat,BitVec.toNat_ofNat,Nat.mod_eq_of_lt (show a< 2 ^ 32 from ha),Nat.mod_eq_of_lt (show b< 2 ^ 32 from hb),Yc7]
 omega
def X (s x :Nat):Nat:=x ^^^ (x >>> s)
theorem X_lt {s x :Nat} (h:x< 4294967296):X s x< 4294967296:=by
 unfold X
 refine Nat.xor_lt_two_pow (n:=32) h (Nat.lt_of_le_of_lt ?_ h)
 rw [Nat.shiftRight_eq_div_pow]
 exact Nat.div_le_self _ _
def Yfp (k x :Nat):Nat:=X 16 (X 13 (X 16 ((k+2654435769) % 4294967296 ^^^ x)*2246822507 % 4294967296)*3266489909 % 4294967296)
theorem Yem (k x :Nat):Yfp k x< 4294967296:=X_lt (Nat.mod_lt _ (by decide))
theorem Y1cj (a :Nat) (s:Nat):((a:Int)).fdiv (2 ^ s)=((a >>> s:Nat):Int):=by
 rw [fd _ (Int.le_of_lt (Int.pow_pos (by decide))),Nat.shiftRight_eq_div_pow,Int.natCast_ediv]
 simp
theorem bX (s a :Nat) (h:a< 4294967296):Y7j .u32 (a:Int) ((a:Int).fdiv (2 ^ s))=((X s a:Nat):Int):=by
 rw [Y1cj,(Yt0 a (a >>> s) h (Nat.lt_of_le_of_lt (by rw [Nat.shiftRight_eq_div_pow];exact Nat.div_le_self _ _) h)).1]
 rfl
theorem Yxc (N :Nat) (k x:Nat) (hk:k< 4294967296) (hx:x< 4294967296):J5g N (k:Int) (x:Int)=some ((Yfp k x:Nat):Int):=by
 unfold J5g Yfp
 have h1:(k+2654435769) % 4294967296< 4294967296:=Nat.mod_lt _ (by decide)
 have w1:IntKind.u32.wrap ((k:Int)+2654435769)=(((k+2654435769) % 4294967296:Nat):Int):=by rw [Yc7];omega
 rw [w1,(Yt0 _ x h1 hx).1]
 have hx1:=(Yt0 _ x h1 hx).2
 generalize (k+2654435769) % 4294967296 ^^^ x=a at*
 simp only [Y6p]
 rw [bX 16 a hx1]
 have w2:IntKind.u32.wrap (((X 16 a:Nat):Int)*2246822507)=((X 16 a*2246822507 % 4294967296:Nat):Int):=by rw [Yc7];omega
 rw [w2,bX 13 _ (Nat.mod_lt _ (by decide))]
 have w3:∀ y:Nat,IntKind.u32.wrap ((y:Int)*3266489909)=((y*3266489909 % 4294967296:Nat):Int):=fun y=>by rw [Yc7];omega
 rw [w3,bX 16 _ (Nat.mod_lt _ (by decide))]
theorem Yxd (N :Nat) (k x:Nat) (hk:k< 4294967296) (hx:x< 4294967296):J5i N (k:Int) (x:Int)=some (((Yfp k x:Nat):Int),0):=by
 have hm:=Yem k x
 have wk:IntKind.u32.wrap (k:Int)=(k:Int):=by rw [Yc7];omega
 have wx:IntKind.u32.wrap (x:Int)=(x:Int):=by rw [Yc7];omega
 unfold J5i J7h
 rw [Yfl,Yfl,decide_eq_true (show 0≤(k:Int)∧(k:Int)< 4294967296 by omega),decide_eq_true (show 0≤(x:Int)∧(x:Int)< 4294967296 by omega),wk,wx]
 refine stB rfl (Yc (stB rfl (Yj (stB (Yxc N k x hk hx) ?_))))
 rw [w64 (by omega) (by omega)]
end Go.Proofs.YtpdcnikdoikldaaGreatDoor.Pu
