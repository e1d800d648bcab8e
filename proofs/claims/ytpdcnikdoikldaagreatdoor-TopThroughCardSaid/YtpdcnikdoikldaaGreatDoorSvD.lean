import Derived.Test.YtpdcnikdoikldaaGreatDoorSvA
import Derived.Laws.MakeOwn
import Derived.Lib.Builder
import Derived.Lib.UnsafeStr
import Derived.Laws.Cells
set_option linter.unusedVariables false
set_option linter.unusedSimpArgs false
namespace Go.Proofs.YtpdcnikdoikldaaGreatDoor.Sv
open Go Go.RowKit
theorem M.bind_eq {U Qb :Type} {m:M U} {f:U->M Qb} {s:St} {b:Qb} {k:Log} (h:(m >>= f) s=some (b,k)):
   ∃ a l l',m s=some (a,l)/\f a s=some (b,l')/\k={t:=l.t++l'.t,h:=l.h++l'.h,o:=l.o++l'.o}:=by
 change M.bind m f s=_ at h
 unfold M.bind at h
 cases hm:m s with
 | none=>rw [hm] at h;simp at h
 | some p=>
   obtain ⟨a,l⟩:=p
   rw [hm] at h
   simp only at h
   cases hf:f a s with
   | none=>rw [hf] at h;simp at h
   | some q=>
     obtain ⟨b',l'⟩:=q
     rw [hf] at h
     simp only [Option.some.injEq,Prod.mk.injEq] at h
     obtain ⟨rfl,rfl⟩:=h
     exact ⟨a,l,l',rfl,hf,rfl⟩
theorem M.pure_eq {U :Type} {a b:U} {s:St} {k:Log} (h:M.pure a s=some (b,k)):a=b/\k={}:=by
 simp only [M.pure,Option.some.injEq,Prod.mk.injEq] at h;exact ⟨h.1,h.2.symm⟩
theorem M.fail_eq {U :Type} {b:U} {s:St} {k:Log} (h:(M.fail:M U) s=some (b,k)):False:=by simp [M.fail] at h
theorem Y170 {p :Prop} {s:St} {u:Unit} {k:Log} (h:need p s=some (u,k)):k={o:=[p]}:=by
 simp only [need,Option.some.injEq,Prod.mk.injEq] at h;exact h.2.symm
theorem Yjn {b :Bool} {s:St} {u:Unit} {k:Log} (h:test b s=some (u,k)):b=true/\k={}:=by
 cases b with
 | true=>exact ⟨rfl,(M.pure_eq (s:=s) h).2⟩
 | false=>exact (M.fail_eq (s:=s) h).elim
theorem Yff {U :Type} {x:Option U} {s:St} {a:U} {k:Log} (h:lift x s=some (a,k)):x=some a/\k={}:=by
 cases x with
 | none=>exact (M.fail_eq (s:=s) h).elim
 | some b=>obtain ⟨rfl,hk⟩:=M.pure_eq (s:=s) h;exact ⟨rfl,hk⟩
theorem Yfg {t :Nat} {s:St} {d:D} {k:Log} (h:getT t s=some (d,k)):d=s.tmp t:=by
 simp only [getT,Option.some.injEq,Prod.mk.injEq] at h;exact h.1.symm
theorem Yrq {b :Nat} {s:St} {x:Option (Option Blk)} {k:Log} (h:getH b s=some (x,k)):x=s.slot b:=by
 simp only [getH,Option.some.injEq,Prod.mk.injEq] at h;exact h.1.symm
def Log.ok (l :Log):Prop:=∀ p,p∈l.o->p
theorem M.bindO {U Qb :Type} {m:M U} {f:U->M Qb} {s:St} {b:Qb} {k:Log} (h:(m >>= f) s=some (b,k)) (ho:k.ok):
   ∃ a l l',m s=some (a,l)/\f a s=some (b,l')/\l.ok/\l'.ok:=by
 obtain ⟨a,l,l',h1,h2,rfl⟩:=M.bind_eq h
 exact ⟨a,l,l',h1,h2,fun p hp=>ho p (List.mem_append.2 (.inl hp)),fun p hp=>ho p (List.mem_append.2 (.inr hp))⟩
theorem Yx {p :Prop} {Qb:Type} {f:Unit->M Qb} {s:St} {b:Qb} {k:Log} (h:(need p >>= f) s=some (b,k)) (ho:k.ok):p/\∃ l,f () s=some (b,l)/\l.ok:=by
 obtain ⟨_,l,l',h1,h2,h3,h4⟩:=M.bindO h ho
 obtain rfl:=Y170 h1
 exact ⟨h3 p (by simp),l',h2,h4⟩
theorem Y9y {sym c :Bool} {p:Prop} {hp:c=true->p} {Qb:Type} {f:Unit->M Qb} {s:St} {b:Qb} {k:Log} (h:(ask sym c p hp >>= f) s=some (b,k)) (ho:k.ok):p/\∃ l,f () s=some (b,l)/\l.ok:=by
 cases sym with
 | true=>exact Yx h ho
 | false=>
   obtain ⟨_,l,l',h1,h2,h3,h4⟩:=M.bindO h ho
   exact ⟨hp (Yjn h1).1,l',h2,h4⟩
theorem Yl {c :Bool} {Qb:Type} {f:Unit->M Qb} {s:St} {b:Qb} {k:Log} (h:(test c >>= f) s=some (b,k)) (ho:k.ok):c=true/\∃ l,f () s=some (b,l)/\l.ok:=by
 obtain ⟨_,l,l',h1,h2,h3,h4⟩:=M.bindO h ho
 exact ⟨(Yjn h1).1,l',h2,h4⟩
theorem Y2j {U Qb :Type} {x:Option U} {f:U->M Qb} {s:St} {b:Qb} {k:Log} (h:(lift x >>= f) s=some (b,k)) (ho:k.ok):∃ a,x=some a/\∃ l,f a s=some (b,l)/\l.ok:=by
 obtain ⟨a,l,l',h1,h2,h3,h4⟩:=M.bindO h ho
 exact ⟨a,(Yff h1).1,l',h2,h4⟩
theorem Y2e {n :Nat} {Qb:Type} {f:Option (Option Blk)->M Qb} {s:St} {b:Qb} {k:Log} (h:(getH n >>= f) s=some (b,k)) (ho:k.ok):∃ l,f (s.slot n) s=some (b,l)/\l.ok:=by
 obtain ⟨a,l,l',h1,h2,h3,h4⟩:=M.bindO h ho
 rw [Yrq h1] at h2
 exact ⟨l',h2,h4⟩
theorem Y8 {U :Type} {a b:U} {s:St} {k:Log} (h:M.pure a s=some (b,k)):a=b:=(M.pure_eq h).1
theorem Yw8 {U Qb :Type} {a:U} {f:U->M Qb} {s:St} {b:Qb} {k:Log} (h:(M.pure a >>= f) s=some (b,k)) (ho:k.ok):∃ l,f a s=some (b,l)/\l.ok:=by
 obtain ⟨c,l,l',h1,h2,h3,h4⟩:=M.bindO h ho
 obtain rfl:=Y8 h1
 exact ⟨l',h2,h4⟩
structure Base (w0 :World) (S im0 bo:Nat->Prop):Prop where
 lt:∀ b,im0 b\/bo b->b< w0.heap.size
 no:∀ b,im0 b\/bo b->¬ S b
structure Rel (n :Nat) (w0:World) (S im0 bo:Nat->Prop) (V:Env) (im:Nat->Prop) (I:Env) (s:St) (a:Act) (w:World):Prop where
 base:Base w0 S im0 bo
 size:a.tmps.size=n
 defers:a.defers=[]
 tmp:∀ t,R im w bo I (s.tmp t) (a.tmps.getD t Go.undef)
 own:Own im bo I w s.slot
 kept:Ymp S w0 w
 imlt:∀ b,im b->b< w.heap.size
 imo:∀ b,im0 b->im b
 imn:∀ b,im b->im0 b\/S b\/w0.heap.size<=b
 owo:∀ b k pl B,s.slot b=some (some k)->I b=some pl->pl.blk=some B->S B\/w0.heap.size<=B
 dom:∀ b,s.slot b=none->I b=none
 arg:∀ b p,V b=some p->I b=some p
structure Y4a (P :Program) (t:Nat) (i:TI):Prop where
 info:∃ j d,P.info? t=some j/\P.underlying t=some d/\j.size=i.size/\j.bytes=i.bytes/\i.kind.desc d=true/\
   (zok i=true->∃ z,j.zero=some z/\Ydw z.cells.toList=some i.zero/\i.zero.length=i.size/\Y1r z.cells.toList)
 eq:i.eq.isEmpty=false->∀ (im bo:Nat->Prop) (I:Env) (w w':World) (as bs:List D) (xs ys:List Value) (r:Bool),Rs im w' bo I as xs->Rs im w' bo I bs ys->Y1z i.eq as bs=some r->
   (Op.equal t (.agg xs.toArray) (.agg ys.toArray)).run P w=.ok r w/\P.eqGuardType P.depth t=false
def Y2p (P :Program) (ty:Ty):Prop:=∀ (t:Nat) (i:TI),ty[t]? =some i->Y4a P t i
mutual
theorem Y15g {im bo :Nat->Prop} {w:World} {I:Env}:∀ (v:Value) (d:D),ofV v=some d->R im w bo I d v
 | .bool b,d,h=>by simp [ofV] at h;subst h;exact .bool _
 | .int k n,d,h=>by simp [ofV] at h;subst h;exact .int _ _
 | .string s,d,h=>by simp [ofV] at h;subst h;exact .str _
 | .pointer none,d,h=>by simp [ofV] at h;subst h;exact .nilp
 | .pointer (some _),d,h=>by simp [ofV] at h
 | .slice none 0 0,d,h=>by simp [ofV] at h;subst h;exact .nils
 | .slice none 0 (_+1),d,h=>by simp [ofV] at h
 | .slice none (_+1) _,d,h=>by simp [ofV] at h
 | .slice (some _) _ _,d,h=>by simp [ofV] at h
 | .nilFunc,d,h=>by simp [ofV] at h;subst h;exact .nilf
 | .func (.func f) ⟨[]⟩ ⟨[]⟩,d,h=>by simp [ofV] at h;subst h;exact .fn (vs:=[]) .nil
 | .func (.func f) ⟨[]⟩ ⟨_ :: _⟩,d,h=>by simp [ofV] at h
 | .func (.func f) ⟨_ :: _⟩ _,d,h=>by simp [ofV] at h
 | .func (.method _) _ _,d,h=>by simp [ofV] at h
 | .func (.methodOf _ _) _ _,d,h=>by simp [ofV] at h
 | .func (.via _ _ _ _) _ _,d,h=>by simp [ofV] at h
 | .func (.yield _) _ _,d,h=>by simp [ofV] at h
 | .agg ⟨cs⟩,d,h=>by
   simp only [ofV] at h
   cases ho:cs.all Value.oneCell' with
   | false=>rw [ho] at h;simp at h
   | true=>
     rw [ho] at h
     simp only [cond_true,Option.map_eq_some_iff] at h
     obtain ⟨ds,hd,rfl⟩:=h
     exact .agg (vs:=cs) (fun v hv=>List.all_eq_true.1 ho v hv) (Ybs cs ds hd)
 | .tuple _,d,h=>by simp [ofV] at h
 | .float _ _,d,h=>by simp [ofV] at h
 | .complex _ _ _,d,h=>by simp [ofV] at h
 | .map _,d,h=>by simp [ofV] at h
 | .chan none,d,h=>by simp [ofV] at h;subst h;exact .undef _
 | .chan (some _),d,h=>by simp [ofV] at h
 | .iface _ _,d,h=>by simp [ofV] at h
 | .nilIface,d,h=>by simp [ofV] at h;subst h;exact .undef _
theorem Ybs {im bo :Nat->Prop} {w:World} {I:Env}:∀ (vs:List Value) (ds:List D),Ydw vs=some ds->Rs im w bo I ds vs
 | [],ds,h=>by simp [Ydw] at h;subst h;exact .nil
 | v :: vs,ds,h=>by
   simp only [Ydw] at h
   split at h
   . rename_i d es hd he
     simp at h;subst h
     exact .cons (Y15g v d hd) (Ybs vs es he)
   . simp at h
end
section
variable {P : Program} {ty : Ty} {n : Nat} {w0 : World} {S im0 bo im : Nat -> Prop} {V I : Env} {s : St} {a : Act} {w : World}
theorem Ybt (hr :Rel n w0 S im0 bo V im I s a w) {x:Operand} {d:D} {l:Log} (h:ev x s=some (d,l)):R im w bo I d (a.eval x):=by
 cases x with
 | tmp t=>rw [Yfg h];exact hr.tmp t
 | const v=>exact Y15g v d (Yff h).1
 | global g=>exact (M.fail_eq (s:=s) h).elim
 | func f=>obtain ⟨rfl,_⟩:=M.pure_eq (s:=s) h;exact .fn (vs:=[]) .nil
theorem Y171 (hr :Rel n w0 S im0 bo V im I s a w):∀ {xs:List Operand} {ds:List D} {l:Log},evl xs s=some (ds,l)->Rs im w bo I ds (xs.map a.eval):=by
 intro xs
 induction xs with
 | nil=>intro ds l h;obtain ⟨rfl,_⟩:=M.pure_eq h;exact .nil
 | cons x xs ih=>
   intro ds l h
   obtain ⟨d,l1,l2,h1,h2,_⟩:=M.bind_eq h
   obtain ⟨es,l3,l4,h3,h4,_⟩:=M.bind_eq h2
   obtain ⟨rfl,_⟩:=M.pure_eq h4
   exact .cons (Ybt hr h1) (ih h3)
theorem Yw (ht :Y2p P ty) {t:Nat} {Qb:Type} {f:TI->M Qb} {b:Qb} {k:Log} (h:(ty.at t >>= f) s=some (b,k)) (ho:k.ok):∃ i,Y4a P t i/\∃ l,f i s=some (b,l)/\l.ok:=by
 obtain ⟨a,l,l',h1,h2,h3,h4⟩:=M.bindO h ho
 exact ⟨a,ht t a (Yff h1).1,l',h2,h4⟩
theorem Y26 (hr :Rel n w0 S im0 bo V im I s a w) {x:Operand} {Qb:Type} {f:D->M Qb} {b:Qb} {k:Log} (h:(ev x >>= f) s=some (b,k)) (ho:k.ok):∃ d,R im w bo I d (a.eval x)/\∃ l,f d s=some (b,l)/\l.ok:=by
 obtain ⟨d,l,l',h1,h2,h3,h4⟩:=M.bindO h ho
 exact ⟨d,Ybt hr h1,l',h2,h4⟩
theorem Y4j (hr :Rel n w0 S im0 bo V im I s a w) {xs:List Operand} {Qb:Type} {f:List D->M Qb} {b:Qb} {k:Log} (h:(evl xs >>= f) s=some (b,k)) (ho:k.ok):∃ ds,Rs im w bo I ds (xs.map a.eval)/\∃ l,f ds s=some (b,l)/\l.ok:=by
 obtain ⟨d,l,l',h1,h2,h3,h4⟩:=M.bindO h ho
 exact ⟨d,Y171 hr h1,l',h2,h4⟩
end
theorem Rs.toArr {im bo :Nat->Prop} {w:World} {I:Env} {ds:List D} {v:Value} (h:R im w bo I (.agg ds) v):∃ vs,v=.agg vs.toArray/\Rs im w bo I ds vs/\Y1r vs:=by
 cases h with | agg o k=>exact ⟨_,rfl,k,o⟩
section
variable {P : Program} {w : World}
theorem Yw9 {op :BinOp} {t:TypeId} {k:IntKind} {x y:Int} {s:St} {d:D} {l:Log} (hs:op≠.shl) (hs':op≠.shr) (h:intOp op k x y s=some (d,l)) (ho:l.ok):
   ∃ v,(binOp op t (.int k x) (.int k y)).run P w=.ok v w/\∀ im bo I,R im w bo I d v:=by
 cases op <;> simp only [intOp,ne_eq,not_true_eq_false] at h hs hs' <;> first
   | (obtain ⟨rfl,_⟩:=M.pure_eq h
      exact ⟨_,(by simp only [binOp,ne_eq,not_true_eq_false,if_false];rfl),fun _ _ _=>by first | exact .int _ _ | exact .bool _⟩)
   | (obtain ⟨hy,l',h2,_⟩:=Yx h ho
      obtain rfl:=Y8 h2
      exact ⟨_,(by simp only [binOp,ne_eq,not_true_eq_false,if_false,Op.intDiv,if_neg hy];rfl),fun _ _ _=>.int _ _⟩)
   | exact (M.fail_eq h).elim
theorem Ymr {op :BinOp} {t:TypeId} {k k':IntKind} {x y:Int} {s:St} {d:D} {l:Log} (h:shOp op k x y s=some (d,l)) (ho:l.ok):
   ∃ v,(binOp op t (.int k x) (.int k' y)).run P w=.ok v w/\∀ im bo I,R im w bo I d v:=by
 cases op <;> simp only [shOp] at h <;> first
   | (obtain ⟨hy,l',h2,_⟩:=Yx h ho
      obtain rfl:=Y8 h2
      exact ⟨_,(by simp only [binOp,Op.shift,if_neg (Int.not_lt.2 hy)];rfl),fun _ _ _=>.int _ _⟩)
   | exact (M.fail_eq h).elim
theorem Ywa {op :BinOp} {t:TypeId} {x y:ByteArray} {s:St} {d:D} {l:Log} (h:strOp op x y s=some (d,l)) (ho:l.ok):
   ∃ v,(binOp op t (.string x) (.string y)).run P w=.ok v w/\∀ im bo I,R im w bo I d v:=by
 cases op <;> simp only [strOp] at h <;> first
   | (obtain ⟨hy,l',h2,_⟩:=Yx h ho
      obtain rfl:=Y8 h2
      refine ⟨.string (x++y),?_,fun _ _ _=>.str _⟩
      have e:(IntKind.i64.max:Int)=9223372036854775807:=by decide
      simp only [binOp,Op.stringOp,e]
      rw [if_neg (by omega)]
      rfl)
   | (obtain ⟨rfl,_⟩:=M.pure_eq h
      exact ⟨_,rfl,fun _ _ _=>.bool _⟩)
   | exact (M.fail_eq h).elim
theorem Y19c {op :BinOp} {b:Bool} {s:St} {d:D} {l:Log} (h:neg op b s=some (d,l)):(op=.eql/\d=.bool b\/op=.neq/\d=.bool (!b))/\l={}:=by
 cases op <;> simp only [neg] at h <;> first
   | (obtain ⟨rfl,hl⟩:=M.pure_eq h;exact ⟨by simp,hl⟩)
   | exact (M.fail_eq h).elim
end
end Go.Proofs.YtpdcnikdoikldaaGreatDoor.Sv
namespace Go.Proofs.YtpdcnikdoikldaaGreatDoor.Sv
open Go Go.RowKit
section
variable {P : Program} {ty : Ty} {n : Nat} {w0 : World} {S im0 bo im : Nat -> Prop} {V I : Env} {s : St} {a : Act} {w : World}
theorem Y2x {op :BinOp} {t:TypeId} {x y:Operand} {v u:Value} (h:(match v,u with | .nilIface,.nilIface=>false | .agg _,.agg _=>false | _,_=>true)=true):
   (eqGuard op t x y v u).run P w=.ok () w:=by
 cases op <;> first | rfl | (cases v <;> first | rfl | (cases u <;> first | rfl | exact absurd (show false=true from h) Bool.false_ne_true))
theorem Yhh {op :BinOp} {t:TypeId} {x y:Operand} {v u:Array Value} (h:P.eqGuardType P.depth t=false):
   (eqGuard op t x y (.agg v) (.agg u)).run P w=.ok () w:=by
 cases op <;> first
   | rfl
   | (show ((program >>= fun p=>program >>= fun q=>if (!p.eqGuardType q.depth t)=true then pure () else _:Sem Unit).run P w=_)
      simp only [Sem.run_bind,run_program,Result.andThen_ok,h]
      rfl)
theorem Yjo {t :TypeId} {x y:Bool} (h:P.underlying t=some .bool):(Op.equal t (.bool x) (.bool y)).run P w=.ok (x==y) w:=run_equalIn_bool w 9999 t x y h
theorem Yr4 (k :Nat) {t e:TypeId} (h:P.underlying t=some (.pointer e)) (x:Option Addr):(Op.equalIn (k+1) t (.pointer none) (.pointer x)).run P w=.ok x.isNone w:=by
 simp only [Op.equalIn,Sem.run_bind,run_underlying h,Result.andThen_ok]
 rfl
theorem Yms (k :Nat) {t e:TypeId} (h:P.underlying t=some (.pointer e)) (x:Option Addr):(Op.equalIn (k+1) t (.pointer x) (.pointer none)).run P w=.ok x.isNone w:=by
 simp only [Op.equalIn,Sem.run_bind,run_underlying h,Result.andThen_ok]
 cases x <;> rfl
theorem Y6z {t e :TypeId} (h:P.underlying t=some (.pointer e)) (x:Option Addr):(Op.equal t (.pointer none) (.pointer x)).run P w=.ok x.isNone w:=Yr4 9999 h x
theorem Ybu {t e :TypeId} (h:P.underlying t=some (.pointer e)) (x:Option Addr):(Op.equal t (.pointer x) (.pointer none)).run P w=.ok x.isNone w:=Yms 9999 h x
theorem Y5i {op :BinOp} {t:TypeId} {v u:Value} {r:Bool} {d:D} {l:Log} (hn:neg op r s=some (d,l)) (hq:(Op.equal t v u).run P w=.ok r w)
   (hp:∀ o,(o=BinOp.eql\/o=BinOp.neq)->binOp o t v u=(if o=.eql then (do pure (.bool (<- Op.equal t v u))) else (do pure (.bool (!(<- Op.equal t v u)))))):
   ∃ x,(binOp op t v u).run P w=.ok x w/\∀ im bo I,R im w bo I d x:=by
 obtain ⟨h,_⟩:=Y19c hn
 rcases h with ⟨rfl,rfl⟩ | ⟨rfl,rfl⟩
 . refine ⟨.bool r,?_,fun _ _ _=>.bool _⟩
   rw [hp _ (.inl rfl)]
   simp [hq]
 . refine ⟨.bool (!r),?_,fun _ _ _=>.bool _⟩
   rw [hp _ (.inr rfl)]
   simp [hq]
theorem Ymt {i :TI} {d:TypeDesc} (h:i.kind.desc d=true) (hk:(match i.kind with | .pointer _=>true | _=>false)=true):∃ e,d=.pointer e:=by
 cases hi:i.kind <;> simp [hi] at hk
 rw [hi] at h
 cases d <;> simp [TK.desc] at h
 exact ⟨_,rfl⟩
theorem Yt6 {i :TI} {d:TypeDesc} (h:i.kind.desc d=true) (hk:(match i.kind with | .slice _=>true | _=>false)=true):∃ e,d=.slice e:=by
 cases hi:i.kind <;> simp [hi] at hk
 rw [hi] at h
 cases d <;> simp [TK.desc] at h
 exact ⟨_,rfl⟩
theorem Ym0 (k :Nat) {t e:TypeId} (h:P.underlying t=some (.slice e)) (x:Option Addr) (n c:Nat):(Op.equalIn (k+1) t (.slice x n c) (.slice none 0 0)).run P w=.ok x.isNone w:=by
 simp only [Op.equalIn,Sem.run_bind,run_underlying h,Result.andThen_ok]
 cases x <;> rfl
theorem Yhi {t e :TypeId} (h:P.underlying t=some (.slice e)) (x:Option Addr) (n c:Nat):(Op.equal t (.slice x n c) (.slice none 0 0)).run P w=.ok x.isNone w:=Ym0 9999 h x n c
theorem Yt7 {x :D} {v:Value} {r:Bool× Prop} (h:Ymn x=some r) (hr:r.2) (hx:R im w bo I x v):∃ a n c,v=.slice a n c/\a.isNone=r.1:=by
 cases x <;> simp [Ymn] at h
 . subst h;cases hx;exact ⟨_,_,_,rfl,rfl⟩
 . subst h;cases hx;exact ⟨_,_,_,rfl,rfl⟩
 . subst h
   cases hx with
   | sl0 a c=>exact absurd rfl hr
   | sl=>exact ⟨_,_,_,rfl,rfl⟩
 . subst h
   cases hx with
   | ref0 a=>exact absurd rfl hr
   | refz a=>exact absurd rfl hr
   | ref=>exact ⟨_,_,_,rfl,rfl⟩
theorem Ywb {i :TI} {d:TypeDesc} (h:i.kind.desc d=true) (hk:(match i.kind with | .bool=>true | _=>false)=true):d=.bool:=by
 cases hi:i.kind <;> simp [hi] at hk
 rw [hi] at h
 cases d <;> simp [TK.desc] at h
 rfl
theorem Y111 (ht :Y2p P ty) {op:BinOp} {t:Nat} {x y d:D} {v u:Value} {l:Log} {ox oy:Operand} (h:binD ty op t x y s=some (d,l)) (ho:l.ok)
   (hx:R im w bo I x v) (hy:R im w bo I y u):∃ r,(eqGuard op t ox oy v u).run P w=.ok () w/\(binOp op t v u).run P w=.ok r w/\R im w bo I d r:=by
 unfold binD at h
 split at h
 . rename_i k x k' y
   cases hx;cases hy
   refine (fun ⟨r,h1,h2⟩=>⟨r,Y2x rfl,h1,h2 _ _ _⟩:(∃ r,(binOp op t (.int k x) (.int k' y)).run P w=.ok r w/\∀ im bo I,R im w bo I d r)->_) ?_
   split at h
   . exact Ymr h ho
   . exact Ymr h ho
   . rename_i h1 h2
     obtain ⟨hk,l',h3,ho3⟩:=Yl h ho
     have hk':k=k':=by simpa using hk
     subst hk'
     exact Yw9 h1 h2 h3 ho3
 . cases hx;cases hy
   obtain ⟨r,h1,h2⟩:=Ywa (P:=P) (w:=w) (t:=t) h ho
   exact ⟨r,Y2x rfl,h1,h2 _ _ _⟩
 . cases hx;cases hy
   obtain ⟨i,hi,l',h,ho⟩:=Yw ht h ho
   obtain ⟨hk,l',h,ho⟩:=Yl h ho
   obtain ⟨j,dd,h1,h2,_,_,h3,_⟩:=hi.info
   obtain rfl:=Ywb h3 hk
   obtain ⟨r,h4,h5⟩:=Y5i (P:=P) (w:=w) h (Yjo h2) (by rintro o (rfl | rfl) <;> rfl)
   exact ⟨r,Y2x rfl,h4,h5 _ _ _⟩
 . obtain ⟨xs,rfl,hxs,_⟩:=Rs.toArr hx
   obtain ⟨ys,rfl,hys,_⟩:=Rs.toArr hy
   obtain ⟨i,hi,l',h,ho⟩:=Yw ht h ho
   obtain ⟨hk,l',h,ho⟩:=Yl h ho
   obtain ⟨b,hb,l',h,ho⟩:=Y2j h ho
   obtain ⟨h1,h2⟩:=hi.eq (by simpa using hk) im bo I w w _ _ _ _ _ hxs hys hb
   obtain ⟨r,h4,h5⟩:=Y5i (P:=P) (w:=w) h h1 (by rintro o (rfl | rfl) <;> rfl)
   exact ⟨r,Yhh h2,h4,h5 _ _ _⟩
 . obtain ⟨i,hi,l',h,ho⟩:=Yw ht h ho
   cases hk:i.kind with
   | pointer e=>
     rw [hk] at h
     cases op <;> first
       | exact (M.fail_eq (s:=s) h).elim
       | skip
     obtain ⟨j,hj,l2,h,ho⟩:=Yw ht h ho
     obtain ⟨hb,l3,h,ho⟩:=Yl h ho
     obtain rfl:=Y8 h
     simp only [Bool.and_eq_true,Nat.beq_eq] at hb
     obtain ⟨rfl,rfl⟩:=hb
     obtain ⟨ii,dd,h1,h2,_,_,h3,_⟩:=hi.info
     obtain ⟨jj,_,g1,_⟩:=hj.info
     rw [hk] at h3
     obtain rfl:dd=.pointer e:=by cases dd <;> simp [TK.desc] at h3;rw [h3]
     cases hx with
     | ptr hp=>
     cases hy with
     | ptr hq=>
     rw [hp] at hq
     obtain rfl:=Pl.at_.inj (Option.some.inj hq) |>.1
     obtain rfl:=(Pl.at_.inj (Option.some.inj hq)).2.1
     exact ⟨.bool false,Y2x rfl,Lib.run_neq_ptr_same w _ h2 g1,.bool _⟩
   | _=>rw [hk] at h;cases op <;> exact (M.fail_eq (s:=s) h).elim
 . cases hx
   obtain ⟨i,hi,l',h,ho⟩:=Yw ht h ho
   obtain ⟨hk,l',h,ho⟩:=Yl h ho
   obtain ⟨b,hb,l',h,ho⟩:=Y2j h ho
   obtain ⟨j,dd,h1,h2,_,_,h3,_⟩:=hi.info
   obtain ⟨e,rfl⟩:=Ymt h3 hk
   cases hy <;> simp [Ym5] at hb
   . subst hb
     obtain ⟨r,h4,h5⟩:=Y5i (P:=P) (w:=w) h (Y6z h2 none) (by rintro o (rfl | rfl) <;> rfl)
     exact ⟨r,Y2x rfl,h4,h5 _ _ _⟩
   . subst hb
     obtain ⟨r,h4,h5⟩:=Y5i (P:=P) (w:=w) h (Y6z h2 (some _)) (by rintro o (rfl | rfl) <;> rfl)
     exact ⟨r,Y2x rfl,h4,h5 _ _ _⟩
   . subst hb
     obtain ⟨r,h4,h5⟩:=Y5i (P:=P) (w:=w) h (Y6z h2 (some _)) (by rintro o (rfl | rfl) <;> rfl)
     exact ⟨r,Y2x rfl,h4,h5 _ _ _⟩
 . cases hy
   obtain ⟨i,hi,l',h,ho⟩:=Yw ht h ho
   obtain ⟨hk,l',h,ho⟩:=Yl h ho
   obtain ⟨b,hb,l',h,ho⟩:=Y2j h ho
   obtain ⟨j,dd,h1,h2,_,_,h3,_⟩:=hi.info
   obtain ⟨e,rfl⟩:=Ymt h3 hk
   cases hx <;> simp [Ym5] at hb
   . subst hb
     obtain ⟨r,h4,h5⟩:=Y5i (P:=P) (w:=w) h (Y6z h2 none) (by rintro o (rfl | rfl) <;> rfl)
     exact ⟨r,Y2x rfl,h4,h5 _ _ _⟩
   . subst hb
     obtain ⟨r,h4,h5⟩:=Y5i (P:=P) (w:=w) h (Ybu h2 (some _)) (by rintro o (rfl | rfl) <;> rfl)
     exact ⟨r,Y2x rfl,h4,h5 _ _ _⟩
   . subst hb
     obtain ⟨r,h4,h5⟩:=Y5i (P:=P) (w:=w) h (Ybu h2 (some _)) (by rintro o (rfl | rfl) <;> rfl)
     exact ⟨r,Y2x rfl,h4,h5 _ _ _⟩
 . cases hy
   obtain ⟨i,hi,l',h,ho⟩:=Yw ht h ho
   obtain ⟨hk,l',h,ho⟩:=Yl h ho
   obtain ⟨r,hr,l',h,ho⟩:=Y2j h ho
   obtain ⟨hn,l',h,ho⟩:=Yx h ho
   obtain ⟨j,dd,h1,h2,_,_,h3,_⟩:=hi.info
   obtain ⟨e,rfl⟩:=Yt6 h3 hk
   obtain ⟨a',n',c',rfl,hb⟩:=Yt7 hr hn hx
   obtain ⟨r',h4,h5⟩:=Y5i (P:=P) (w:=w) h ((Yhi h2 a' n' c').trans (by rw [hb])) (by rintro o (rfl | rfl) <;> rfl)
   exact ⟨r',Y2x rfl,h4,h5 _ _ _⟩
 . exact (M.fail_eq h).elim
end
end Go.Proofs.YtpdcnikdoikldaaGreatDoor.Sv
namespace Go.Proofs.YtpdcnikdoikldaaGreatDoor.Sv
open Go Go.RowKit
section
variable {P : Program} {ty : Ty} {n : Nat} {w0 : World} {S im0 bo im : Nat -> Prop} {V I : Env} {s : St} {a : Act} {w : World}
theorem Y4a.agg {t :Nat} {i:TI} (h:Y4a P t i):(isAgg t).run P w=.ok i.kind.agg w:=by
 obtain ⟨j,d,h1,h2,_,_,h3,_⟩:=h.info
 simp only [isAgg,Sem.run_bind,run_underlying h2,Result.andThen_ok]
 cases hi:i.kind <;> rw [hi] at h3 <;> cases d <;> simp [TK.desc] at h3 <;> simp [TK.agg]
theorem Y4a.sizeOf {t :Nat} {i:TI} (h:Y4a P t i):(sizeOf t).run P w=.ok i.size w:=by
 obtain ⟨j,d,h1,h2,h3,_,_,_⟩:=h.info
 simp [Go.sizeOf,typeInfo,h1,h3]
theorem Y4a.size {t :Nat} {i:TI} (h:Y4a P t i):∃ j,P.info? t=some j/\j.size=i.size/\j.bytes=i.bytes:=by
 obtain ⟨j,d,h1,h2,h3,h4,_,_⟩:=h.info
 exact ⟨j,h1,h3,h4⟩
theorem Yjp {B o :Nat} {c:Array Value} {el:TypeId} {fz:Nat× Nat} (h:w.heap[B]? =some (.cells c el fz)):w.cell? ⟨B,o,none⟩=c[o]? :=by
 simp [World.cell?,h]
theorem getElem?_dt {c :List Value} {o k j:Nat} {v:Value} (h:((c.drop o).take k)[j]? =some v):c[o+j]? =some v/\j< k:=by
 rw [List.getElem?_take] at h
 split at h
 . rw [List.getElem?_drop] at h;exact ⟨h,by assumption⟩
 . simp at h
theorem Addr.add_none (B o j :Nat):(⟨B,o,none⟩:Addr).add j=⟨B,o+j,none⟩:=by
 unfold Addr.add
 split
 . rename_i h;subst h;rfl
 . rfl
def Y9z (w :World) (ad:Addr) (vs:List Value):Prop:=∀ (j:Nat) (v:Value),vs[j]? =some v->w.cell? (ad.add j)=some v
theorem Yhj {B base sz lim :Nat} {blk:Blk} (h:Y49 im bo I w blk (.at_ B base sz lim)) (off:Nat):∃ vs,Rs im w bo I (blk.cs.drop off) vs/\Y9z w ⟨B,base+off,none⟩ vs/\(blk.pure=true->Rs im w noB Y1h (blk.cs.drop off) vs)/\Y1r vs:=by
 obtain ⟨c,el,fz,h1,h2,h3,_,h4,h6,h5⟩:=h
 refine ⟨((c.toList.drop base).take blk.cs.length).drop off,?_,?_,?_,h6.drop off⟩
 . cases hp:blk.pure with
   | false=>rw [hp] at h5;exact h5.drop off
   | true=>rw [hp] at h5;exact (h5.drop off).mono (fun _ h=>h) (fun _ _=>rfl) (fun _ h=>h.elim) (fun _ _ h=>by simp [Y1h] at h)
 . intro j v hv
   rw [Addr.add_none,Yjp h1]
   rw [List.getElem?_drop] at hv
   have:=(getElem?_dt hv).1
   rw [<- Array.getElem?_toList,Nat.add_assoc]
   exact this
 . intro hp
   rw [hp] at h5
   exact h5.drop off
theorem Rs.unlent {g :Bool} {cs:List D} {vs:List Value} (h:Rs im w (if g then noB else bo) Y1h cs vs):Rs im w bo I cs vs:=
 h.mono (fun _ h=>h) (fun _ _=>rfl) (fun _ h=>by cases g <;> simp_all [noB]) (fun _ _ h=>by simp [Y1h] at h)
theorem Y7d {B o :Nat} {c:Array Value} {el:TypeId} {fz:Nat× Nat} {k:Nat} {vs:List Value} (h1:w.heap[B]? =some (.cells c el fz)) (h2:(c.toList.drop o).take k=vs):Y9z w ⟨B,o,none⟩ vs:=by
 subst h2
 intro j v hv
 rw [Addr.add_none,Yjp h1,<- Array.getElem?_toList]
 exact (getElem?_dt hv).1
theorem Yhk (hr :Rel n w0 S im0 bo V im I s a w) {x:D} {v:Value} {cs:List D} {l:Log} (h:behind x s=some (cs,l)) (ho:l.ok) (hx:R im w bo I x v):
   ∃ ad vs,v=.pointer (some ad)/\Rs im w bo I cs vs/\Y9z w ad vs/\Y1r vs:=by
 unfold behind at h
 split at h
 . rename_i b off
   obtain ⟨l',h,ho⟩:=Y2e h ho
   cases hb:s.slot b with
   | none=>rw [hb] at h;exact (M.fail_eq h).elim
   | some y=>
   cases y with
   | none=>rw [hb] at h;exact (M.fail_eq h).elim
   | some blk=>
     rw [hb] at h
     have h:=Y8 h
     subst h
     cases hx with
     | ptr hp=>
       obtain ⟨pl,hq,hb⟩:=hr.own.blk _ _ hb
       rw [hp] at hq
       obtain rfl:=Option.some.inj hq
       obtain ⟨vs,h1,h2,_,h3⟩:=Yhj hb off
       exact ⟨_,vs,rfl,h1,h2,h3⟩
 . rename_i g cs'
   have h:=Y8 h
   subst h
   cases hx with
   | ip h1 h2 h3 o h4=>exact ⟨_,_,rfl,h4.unlent,Y7d h2 h3,o⟩
 . exact (M.fail_eq h).elim
theorem Y37 {ad :Addr} {vs:List Value} (h:Y9z w ad vs) {k:Nat} (hk:k<=vs.length):(loadCells ad k).run P w=.ok (vs.take k).toArray w:=by
 have:=run_loadCells_list (P:=P) w ad (vs.take k) (fun j v hv=>h j v (by rw [List.getElem?_take] at hv;split at hv <;> simp_all))
 rwa [List.length_take,Nat.min_eq_left hk] at this
theorem Ykq (ht :Y2p P ty) (hr:Rel n w0 S im0 bo V im I s a w) {t:Nat} {x d:D} {v:Value} {l:Log} {sym:Bool} (h:loadD ty t x sym s=some (d,l)) (ho:l.ok) (hx:R im w bo I x v):
   ∃ r,(Instr.loadAt t v).run P w=.ok r w/\R im w bo I d r:=by
 unfold loadD at h
 obtain ⟨i,hi,l',h,ho⟩:=Yw ht h ho
 obtain ⟨cs,l1,l2,h1,h,ho1,ho⟩:=M.bindO h ho
 obtain ⟨ad,vs,hv,hcs,hst,hon⟩:=Yhk hr h1 ho1 hx
 clear hx
 subst hv
 split at h
 . rename_i hk
   obtain ⟨hn,l',h,ho⟩:=Y9y h ho
   have h:=Y8 h
   subst h
   refine ⟨.agg (vs.take i.size).toArray,?_,.agg (hon.take _) (hcs.take _)⟩
   simp only [Instr.loadAt,Instr.sureAddr,loadVar,Sem.run_bind,Sem.run_pure,Result.andThen_ok,hi.agg,hk,if_true,hi.sizeOf]
   rw [Y37 hst (by rw [<- hcs.length];exact hn)]
   rfl
 . rename_i hk
   split at h
   . obtain ⟨hn,l',h,ho⟩:=Yx h ho
     have h:=Y8 h
     subst h
     cases hcs with
     | nil=>exact absurd rfl hn
     | cons k1 k2=>
       refine ⟨_,?_,k1⟩
       have hc:=hst 0 _ rfl
       have e:ad.add 0=ad:=by simp [Addr.add]
       rw [e] at hc
       have hk':i.kind.agg=false:=by simpa using hk
       simp [Instr.loadAt,Instr.sureAddr,loadVar,hi.agg,hk',hc]
   split at h
   . rename_i d' ds
     have h:=Y8 h
     subst h
     cases hcs with
     | cons h1 h2=>
       refine ⟨_,?_,h1⟩
       have hc:=hst 0 _ rfl
       have e:ad.add 0=ad:=by simp [Addr.add]
       rw [e] at hc
       have hk':i.kind.agg=false:=by simpa using hk
       simp [Instr.loadAt,Instr.sureAddr,loadVar,hi.agg,hk',hc]
   . exact (M.fail_eq h).elim
theorem Ydp (ht :Y2p P ty) {t:Nat} {Qb:Type} {f:List (Nat× Nat)->M Qb} {b:Qb} {k:Log} (h:(fieldsOf ty t >>= f) s=some (b,k)) (ho:k.ok):
   ∃ i fs,Y4a P t i/\i.kind=.struct fs/\∃ l,f fs s=some (b,l)/\l.ok:=by
 obtain ⟨fs,l1,l2,h1,h2,ho1,ho2⟩:=M.bindO h ho
 unfold fieldsOf at h1
 obtain ⟨i,hi,l',h1,ho1⟩:=Yw ht h1 ho1
 cases hk:i.kind with
 | struct gs=>
   rw [hk] at h1
   have h1:=Y8 h1
   subst h1
   exact ⟨i,_,hi,hk,l2,h2,ho2⟩
 | _=>rw [hk] at h1;exact (M.fail_eq h1).elim
theorem Y4a.fields {t :Nat} {i:TI} (h:Y4a P t i) {fs:List (Nat× Nat)} (hk:i.kind=.struct fs):∃ gs,P.underlying t=some (.struct gs)/\fs=gs.toList.map fun f=>(f.offset,f.type):=by
 obtain ⟨j,d,h1,h2,_,_,h3,_⟩:=h.info
 rw [hk] at h3
 cases d <;> simp [TK.desc] at h3
 exact ⟨_,h2,h3⟩
theorem Yjq (ht :Y2p P ty) {t k:Nat} {x d:D} {v:Value} {l:Log} (h:fieldAddrD ty t x k s=some (d,l)) (ho:l.ok) (hx:R im w bo I x v):
   ∃ r,(Instr.fieldAt t v k).run P w=.ok r w/\R im w bo I d r:=by
 unfold fieldAddrD at h
 obtain ⟨i,fs,hi,hk,l1,h1,ho1⟩:=Ydp ht h ho
 obtain ⟨gs,hu,hfs⟩:=hi.fields hk
 subst hfs
 obtain ⟨p,hf,l2,h2,ho2⟩:=Y2j h1 ho1
 rw [List.getElem?_map,Option.map_eq_some_iff] at hf
 obtain ⟨g,hg,he⟩:=hf
 subst he
 have hg':gs[k]? =some g:=by rwa [Array.getElem?_toList] at hg
 obtain ⟨j,hj,l3,h3,ho3⟩:=Yw ht h2 ho2
 clear h h1 h2 ho ho1 ho2
 obtain ⟨hz,l4,h4,ho4⟩:=Yl h3 ho3
 clear h3 ho3
 have hz':¬ j.size=0:=by intro e;simp [e] at hz
 have hrun:∀ ad,(Instr.fieldAt t (.pointer (some ad)) k).run P w=.ok (.pointer (some (ad.add g.offset))) w:=by
   intro ad
   simp [Instr.fieldAt,run_underlying hu,hg',Instr.sureAddr,fieldPlace,hj.sizeOf,hz']
 cases x <;> first
   | exact (M.fail_eq (s:=s) h4).elim
   | skip
 . have h:=Y8 (s:=s) h4
   subst h
   cases hx with
   | ptr hp=>
     refine ⟨_,hrun _,?_⟩
     rw [Addr.add_none,Nat.add_assoc]
     exact .ptr hp
 . have h:=Y8 (s:=s) h4
   subst h
   cases hx with
   | ip k1 k2 k3 k5 k4=>
     refine ⟨_,hrun _,?_⟩
     rw [Addr.add_none]
     subst k3
     have e:=k5.drop g.offset
     have:=k4.drop g.offset
     rw [List.drop_take,List.drop_drop,<- List.length_drop] at this e
     exact .ip k1 k2 rfl e this
theorem Yt8 (ht :Y2p P ty) {t k:Nat} {x d:D} {v:Value} {l:Log} (h:fieldD ty t x k s=some (d,l)) (ho:l.ok) (hx:R im w bo I x v):
   ∃ r,(Instr.field t v k).run P w=.ok r w/\R im w bo I d r:=by
 unfold fieldD at h
 obtain ⟨i,fs,hi,hk,l1,h1,ho1⟩:=Ydp ht h ho
 obtain ⟨gs,hu,hfs⟩:=hi.fields hk
 subst hfs
 obtain ⟨p,hf,l2,h2,ho2⟩:=Y2j h1 ho1
 rw [List.getElem?_map,Option.map_eq_some_iff] at hf
 obtain ⟨g,hg,he⟩:=hf
 subst he
 have hg':gs[k]? =some g:=by rwa [Array.getElem?_toList] at hg
 obtain ⟨j,hj,l3,h3,ho3⟩:=Yw ht h2 ho2
 clear h h1 h2 ho ho1 ho2
 cases x <;> first
   | exact (M.fail_eq (s:=s) h3).elim
   | skip
 . rename_i cs
   obtain ⟨vs,rfl,hvs,hon⟩:=Rs.toArr hx
   dsimp only at h3
   split at h3
   . rename_i ha
     have h:=Y8 h3
     subst h
     refine ⟨.agg ((vs.drop g.offset).take j.size).toArray,?_,.agg ((hon.drop _).take _) ((hvs.drop _).take _)⟩
     simp only [Instr.field,Sem.run_bind,run_underlying hu,Result.andThen_ok,hg',asAgg,part,hj.agg,ha,if_true,hj.sizeOf,Sem.run_pure,Sem.run_ite]
     congr 2
     apply Array.ext'
     simp [List.extract_eq_take_drop]
   . rename_i ha
     obtain ⟨hd,_⟩:=Yff h3
     obtain ⟨u,hu',hR⟩:=hvs.get hd
     refine ⟨u,?_,hR⟩
     have ha':j.kind.agg=false:=by simpa using ha
     simp [Instr.field,run_underlying hu,hg',asAgg,part,hj.agg,ha',hu']
end
end Go.Proofs.YtpdcnikdoikldaaGreatDoor.Sv
namespace Go.Proofs.YtpdcnikdoikldaaGreatDoor.Sv
open Go Go.RowKit
section
variable {P : Program} {ty : Ty} {n : Nat} {w0 : World} {S im0 bo im : Nat -> Prop} {V I : Env} {s : St} {a : Act} {w : World}
theorem Y4a.slice {t e :Nat} {i:TI} (h:Y4a P t i) (hk:i.kind=.slice e):P.underlying t=some (.slice e):=by
 obtain ⟨j,d,h1,h2,_,_,h3,_⟩:=h.info
 rw [hk] at h3
 cases d <;> simp [TK.desc] at h3
 subst h3;exact h2
theorem Y4a.array {t m e :Nat} {i:TI} (h:Y4a P t i) (hk:i.kind=.array m e):P.underlying t=some (.array m e):=by
 obtain ⟨j,d,h1,h2,_,_,h3,_⟩:=h.info
 rw [hk] at h3
 cases d <;> simp [TK.desc] at h3
 obtain ⟨rfl,rfl⟩:=h3;exact h2
theorem Y4a.string {t :Nat} {i:TI} (h:Y4a P t i) (hk:i.kind=.string):P.underlying t=some .string:=by
 obtain ⟨j,d,h1,h2,_,_,h3,_⟩:=h.info
 rw [hk] at h3
 cases d <;> simp [TK.desc] at h3
 exact h2
theorem Y172 {op :UnOp} {x d:D} {v:Value} {l:Log} (h:unD op x s=some (d,l)) (hx:R im w bo I x v):∃ r,(Op.unary op v).run P w=.ok r w/\R im w bo I d r:=by
 cases op <;> cases x <;> first
   | exact (M.fail_eq (s:=s) h).elim
   | (have h:=Y8 (s:=s) h;subst h;cases hx;exact ⟨_,rfl,by first | exact .int _ _ | exact .bool _⟩)
theorem Ywc {c :Bool} {x y:D} {v u:Value} (hx:R im w bo I x v) (hy:R im w bo I y u):R im w bo I (Yt5 c x y) (if c then v else u):=by
 unfold Yt5
 split
 . cases hx;cases hy;cases c <;> exact .bool _
 . cases c
   . exact hy
   . exact hx
theorem Yfh {c :List Value} {o k m:Nat}:((c.drop o).take k).drop m=(c.drop (o+m)).take (k - m):=by
 rw [List.drop_take,List.drop_drop]
theorem Ydq {g :Bool} {cs:List D} {B o:Nat} {c:Array Value} {el:TypeId} {fz:Nat× Nat} {vs:List Value} (m:Nat) (h1:im B\/(g=false/\bo B)) (h2:w.heap[B]? =some (.cells c el fz))
   (h3:(c.toList.drop o).take cs.length=vs) (h5:Y1r vs) (h4:Rs im w (if g then noB else bo) Y1h cs vs):R im w bo I (.ip g (cs.drop m)) (.pointer (some ⟨B,o+m,none⟩)):=by
 subst h3
 have e:=h5.drop m
 have:=h4.drop m
 rw [Yfh,<- List.length_drop] at this e
 exact .ip h1 h2 rfl e this
theorem Yjr (ht :Y2p P ty) {t:Nat} {x y d:D} {v u:Value} {l:Log} (h:indexAddrD ty t x y s=some (d,l)) (ho:l.ok) (hx:R im w bo I x v) (hy:R im w bo I y u):
   ∃ r,(Instr.indexAt t v u).run P w=.ok r w/\R im w bo I d r:=by
 unfold indexAddrD at h
 obtain ⟨i,hi,l1,h1,ho1⟩:=Yw ht h ho
 cases hk:i.kind with
 | slice e=>
   rw [hk] at h1
   have hu:=hi.slice hk
   cases y <;> cases x <;> first
     | exact (M.fail_eq (s:=s) h1).elim
     | skip
   . rename_i k m g cs len cap
     obtain ⟨j,hj,l2,h2,ho2⟩:=Yw ht h1 ho1
     obtain ⟨⟨b0,b1⟩,l3,h3,ho3⟩:=Yx h2 ho2
     have h:=Y8 (s:=s) h3
     subst h
     cases hy
     have hb:(0<=m/\m< (len:Int))=True:=eq_true ⟨b0,b1⟩
     cases hx with
     | sl0=>exact absurd b1 (by omega)
     | sl k1 k2 k3 k4 k6 k5=>
       refine ⟨_,?_,Ydq (m.toNat*j.size) k1 k3 k4 k6 k5⟩
       simp [Instr.indexAt,asIntOf,run_underlying hu,b0,b1,hj.sizeOf,Addr.add_none]
   . rename_i k m b off len cap
     obtain ⟨j,hj,l2,h2,ho2⟩:=Yw ht h1 ho1
     obtain ⟨⟨b0,b1⟩,l3,h3,ho3⟩:=Yx h2 ho2
     have h:=Y8 (s:=s) h3
     subst h
     cases hy
     cases hx with
     | ref0=>exact absurd b1 (by omega)
     | refz=>exact absurd b1 (by omega)
     | ref k1 k2 k3=>
       refine ⟨_,?_,.ptr k1⟩
       simp [Instr.indexAt,asIntOf,run_underlying hu,b0,b1,hj.sizeOf,Addr.add_none,Nat.add_assoc]
 | array len e=>
   rw [hk] at h1
   have hu:=hi.array hk
   cases y <;> cases x <;> first
     | exact (M.fail_eq (s:=s) h1).elim
     | skip
   . rename_i k m b off
     obtain ⟨j,hj,l2,h2,ho2⟩:=Yw ht h1 ho1
     obtain ⟨⟨b0,b1⟩,l3,h3,ho3⟩:=Yx h2 ho2
     have h:=Y8 (s:=s) h3
     subst h
     cases hy
     cases hx with
     | ptr k1=>
       refine ⟨_,?_,.ptr k1⟩
       simp [Instr.indexAt,asIntOf,run_underlying hu,b0,b1,hj.sizeOf,Addr.add_none,Nat.add_assoc,Instr.sureAddr]
   . rename_i k m g cs
     obtain ⟨j,hj,l2,h2,ho2⟩:=Yw ht h1 ho1
     obtain ⟨⟨b0,b1⟩,l3,h3,ho3⟩:=Yx h2 ho2
     have h:=Y8 (s:=s) h3
     subst h
     cases hy
     cases hx with
     | ip k1 k2 k3 k5 k4=>
       refine ⟨_,?_,Ydq (m.toNat*j.size) k1 k2 k3 k5 k4⟩
       simp [Instr.indexAt,asIntOf,run_underlying hu,b0,b1,hj.sizeOf,Addr.add_none,Instr.sureAddr]
 | _=>rw [hk] at h1;cases y <;> cases x <;> exact (M.fail_eq (s:=s) h1).elim
theorem bt_get {b :ByteArray} {m:Int} (h0:0<=m) (h1:m< (b.size:Int)):∃ c:UInt8,b[m.toNat]? =some c/\bt b m=(c.toNat:Int):=by
 have hm:m.toNat< b.size:=by omega
 refine ⟨b[m.toNat],by simp [hm],?_⟩
 unfold bt
 have e:b.data.toList[m.toNat]? =some b[m.toNat]:=by
   have hm':m.toNat< b.data.size:=hm
   rw [Array.getElem?_toList,Array.getElem?_eq_getElem hm']
   rfl
 rw [List.getD_eq_getElem?_getD,e]
 rfl
theorem Yt9 (ht :Y2p P ty) {t:Nat} {x y d:D} {v u:Value} {l:Log} (h:indexD ty t x y s=some (d,l)) (ho:l.ok) (hx:R im w bo I x v) (hy:R im w bo I y u):
   ∃ r,(Instr.index t v u).run P w=.ok r w/\R im w bo I d r:=by
 unfold indexD at h
 obtain ⟨i,hi,l1,h1,ho1⟩:=Yw ht h ho
 cases hk:i.kind with
 | string=>
   rw [hk] at h1
   have hu:=hi.string hk
   cases y <;> cases x <;> first
     | exact (M.fail_eq (s:=s) h1).elim
     | skip
   rename_i k m b
   obtain ⟨⟨b0,b1⟩,l3,h3,ho3⟩:=Yx h1 ho1
   have h:=Y8 (s:=s) h3
   subst h
   cases hy;cases hx
   obtain ⟨c,hc,hb⟩:=bt_get b0 b1
   refine ⟨.int .u8 c.toNat,?_,by rw [hb];exact .int _ _⟩
   simp [Instr.index,asIntOf,run_underlying hu,b0,hc]
 | array len e=>
   rw [hk] at h1
   have hu:=hi.array hk
   cases y <;> cases x <;> first
     | exact (M.fail_eq (s:=s) h1).elim
     | skip
   rename_i k m cs
   obtain ⟨j,hj,l2,h2,ho2⟩:=Yw ht h1 ho1
   obtain ⟨⟨b0,b1⟩,l3,h3,ho3⟩:=Yx h2 ho2
   obtain ⟨vs,rfl,hvs,hon⟩:=Rs.toArr hx
   cases hy
   by_cases ha:j.kind.agg=true
   . simp only [ha,if_true] at h3
     have h:=Y8 (s:=s) h3
     subst h
     refine ⟨.agg ((vs.drop (m.toNat*j.size)).take j.size).toArray,?_,.agg ((hon.drop _).take _) ((hvs.drop _).take _)⟩
     simp only [Instr.index,asIntOf,Sem.run_bind,Sem.run_pure,Result.andThen_ok,run_underlying hu,b0,b1,and_self,if_true,hj.sizeOf,part,hj.agg,ha,Sem.run_ite]
     congr 2
     apply Array.ext'
     simp [List.extract_eq_take_drop]
   . simp only [ha,if_false,Bool.false_eq_true] at h3
     obtain ⟨b2,l4,h4,ho4⟩:=Yx h3 ho3
     have h:=Y8 (s:=s) h4
     subst h
     have hd:cs[m.toNat*j.size]? =some (cs.getD (m.toNat*j.size) .undef):=by rw [List.getD_eq_getElem?_getD,List.getElem?_eq_getElem b2];rfl
     obtain ⟨r,hr,hR⟩:=hvs.get hd
     refine ⟨r,?_,hR⟩
     have ha':j.kind.agg=false:=by simpa using ha
     simp [Instr.index,asIntOf,run_underlying hu,b0,b1,hj.sizeOf,part,hj.agg,ha',hr]
 | _=>rw [hk] at h1;cases y <;> cases x <;> exact (M.fail_eq (s:=s) h1).elim
def Bd (x :Option D) (v:Option Value):Prop:=match x,v with
 | none,none=>True
 | some d,some v=>∀ (k:IntKind) (m:Int),d=.int k m->v=.int k m
 | _,_=>False
theorem Y5g {x :Option D} {v:Option Value} {m:Nat} {b:Int} {l:Log} (h:bound x m s=some (b,l)) (hb:Bd x v):(x=none/\v=none/\b=(m:Int))\/(∃ d k,x=some d/\v=some (.int k b)):=by
 cases x with
 | none=>
   have h:=Y8 (s:=s) h
   cases v with
   | none=>exact .inl ⟨rfl,rfl,h.symm⟩
   | some v=>exact hb.elim
 | some d=>
   cases v with
   | none=>exact hb.elim
   | some v=>
     cases d <;> first
       | exact (M.fail_eq (s:=s) h).elim
       | skip
     rename_i k q
     have h:=Y8 (s:=s) h
     subst h
     exact .inr ⟨_,k,rfl,by rw [hb k q rfl]⟩
theorem Y29 {k :IntKind} {b:Int} {y:Nat} {c:BoundsCode} (h0:0<=b) (h1:b<=(y:Int)):(Instr.sliceBound (.int k b) y c).run P w=.ok b.toNat w:=by
 simp [Instr.sliceBound,asIntOf,h0,h1]
theorem Y3l {lo hi :Option D} {vl vh:Option Value} {is:Bool} {len cap:Nat} {h l:Int} {l1 l2:Log} (h1:bound hi len s=some (h,l1)) (h2:bound lo 0 s=some (l,l2)) (bh:Bd hi vh) (bl:Bd lo vl)
   (b0:0<=h) (b1:h<=(cap:Int)) (b2:0<=l) (b3:l<=h):(Instr.sliceBounds is len cap vl vh none).run P w=.ok (l.toNat,h.toNat,cap) w:=by
 have e:((h.toNat:Nat):Int)=h:=by omega
 rcases Y5g h1 bh with ⟨rfl,rfl,rfl⟩ | ⟨d,k,rfl,rfl⟩ <;> rcases Y5g h2 bl with ⟨rfl,rfl,rfl⟩ | ⟨d',k',rfl,rfl⟩
 . simp [Instr.sliceBounds]
 . simp [Instr.sliceBounds,Y29 b2 b3]
 . simp [Instr.sliceBounds,Y29 b0 b1]
 . have b3':l<=((h.toNat:Nat):Int):=by omega
   simp [Instr.sliceBounds,Y29 b0 b1,Y29 b2 b3']
theorem Y77 {lo hi :Option D} {vl vh:Option Value} {m:D} {vm:Value} {len cap:Nat} {l1 l2 l3:Log} {h l mm:Int} (h1:bound hi 0 s=some (h,l1)) (h2:bound lo 0 s=some (l,l2)) (h3:bound (some m) 0 s=some (mm,l3))
   (hs:hi.isSome=true) (bh:Bd hi vh) (bl:Bd lo vl) (bm:Bd (some m) (some vm)) (e0:h=0) (e1:l=0) (e2:mm=0):(Instr.sliceBounds true len cap vl vh (some vm)).run P w=.ok (0,0,0) w:=by
 subst e0;subst e1;subst e2
 rcases Y5g h1 bh with ⟨rfl,_⟩ | ⟨d,k,rfl,rfl⟩
 . simp at hs
 rcases Y5g h3 bm with ⟨hh,_⟩ | ⟨d2,k2,hh,hv⟩
 . simp at hh
 obtain rfl:=Option.some.inj hv
 have z:(0:Int)<=((0:Nat):Int):=by omega
 have zc:(0:Int)<=((cap:Nat):Int):=by omega
 rcases Y5g h2 bl with ⟨rfl,rfl,_⟩ | ⟨d',k',rfl,rfl⟩
 . simp [Instr.sliceBounds,Y29 (Int.le_refl 0) zc,Y29 (Int.le_refl 0) z]
 . simp [Instr.sliceBounds,Y29 (Int.le_refl 0) zc,Y29 (Int.le_refl 0) z]
theorem Y21 {x :Option D} {m:Nat} {Qb:Type} {f:Int->M Qb} {b:Qb} {k:Log} (h:(bound x m >>= f) s=some (b,k)) (ho:k.ok):∃ i l1,bound x m s=some (i,l1)/\∃ l,f i s=some (b,l)/\l.ok:=by
 obtain ⟨i,l,l',h1,h2,h3,h4⟩:=M.bindO h ho
 exact ⟨i,l,h1,l',h2,h4⟩
theorem Yta (ht :Y2p P ty) (hr:Rel n w0 S im0 bo V im I s a w) {t:Nat} {x d:D} {lo hi mx:Option D} {v:Value} {vl vh vm:Option Value} {l:Log} (h:sliceD ty t x lo hi mx s=some (d,l)) (ho:l.ok) (hx:R im w bo I x v)
   (bl:Bd lo vl) (bh:Bd hi vh) (bm:Bd mx vm):∃ r,(Instr.sliceAt t v vl vh vm).run P w=.ok r w/\R im w bo I d r:=by
 unfold sliceD at h
 obtain ⟨i,hi',l1,h1,ho1⟩:=Yw ht h ho
 cases hk:i.kind with
 | string=>
   rw [hk] at h1
   have hu:=hi'.string hk
   cases x <;> cases mx <;> first
     | exact (M.fail_eq (s:=s) h1).elim
     | skip
   obtain ⟨hb,q1,e1,l2,h2,ho2⟩:=Y21 h1 ho1
   obtain ⟨lb,q2,e2,l3,h3,ho3⟩:=Y21 h2 ho2
   obtain ⟨⟨b0,b1,b2,b3⟩,l4,h4,ho4⟩:=Yx h3 ho3
   have h:=Y8 (s:=s) h4
   subst h
   cases hx
   cases vm with
   | some _=>exact bm.elim
   | none=>
   refine ⟨_,?_,.str _⟩
   simp [Instr.sliceAt,Instr.slice,run_underlying hu,Y3l e1 e2 bh bl b0 b1 b2 b3]
 | slice e=>
   rw [hk] at h1
   have hu:=hi'.slice hk
   cases mx with
   | none=>
     cases vm with
     | some _=>exact bm.elim
     | none=>
     cases x <;> first
       | exact (M.fail_eq (s:=s) h1).elim
       | skip
     . obtain ⟨j,hj,l9,h9,ho9⟩:=Yw ht h1 ho1
       obtain ⟨_,l5,h5,ho5⟩:=Yl h9 ho9
       obtain ⟨hb,q1,e1,l2,h2,ho2⟩:=Y21 h5 ho5
       obtain ⟨lb,q2,e2,l3,h3,ho3⟩:=Y21 h2 ho2
       obtain ⟨mb,q3,e3,l6,h6,ho6⟩:=Y21 h3 ho3
       obtain ⟨⟨b0,b1,b2⟩,l4,h4,ho4⟩:=Yx h6 ho6
       have h:=Y8 (s:=s) h4
       subst h
       cases hx
       have hz:=Y3l (P:=P) (w:=w) (is:=true) (cap:=0) e1 e2 bh bl (by omega) (by omega) (by omega) (by omega)
       rw [b0,b1] at hz
       exact ⟨.slice none 0 0,by simp [Instr.sliceAt,Instr.slice,run_underlying hu,hz,hj.sizeOf],.nils⟩
     . rename_i g cs len cap
       obtain ⟨j,hj,l5,h5,ho5⟩:=Yw ht h1 ho1
       obtain ⟨hb,q1,e1,l2,h2,ho2⟩:=Y21 h5 ho5
       obtain ⟨lb,q2,e2,l3,h3,ho3⟩:=Y21 h2 ho2
       obtain ⟨⟨b0,b1,b2,b3,b4,b5⟩,l4,h4,ho4⟩:=Yx h3 ho3
       have h:=Y8 (s:=s) h4
       subst h
       have sub:(hb - lb).toNat=hb.toNat - lb.toNat:=by omega
       rw [sub]
       cases hx with
       | sl0 ad c hac=>
         have hz:=Y3l (P:=P) (w:=w) (is:=true) (cap:=c) e1 e2 bh bl b0 (by omega) b2 b3
         have z1:hb.toNat=0:=by omega
         have z2:lb.toNat=0:=by omega
         rw [z1,z2] at hz ⊢
         refine ⟨.slice (if c=0 then ad else ad.map (·.add (0*j.size))) 0 c,?_,.sl0 _ _ (fun e=>by by_cases h0:c=0;exact h0;rw [if_neg h0] at e;cases ad with | none=>exact hac rfl | some _=>simp at e)⟩
         simp [Instr.sliceAt,Instr.slice,run_underlying hu,hz,hj.sizeOf]
       | sl k1 k2 k3 k4 k6 k5=>
         rename_i cap' B o c el fz vs
         have hz:=Y3l (P:=P) (w:=w) (is:=true) (cap:=cap') e1 e2 bh bl b0 (by omega) b2 b3
         by_cases hc:cap'=lb.toNat
         . rw [hc] at hz
           have z1:hb.toNat - lb.toNat=0:=by omega
           have z2:cap - lb.toNat=0:=by omega
           have z3:cs.drop (lb.toNat*j.size)=[]:=by
             apply List.drop_eq_nil_of_le
             exact Nat.le_trans b5 (Nat.mul_le_mul_right _ (by omega))
           refine ⟨.slice (some ⟨B,o,none⟩) 0 (cap' - lb.toNat),?_,?_⟩
           . simp [Instr.sliceAt,Instr.slice,run_underlying hu,hz,hj.sizeOf,hc,z1]
           . rw [z1,z2,z3]
             exact .sl k1 (Nat.zero_le _) k3 rfl (by simpa using Y1r.nil) (by simpa using .nil)
         . refine ⟨.slice (some ⟨B,o+lb.toNat*j.size,none⟩) (hb.toNat - lb.toNat) (cap' - lb.toNat),?_,?_⟩
           . simp [Instr.sliceAt,Instr.slice,run_underlying hu,hz,hj.sizeOf,hc,Addr.add_none]
           . subst k4
             have e:=k6.drop (lb.toNat*j.size)
             have:=k5.drop (lb.toNat*j.size)
             rw [Yfh,<- List.length_drop] at this e
             exact .sl k1 (by omega) k3 rfl e this
     . rename_i b off len cap
       obtain ⟨j,hj,l7,h7,ho7⟩:=Yw ht h1 ho1
       obtain ⟨l8,h8,ho8⟩:=Y2e h7 ho7
       cases hs:s.slot b with
       | none=>rw [hs] at h8;exact (M.fail_eq h8).elim
       | some y=>
       cases y with
       | none=>rw [hs] at h8;exact (M.fail_eq h8).elim
       | some blk=>
       rw [hs] at h8
       obtain ⟨hsz,l5,h5,ho5⟩:=Yl h8 ho8
       obtain ⟨hb,q1,e1,l2,h2,ho2⟩:=Y21 h5 ho5
       obtain ⟨lb,q2,e2,l3,h3,ho3⟩:=Y21 h2 ho2
       obtain ⟨⟨b0,b1,b2,b3,b4⟩,l4,h4,ho4⟩:=Yx h3 ho3
       have h:=Y8 (s:=s) h4
       subst h
       have sub:(hb - lb).toNat=hb.toNat - lb.toNat:=by omega
       rw [sub]
       cases hx with
       | ref0 a k1=>
         have hz:=Y3l (P:=P) (w:=w) (is:=true) (cap:=0) e1 e2 bh bl b0 b1 b2 b3
         have z1:hb.toNat=0:=by omega
         have z2:lb.toNat=0:=by omega
         rw [z1,z2] at hz ⊢
         refine ⟨.slice a 0 0,?_,by rw [Nat.zero_mul];exact .ref0 a k1⟩
         simp [Instr.sliceAt,Instr.slice,run_underlying hu,hz,hj.sizeOf]
       | refz a k1=>
         have hz:=Y3l (P:=P) (w:=w) (is:=true) (cap:=0) e1 e2 bh bl b0 b1 b2 b3
         have z1:hb.toNat=0:=by omega
         have z2:lb.toNat=0:=by omega
         rw [z1,z2] at hz ⊢
         refine ⟨.slice a 0 0,?_,.refz a k1⟩
         simp [Instr.sliceAt,Instr.slice,run_underlying hu,hz,hj.sizeOf]
       | ref k1 k2 k3=>
         rename_i cap' B base sz lim
         have hz:=Y3l (P:=P) (w:=w) (is:=true) (cap:=cap') e1 e2 bh bl b0 (by omega) b2 b3
         by_cases hc:cap'=lb.toNat
         . rw [hc] at hz
           have z1:hb.toNat - lb.toNat=0:=by omega
           have z2:cap - lb.toNat=0:=by omega
           have z4:cap' - lb.toNat=0:=by omega
           refine ⟨.slice (some ⟨B,base+off,none⟩) 0 0,?_,?_⟩
           . simp [Instr.sliceAt,Instr.slice,run_underlying hu,hz,hj.sizeOf,hc,z1,z4]
           . rw [z1,z2]
             exact .refz _ k1
         . obtain ⟨pl,hp,hB⟩:=hr.own.blk _ _ hs
           rw [k1] at hp
           obtain rfl:=Option.some.inj hp
           obtain ⟨_,_,_,_,_,_,z5,_⟩:=hB
           have z6:sz=j.size:=z5.1.trans (by simpa using hsz)
           refine ⟨.slice (some ⟨B,base+off+lb.toNat*j.size,none⟩) (hb.toNat - lb.toNat) (cap' - lb.toNat),?_,?_⟩
           . simp [Instr.sliceAt,Instr.slice,run_underlying hu,hz,hj.sizeOf,hc,Addr.add_none]
           . rw [Nat.add_assoc]
             refine .ref k1 (by omega) ?_
             rw [<- z6]
             have z7:lb.toNat*sz+(cap' - lb.toNat)*sz=cap'*sz:=by rw [<- Nat.add_mul];congr 1;omega
             omega
   | some m=>
     cases vm with
     | none=>exact bm.elim
     | some vm=>
     cases x <;> first
       | exact (M.fail_eq (s:=s) h1).elim
       | skip
     . obtain ⟨j,hj,l9,h9,ho9⟩:=Yw ht h1 ho1
       obtain ⟨hsome,l5,h5,ho5⟩:=Yl h9 ho9
       obtain ⟨hb,q1,e1,l2,h2,ho2⟩:=Y21 h5 ho5
       obtain ⟨lb,q2,e2,l3,h3,ho3⟩:=Y21 h2 ho2
       obtain ⟨mb,q3,e3,l6,h6,ho6⟩:=Y21 h3 ho3
       obtain ⟨⟨b0,b1,b2⟩,l4,h4,ho4⟩:=Yx h6 ho6
       have h:=Y8 (s:=s) h4
       subst h
       cases hx
       have hz:=Y77 (P:=P) (w:=w) (len:=0) (cap:=0) e1 e2 e3 (by simpa using hsome) bh bl bm b0 b1 b2
       exact ⟨.slice none 0 0,by simp [Instr.sliceAt,Instr.slice,run_underlying hu,hz,hj.sizeOf],.nils⟩
     . obtain ⟨j,hj,l9,h9,ho9⟩:=Yw ht h1 ho1
       obtain ⟨hsome,l5,h5,ho5⟩:=Yl h9 ho9
       obtain ⟨hb,q1,e1,l2,h2,ho2⟩:=Y21 h5 ho5
       obtain ⟨lb,q2,e2,l3,h3,ho3⟩:=Y21 h2 ho2
       obtain ⟨mb,q3,e3,l6,h6,ho6⟩:=Y21 h3 ho3
       obtain ⟨⟨b0,b1,b2⟩,l4,h4,ho4⟩:=Yx h6 ho6
       have h:=Y8 (s:=s) h4
       subst h
       have hz:=fun len cap=>Y77 (P:=P) (w:=w) (len:=len) (cap:=cap) e1 e2 e3 hsome bh bl bm b0 b1 b2
       cases hx <;> exact ⟨_,by simp [Instr.sliceAt,Instr.slice,run_underlying hu,hz,hj.sizeOf];rfl,.z0 _⟩
     . obtain ⟨j,hj,l9,h9,ho9⟩:=Yw ht h1 ho1
       obtain ⟨hsome,l5,h5,ho5⟩:=Yl h9 ho9
       obtain ⟨hb,q1,e1,l2,h2,ho2⟩:=Y21 h5 ho5
       obtain ⟨lb,q2,e2,l3,h3,ho3⟩:=Y21 h2 ho2
       obtain ⟨mb,q3,e3,l6,h6,ho6⟩:=Y21 h3 ho3
       obtain ⟨⟨b0,b1,b2⟩,l4,h4,ho4⟩:=Yx h6 ho6
       have h:=Y8 (s:=s) h4
       subst h
       have hz:=fun len cap=>Y77 (P:=P) (w:=w) (len:=len) (cap:=cap) e1 e2 e3 hsome bh bl bm b0 b1 b2
       cases hx <;> exact ⟨_,by simp [Instr.sliceAt,Instr.slice,run_underlying hu,hz,hj.sizeOf];rfl,.z0 _⟩
 | _=>rw [hk] at h1;cases x <;> cases mx <;> exact (M.fail_eq (s:=s) h1).elim
theorem Y6r {lo hi :Option D} {vl vh:Option Value} {m:D} {vm:Value} {len cap:Nat} {l1 l2 l3:Log} {h l mm:Int} (h1:bound hi 0 s=some (h,l1)) (h2:bound lo 0 s=some (l,l2)) (h3:bound (some m) 0 s=some (mm,l3))
   (hs:hi.isSome=true) (bh:Bd hi vh) (bl:Bd lo vl) (bm:Bd (some m) (some vm)) (e0:0<=mm) (e1:mm<=(cap:Int)) (e2:0<=h) (e3:h<=mm) (e4:0<=l) (e5:l<=h):(Instr.sliceBounds true len cap vl vh (some vm)).run P w=.ok (l.toNat,h.toNat,mm.toNat) w:=by
 rcases Y5g h1 bh with ⟨rfl,_⟩ | ⟨d,k,rfl,rfl⟩
 . simp at hs
 rcases Y5g h3 bm with ⟨hh,_⟩ | ⟨d2,k2,hh,hv⟩
 . simp at hh
 obtain rfl:=Option.some.inj hv
 have z:h<=((mm.toNat:Nat):Int):=by omega
 have z2:l<=((h.toNat:Nat):Int):=by omega
 rcases Y5g h2 bl with ⟨rfl,rfl,rfl⟩ | ⟨d',k',rfl,rfl⟩
 . simp [Instr.sliceBounds,Y29 e0 e1,Y29 e2 z]
 . simp [Instr.sliceBounds,Y29 e0 e1,Y29 e2 z,Y29 e4 z2]
theorem Yr5 (ht :Y2p P ty) (hr:Rel n w0 S im0 bo V im I s a w) {t:Nat} {x d:D} {lo hi mx:Option D} {v:Value} {vl vh vm:Option Value} {l:Log} (h:slice3D ty t x lo hi mx s=some (d,l)) (ho:l.ok) (hx:R im w bo I x v)
   (bl:Bd lo vl) (bh:Bd hi vh) (bm:Bd mx vm):∃ r,(Instr.sliceAt t v vl vh vm).run P w=.ok r w/\R im w bo I d r:=by
 unfold slice3D at h
 obtain ⟨i,hi',l1,h1,ho1⟩:=Yw ht h ho
 cases hk:i.kind with
 | slice e=>
   rw [hk] at h1
   have hu:=hi'.slice hk
   cases x <;> first
     | exact (M.fail_eq (s:=s) h1).elim
     | skip
   obtain ⟨j,hj,l9,h9,ho9⟩:=Yw ht h1 ho1
   obtain ⟨hsome,l5,h5,ho5⟩:=Yl h9 ho9
   obtain ⟨hb,q1,e1,l2,h2,ho2⟩:=Y21 h5 ho5
   obtain ⟨lb,q2,e2,l3,h3,ho3⟩:=Y21 h2 ho2
   obtain ⟨mb,q3,e3,l6,h6,ho6⟩:=Y21 h3 ho3
   obtain ⟨⟨b0,b1,b2,b3,b4,b5⟩,l4,h4,ho4⟩:=Yx h6 ho6
   have h:=Y8 (s:=s) h4
   subst h
   simp only [Bool.and_eq_true] at hsome
   cases mx with
   | none=>simp at hsome
   | some m=>
   cases vm with
   | none=>exact bm.elim
   | some vm=>
   cases hx with
   | ref0 ad k1=>exact ⟨_,by simp [Instr.sliceAt,Instr.slice,run_underlying hu,Y6r (P:=P) (w:=w) (len:=0) (cap:=0) e1 e2 e3 hsome.2 bh bl bm b0 b1 b2 b3 b4 b5,hj.sizeOf];rfl,.undef _⟩
   | refz ad k1=>exact ⟨_,by simp [Instr.sliceAt,Instr.slice,run_underlying hu,Y6r (P:=P) (w:=w) (len:=0) (cap:=0) e1 e2 e3 hsome.2 bh bl bm b0 b1 b2 b3 b4 b5,hj.sizeOf];rfl,.undef _⟩
   | ref k1 k2 k3=>
     rename_i len cap cap' B base sz lim
     exact ⟨_,by simp [Instr.sliceAt,Instr.slice,run_underlying hu,Y6r (P:=P) (w:=w) (len:=len) (cap:=cap') e1 e2 e3 hsome.2 bh bl bm b0 (by omega) b2 b3 b4 b5,hj.sizeOf];rfl,.undef _⟩
 | _=>rw [hk] at h1;cases x <;> exact (M.fail_eq (s:=s) h1).elim
end
end Go.Proofs.YtpdcnikdoikldaaGreatDoor.Sv
