import Derived.Test.YtpdcnikdoikldaaGreatDoorSvH
set_option linter.unusedVariables false
set_option linter.unusedSimpArgs false
namespace Go.Proofs.YtpdcnikdoikldaaGreatDoor.Sv
open Go Go.RowKit
section
variable {P : Program} {ty : Ty} {n : Nat} {w0 : World} {S im0 bo im : Nat -> Prop} {V I : Env} {s : St} {a : Act} {w : World}
theorem Y5r (hr :Rel n w0 S im0 bo V im I s a w) {b:Nat} {k:Blk} {B base sz lim:Nat} (h:s.slot b=some (some k)) (hp:I b=some (.at_ B base sz lim)):Y49 im bo I w k (.at_ B base sz lim):=by
 obtain ⟨pl,h1,h2⟩:=hr.own.blk b k h
 rw [hp] at h1
 obtain rfl:=Option.some.inj h1
 exact h2
theorem dtk (c :List Value) (base off:Nat) (us:List Value) (lim:Nat) (h:base+off+us.length<=c.length) (hl:off+us.length<=lim):
   ((c.take (base+off)++us++c.drop (base+off+us.length)).drop base).take lim=((c.drop base).take lim).take off++us++((c.drop base).take lim).drop (off+us.length):=by
 apply List.ext_getElem?
 intro i
 simp only [List.getElem?_take,List.getElem?_drop,List.getElem?_append,List.length_take,List.length_drop,List.length_append]
 have e1:min (base+off) c.length=base+off:=by omega
 have e2:min off (min lim (c.length - base))=off:=by omega
 rw [e1,e2]
 by_cases h1:i< off
 . have a1:base+i< base+off+us.length:=by omega
   have a2:base+i< base+off:=by omega
   have a3:i< off+us.length:=by omega
   have a4:i< lim:=by omega
   simp [h1,a1,a2,a3,a4]
 . by_cases h2:i< off+us.length
   . have a1:base+i< base+off+us.length:=by omega
     have a2:¬ base+i< base+off:=by omega
     have a4:i< lim:=by omega
     have a5:base+i - (base+off)=i - off:=by omega
     simp [h1,a1,a2,h2,a4,a5]
   . have a1:¬ base+i< base+off+us.length:=by omega
     have a2:¬ base+i< base+off:=by omega
     by_cases a4:i< lim
     . have a6:base+off+us.length+(base+i - (base+off+us.length))=base+i:=by omega
       have a7:off+us.length+(i - (off+us.length))< lim:=by omega
       have a8:base+(off+us.length+(i - (off+us.length)))=base+i:=by omega
       simp [h1,a1,a2,h2,a4,a6,a7,a8]
     . have a7:¬ off+us.length+(i - (off+us.length))< lim:=by omega
       simp [h1,a1,a2,h2,a4,a7]
theorem Y2z (cs :List D) (off:Nat) (ds:List D) (h:off+ds.length<=cs.length):(Y2g cs off ds).length=cs.length:=by
 simp only [Y2g,List.length_append,List.length_take,List.length_drop]
 omega
theorem Yte (ht :Y2p P ty) (hr:Rel n w0 S im0 bo V im I s a w) {t:Nat} {x d:D} {v u:Value} {e:Eff} {l:Log} {sym:Bool} (h:storeD ty t x d sym s=some (e,l)) (ho:l.ok) (hx:R im w bo I x v) (hd:R im w bo I d u):
   Y42 n w0 S im0 bo V s a e ((do Instr.storeAt t v u;pure .skip:Sem Next).run P w):=by
 unfold storeD at h
 obtain ⟨i,hi,l0,h0,ho0⟩:=Yw ht h ho
 cases x <;> first
   | exact (M.fail_eq (s:=s) h0).elim
   | skip
 rename_i b off
 obtain ⟨l1,h1,ho1⟩:=Y2e h0 ho0
 cases hs:s.slot b with
 | none=>rw [hs] at h1;exact (M.fail_eq (s:=s) h1).elim
 | some y=>
 cases y with
 | none=>rw [hs] at h1;exact (M.fail_eq (s:=s) h1).elim
 | some blk=>
 rw [hs] at h1
 obtain ⟨hv,l2,h2,ho2⟩:=Yl h1 ho1
 obtain ⟨⟨n1,n2,n3⟩,l5,h5,ho5⟩:=Y9y h2 ho2
 have hp':(!blk.pure||Y24 d.cells)=true:=by
   cases hb:blk.pure
   . rfl
   . rw [n3 hb];rfl
 have he:=Y8 (s:=s) h5
 subst he
 cases hx with
 | ptr hp=>
 rename_i B base sz lim
 obtain ⟨c,el,fz,k1,k2,k3,k4,k5,k7,k6⟩:=Y5r hr hs hp
 obtain ⟨hc,hon⟩:=Ydy hd hv
 have hcl:d.cells.length=u.cells.size:=hc.length.trans (by simp)
 have hul:u.cells.toList.length=d.cells.length:=by simp [hcl]
 have hst:=Y4h P u.cells.toList (base+off) 0 w c k1 (by simp at *;omega) k5 hon
 refine ⟨Go.undef,_,.inr ⟨?_,rfl⟩,im,I,hr.put (hel:=k4.2.size (by simp only [List.size_toArray,List.length_append,List.length_take,List.length_drop,Array.length_toList];omega)) (m:=b) (B:=B) (base:=base) (lim:=lim) (Qa:=I) (blk:={blk with cs:=Y2g blk.cs off d.cells}) (c:=(c.toList.take (base+off)++u.cells.toList++c.toList.drop (base+off+u.cells.toList.length)).toArray) (el:=el) (fz:=fz)
   (fun _ _ h=>h) (by rw [hp,k4.1]) (fun _ _=>rfl) (Y3q hr hs hp rfl) (hr.owo _ _ _ _ hs hp rfl) (hr.own.out _ _ _ _ hs hp rfl).1 (hr.own.out _ _ _ _ hs hp rfl).2 ?_ ?_ ?_ ?_ ?_ ?_,.undef _⟩
 . simp only [Instr.storeAt,Instr.sureAddr,storeVar,Sem.run_bind,Sem.run_pure,Result.andThen_ok,hi.sizeOf]
   rw [if_neg (by simp;omega)]
   rw [hst]
   rfl
 . intro b' k' pl' hne hs' hp'' hB'
   exact hne (hr.own.inj _ _ _ _ _ _ _ hs' hs hp'' hp hB' rfl)
 . simp only [List.size_toArray,List.length_append,List.length_take,List.length_drop,Array.length_toList]
   simp only [Array.length_toList] at hul
   omega
 . simp only
   rw [Y2z _ _ _ (by omega)]
   exact k3
 . simp only [List.size_toArray,List.length_append,List.length_take,List.length_drop,Array.length_toList]
   simp only [Array.length_toList] at hul
   rcases k5 with k5 | k5
   . exact .inl k5
   . right;omega
 . simp only
   rw [Y2z _ _ _ (by omega),List.toList_toArray]
   rw [dtk c.toList base off u.cells.toList blk.cs.length (by simp at *;omega) (by simp at *;omega)]
   exact ((k7.take _).append hon).append (k7.drop _)
 . simp only
   rw [Y2z _ _ _ (by omega),List.toList_toArray]
   rw [dtk c.toList base off u.cells.toList blk.cs.length (by simp at *;omega) (by simp at *;omega)]
   have:=Y7m off k6 (hc.pureOr hp')
   exact this
theorem Ywg (ht :Y2p P ty) (hr:Rel n w0 S im0 bo V im I s a w) {o:Oper} {t:Nat} {x y:D} {v u:Value} {e:Eff} {l:Log} (h:makeD ty o t x y s=some (e,l)) (ho:l.ok) (hx:R im w bo I x v) (hy:R im w bo I y u):
   Y42 n w0 S im0 bo V s a e ((do pure (.value (<- Instr.makeSlice t v u)):Sem Next).run P w):=by
 unfold makeD at h
 obtain ⟨i,hi,l0,h0,ho0⟩:=Yw ht h ho
 cases hk:i.kind with
 | slice el=>
   rw [hk] at h0
   have hu:=hi.slice hk
   cases x <;> cases y <;> first
     | exact (M.fail_eq (s:=s) h0).elim
     | skip
   rename_i k1 p k2 q
   obtain ⟨j,hj,l1,h1,ho1⟩:=Yw ht h0 ho0
   obtain ⟨hz,l2,h2,ho2⟩:=Yl h1 ho1
   obtain ⟨⟨b0,b1,b2,b3⟩,l3,h3,ho3⟩:=Yx h2 ho2
   cases hx;cases hy
   obtain ⟨jj,dd,g1,g2,g3,g4,g5,g6⟩:=hj.info
   obtain ⟨z,g7,g8,g9,g10⟩:=g6 (Ydv (by simpa using hz))
   have hzz:=Ybs (im:=im) (bo:=bo) (w:=w) (I:=I) _ _ g8
   have zl:j.zero.length=z.cells.size:=hzz.length.trans (by simp)
   have hrun:=run_make (P:=P) w t el jj z hu g1 g7 k1 k2 p q b0 b1 (by rw [g4];omega) (by omega)
   have hcells:(madeCells z.cells (q.toNat*jj.size)).toList=Y64 z.cells.toList q.toNat:=by
     rw [g3,<- g9,zl]
     exact Y8r _ _
   have hlen:(Y4q j.zero q.toNat).length=(madeCells z.cells (q.toNat*jj.size)).size:=by
     rw [Ygc,size_madeCells,g3,g9]
   refine Ybv hr h3 ho3 (c:=madeCells z.cells (q.toNat*jj.size)) (el:=el) (fz:=(0,0)) ?_ (by rw [hcells];exact (Ygd g10 _).take _) (Nat.le_of_eq hlen) (.inl (by simp)) hrun ?_
   . simp only
     rw [List.take_of_length_le (by rw [hlen];simp),hcells]
     exact Yjt (hzz.pureOr (by cases Y24 j.zero <;> rfl)) _
   . intro m
     refine .ref (b:=m) (off:=0) (base:=0) (Env.upd_same _ _ _) (Nat.le_refl _) ?_
     rw [size_madeCells,g3]
     simp
 | _=>rw [hk] at h0;cases x <;> cases y <;> exact (M.fail_eq (s:=s) h0).elim
theorem Ywh (ht :Y2p P ty) (hr:Rel n w0 S im0 bo V im I s a w) {o:Oper} {t:Nat} {x:D} {v:Value} {e:Eff} {l:Log} (h:chanD ty o t x s=some (e,l)) (ho:l.ok) (hx:R im w bo I x v):
   Y42 n w0 S im0 bo V s a e ((do pure (.value (<- Instr.makeChan t v)):Sem Next).run P w):=by
 unfold chanD at h
 obtain ⟨i,hi,l0,h0,ho0⟩:=Yw ht h ho
 cases hk:i.kind with
 | chan el=>
   rw [hk] at h0
   cases x <;> first
     | exact (M.fail_eq (s:=s) h0).elim
     | skip
   rename_i k1 p
   obtain ⟨j,hj,l1,h1,ho1⟩:=Yw ht h0 ho0
   obtain ⟨⟨b0,b1,b2⟩,l3,h3,ho3⟩:=Yx h1 ho1
   cases hx
   obtain ⟨jj,dd,g1,g2,g3,g4,g5,g6⟩:=hj.info
   obtain ⟨ii,d0,f1,f2,f3,f4,f5,f6⟩:=hi.info
   rw [hk] at f5
   obtain ⟨dir,rfl⟩:∃ dir,d0=.chan dir el:=by
     cases d0 <;> simp [TK.desc] at f5
     rename_i dir e'
     exact ⟨dir,by rw [f5]⟩
   obtain ⟨m,hm,rfl⟩:=Ya0 h3 ho3
   have emax:(IntKind.i64.max:Int)=9223372036854775807:=by decide
   refine ⟨.chan (some w.heap.size),w.alloc (.chan p.toNat #[] false 0 0 false),.inl ?_,im,_,hr.newO (blk:={pure:=true,sz:=p.toNat,cs:=[.int .i64 0]}) (pl0:=.ch w.heap.size p.toNat) hm rfl ?_,.chan (Env.upd_same _ _ _)⟩
   . have hn:¬ (p< 0\/p > 9223372036854775807\/(jj.bytes:Int)*p > 2 ^ 48 - 112):=by rw [g4];omega
     simp [Instr.makeChan,asInt,asIntOf,run_underlying f2,typeInfo,g1,emax,newObj,Sem.run]
     intro hh
     exact absurd hh (by omega)
   . refine ⟨#[],0,0,[.int .i64 0],?_,⟨rfl,.inr rfl⟩,?_⟩
     . show (w.heap.push _)[w.heap.size]? =_
       simp
     . exact .cons (.int _ _) .nil
 | _=>rw [hk] at h0;cases x <;> exact (M.fail_eq (s:=s) h0).elim
end
end Go.Proofs.YtpdcnikdoikldaaGreatDoor.Sv
namespace Go.Proofs.YtpdcnikdoikldaaGreatDoor.Sv
open Go Go.RowKit
section
variable {P : Program} {ty : Ty} {n : Nat} {w0 : World} {S im0 bo im : Nat -> Prop} {V I : Env} {s : St} {a : Act} {w : World}
theorem Ye0 {ds :List D} {vs:List Value} (h:Rs im w bo I ds vs) (hb:∀ d∈ds,d.byte):∃ ns:List Int,vs=ns.map (Value.int .u8)/\ds=ns.map (D.int .u8):=by
 induction ds generalizing vs with
 | nil=>cases h;exact ⟨[],rfl,rfl⟩
 | cons d ds ih=>
   cases h with
   | cons k1 k2=>
     obtain ⟨ns,rfl,rfl⟩:=ih k2 (fun d hd=>hb d (by simp [hd]))
     have hd:=hb d (by simp)
     cases d <;> first
       | exact hd.elim
       | skip
     rename_i k m
     cases k <;> first
       | exact hd.elim
       | skip
     cases k1
     exact ⟨m :: ns,rfl,rfl⟩
theorem Ytf (ns :List Int) (b:ByteArray):ns.foldl (fun r m=>r.push (UInt8.ofNat m.toNat)) b=⟨b.data++(ns.map fun m=>UInt8.ofNat m.toNat).toArray⟩:=by
 induction ns generalizing b with
 | nil=>simp
 | cons m ns ih=>
   simp only [List.foldl_cons,ih,List.map_cons]
   congr 1
   apply Array.ext'
   simp [ByteArray.push]
theorem Ybf (ns :List Int):Y6v (ns.map (D.int .u8))=ns.foldl (fun r m=>r.push (UInt8.ofNat m.toNat)) ByteArray.empty:=by
 rw [Ytf]
 unfold Y6v
 congr 1
 apply Array.ext'
 simp [ByteArray.empty,ByteArray.emptyWithCapacity,List.map_map]
 rfl
theorem Y4a.u8 {t :Nat} {i:TI} (h:Y4a P t i) (hk:(match i.kind with | .int .u8=>true | _=>false)=true):P.underlying t=some (.int .u8):=by
 obtain ⟨j,d,h1,h2,_,_,h3,_⟩:=h.info
 cases hi:i.kind <;> rw [hi] at h3 hk <;> first
   | exact absurd (show false=true from hk) Bool.false_ne_true
   | skip
 rename_i k
 cases k <;> first
   | exact absurd (show false=true from hk) Bool.false_ne_true
   | skip
 cases d <;> simp [TK.desc] at h3
 subst h3;exact h2
theorem Y7n {b off :Nat} {Qb:Type} {f:List D->M Qb} {x:Qb} {k:Log} (h:(rowFrom b off >>= f) s=some (x,k)) (ho:k.ok):∃ blk,s.slot b=some (some blk)/\blk.pure=true/\∃ l,f (blk.cs.drop off) s=some (x,l)/\l.ok:=by
 obtain ⟨cs,l1,l2,h1,h2,ho1,ho2⟩:=M.bindO h ho
 unfold rowFrom at h1
 obtain ⟨l3,h3,ho3⟩:=Y2e h1 ho1
 cases hs:s.slot b with
 | none=>rw [hs] at h3;exact (M.fail_eq (s:=s) h3).elim
 | some y=>
 cases y with
 | none=>rw [hs] at h3;exact (M.fail_eq (s:=s) h3).elim
 | some blk=>
 rw [hs] at h3
 obtain ⟨hp,l4,h4,ho4⟩:=Yl h3 ho3
 have e:=Y8 (s:=s) h4
 subst e
 exact ⟨blk,rfl,hp,l2,h2,ho2⟩
theorem Ytg {z b off :Nat} {Qb:Type} {f:List D->M Qb} {x:Qb} {k:Log} (h:(rowSz z b off >>= f) s=some (x,k)) (ho:k.ok):∃ blk,s.slot b=some (some blk)/\blk.pure=true/\blk.sz=z/\∃ l,f (blk.cs.drop off) s=some (x,l)/\l.ok:=by
 obtain ⟨cs,l1,l2,h1,h2,ho1,ho2⟩:=M.bindO h ho
 unfold rowSz at h1
 obtain ⟨l3,h3,ho3⟩:=Y2e h1 ho1
 cases hs:s.slot b with
 | none=>rw [hs] at h3;exact (M.fail_eq (s:=s) h3).elim
 | some y=>
 cases y with
 | none=>rw [hs] at h3;exact (M.fail_eq (s:=s) h3).elim
 | some blk=>
 rw [hs] at h3
 obtain ⟨hp,l4,h4,ho4⟩:=Yl h3 ho3
 obtain ⟨hz,l5,h5,ho5⟩:=Yl h4 ho4
 have e:=Y8 (s:=s) h5
 subst e
 exact ⟨blk,rfl,hp,by simpa using hz,l2,h2,ho2⟩
theorem Yau (hr :Rel n w0 S im0 bo V im I s a w) {b off len cap:Nat} {v:Value} {blk:Blk} (hs:s.slot b=some (some blk)) (hp:blk.pure=true) (hx:R im w bo I (.ref b off len cap) v) (k:Nat) (hk:k<=(blk.cs.drop off).length) (hz:len=0->k=0):
   ∃ ad cap' vs,v=.slice ad len cap'/\Rs im w noB Y1h ((blk.cs.drop off).take k) vs/\vs.length=k/\Y1r vs/\(∀ w',w'.heap=w.heap->ad=none/\vs=[]\/∃ a',ad=some a'/\(loadCells a' k).run P w'=.ok vs.toArray w'):=by
 have z0:∀ (ad:Option Addr) (w':World),k=0->(ad=none/\([]:List Value)=[]\/∃ a',ad=some a'/\(loadCells a' k).run P w'=.ok ([]:List Value).toArray w'):=by
   intro ad w' e
   subst e
   cases ad with
   | none=>exact .inl ⟨rfl,rfl⟩
   | some a'=>exact .inr ⟨a',rfl,rfl⟩
 cases hx with
 | ref0 ad h1=>have e:=hz rfl;exact ⟨ad,0,[],rfl,by subst e;exact .nil,by simp [e],Y1r.nil,fun w' _=>z0 ad w' e⟩
 | refz ad h1=>have e:=hz rfl;exact ⟨ad,0,[],rfl,by subst e;exact .nil,by simp [e],Y1r.nil,fun w' _=>z0 ad w' e⟩
 | ref h1 h2 h3=>
   obtain ⟨vs,g1,g2,g3,g5⟩:=Yhj (Y5r hr hs h1) off
   have hl:=g1.length
   refine ⟨_,_,vs.take k,rfl,(g3 hp).take k,by simp;omega,g5.take k,fun w' hw=>.inr ⟨_,rfl,?_⟩⟩
   have g4:Y9z w' _ vs:=fun j v hv=>by
     have:=g2 j v hv
     rwa [World.cell?_of_block (w:=w) (w':=w') (by rw [hw])]
   exact Y37 g4 (by omega)
theorem Ye1 {w :World}:∀ (l:List Int) (a:Addr) (acc:ByteArray),(∀ (j:Nat) (x:Int),l[j]? =some x->w.cell? (a.add j)=some (.int .u8 x))->
   (loadBytes a acc l.length).run P w=.ok (l.foldl (fun r m=>r.push (UInt8.ofNat m.toNat)) acc) w
 | [],a,acc,_=>by simp [loadBytes]
 | x :: l,a,acc,h=>by
   have h0:w.cell? a=some (.int .u8 x):=by
     have:=h 0 x rfl
     simpa [Addr.add] using this
   have ih:=Ye1 l (a.add 1) (acc.push (UInt8.ofNat x.toNat)) (fun j y hy=>by
     have:=h (j+1) y (by simpa using hy)
     have e:(a.add 1).add j=a.add (j+1):=by
       unfold Addr.add
       by_cases hj:j=0
       . subst hj;simp
       . simp [hj];omega
     rw [e];exact this)
   simp only [List.length_cons,loadBytes,Sem.run_bind,run_load,h0,Result.andThen]
   exact ih
theorem Ybw {w :World} (ts:Array TypeId) {pt:TypeId} (ty e:TypeId) (hp:P.underlying pt=some (.pointer e)) (hc:P.cellsOf e=1) (g cells:Nat) (hsh:w.shape? g=some (e,cells)) (l:List Int) (h0:0< l.length) (hn:l.length<=cells) (h63:l.length<=9223372036854775807)
   (hcell:∀ (j:Nat) (x:Int),l[j]? =some x->w.cell? ((⟨g,0,none⟩:Addr).add j)=some (.int .u8 x)) (hts:ts[0]? =some pt):
   (Builtin.unsafeString_ ts ty #[.pointer (some ⟨g,0,none⟩),.int .i64 l.length]).run P w=.ok (.string (Y6v (l.map (D.int .u8)))) (w.freeze ⟨g,0,none⟩ l.length):=by
 have hl:l.length≠0:=by omega
 have hlb:=Ye1 (P:=P) (w:=w) l ⟨g,0,none⟩ .empty hcell
 rw [<- Ybf] at hlb
 have hlies:=Lib.liesAt_bytes (P:=P) hc (cells / P.cellsOf e) l.length (by rw [hc];simpa using hn)
 have h63':¬ (9223372036854775807:Int)< (l.length:Int):=by omega
 have hdef:Builtin.unsafeString_ ts ty #[.pointer (some ⟨g,0,none⟩),.int .i64 l.length]=
     (do
       let n <- asInt (.int .i64 l.length)
       if n< 0 then runtimePanic (.error "unsafe.String: len out of range")
       if n > IntKind.i64.max then unsupported (.unsafePointer "String: a length above the largest int")
       if n=0 then pure (.string .empty)
       else if <- variablesAt ⟨g,0,none⟩ (<- elemOf pt) n.toNat then do
         let s <- loadBytes ⟨g,0,none⟩ .empty n.toNat
         freeze ⟨g,0,none⟩ n.toNat
         pure (.string s)
       else unsupported (.unsafePointer "String: not so many bytes at ptr")):=by
   unfold Builtin.unsafeString_
   first
     | (rw [hts];rfl)
     | (simp only [hts];rfl)
     | simp only [hts]
 rw [hdef]
 have hmax:IntKind.i64.max=9223372036854775807:=rfl
 have hneg:¬ (l.length:Int)< 0:=by omega
 simp [asInt,asIntOf,hmax,h63',hneg,hl,variablesAt,hsh,elemOf,run_underlying hp,hlies,hlb]
theorem Y177 {E n el :Nat} (h:el< 1000000) (h2:E=1000000*(n+1)+el+1):(E - 1) % 1000000=el/\(E - 1) / 1000000 - 1=n:=by omega
theorem Ywi (ht :Y2p P ty) (hr:Rel n w0 S im0 bo V im I s a w) {o:Oper} {t t':Nat} {x:D} {v:Value} {e:Eff} {l:Log} (h:convD P ty o t t' x s=some (e,l)) (ho:l.ok) (hx:R im w bo I x v):
   Y42 n w0 S im0 bo V s a e ((do pure (.value (<- convert t t' v)):Sem Next).run P w):=by
 unfold convD at h
 obtain ⟨i,hi,l0,h0,ho0⟩:=Yw ht h ho
 obtain ⟨j,hj,l1,h1,ho1⟩:=Yw ht h0 ho0
 cases hk:j.kind with
 | int k=>
   rw [hk] at h1
   cases x <;> first
     | exact (M.fail_eq (s:=s) h1).elim
     | skip
   cases hx
   obtain ⟨_,d,_,hu,_⟩:=hi.info
   obtain ⟨_,d',_,hu',_,_,hd',_⟩:=hj.info
   rw [hk] at hd'
   cases d' <;> simp [TK.desc] at hd'
   subst hd'
   refine Y1j hr h1 ?_ (.int _ _)
   simp [convert,run_underlying hu,run_underlying hu',Conv.intToInt]
 | string=>
   rw [hk] at h1
   have hu:=hj.string hk
   cases x <;> first
     | exact (M.fail_eq (s:=s) h1).elim
     | skip
   . cases hx
     obtain ⟨_,d,_,hu',_⟩:=hi.info
     refine Y1j hr h1 ?_ (.str _)
     simp [convert,run_underlying hu,run_underlying hu']
   . cases hki:i.kind with
     | slice el=>
       simp only [hki] at h1
       have hus:=hi.slice hki
       obtain ⟨k,hk',l2,h2,ho2⟩:=Yw ht h1 ho1
       obtain ⟨h8,l3,h3,ho3⟩:=Yl h2 ho2
       have hu8:=hk'.u8 h8
       cases hx
       exact Y1j hr h3 (by rw [run_convert_bytes_string w t t' el _ _ _ hus hu8 hu];rfl) (.str _)
     | _=>simp only [hki] at h1;exact (M.fail_eq (s:=s) h1).elim
   . rename_i g cs len cap
     cases hki:i.kind with
     | slice el=>
       simp only [hki] at h1
       have hus:=hi.slice hki
       obtain ⟨k,hk',l2,h2,ho2⟩:=Yw ht h1 ho1
       obtain ⟨h8,l3,h3,ho3⟩:=Yl h2 ho2
       obtain ⟨⟨n1,n2⟩,l4,h4,ho4⟩:=Yx h3 ho3
       have hu8:=hk'.u8 h8
       cases hx with
       | sl0 ad c=>exact Y1j hr h4 (v:=.string ByteArray.empty) (by rw [run_convert_bytes_string w t t' el _ _ _ hus hu8 hu];cases ad <;> rfl) (.str _)
       | sl k1 k2 k3 k4 _ k5=>
         obtain ⟨ns,e1,e2⟩:=Ye0 (k5.take len) n2
         refine Y1j hr h4 (v:=.string (ns.foldl (fun r m=>r.push (UInt8.ofNat m.toNat)) ByteArray.empty)) ?_ (by rw [e2,Ybf];exact .str _)
         rw [run_convert_bytes_string w t t' el _ _ _ hus hu8 hu]
         refine run_bytesToString w _ len _ ns ?_
         rw [<- e1]
         exact Y37 (Y7d k3 k4) (by rw [<- k5.length];exact n1)
     | _=>simp only [hki] at h1;exact (M.fail_eq (s:=s) h1).elim
   . rename_i b off len cap
     cases hki:i.kind with
     | slice el=>
       simp only [hki] at h1
       have hus:=hi.slice hki
       obtain ⟨k,hk',l2,h2,ho2⟩:=Yw ht h1 ho1
       obtain ⟨h8,l3,h3,ho3⟩:=Yl h2 ho2
       obtain ⟨blk,hs,hp,l5,h5,ho5⟩:=Y7n h3 ho3
       obtain ⟨⟨n1,n2⟩,l4,h4,ho4⟩:=Yx h5 ho5
       have hu8:=hk'.u8 h8
       obtain ⟨ad,cap',vs,rfl,g1,g2,_,g3⟩:=Yau (P:=P) hr hs hp hx len n1 id
       obtain ⟨ns,e1,e2⟩:=Ye0 g1 n2
       refine Y1j hr h4 (v:=.string (ns.foldl (fun r m=>r.push (UInt8.ofNat m.toNat)) ByteArray.empty)) ?_ (by rw [e2,Ybf];exact .str _)
       rw [run_convert_bytes_string w t t' el _ _ _ hus hu8 hu]
       rcases g3 w rfl with ⟨rfl,e3⟩ | ⟨a',rfl,e3⟩
       . have e4:ns=[]:=by rw [e1] at e3;simpa using e3
         subst e4
         rfl
       . refine run_bytesToString w _ len _ ns ?_
         rw [<- e1]
         exact e3
     | _=>simp only [hki] at h1;exact (M.fail_eq (s:=s) h1).elim
 | slice el=>
   rw [hk] at h1
   have hu:=hj.slice hk
   cases x <;> first
     | exact (M.fail_eq (s:=s) h1).elim
     | skip
   rename_i b
   obtain ⟨k,hk',l2,h2,ho2⟩:=Yw ht h1 ho1
   obtain ⟨h8,l3,h3,ho3⟩:=Yl h2 ho2
   obtain ⟨hst,l4,h4,ho4⟩:=Yl h3 ho3
   have hu8:=hk'.u8 h8
   cases hx
   have hus:P.underlying t=some .string:=by
     cases hki:i.kind <;> simp [hki] at hst
     exact hi.string hki
   have hrun:=run_bytes_of_string (P:=P) w t t' el b hus hu hu8
   have hge:=grownCap_ge w b.size 0 el
   have hr':Rel n w0 S im0 bo V im I s a w.drew:=hr.same rfl rfl rfl rfl
   have hsz:(bytesRow b (grownCap w b.size 0 el)).size=grownCap w b.size 0 el:=by
     have e:b.data.size=b.size:=rfl
     simp [bytesRow,e]
     try omega
   have hl:(Y63 b).length=b.size:=by
     simp [Y63]
     try rfl
   refine Ybv hr' h4 ho4 (c:=bytesRow b (grownCap w b.size 0 el)) (el:=el) ?_ (fun v hv=> ?_) (by simp only [hl,hsz];exact hge) (.inr (Nat.le_refl _)) hrun ?_
   . simp only [if_true,hl]
     have e:(bytesRow b (grownCap w b.size 0 el)).toList.take b.size=b.data.toList.map fun c=>Value.int .u8 c.toNat:=by
       unfold bytesRow
       rw [Array.toList_append,List.take_left' (by simp;try rfl),Array.toList_map]
     rw [e]
     unfold Y63
     generalize b.data.toList=bs
     induction bs with
     | nil=>exact .nil
     | cons c bs ih=>exact .cons (.int _ _) ih
   . have hv':=List.mem_of_mem_take hv
     simp only [bytesRow,Array.toList_append,Array.toList_map,Array.toList_replicate,List.mem_append,List.mem_map,List.mem_replicate] at hv'
     rcases hv' with ⟨c,_,rfl⟩ | ⟨_,rfl⟩ <;> rfl
   . intro m
     exact .ref (b:=m) (off:=0) (base:=0) (Env.upd_same _ _ _) hge (by simp [hsz])
 | uptr=>
   rw [hk] at h1
   cases x <;> first
     | exact (M.fail_eq (s:=s) h1).elim
     | skip
   rename_i b off
   cases hki:i.kind with
   | pointer t0=>
     simp only [hki] at h1
     obtain ⟨k,hkk,l2,h2,ho2⟩:=Yw ht h1 ho1
     obtain ⟨hz,l3,h3,ho3⟩:=Yl h2 ho2
     obtain ⟨l4,h4,ho4⟩:=Y2e h3 ho3
     cases hs:s.slot b with
     | none=>rw [hs] at h4;exact (M.fail_eq (s:=s) h4).elim
     | some y=>
     cases y with
     | none=>rw [hs] at h4;exact (M.fail_eq (s:=s) h4).elim
     | some blk=>
     rw [hs] at h4
     obtain ⟨hl,l5,h5,ho5⟩:=Yl h4 ho4
     have hl:=Y9x hl
     obtain ⟨_,d,_,hu,_,_,hd,_⟩:=hi.info
     obtain ⟨_,d',_,hu',_,_,hd',_⟩:=hj.info
     rw [hki] at hd
     rw [hk] at hd'
     obtain rfl:d=.pointer t0:=by cases d <;> simp [TK.desc] at hd;rw [hd]
     obtain rfl:d'=.unsafePointer:=by cases d' <;> simp [TK.desc] at hd';rfl
     obtain ⟨kj,_,g1,_,g3,_⟩:=hkk.info
     cases hx with
     | ptr hp=>
     rename_i B base sz lim
     obtain ⟨c,el,fz,k1,k2,k3,k4,k5,k7,k6⟩:=Y5r hr hs hp
     refine Y1j hr h5 (Lib.run_to_unsafe (e:=el) (cells:=c.size) w ⟨B,base+off,none⟩ hu hu' g1 ?_ (by simp [World.shape?,k1]) ?_) (.ptr hp)
     . intro h0
       rw [g3] at h0
       simp [h0] at hz
     . show base+off< c.size
       omega
   | _=>simp only [hki] at h1;exact (M.fail_eq (s:=s) h1).elim
 | pointer u=>
   rw [hk] at h1
   cases x <;> first
     | exact (M.fail_eq (s:=s) h1).elim
     | skip
   rename_i b off
   cases hki:i.kind with
   | uptr=>
     simp only [hki] at h1
     obtain ⟨k,hkk,l2,h2,ho2⟩:=Yw ht h1 ho1
     obtain ⟨l4,h4,ho4⟩:=Y2e h2 ho2
     cases hs:s.slot b with
     | none=>rw [hs] at h4;exact (M.fail_eq (s:=s) h4).elim
     | some y=>
     cases y with
     | none=>rw [hs] at h4;exact (M.fail_eq (s:=s) h4).elim
     | some blk=>
     rw [hs] at h4
     obtain ⟨hl,l5,h5,ho5⟩:=Yl h4 ho4
     simp only [Bool.and_eq_true,Nat.beq_eq] at hl
     obtain ⟨rfl,hl1,hl2⟩:=hl
     have hl1:=Nat.le_of_ble_eq_true hl1
     obtain ⟨_,d,_,hu,_,_,hd,_⟩:=hi.info
     obtain ⟨_,d',_,hu',_,_,hd',_⟩:=hj.info
     rw [hki] at hd
     rw [hk] at hd'
     obtain rfl:d=.unsafePointer:=by cases d <;> simp [TK.desc] at hd;rfl
     obtain rfl:d'=.pointer u:=by cases d' <;> simp [TK.desc] at hd';rw [hd']
     obtain ⟨kj,_,g1,_,g3,_⟩:=hkk.info
     cases hx with
     | ptr hp=>
     rename_i B base sz lim
     obtain ⟨c,el,fz,k1,k2,k3,k4,k5,k7,k6⟩:=Y5r hr hs hp
     obtain ⟨rfl,q1,q2⟩:base=0/\el< 1000000/\blk.el=1000000*(c.size+1)+el+1:=by
       rcases k4.2 with q | ⟨q0,q1,q | q⟩
       . omega
       . omega
       . exact ⟨q0,q1,q⟩
     obtain ⟨e1,e2⟩:=Y177 q1 q2
     rw [e1,e2] at hl2
     exact Y1j hr h5 (Lib.run_from_unsafe (e:=el) (cells:=c.size) w ⟨B,0+0,none⟩ hu hu' g1 (by simp [World.shape?,k1]) hl2) (.ptr hp)
   | _=>simp only [hki] at h1;exact (M.fail_eq (s:=s) h1).elim
 | _=>rw [hk] at h1;cases x <;> exact (M.fail_eq (s:=s) h1).elim
end
end Go.Proofs.YtpdcnikdoikldaaGreatDoor.Sv
namespace Go.Proofs.YtpdcnikdoikldaaGreatDoor.Sv
open Go Go.RowKit
section
variable {P : Program} {ty : Ty} {n : Nat} {w0 : World} {S im0 bo im : Nat -> Prop} {V I : Env} {s : St} {a : Act} {w : World}
theorem Y6w {ts :Array TypeId} {t0 t1 rt e:TypeId} {d1:TypeDesc} {i:TypeInfo} (h0:ts[0]? =some t0) (h1:ts[1]? =some t1) (hu:P.underlying t0=some (.slice e)) (hu1:P.underlying t1=some d1)
   (hd1:(∃ e',d1=.slice e')\/d1=.string) (hi:P.info? e=some i) {base:Option Addr} {sLen sCap m:Nat} {x:Value} {news:List Value} (hn:(Builtin.lenOf x).run P w=.ok m w) (hf:(Builtin.firstCells i.size m x).run P w=.ok news.toArray w)
   (hroom:sLen+m<=sCap):(Builtin.append_ ts rt #[.slice base sLen sCap,x]).run P w=
     ((match base with | some ad=>storeCells (ad.add (sLen*i.size)) news | none=>pure ():Sem Unit).run P w).andThen fun _ w'=>.ok (.slice base (sLen+m) sCap) w':=by
 rcases hd1 with ⟨e',rfl⟩ | rfl
 . cases base <;> simp [Builtin.append_,h0,h1,run_underlying hu,run_underlying hu1,sizeOf,typeInfo,hi,hn,hf,hroom]
 . cases base <;> simp [Builtin.append_,h0,h1,run_underlying hu,run_underlying hu1,sizeOf,typeInfo,hi,hn,hf,hroom]
theorem Yg3 {ts :Array TypeId} {t0 t1 rt e:TypeId} {d1:TypeDesc} {i:TypeInfo} {z:Value} (h0:ts[0]? =some t0) (h1:ts[1]? =some t1) (hu:P.underlying t0=some (.slice e)) (hu1:P.underlying t1=some d1)
   (hd1:(∃ e',d1=.slice e')\/d1=.string) (hi:P.info? e=some i) (hz:i.zero=some z) {base:Option Addr} {sLen sCap m:Nat} {x:Value} {olds news:List Value} (hn:(Builtin.lenOf x).run P w=.ok m w)
   (hf:(Builtin.firstCells i.size m x).run P w.drew=.ok news.toArray w.drew) (ho:(Builtin.firstCells i.size sLen (.slice base sLen sCap)).run P w.drew=.ok olds.toArray w.drew)
   (hroom:sCap< sLen+m) (h63:sLen+m<=9223372036854775807) (hb:2*(sLen+m)*i.bytes<=281474976710656):(Builtin.append_ ts rt #[.slice base sLen sCap,x]).run P w=
     .ok (.slice (some ⟨w.heap.size,0,none⟩) (sLen+m) (grownCap w (sLen+m) sCap e))
       (w.drew.alloc (.cells (olds.toArray++news.toArray++Builtin.zeroCells z.cells (grownCap w (sLen+m) sCap e - (sLen+m))) e)):=by
 have hr:¬ (sLen+m<=sCap):=by omega
 have h63':¬ (9223372036854775807< ((sLen:Int)+(m:Int))):=by omega
 have h48':¬ (281474976710656< Builtin.nextslicecap (sLen+m) sCap*i.bytes):=by
   have h:=nextslicecap_le (need:=sLen+m) (old:=sCap) hroom
   have:=Nat.mul_le_mul_right i.bytes h
   omega
 rcases hd1 with ⟨e',rfl⟩ | rfl
 . simp [Builtin.append_,h0,h1,run_underlying hu,run_underlying hu1,sizeOf,typeInfo,zeroValue,hi,hz,hn,hr,h63',h48',Question.forced,hf,ho,newRow,grownCap]
   congr 2
   apply Array.ext'
   simp [List.append_assoc]
 . simp [Builtin.append_,h0,h1,run_underlying hu,run_underlying hu1,sizeOf,typeInfo,zeroValue,hi,hz,hn,hr,h63',h48',Question.forced,hf,ho,newRow,grownCap]
   congr 2
   apply Array.ext'
   simp [List.append_assoc]
theorem Yth (hr :Rel n w0 S im0 bo V im I s a w) {sz:Nat} {x:D} {v:Value} {new:List D} {k:Nat} {l:Log} (h:addedD ty sz x s=some ((new,k),l)) (ho:l.ok) (hx:R im w bo I x v):
   ∃ news,Rs im w noB Y1h new news/\Y1r news/\new.length=k*sz/\∀ w',w'.heap=w.heap->(Builtin.lenOf v).run P w'=.ok k w'/\(Builtin.firstCells sz k v).run P w'=.ok news.toArray w':=by
 cases x <;> first
   | exact (M.fail_eq (s:=s) h).elim
   | skip
 . obtain ⟨hz,l1,h1,ho1⟩:=Yl h ho
   have e:=Y8 (s:=s) h1
   simp only [Prod.mk.injEq] at e
   obtain ⟨rfl,rfl⟩:=e
   have hz:sz=1:=by simpa using hz
   subst hz
   cases hx
   rename_i b
   have hl:(Y63 b).length=b.size:=by
     simp [Y63]
     try rfl
   refine ⟨b.data.toList.map fun c=>Value.int .u8 c.toNat,?_,fun v hv=> ?_,by rw [hl,Nat.mul_one],fun w' _=>⟨rfl,?_⟩⟩
   . unfold Y63
     generalize b.data.toList=bs
     induction bs with
     | nil=>exact .nil
     | cons c bs ih=>exact .cons (.int _ _) ih
   . obtain ⟨c,_,rfl⟩:=List.mem_map.1 hv
     rfl
   . have e:b.extract 0 b.size=b:=by simp
     simp only [Builtin.firstCells,e,Sem.run_pure]
     congr 1
     apply Array.ext'
     simp
 . have e:=Y8 (s:=s) h
   simp only [Prod.mk.injEq] at e
   obtain ⟨rfl,rfl⟩:=e
   cases hx
   exact ⟨[],.nil,Y1r.nil,by simp,fun w' _=>⟨rfl,rfl⟩⟩
 . have e:=Y8 (s:=s) h
   simp only [Prod.mk.injEq] at e
   obtain ⟨rfl,rfl⟩:=e
   cases hx with
   | z0 ad=>exact ⟨[],.nil,Y1r.nil,by simp,fun w' _=>⟨rfl,by cases ad <;> simp [Builtin.firstCells,loadCells,loadCellsFrom]⟩⟩
 . have e:=Y8 (s:=s) h
   simp only [Prod.mk.injEq] at e
   obtain ⟨rfl,rfl⟩:=e
   cases hx with
   | e0 ad c=>exact ⟨[],.nil,Y1r.nil,by simp,fun w' _=>⟨rfl,by simp [Builtin.firstCells,loadCells,loadCellsFrom]⟩⟩
 . rename_i g cs len cap
   obtain ⟨hg,l1,h1,ho1⟩:=Yx h ho
   obtain ⟨hl,l2,h2,ho2⟩:=Yx h1 ho1
   have e:=Y8 (s:=s) h2
   simp only [Prod.mk.injEq] at e
   obtain ⟨rfl,rfl⟩:=e
   cases hx with
   | sl0 ad c=>exact ⟨[],by simpa using (Rs.nil:Rs im w noB Y1h [] []),Y1r.nil,by simp,fun w' _=>⟨rfl,by cases ad <;> simp [Builtin.firstCells,loadCells,loadCellsFrom]⟩⟩
   | sl k1 k2 k3 k4 ko k5=>
     rename_i cap' B o c el fz vs
     replace k5:Rs im w noB Y1h cs vs:=by
       rcases hg with rfl | hf
       . simpa using k5
       . simpa using k5.pureOr (p:=true) (by simp [hf])
     refine ⟨vs.take (len*sz),k5.take _,ko.take _,by simp;omega,fun w' hw=>⟨rfl,?_⟩⟩
     have g4:Y9z w' ⟨B,o,none⟩ vs:=fun j v hv=>by
       have:=Y7d k3 k4 j v hv
       rwa [World.cell?_of_block (w:=w) (w':=w') (by rw [hw])]
     exact Y37 g4 (by rw [<- k5.length];exact hl)
 . rename_i b off len cap
   obtain ⟨blk,hs,hp,l1,h1,ho1⟩:=Y7n h ho
   obtain ⟨hl,l2,h2,ho2⟩:=Yx h1 ho1
   have e:=Y8 (s:=s) h2
   simp only [Prod.mk.injEq] at e
   obtain ⟨rfl,rfl⟩:=e
   obtain ⟨ad,cap',vs,rfl,g1,g2,g3,g4⟩:=Yau (P:=P) hr hs hp hx (len*sz) hl (fun e=>by simp [e])
   refine ⟨vs,g1,g3,by rw [List.length_take];omega,fun w' hw=>⟨rfl,?_⟩⟩
   rcases g4 w' hw with ⟨rfl,rfl⟩ | ⟨a',rfl,e⟩
   . rfl
   . exact e
theorem Y116 (hr :Rel n w0 S im0 bo V im I s a w) {ts:Array TypeId} {t0 t1 rt e:TypeId} {d1:TypeDesc} {i:TypeInfo} {z:Value} (h0:ts[0]? =some t0) (h1:ts[1]? =some t1) (hu:P.underlying t0=some (.slice e)) (hu1:P.underlying t1=some d1)
   (hd1:(∃ e',d1=.slice e')\/d1=.string) (hi:P.info? e=some i) (hz:i.zero=some z) (hzl:z.cells.size=i.size) {b off len cap m k E:Nat} {blk:Blk} {v x:Value} {new:List D} {news:List Value} (hE:E=0\/E=e+1/\blk.el=e+1/\off=0/\e< 1000000) (hs:s.slot b=some (some blk)) (hm:s.slot m=none) (hp:blk.pure=true) (hsz:blk.sz=i.size)
   (hv:R im w bo I (.ref b off len cap) v) (hlen:len*i.size<=(blk.cs.drop off).length) (hg:Y1a i.bytes (len+k)) (hnew:Rs im w noB Y1h new news) (hon:Y1r news) (hnl:new.length=k*i.size)
   (hf:∀ w',w'.heap=w.heap->(Builtin.lenOf x).run P w'=.ok k w'/\(Builtin.firstCells i.size k x).run P w'=.ok news.toArray w'):
   Y42 n w0 S im0 bo V s a {val:=.ref m 0 (len+k) (len+k),sets:=[(m,some {pure:=true,sz:=i.size,cs:=(blk.cs.drop off).take (len*i.size)++new,el:=E}),(b,none)]}
     ((do pure (.value (<- Builtin.append_ ts rt #[v,x])):Sem Next).run P w):=by
 obtain ⟨ad,cap',olds,hve,g1,g2,g3,g4⟩:=Yau (P:=P) hr hs hp hv (len*i.size) hlen (fun e=>by simp [e])
 subst hve
 have hdead:=hr.dead b (by rw [hs];simp)
 have hne:m≠b:=by rintro rfl;rw [hs] at hm;simp at hm
 have hm':(s.setH [(b,none)]).slot m=none:=by rw [Y2q,if_neg (fun e=>hne e.symm)];exact hm
 have hnews:news.length=k*i.size:=by rw [<- hnew.length,hnl]
 have hsets:s.setH [(m,some {pure:=true,sz:=i.size,cs:=(blk.cs.drop off).take (len*i.size)++new,el:=E}),(b,none)]=(s.setH [(b,none)]).setH [(m,some {pure:=true,sz:=i.size,cs:=(blk.cs.drop off).take (len*i.size)++new,el:=E})]:=rfl
 have hcl:((blk.cs.drop off).take (len*i.size)++new).length=(len+k)*i.size:=by rw [List.length_append,List.length_take,hnl,Nat.add_mul];omega
 have hbl:(olds++news).length=(len+k)*i.size:=by rw [List.length_append,g2,hnews,Nat.add_mul]
 have hnil:∀ (aa:Option Addr),len=0->k=0->cap'=0->ad=aa->Y42 n w0 S im0 bo V s a {val:=.ref m 0 (len+k) (len+k),sets:=[(m,some {pure:=true,sz:=i.size,cs:=(blk.cs.drop off).take (len*i.size)++new,el:=E}),(b,none)]}
     ((do pure (.value (<- Builtin.append_ ts rt #[.slice ad len cap',x])):Sem Next).run P w):=by
   intro aa e1 e2 e3 e4
   have e5:news=[]:=by rw [e2] at hnews;exact List.eq_nil_of_length_eq_zero (by simpa using hnews)
   have e6:new=[]:=by rw [e2] at hnl;exact List.eq_nil_of_length_eq_zero (by simpa using hnl)
   have hrun:=Y6w (P:=P) (w:=w) (rt:=rt) h0 h1 hu hu1 hd1 hi (base:=ad) (sLen:=len) (sCap:=cap') (hf w rfl).1 (hf w rfl).2 (by omega)
   refine ⟨.slice ad 0 0,w,.inl ?_,im,_,hsets ▸ hdead.newNil hm' _ (by simp [e1,e6]),?_⟩
   . rw [e5] at hrun
     simp only [Sem.run_bind,hrun]
     cases ad <;> simp [storeCells,e1,e2,e3]
   . rw [e1,e2]
     exact .ref0 _ (Env.upd_same _ _ _)
 by_cases hroom:len+k<=cap'
 . have hrun:=Y6w (P:=P) (w:=w) (rt:=rt) h0 h1 hu hu1 hd1 hi (base:=ad) (sLen:=len) (sCap:=cap') (hf w rfl).1 (hf w rfl).2 hroom
   cases hv with
   | ref0 _ k1=>exact hnil _ rfl (by omega) rfl rfl
   | refz _ k1=>exact hnil _ rfl (by omega) rfl rfl
   | ref k1 k2 k3=>
     rename_i B base sz lim
     have hat:=Y5r hr hs k1
     obtain ⟨c,el,fz,j1,j2,j3,j4,j5,j7,j6⟩:=hat
     have hszz:sz=i.size:=j4.1.trans hsz
     subst hszz
     have hcap:(len+k)*i.size<=cap'*i.size:=Nat.mul_le_mul_right _ hroom
     have hmm:len*i.size+k*i.size=(len+k)*i.size:=(Nat.add_mul _ _ _).symm
     have hdl:len*i.size<=blk.cs.length - off:=by simpa using hlen
     have hst:=Y4h P news (base+off+len*i.size) 0 w c j1 (by rw [hnews];omega) j5 hon
     have hun:∀ b' k' pl',b'≠m->(s.setH [(b,none)]).slot b'=some (some k')->I b'=some pl'->pl'.blk≠some B:=by
       intro b' k' pl' _ hb' hp' hB'
       rw [Y2q] at hb'
       split at hb'
       . simp at hb'
       . rename_i hbb
         exact hbb (hr.own.inj _ _ _ _ _ _ _ hs hb' k1 hp' rfl hB')
     have hext:=Env.upd_ext (I:=I) (.at_ B (base+off) i.size (lim - off)) (hr.dom m hm)
     have hol:olds=(c.toList.drop (base+off)).take (len*i.size):=by
       rcases g4 w rfl with ⟨e,_⟩ | ⟨a',e,e2⟩
       . simp at e
       . obtain rfl:=Option.some.inj e
         have e3:=Y37 (P:=P) (k:=len*i.size) (Y7d (w:=w) (o:=base+off) (k:=len*i.size) j1 rfl) (by rw [List.length_take,List.length_drop,Array.length_toList];omega)
         rw [e2] at e3
         have e4:=congrArg (fun r=>match r with | Result.ok v _=>v.toList | _=>[]) e3
         simpa [List.take_take] using e4
     have hXl:(c.toList.take (base+off+len*i.size)).length=base+off+len*i.size:=by rw [List.length_take,Array.length_toList];omega
     have hblk:((c.toList.take (base+off+len*i.size)++news++c.toList.drop (base+off+len*i.size+news.length)).drop (base+off)).take ((blk.cs.drop off).take (len*i.size)++new).length=olds++news:=by
       rw [hcl,<- hbl,hol,List.append_assoc,List.drop_append_of_le_length (by rw [hXl];omega),List.drop_take,Nat.add_sub_cancel_left,<- List.append_assoc,List.take_left]
     have hel:Ycg E (base+off) (c.toList.take (base+off+len*i.size)++news++c.toList.drop (base+off+len*i.size+news.length)).toArray.size el:=by
       have hsz0:(c.toList.take (base+off+len*i.size)++news++c.toList.drop (base+off+len*i.size+news.length)).toArray.size=c.size:=by
         simp only [List.size_toArray,List.length_append,List.length_take,List.length_drop,Array.length_toList,hnews];omega
       rcases hE with h | ⟨h,h',h'',_⟩
       . exact .inl h
       . rcases j4.2 with q | ⟨q0,q1,q⟩
         . rw [q] at h';cases h'
         . rw [hsz0]
           exact .inr ⟨by omega,q1,by rw [h,<- h'];exact q⟩
     have hput:=hdead.put (hel:=hel) (m:=m) (B:=B) (base:=base+off) (lim:=lim - off) (Qa:=I.upd m (.at_ B (base+off) i.size (lim - off))) (blk:={pure:=true,sz:=i.size,cs:=(blk.cs.drop off).take (len*i.size)++new,el:=E})
       (c:=(c.toList.take (base+off+len*i.size)++news++c.toList.drop (base+off+len*i.size+news.length)).toArray) (el:=el) (fz:=fz) hext (Env.upd_same _ _ _) (fun b' hb'=>Env.upd_other _ _ hb') (Y3q hr hs k1 rfl) (hr.owo _ _ _ _ hs k1 rfl) (hr.own.out _ _ _ _ hs k1 rfl).1 (hr.own.out _ _ _ _ hs k1 rfl).2 hun
       (by
         simp only [List.size_toArray,List.length_append,List.length_take,List.length_drop,Array.length_toList,hnews]
         omega) (by simp only [hcl];omega) (by
         rcases j5 with j5 | j5
         . exact .inl j5
         . right
           simp only [List.size_toArray,List.length_append,List.length_take,List.length_drop,Array.length_toList,hnews]
           omega) (by simp only [List.toList_toArray];rw [hblk];exact g3.append hon) (by simp only [List.toList_toArray,if_true];rw [hblk];exact g1.append hnew)
     refine ⟨.slice (some ⟨B,base+off,none⟩) (len+k) cap',_,.inl ?_,im,_,hsets ▸ hput,?_⟩
     . simp only [Sem.run_bind,hrun,Addr.add_none]
       simp only [Nat.add_zero] at hst
       rw [hst]
       rfl
     . exact .ref (b:=m) (off:=0) (base:=base+off) (Env.upd_same _ _ _) hroom (by omega)
 . have hfo:(Builtin.firstCells i.size len (.slice ad len cap')).run P w.drew=.ok olds.toArray w.drew:=by
     rcases g4 w.drew rfl with ⟨rfl,rfl⟩ | ⟨a',rfl,e⟩
     . rfl
     . exact e
   have hrun:=Yg3 (P:=P) (w:=w) (rt:=rt) h0 h1 hu hu1 hd1 hi hz (base:=ad) (sLen:=len) (sCap:=cap') (hf w rfl).1 (hf w.drew rfl).2 hfo (by omega) (by obtain ⟨_,hg2⟩:=hg;omega) hg.1
   have hge:=grownCap_ge w (len+k) cap' e
   have hr':=(hr.same (w':=w.drew) rfl rfl rfl rfl).dead b (by rw [hs];simp)
   have hcs:(olds.toArray++news.toArray++Builtin.zeroCells z.cells (grownCap w (len+k) cap' e - (len+k))).toList=(olds++news)++(Builtin.zeroCells z.cells (grownCap w (len+k) cap' e - (len+k))).toList:=by simp
   have hcsz:(olds.toArray++news.toArray++Builtin.zeroCells z.cells (grownCap w (len+k) cap' e - (len+k))).size=grownCap w (len+k) cap' e*i.size:=by
     rw [Array.size_append,Array.size_append,size_zeroCells,hzl,List.size_toArray,List.size_toArray,g2,hnews,<- Nat.add_mul,<- Nat.add_mul]
     congr 1
     omega
   have htk:(olds.toArray++news.toArray++Builtin.zeroCells z.cells (grownCap w (len+k) cap' e - (len+k))).toList.take ((blk.cs.drop off).take (len*i.size)++new).length=olds++news:=by
     rw [hcs,hcl,<- hbl,List.take_left]
   have hput:=hr'.new (hel:=hE.imp id fun h=>⟨rfl,h.2.2.2,.inl h.1⟩) hm' (blk:={pure:=true,sz:=i.size,cs:=(blk.cs.drop off).take (len*i.size)++new,el:=E}) (c:=olds.toArray++news.toArray++Builtin.zeroCells z.cells (grownCap w (len+k) cap' e - (len+k))) (el:=e) (fz:=(0,0)) (by rw [hcsz,hcl];exact Nat.mul_le_mul_right _ hge) (.inl (by simp)) (by rw [htk];exact g3.append hon) (by simp only [if_true];rw [htk];exact (g1.append hnew).mono (fun _ h=>h) (fun _ _=>rfl) (fun _ h=>h) (fun _ _ h=>h))
   refine ⟨_,_,.inl (by simp only [Sem.run_bind,hrun];rfl),im,_,hsets ▸ hput,?_⟩
   exact .ref (b:=m) (off:=0) (base:=0) (Env.upd_same _ _ _) hge (by rw [hcsz];simp)
theorem Ykt (hr :Rel n w0 S im0 bo V im I s a w) {ts:Array TypeId} {t0 t1 rt e:TypeId} {d1:TypeDesc} {i:TypeInfo} {z:Value} (h0:ts[0]? =some t0) (h1:ts[1]? =some t1) (hu:P.underlying t0=some (.slice e)) (hu1:P.underlying t1=some d1)
   (hd1:(∃ e',d1=.slice e')\/d1=.string) (hi:P.info? e=some i) (hz:i.zero=some z) (hzl:z.cells.size=i.size) {m k E:Nat} {ad:Option Addr} {x:Value} {new:List D} {news:List Value} (hE:E=0\/E=e+1/\e< 1000000) (hm:s.slot m=none)
   (hg:Y1a i.bytes k) (hnew:Rs im w noB Y1h new news) (hon:Y1r news) (hnl:new.length=k*i.size)
   (hf:∀ w',w'.heap=w.heap->(Builtin.lenOf x).run P w'=.ok k w'/\(Builtin.firstCells i.size k x).run P w'=.ok news.toArray w'):
   Y42 n w0 S im0 bo V s a {val:=.ref m 0 k k,sets:=[(m,some {pure:=true,sz:=i.size,cs:=new,el:=E})]} ((do pure (.value (<- Builtin.append_ ts rt #[.slice ad 0 0,x])):Sem Next).run P w):=by
 have hnews:news.length=k*i.size:=by rw [<- hnew.length,hnl]
 by_cases hk:k=0
 . have hrun:=Y6w (P:=P) (w:=w) (rt:=rt) h0 h1 hu hu1 hd1 hi (base:=ad) (sLen:=0) (sCap:=0) (hf w rfl).1 (hf w rfl).2 (by omega)
   have e5:news=[]:=by rw [hk] at hnews;exact List.eq_nil_of_length_eq_zero (by simpa using hnews)
   have e6:new=[]:=by rw [hk] at hnl;exact List.eq_nil_of_length_eq_zero (by simpa using hnl)
   refine ⟨.slice ad 0 0,w,.inl ?_,im,_,hr.newNil hm _ (by simp [e6]),?_⟩
   . rw [e5] at hrun
     simp only [Sem.run_bind,hrun]
     cases ad <;> simp [storeCells,hk]
   . rw [hk]
     exact .ref0 _ (Env.upd_same _ _ _)
 . have hfo:(Builtin.firstCells i.size 0 (.slice ad 0 0)).run P w.drew=.ok ([]:List Value).toArray w.drew:=by
     cases ad <;> simp [Builtin.firstCells,loadCells,loadCellsFrom]
   have hrun:=Yg3 (P:=P) (w:=w) (rt:=rt) h0 h1 hu hu1 hd1 hi hz (base:=ad) (sLen:=0) (sCap:=0) (hf w rfl).1 (hf w.drew rfl).2 hfo (by omega) (by obtain ⟨_,hg2⟩:=hg;omega) (by rw [Nat.zero_add];exact hg.1)
   have e0:(([]:List Value).toArray++news.toArray:Array Value)=news.toArray:=by simp
   rw [e0] at hrun
   simp only [Nat.zero_add] at hrun
   have hge:=grownCap_ge w k 0 e
   have hr':=hr.same (w':=w.drew) rfl rfl rfl rfl
   have hcsz:(news.toArray++Builtin.zeroCells z.cells (grownCap w k 0 e - k)).size=grownCap w k 0 e*i.size:=by
     rw [Array.size_append,size_zeroCells,hzl,List.size_toArray,hnews,<- Nat.add_mul]
     congr 1
     omega
   have htk:(news.toArray++Builtin.zeroCells z.cells (grownCap w k 0 e - k)).toList.take new.length=news:=by
     rw [Array.toList_append,List.toList_toArray,hnl,<- hnews,List.take_left]
   have hput:=hr'.new (hel:=hE.imp id fun h=>⟨rfl,h.2,.inl h.1⟩) hm (blk:={pure:=true,sz:=i.size,cs:=new,el:=E}) (c:=news.toArray++Builtin.zeroCells z.cells (grownCap w k 0 e - k)) (el:=e) (fz:=(0,0)) (by rw [hcsz,hnl];exact Nat.mul_le_mul_right _ hge) (.inl (by simp)) (by rw [htk];exact hon)
     (by simp only [if_true];rw [htk];exact hnew.mono (fun _ h=>h) (fun _ _=>rfl) (fun _ h=>h) (fun _ _ h=>h))
   refine ⟨_,_,.inl (by simp only [Sem.run_bind,hrun];rfl),im,_,hput,?_⟩
   exact .ref (b:=m) (off:=0) (base:=0) (Env.upd_same _ _ _) hge (by rw [hcsz];simp)
theorem Rel.same_slot (hr :Rel n w0 S im0 bo V im I s a w) {s':St} (ht:s'.tmp=s.tmp) (hs:s'.slot=s.slot):Rel n w0 S im0 bo V im I s' a w:=
 ⟨hr.base,hr.size,hr.defers,by rw [ht];exact hr.tmp,by rw [hs];exact hr.own,hr.kept,hr.imlt,hr.imo,hr.imn,by rw [hs];exact hr.owo,by rw [hs];exact hr.dom,hr.arg⟩
theorem Ybg (cs :List D) (off:Nat):Y2g cs off []=cs:=by simp [Y2g]
theorem Y117 (hr :Rel n w0 S im0 bo V im I s a w) {ts:Array TypeId} {t0 t1 rt e:TypeId} {d1:TypeDesc} {i:TypeInfo} (h0:ts[0]? =some t0) (h1:ts[1]? =some t1) (hu:P.underlying t0=some (.slice e)) (hu1:P.underlying t1=some d1)
   (hd1:(∃ e',d1=.slice e')\/d1=.string) (hi:P.info? e=some i) {b off len cap k:Nat} {blk:Blk} {v x:Value} {new:List D} {news:List Value} (hs:s.slot b=some (some blk)) (hp:blk.pure=true) (hsz:blk.sz=i.size)
   (hv:R im w bo I (.ref b off len cap) v) (hcap:len+k<=cap) (hlen:off+(len+k)*i.size<=blk.cs.length) (hnew:Rs im w noB Y1h new news) (hon:Y1r news) (hnl:new.length=k*i.size)
   (hf:∀ w',w'.heap=w.heap->(Builtin.lenOf x).run P w'=.ok k w'/\(Builtin.firstCells i.size k x).run P w'=.ok news.toArray w'):
   Y42 n w0 S im0 bo V s a {val:=.ref b off (len+k) cap,sets:=[(b,some {blk with cs:=Y2g blk.cs (off+len*i.size) new})]}
     ((do pure (.value (<- Builtin.append_ ts rt #[v,x])):Sem Next).run P w):=by
 have hnews:news.length=k*i.size:=by rw [<- hnew.length,hnl]
 have hmul:(len+k)*i.size=len*i.size+k*i.size:=Nat.add_mul _ _ _
 have hzero:∀ ad,len=0->k=0->cap=0->R im w bo I (.ref b off 0 0) (.slice ad 0 0)->Y42 n w0 S im0 bo V s a {val:=.ref b off (len+k) cap,sets:=[(b,some {blk with cs:=Y2g blk.cs (off+len*i.size) new})]}
     ((do pure (.value (<- Builtin.append_ ts rt #[.slice ad len cap,x])):Sem Next).run P w):=by
   intro ad e1 e2 e3 hR
   have e5:news=[]:=by rw [e2] at hnews;exact List.eq_nil_of_length_eq_zero (by simpa using hnews)
   have e6:new=[]:=by rw [e2] at hnl;exact List.eq_nil_of_length_eq_zero (by simpa using hnl)
   have hrun:=Y6w (P:=P) (w:=w) (rt:=rt) h0 h1 hu hu1 hd1 hi (base:=ad) (sLen:=len) (sCap:=cap) (hf w rfl).1 (hf w rfl).2 hcap
   refine ⟨.slice ad 0 0,w,.inl ?_,im,I,hr.same_slot (St.tmp_setH _ _) ?_,by rw [e1,e2,e3];exact hR⟩
   . rw [e5] at hrun
     simp only [Sem.run_bind,hrun]
     cases ad <;> simp [storeCells,e1,e2,e3]
   . funext c
     rw [Y2q,e6,Ybg]
     by_cases hc:b=c
     . subst hc;simp [hs]
     . simp [hc]
 cases hv with
 | ref0 ad k1=>exact hzero ad (by omega) (by omega) rfl (.ref0 _ k1)
 | refz ad k1=>exact hzero ad (by omega) (by omega) rfl (.refz _ k1)
 | ref k1 k2 k3=>
   rename_i cap' B base sz lim
   obtain ⟨c,el,fz,j1,j2,j3,j4,j5,j7,j6⟩:=Y5r hr hs k1
   have hrun:=Y6w (P:=P) (w:=w) (rt:=rt) h0 h1 hu hu1 hd1 hi (base:=some ⟨B,base+off,none⟩) (sLen:=len) (sCap:=cap') (hf w rfl).1 (hf w rfl).2 (by omega)
   have hst:=Y4h P news (base+off+len*i.size) 0 w c j1 (by omega) j5 hon
   refine ⟨.slice (some ⟨B,base+off,none⟩) (len+k) cap',_,.inl ?_,im,I,hr.put (hel:=j4.2.size (by simp only [List.size_toArray,List.length_append,List.length_take,List.length_drop,Array.length_toList];omega)) (m:=b) (B:=B) (base:=base) (lim:=lim) (Qa:=I) (blk:={blk with cs:=Y2g blk.cs (off+len*i.size) new}) (c:=(c.toList.take (base+off+len*i.size)++news++c.toList.drop (base+off+len*i.size+news.length)).toArray) (el:=el) (fz:=fz)
     (fun _ _ h=>h) (by rw [k1,j4.1]) (fun _ _=>rfl) (Y3q hr hs k1 rfl) (hr.owo _ _ _ _ hs k1 rfl) (hr.own.out _ _ _ _ hs k1 rfl).1 (hr.own.out _ _ _ _ hs k1 rfl).2 ?_ ?_ ?_ ?_ ?_ ?_,.ref k1 (by omega) k3⟩
   . simp only [Sem.run_bind,hrun,Addr.add_none]
     simp only [Nat.add_zero] at hst
     rw [hst]
     rfl
   . intro b' k' pl' hne hs' hp'' hB'
     exact hne (hr.own.inj _ _ _ _ _ _ _ hs' hs hp'' k1 hB' rfl)
   . simp only [List.size_toArray,List.length_append,List.length_take,List.length_drop,Array.length_toList]
     omega
   . simp only
     rw [Y2z _ _ _ (by rw [hnl];omega)]
     exact j3
   . simp only [List.size_toArray,List.length_append,List.length_take,List.length_drop,Array.length_toList]
     rcases j5 with j5 | j5
     . exact .inl j5
     . right;omega
   . simp only
     rw [Y2z _ _ _ (by rw [hnl];omega),List.toList_toArray,Nat.add_assoc base off]
     rw [dtk c.toList base (off+len*i.size) news blk.cs.length (by simp at *;omega) (by omega)]
     exact ((j7.take _).append hon).append (j7.drop _)
   . simp only
     rw [Y2z _ _ _ (by rw [hnl];omega),List.toList_toArray,Nat.add_assoc base off]
     rw [dtk c.toList base (off+len*i.size) news blk.cs.length (by simp at *;omega) (by omega)]
     have n1':Rs im w (if blk.pure then noB else bo) (if blk.pure then Y1h else I) new news:=by rw [hp];exact hnew
     exact Y7m (off+len*i.size) j6 n1'
theorem Yr7 (ht :Y2p P ty) (hr:Rel n w0 S im0 bo V im I s a w) {o:Oper} {rm tl:Bool} {ts:Array TypeId} {rt:TypeId} {x y:D} {v u:Value} {vs:Array Value} {e:Eff} {l:Log} (h:appendD ty o rm tl ts.toList x y s=some (e,l)) (ho:l.ok) (hx:R im w bo I x v) (hy:R im w bo I y u) (hvs:vs=#[v,u]):
   Y42 n w0 S im0 bo V s a e ((do pure (.value (<- Builtin.append_ ts rt vs)):Sem Next).run P w):=by
 subst hvs
 unfold appendD at h
 obtain ⟨t0,ht0,l1,h1,ho1⟩:=Y2j h ho
 obtain ⟨i,hi,l2,h2,ho2⟩:=Yw ht h1 ho1
 rw [Array.getElem?_toList] at ht0
 cases hk:i.kind with
 | slice el=>
   rw [hk] at h2
   have hu:=hi.slice hk
   obtain ⟨j,hj,l3,h3,ho3⟩:=Yw ht h2 ho2
   obtain ⟨hz,l4,h4,ho4⟩:=Yl h3 ho3
   obtain ⟨t1,ht1,l5,h5,ho5⟩:=Y2j h4 ho4
   obtain ⟨i1,hi1,l6,h6,ho6⟩:=Yw ht h5 ho5
   obtain ⟨hk1,l7,h7,ho7⟩:=Yl h6 ho6
   obtain ⟨⟨new,k⟩,l8,l9,h8,h9,ho8,ho9⟩:=M.bindO h7 ho7
   rw [Array.getElem?_toList] at ht1
   obtain ⟨_,d1,_,hu1,_,_,hd1,_⟩:=hi1.info
   have hd1':(∃ e',d1=.slice e')\/d1=.string:=by
     cases hq:i1.kind <;> rw [hq] at hk1 hd1 <;> first
       | exact absurd (show false=true from hk1) Bool.false_ne_true
       | skip
     . cases d1 <;> simp [TK.desc] at hd1
       exact .inr rfl
     . cases d1 <;> simp [TK.desc] at hd1
       exact .inl ⟨_,rfl⟩
   obtain ⟨jj,dd,g1,g2,g3,g4,g5,g6⟩:=hj.info
   obtain ⟨z,g7,g8,g9,g10⟩:=g6 (Ydv (by simpa using hz))
   have zl:z.cells.size=jj.size:=by
     have hzz:=(Ybs (im:=im) (bo:=bo) (w:=w) (I:=I) _ _ g8).length
     rw [g3,<- g9,hzz];simp
   obtain ⟨news,n1,n2,n3,n4⟩:=Yth (P:=P) (ty:=ty) hr h8 ho8 hy
   rw [<- g3] at n3 n4
   cases x <;> first
     | exact (M.fail_eq (s:=s) h9).elim
     | skip
   . obtain ⟨hg,l10,h10,ho10⟩:=Yx h9 ho9
     obtain ⟨m,hm,he⟩:=Ya0 h10 ho10
     subst he
     cases hx
     rw [<- g4] at hg
     have:=Ykt (E:=bif tl&&Nat.ble (el+1) 1000000 then el+1 else 0) (rt:=rt) (hE:=by
       cases hb:(tl&&Nat.ble (el+1) 1000000) with
       | false=>exact .inl rfl
       | true=>simp only [Bool.and_eq_true] at hb;exact .inr ⟨rfl,Nat.le_of_ble_eq_true hb.2⟩) hr ht0 ht1 hu hu1 hd1' g1 g7 zl (ad:=none) hm hg n1 n2 n3 n4
     rw [g3] at this
     exact this
   . obtain ⟨hg,l10,h10,ho10⟩:=Yx h9 ho9
     obtain ⟨m,hm,he⟩:=Ya0 h10 ho10
     subst he
     rw [<- g4] at hg
     cases hx with
     | z0 ad=>
       have:=Ykt (E:=bif tl&&Nat.ble (el+1) 1000000 then el+1 else 0) (rt:=rt) (hE:=by
       cases hb:(tl&&Nat.ble (el+1) 1000000) with
       | false=>exact .inl rfl
       | true=>simp only [Bool.and_eq_true] at hb;exact .inr ⟨rfl,Nat.le_of_ble_eq_true hb.2⟩) hr ht0 ht1 hu hu1 hd1' g1 g7 zl (ad:=ad) hm hg n1 n2 n3 n4
       rw [g3] at this
       exact this
   . rename_i b off len cap
     cases rm with
     | true=>
       obtain ⟨l10,h10,ho10⟩:=Y2e h9 ho9
       cases hs:s.slot b with
       | none=>rw [hs] at h10;exact (M.fail_eq (s:=s) h10).elim
       | some y=>
       cases y with
       | none=>rw [hs] at h10;exact (M.fail_eq (s:=s) h10).elim
       | some blk=>
       rw [hs] at h10
       obtain ⟨hp,l11,h11,ho11⟩:=Yl h10 ho10
       obtain ⟨hsz,l12,h12,ho12⟩:=Yl h11 ho11
       obtain ⟨⟨hc1,hc2⟩,l13,h13,ho13⟩:=Yx h12 ho12
       have he:=Y8 (s:=s) h13
       subst he
       have hsz':blk.sz=j.size:=by simpa using hsz
       have:=Y117 (rt:=rt) hr ht0 ht1 hu hu1 hd1' g1 hs hp (hsz'.trans g3.symm) hx hc1 (by rw [g3];exact hc2) n1 n2 n3 n4
       rw [g3] at this
       exact this
     | false=>
     obtain ⟨l19,h19,ho19⟩:=Y2e h9 ho9
     obtain ⟨_,l20,l21,h22,h21,ho20,ho21⟩:=M.bindO h19 ho19
     obtain ⟨blk,hs,hp,hsz,l10,h10,ho10⟩:=Ytg h21 ho21
     rw [hs] at h22
     have htl:=(Yjn (s:=s) h22).1
     have hE:(bif tl&&Nat.ble (el+1) 1000000 then el+1 else 0)=0\/(bif tl&&Nat.ble (el+1) 1000000 then el+1 else 0)=el+1/\blk.el=el+1/\off=0/\el< 1000000:=by
       cases hb:(tl&&Nat.ble (el+1) 1000000) with
       | false=>exact .inl rfl
       | true=>
         simp only [Bool.and_eq_true] at hb
         rw [hb.1] at htl
         simp only [Bool.not_true,Bool.false_or,Bool.and_eq_true,Nat.beq_eq] at htl
         exact .inr ⟨rfl,htl.1,htl.2,Nat.le_of_ble_eq_true hb.2⟩
     obtain ⟨hl,l11,h11,ho11⟩:=Yx h10 ho10
     obtain ⟨hg,l12,h12,ho12⟩:=Yx h11 ho11
     obtain ⟨m,q1,q2,h13,h14,_,ho14⟩:=M.bindO h12 ho12
     obtain ⟨l15,h15,ho15⟩:=Y2e h14 ho14
     cases hm:s.slot m with
     | some y=>rw [hm] at h15;exact (M.fail_eq (s:=s) h15).elim
     | none=>
     rw [hm] at h15
     have he:=Y8 (s:=s) h15
     subst he
     rw [<- g4] at hg
     have:=Y116 (rt:=rt) (hE:=hE) hr ht0 ht1 hu hu1 hd1' g1 g7 zl hs hm hp (hsz.trans g3.symm) hx (by rw [g3];exact hl) hg n1 n2 n3 n4
     rw [g3] at this
     exact this
 | _=>rw [hk] at h2;cases x <;> exact (M.fail_eq (s:=s) h2).elim
theorem Yti (hr :Rel n w0 S im0 bo V im I s a w) {sz:Nat} {x:D} {v:Value} {new:List D} {k:Nat} {l:Log} (h:copiedD sz x s=some ((new,k),l)) (ho:l.ok) (hx:R im w bo I x v) (m:Nat) (hm:m<=k):
   ∃ news,Rs im w noB Y1h (new.take (m*sz)) news/\Y1r news/\(new.take (m*sz)).length=m*sz/\(Builtin.lenOf v).run P w=.ok k w/\(Builtin.firstCells sz m v).run P w=.ok news.toArray w:=by
 cases x <;> first
   | exact (M.fail_eq (s:=s) h).elim
   | skip
 . have e:=Y8 (s:=s) h
   simp only [Prod.mk.injEq] at e
   obtain ⟨rfl,rfl⟩:=e
   obtain rfl:m=0:=by omega
   cases hx
   exact ⟨[],by simpa using (Rs.nil:Rs im w noB Y1h [] []),Y1r.nil,by simp,rfl,rfl⟩
 . have e:=Y8 (s:=s) h
   simp only [Prod.mk.injEq] at e
   obtain ⟨rfl,rfl⟩:=e
   obtain rfl:m=0:=by omega
   cases hx with
   | z0 ad=>exact ⟨[],by simpa using (Rs.nil:Rs im w noB Y1h [] []),Y1r.nil,by simp,rfl,by cases ad <;> simp [Builtin.firstCells,loadCells,loadCellsFrom]⟩
 . rename_i g cs len cap
   obtain ⟨hg,l1,h1,ho1⟩:=Yx h ho
   obtain ⟨hl,l2,h2,ho2⟩:=Yx h1 ho1
   have e:=Y8 (s:=s) h2
   simp only [Prod.mk.injEq] at e
   obtain ⟨rfl,rfl⟩:=e
   have hms:m*sz<=len*sz:=Nat.mul_le_mul_right _ hm
   cases hx with
   | sl0 ad c=>
     obtain rfl:m=0:=by omega
     exact ⟨[],by simpa using (Rs.nil:Rs im w noB Y1h [] []),Y1r.nil,by simp,rfl,by cases ad <;> simp [Builtin.firstCells,loadCells,loadCellsFrom]⟩
   | sl k1 k2 k3 k4 ko k5=>
     rename_i cap' B o c el fz vs
     replace k5:Rs im w noB Y1h cs vs:=by
       rcases hg with rfl | hf
       . simpa using k5
       . simpa using k5.pureOr (p:=true) (by simp [hf])
     have e1:(cs.take (len*sz)).take (m*sz)=cs.take (m*sz):=by rw [List.take_take];congr 1;omega
     refine ⟨vs.take (m*sz),by rw [e1];exact k5.take _,ko.take _,by rw [e1,List.length_take];omega,rfl,?_⟩
     have g4:Y9z w ⟨B,o,none⟩ vs:=fun j v hv=>Y7d k3 k4 j v hv
     exact Y37 g4 (by rw [<- k5.length];omega)
 . rename_i b off len cap
   obtain ⟨blk,hs,hp,l1,h1,ho1⟩:=Y7n h ho
   obtain ⟨hl,l2,h2,ho2⟩:=Yx h1 ho1
   have e:=Y8 (s:=s) h2
   simp only [Prod.mk.injEq] at e
   obtain ⟨rfl,rfl⟩:=e
   have hms:m*sz<=len*sz:=Nat.mul_le_mul_right _ hm
   obtain ⟨ad,cap',vs,rfl,g1,g2,g3,g4⟩:=Yau (P:=P) hr hs hp hx (m*sz) (by omega) (fun e=>by subst e;simp at hm;simp [hm])
   have e1:((blk.cs.drop off).take (len*sz)).take (m*sz)=(blk.cs.drop off).take (m*sz):=by rw [List.take_take];congr 1;omega
   refine ⟨vs,by rw [e1];exact g1,g3,by rw [e1,List.length_take];omega,rfl,?_⟩
   rcases g4 w rfl with ⟨rfl,rfl⟩ | ⟨a',rfl,e⟩
   . rfl
   . exact e
theorem Ywj (ht :Y2p P ty) (hr:Rel n w0 S im0 bo V im I s a w) {ts:Array TypeId} {rt:TypeId} {x y:D} {v u:Value} {vs:Array Value} {e:Eff} {l:Log} (h:copyD ty ts.toList x y s=some (e,l)) (ho:l.ok) (hx:R im w bo I x v) (hy:R im w bo I y u) (hvs:vs=#[v,u]):
   Y42 n w0 S im0 bo V s a e ((do pure (.value (<- Builtin.copy_ ts rt vs)):Sem Next).run P w):=by
 subst hvs
 unfold copyD at h
 obtain ⟨t0,ht0,l1,h1,ho1⟩:=Y2j h ho
 obtain ⟨i,hi,l2,h2,ho2⟩:=Yw ht h1 ho1
 rw [Array.getElem?_toList] at ht0
 cases hk:i.kind with
 | slice el=>
   rw [hk] at h2
   have hu:=hi.slice hk
   obtain ⟨j,hj,l3,h3,ho3⟩:=Yw ht h2 ho2
   obtain ⟨⟨new,k⟩,l8,l9,h8,h9,ho8,ho9⟩:=M.bindO h3 ho3
   cases x <;> first
     | exact (M.fail_eq (s:=s) h9).elim
     | skip
   rename_i b off len cap
   obtain ⟨l10,h10,ho10⟩:=Y2e h9 ho9
   cases hs:s.slot b with
   | none=>rw [hs] at h10;exact (M.fail_eq (s:=s) h10).elim
   | some z=>
   cases z with
   | none=>rw [hs] at h10;exact (M.fail_eq (s:=s) h10).elim
   | some blk=>
   rw [hs] at h10
   obtain ⟨hp,l11,h11,ho11⟩:=Yl h10 ho10
   obtain ⟨hlen,l12,h12,ho12⟩:=Yx h11 ho11
   have he:=Y8 (s:=s) h12
   subst he
   obtain ⟨news,n1,n2,n3,n4,n5⟩:=Yti (P:=P) hr h8 ho8 hy (min k len) (by omega)
   have hstep:∀ (base:Option Addr) (cap':Nat) (w':World),(∀ ad,base=some ad->(storeCells ad news).run P w=.ok () w')->(base=none->w'=w)->
       (do pure (.value (<- Builtin.copy_ ts rt #[.slice base len cap',u])):Sem Next).run P w=.ok (.value (.int .i64 ((min k len:Nat):Int))) w':=by
     intro base cap' w' q1 q2
     simp only [Builtin.copy_,ht0,List.getElem?_toArray,List.getElem?_cons_zero,List.getElem?_cons_succ,Sem.run_bind,run_underlying hu,Result.andThen_ok,n4,hj.sizeOf]
     have e0:Nat.min k len=min k len:=rfl
     rw [e0,n5]
     cases base with
     | none=>obtain rfl:=q2 rfl;rfl
     | some ad=>simp only [Result.andThen_ok];rw [Sem.run_bind,q1 ad rfl];rfl
   have hsame:min k len*j.size=0->∃ im I,Rel n w0 S im0 bo V im I (s.setH [(b,some {blk with cs:=Y2g blk.cs off (new.take (min k len*j.size))})]) a w:=by
     intro e0
     refine ⟨_,_,hr.same_slot (St.tmp_setH _ _) ?_⟩
     funext c
     rw [Y2q,e0,List.take_zero,Ybg]
     by_cases hc:b=c
     . subst hc;simp [hs]
     . simp [hc]
   have hz0:min k len=0->news=[]:=by
     intro e0
     have:=n1.length
     rw [e0] at this
     simpa using this.symm
   cases hx with
   | ref0 ad h1=>
     have e0:min k 0=0:=by omega
     obtain ⟨im',Qa,hr'⟩:=hsame (by rw [e0];simp)
     refine ⟨_,_,.inl (hstep ad 0 w ?_ (fun _=>rfl)),im',Qa,hr',.int _ _⟩
     intro ad' _
     rw [hz0 e0];rfl
   | refz ad h1=>
     have e0:min k 0=0:=by omega
     obtain ⟨im',Qa,hr'⟩:=hsame (by rw [e0];simp)
     refine ⟨_,_,.inl (hstep ad 0 w ?_ (fun _=>rfl)),im',Qa,hr',.int _ _⟩
     intro ad' _
     rw [hz0 e0];rfl
   | ref hph hca hli=>
     rename_i cap' B base sz lim
     obtain ⟨c,ell,fz,k1,k2,k3,k4,k5,k7,k6⟩:=Y5r hr hs hph
     have hn:news.length=min k len*j.size:=by rw [<- n1.length,n3]
     have hle:min k len*j.size<=len*j.size:=Nat.mul_le_mul_right _ (by omega)
     have hst:=Y4h P news (base+off) 0 w c k1 (by simp at *;omega) k5 n2
     refine ⟨_,_,.inl (hstep (some ⟨B,base+off,none⟩) cap' _ (fun ad' e=> ?_) (fun e=>by simp at e)),im,I,hr.put (hel:=k4.2.size (by simp only [List.size_toArray,List.length_append,List.length_take,List.length_drop,Array.length_toList];omega)) (m:=b) (B:=B) (base:=base) (lim:=lim) (Qa:=I) (blk:={blk with cs:=Y2g blk.cs off (new.take (min k len*j.size))}) (c:=(c.toList.take (base+off)++news++c.toList.drop (base+off+news.length)).toArray) (el:=ell) (fz:=fz)
       (fun _ _ h=>h) (by rw [hph,k4.1]) (fun _ _=>rfl) (Y3q hr hs hph rfl) (hr.owo _ _ _ _ hs hph rfl) (hr.own.out _ _ _ _ hs hph rfl).1 (hr.own.out _ _ _ _ hs hph rfl).2 ?_ ?_ ?_ ?_ ?_ ?_,.int _ _⟩
     . obtain rfl:=Option.some.inj e
       exact hst
     . intro b' k' pl' hne hs' hp'' hB'
       exact hne (hr.own.inj _ _ _ _ _ _ _ hs' hs hp'' hph hB' rfl)
     . simp only [List.size_toArray,List.length_append,List.length_take,List.length_drop,Array.length_toList]
       omega
     . simp only
       rw [Y2z _ _ _ (by rw [n3];omega)]
       exact k3
     . simp only [List.size_toArray,List.length_append,List.length_take,List.length_drop,Array.length_toList]
       rcases k5 with k5 | k5
       . exact .inl k5
       . right;omega
     . simp only
       rw [Y2z _ _ _ (by rw [n3];omega),List.toList_toArray]
       rw [dtk c.toList base off news blk.cs.length (by simp at *;omega) (by simp at *;omega)]
       exact ((k7.take _).append n2).append (k7.drop _)
     . simp only
       rw [Y2z _ _ _ (by rw [n3];omega),List.toList_toArray]
       rw [dtk c.toList base off news blk.cs.length (by simp at *;omega) (by simp at *;omega)]
       have n1':Rs im w (if blk.pure then noB else bo) (if blk.pure then Y1h else I) (new.take (min k len*j.size)) news:=by rw [hp];exact n1
       exact Y7m off k6 (by simpa using n1')
 | _=>rw [hk] at h2;cases x <;> exact (M.fail_eq (s:=s) h2).elim
theorem Ytj (ht :Y2p P ty) (hr:Rel n w0 S im0 bo V im I s a w) {ts:Array TypeId} {rt:TypeId} {x:D} {v:Value} {vs:Array Value} {e:Eff} {l:Log} (h:clearD ty ts.toList x s=some (e,l)) (ho:l.ok) (hx:R im w bo I x v) (hvs:vs=#[v]):
   Y42 n w0 S im0 bo V s a e ((do pure (.value (<- Builtin.clear_ ts rt vs)):Sem Next).run P w):=by
 subst hvs
 unfold clearD at h
 obtain ⟨t0,ht0,l1,h1,ho1⟩:=Y2j h ho
 obtain ⟨i,hi,l2,h2,ho2⟩:=Yw ht h1 ho1
 rw [Array.getElem?_toList] at ht0
 cases hk:i.kind with
 | slice el=>
   rw [hk] at h2
   have hu:=hi.slice hk
   obtain ⟨j,hj,l3,h3,ho3⟩:=Yw ht h2 ho2
   obtain ⟨hz,l4,h4,ho4⟩:=Yl h3 ho3
   cases x <;> first
     | exact (M.fail_eq (s:=s) h4).elim
     | skip
   rename_i b off len cap
   obtain ⟨l10,h10,ho10⟩:=Y2e h4 ho4
   cases hs:s.slot b with
   | none=>rw [hs] at h10;exact (M.fail_eq (s:=s) h10).elim
   | some y=>
   cases y with
   | none=>rw [hs] at h10;exact (M.fail_eq (s:=s) h10).elim
   | some blk=>
   rw [hs] at h10
   obtain ⟨hp,l11,h11,ho11⟩:=Yl h10 ho10
   obtain ⟨hfr,l12,h12,ho12⟩:=Yl h11 ho11
   obtain ⟨hlen,l13,h13,ho13⟩:=Yx h12 ho12
   have he:=Y8 (s:=s) h13
   subst he
   obtain ⟨jj,dd,g1,g2,g3,g4,g5,g6⟩:=hj.info
   obtain ⟨z,g7,g8,g9,g10⟩:=g6 (Ydv (by simpa using hz))
   have hzz:=Ybs (im:=im) (bo:=bo) (w:=w) (I:=I) _ _ g8
   have zl:j.zero.length=z.cells.size:=hzz.length.trans (by simp)
   have hzc:(Builtin.zeroCells z.cells len).toList=Y64 z.cells.toList len:=Y8r _ _
   have hrl:(Y4q j.zero len).length=len*j.size:=by rw [Ygc,g9]
   have hR:=Yjt (Yks hzz hfr) len
   have hO:=Ygd g10 len
   have hvl:(Y64 z.cells.toList len).length=len*j.size:=by rw [<- hR.length,hrl]
   have hzero:∀ ad,len=0->Y42 n w0 S im0 bo V s a {val:=.tup [],sets:=[(b,some {blk with cs:=Y2g blk.cs off (Y4q j.zero len)})]} ((do pure (.value (<- Builtin.clear_ ts rt #[.slice ad len 0])):Sem Next).run P w):=by
     intro ad e1
     subst e1
     refine ⟨.tuple #[],w,.inl ?_,im,I,hr.same_slot (St.tmp_setH _ _) ?_,.tup (vs:=[]) .nil⟩
     . cases ad <;> simp [Builtin.clear_,ht0,run_underlying hu]
     . funext c
       rw [Y2q]
       show _=s.slot c
       rw [show Y4q j.zero 0=[] from rfl,Ybg]
       by_cases hc:b=c
       . subst hc;simp [hs]
       . simp [hc]
   cases hx with
   | ref0 ad k1=>exact hzero ad rfl
   | refz ad k1=>exact hzero ad rfl
   | ref k1 k2 k3=>
     rename_i cap' B base sz lim
     obtain ⟨c,ell,fz,j1,j2,j3,j4,j5,j7,j6⟩:=Y5r hr hs k1
     have hst:=Y4h P (Y64 z.cells.toList len) (base+off) 0 w c j1 (by omega) j5 hO
     simp only [Nat.add_zero] at hst
     refine ⟨.tuple #[],_,.inl ?_,im,I,hr.put (hel:=j4.2.size (by simp only [List.size_toArray,List.length_append,List.length_take,List.length_drop,Array.length_toList];omega)) (m:=b) (B:=B) (base:=base) (lim:=lim) (Qa:=I) (blk:={blk with cs:=Y2g blk.cs off (Y4q j.zero len)}) (c:=(c.toList.take (base+off)++Y64 z.cells.toList len++c.toList.drop (base+off+(Y64 z.cells.toList len).length)).toArray) (el:=ell) (fz:=fz)
       (fun _ _ h=>h) (by rw [k1,j4.1]) (fun _ _=>rfl) (Y3q hr hs k1 rfl) (hr.owo _ _ _ _ hs k1 rfl) (hr.own.out _ _ _ _ hs k1 rfl).1 (hr.own.out _ _ _ _ hs k1 rfl).2 ?_ ?_ ?_ ?_ ?_ ?_,.tup (vs:=[]) .nil⟩
     . cases len with
       | zero=>
         have e0:Y64 z.cells.toList 0=[]:=rfl
         rw [e0] at hst ⊢
         have hst':=hst
         simp only [storeCells] at hst'
         have hw:w=Y2k w B (.cells (c.toList.take (base+off)++[]++c.toList.drop (base+off+([]:List Value).length)).toArray ell fz):=by
           have e1:(c.toList.take (base+off)++[]++c.toList.drop (base+off+([]:List Value).length)).toArray=c:=by
             simp
           rw [e1,Ykr j1]
         rw [<- hw]
         simp [Builtin.clear_,ht0,run_underlying hu]
       | succ m=>
         simp [Builtin.clear_,ht0,run_underlying hu,zeroValue,typeInfo,g1,g7,hzc,hst]
     . intro b' k' pl' hne hs' hp'' hB'
       exact hne (hr.own.inj _ _ _ _ _ _ _ hs' hs hp'' k1 hB' rfl)
     . simp only [List.size_toArray,List.length_append,List.length_take,List.length_drop,Array.length_toList]
       omega
     . simp only
       rw [Y2z _ _ _ (by rw [hrl];omega)]
       exact j3
     . simp only [List.size_toArray,List.length_append,List.length_take,List.length_drop,Array.length_toList]
       rcases j5 with j5 | j5
       . exact .inl j5
       . right;omega
     . simp only
       rw [Y2z _ _ _ (by rw [hrl];omega),List.toList_toArray]
       rw [dtk c.toList base off _ blk.cs.length (by simp at *;omega) (by omega)]
       exact ((j7.take _).append hO).append (j7.drop _)
     . simp only
       rw [Y2z _ _ _ (by rw [hrl];omega),List.toList_toArray]
       rw [dtk c.toList base off _ blk.cs.length (by simp at *;omega) (by omega)]
       have n1':Rs im w (if blk.pure then noB else bo) (if blk.pure then Y1h else I) (Y4q j.zero len) (Y64 z.cells.toList len):=by rw [hp];exact hR
       exact Y7m off j6 n1'
 | _=>rw [hk] at h2;cases x <;> exact (M.fail_eq (s:=s) h2).elim
end
end Go.Proofs.YtpdcnikdoikldaaGreatDoor.Sv
