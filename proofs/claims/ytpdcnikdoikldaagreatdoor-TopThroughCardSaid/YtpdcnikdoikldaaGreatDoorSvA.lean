import Derived.Orders
import Derived.Below
import Derived.Laws.Sem
import Derived.Laws.StructEq
set_option linter.unusedVariables false
set_option linter.unusedSimpArgs false
namespace Go.Proofs.YtpdcnikdoikldaaGreatDoor.Sv
open Go Go.RowKit
inductive D where
 | undef
 | bool (b:Bool)
 | int (k:IntKind) (n:Int)
 | str (s:ByteArray)
 | agg (cs:List D)
 | tup (cs:List D)
 | nilp
 | ptr (b off:Nat)
 | ip (g:Bool) (cs:List D)
 | nils
 | z0
 | e0
 | sl (g:Bool) (cs:List D) (len cap:Nat)
 | ref (b off len cap:Nat)
 | fn (f:Nat) (cs:List D)
 | nilf
 | chan (b:Nat)
 | pn (b:Nat)
 deriving Inhabited
inductive Pl where
 | nil
 | at_ (B base sz lim:Nat)
 | ch (B cap:Nat)
def Pl.blk :Pl->Option Nat
 | .nil=>none
 | .at_ B _ _ _=>some B
 | .ch B _=>some B
abbrev Env:=Nat->Option Pl
def Y1h :Env:=fun _=>none
def noB :Nat->Prop:=fun _=>False
def Y1r (vs :List Value):Prop:=∀ v∈vs,v.oneCell'=true
mutual
inductive R (im :Nat->Prop) (w:World):(Nat->Prop)->Env->D->Value->Prop
 | undef {bo I} (v):R im w bo I .undef v
 | bool {bo I} (b):R im w bo I (.bool b) (.bool b)
 | int {bo I} (k n):R im w bo I (.int k n) (.int k n)
 | str {bo I} (s):R im w bo I (.str s) (.string s)
 | agg {bo I cs vs}:Y1r vs->Rs im w bo I cs vs->R im w bo I (.agg cs) (.agg vs.toArray)
 | tup {bo I cs vs}:Rs im w bo I cs vs->R im w bo I (.tup cs) (.tuple vs.toArray)
 | nilp {bo I}:R im w bo I .nilp (.pointer none)
 | ptr {bo} {I:Env} {b off B base sz lim}:I b=some (.at_ B base sz lim)->R im w bo I (.ptr b off) (.pointer (some ⟨B,base+off,none⟩))
 | ip {bo I g cs B o c el fz vs}:(im B\/(g=false/\bo B))->w.heap[B]? =some (.cells c el fz)->(c.toList.drop o).take cs.length=vs->Y1r vs->
     Rs im w (if g then noB else bo) Y1h cs vs->R im w bo I (.ip g cs) (.pointer (some ⟨B,o,none⟩))
 | nils {bo I}:R im w bo I .nils (.slice none 0 0)
 | z0 {bo I} (a):R im w bo I .z0 (.slice a 0 0)
 | e0 {bo I} (a c):R im w bo I .e0 (.slice (some a) 0 c)
 | sl0 {bo I g cs} (a c) (h:a=none->c=0):R im w bo I (.sl g cs 0 0) (.slice a 0 c)
 | sl {bo I g cs len cap cap' B o c el fz vs}:(im B\/(g=false/\bo B))->cap<=cap'->w.heap[B]? =some (.cells c el fz)->(c.toList.drop o).take cs.length=vs->Y1r vs->
     Rs im w (if g then noB else bo) Y1h cs vs->R im w bo I (.sl g cs len cap) (.slice (some ⟨B,o,none⟩) len cap')
 | ref0 {bo} {I:Env} {b} (a):I b=some .nil->R im w bo I (.ref b 0 0 0) (.slice a 0 0)
 | refz {bo} {I:Env} {b off B base sz lim} (a):I b=some (.at_ B base sz lim)->R im w bo I (.ref b off 0 0) (.slice a 0 0)
 | ref {bo} {I:Env} {b off len cap cap' B base sz lim}:I b=some (.at_ B base sz lim)->cap<=cap'->off+cap'*sz<=lim->
     R im w bo I (.ref b off len cap) (.slice (some ⟨B,base+off,none⟩) len cap')
 | fn {bo I f cs vs}:Rs im w bo I cs vs->R im w bo I (.fn f cs) (.func (.func f) #[] vs.toArray)
 | nilf {bo I}:R im w bo I .nilf .nilFunc
 | pn0 {bo I b}:R im w bo I (.pn b) (.pointer none)
 | pn {bo} {I:Env} {b B base sz lim}:I b=some (.at_ B base sz lim)->R im w bo I (.pn b) (.pointer (some ⟨B,base,none⟩))
 | chan {bo} {I:Env} {b B cap}:I b=some (.ch B cap)->R im w bo I (.chan b) (.chan (some B))
inductive Rs (im :Nat->Prop) (w:World):(Nat->Prop)->Env->List D->List Value->Prop
 | nil {bo I}:Rs im w bo I [] []
 | cons {bo I d v ds vs}:R im w bo I d v->Rs im w bo I ds vs->Rs im w bo I (d :: ds) (v :: vs)
end
mutual
theorem R.mono {im im' :Nat->Prop} {w w':World} (hi:∀ b,im b->im' b) {bo:Nat->Prop} {I:Env} {d:D} {v:Value}:
   R im w bo I d v->∀ {bo':Nat->Prop} {Qa:Env},(∀ b,im b\/bo b->w'.heap[b]? =w.heap[b]?)->(∀ b,bo b->bo' b)->(∀ b p,I b=some p->Qa b=some p)->R im' w' bo' Qa d v
 | .undef _,_,_,_,_,_=>.undef _
 | .bool _,_,_,_,_,_=>.bool _
 | .int _ _,_,_,_,_,_=>.int _ _
 | .str _,_,_,_,_,_=>.str _
 | .agg o h,_,_,hw,hb,hp=>.agg o (Rs.mono hi h hw hb hp)
 | .tup h,_,_,hw,hb,hp=>.tup (Rs.mono hi h hw hb hp)
 | .nilp,_,_,_,_,_=>.nilp
 | .ptr h,_,_,_,_,hp=>.ptr (hp _ _ h)
 | .ip (g:=g) hB hc ht o h,_,_,hw,hb,hp=>.ip (hB.imp (hi _) fun ⟨a,b⟩=>⟨a,hb _ b⟩) ((hw _ (hB.imp id And.right)).trans hc) ht o
     (Rs.mono hi h (fun b hx=>hw b (hx.imp id fun h=>by cases g <;> simp_all [noB])) (fun b h=>by cases g <;> simp_all [noB]) (fun _ _ h=>h))
 | .nils,_,_,_,_,_=>.nils
 | .z0 _,_,_,_,_,_=>.z0 _
 | .e0 _ _,_,_,_,_,_=>.e0 _ _
 | .sl0 _ _ h,_,_,_,_,_=>.sl0 _ _ h
 | .sl (g:=g) hB hl hc ht o h,_,_,hw,hb,hp=>.sl (hB.imp (hi _) fun ⟨a,b⟩=>⟨a,hb _ b⟩) hl ((hw _ (hB.imp id And.right)).trans hc) ht o
     (Rs.mono hi h (fun b hx=>hw b (hx.imp id fun h=>by cases g <;> simp_all [noB])) (fun b h=>by cases g <;> simp_all [noB]) (fun _ _ h=>h))
 | .ref0 a h,_,_,_,_,hp=>.ref0 a (hp _ _ h)
 | .refz a h,_,_,_,_,hp=>.refz a (hp _ _ h)
 | .ref h a b,_,_,_,_,hp=>.ref (hp _ _ h) a b
 | .fn h,_,_,hw,hb,hp=>.fn (Rs.mono hi h hw hb hp)
 | .nilf,_,_,_,_,_=>.nilf
 | .chan h,_,_,_,_,hp=>.chan (hp _ _ h)
 | .pn0,_,_,_,_,_=>.pn0
 | .pn h,_,_,_,_,hp=>.pn (hp _ _ h)
theorem Rs.mono {im im' :Nat->Prop} {w w':World} (hi:∀ b,im b->im' b) {bo:Nat->Prop} {I:Env} {ds:List D} {vs:List Value}:
   Rs im w bo I ds vs->∀ {bo':Nat->Prop} {Qa:Env},(∀ b,im b\/bo b->w'.heap[b]? =w.heap[b]?)->(∀ b,bo b->bo' b)->(∀ b p,I b=some p->Qa b=some p)->Rs im' w' bo' Qa ds vs
 | .nil,_,_,_,_,_=>.nil
 | .cons h t,_,_,hw,hb,hp=>.cons (R.mono hi h hw hb hp) (Rs.mono hi t hw hb hp)
end
theorem Rs.length {im :Nat->Prop} {w:World} {bo:Nat->Prop} {I:Env} {ds:List D} {vs:List Value} (h:Rs im w bo I ds vs):ds.length=vs.length:=by
 induction ds generalizing vs with
 | nil=>cases h;rfl
 | cons d ds ih=>cases h with | cons a b=>simp [ih b]
theorem Rs.get {im :Nat->Prop} {w:World} {bo:Nat->Prop} {I:Env} {ds:List D} {vs:List Value} (h:Rs im w bo I ds vs) {i:Nat} {d:D} (hd:ds[i]? =some d):∃ v,vs[i]? =some v/\R im w bo I d v:=by
 induction ds generalizing vs i with
 | nil=>simp at hd
 | cons x ds ih=>
   cases h with
   | cons a b=>
     cases i with
     | zero=>simp at hd;subst hd;exact ⟨_,rfl,a⟩
     | succ i=>simp at hd;simpa using ih b hd
theorem Y1r.drop {vs :List Value} (h:Y1r vs) (n:Nat):Y1r (vs.drop n):=fun v hv=>h v (List.mem_of_mem_drop hv)
theorem Y1r.take {vs :List Value} (h:Y1r vs) (n:Nat):Y1r (vs.take n):=fun v hv=>h v (List.mem_of_mem_take hv)
theorem Y1r.append {vs us :List Value} (h:Y1r vs) (k:Y1r us):Y1r (vs++us):=fun v hv=>(List.mem_append.1 hv).elim (h v) (k v)
theorem Y1r.nil :Y1r []:=fun v hv=>by simp at hv
theorem Rs.append {im :Nat->Prop} {w:World} {bo:Nat->Prop} {I:Env} {ds es:List D} {vs us:List Value} (h:Rs im w bo I ds vs) (k:Rs im w bo I es us):Rs im w bo I (ds++es) (vs++us):=by
 induction ds generalizing vs with
 | nil=>cases h;simpa using k
 | cons x ds ih=>cases h with | cons a b=>exact .cons a (ih b)
theorem Rs.drop {im :Nat->Prop} {w:World} {bo:Nat->Prop} {I:Env} {ds:List D} {vs:List Value} (h:Rs im w bo I ds vs) (n:Nat):Rs im w bo I (ds.drop n) (vs.drop n):=by
 induction n generalizing ds vs with
 | zero=>simpa using h
 | succ n ih=>
   cases h with
   | nil=>exact .nil
   | cons a b=>simpa using ih b
theorem Rs.take {im :Nat->Prop} {w:World} {bo:Nat->Prop} {I:Env} {ds:List D} {vs:List Value} (h:Rs im w bo I ds vs) (n:Nat):Rs im w bo I (ds.take n) (vs.take n):=by
 induction n generalizing ds vs with
 | zero=>simpa using .nil
 | succ n ih=>
   cases h with
   | nil=>exact .nil
   | cons a b=>exact .cons a (ih b)
theorem Rs.set {im :Nat->Prop} {w:World} {bo:Nat->Prop} {I:Env} {ds:List D} {vs:List Value} (h:Rs im w bo I ds vs) (n:Nat) {d:D} {v:Value} (k:R im w bo I d v):Rs im w bo I (ds.set n d) (vs.set n v):=by
 induction n generalizing ds vs with
 | zero=>cases h with
   | nil=>exact .nil
   | cons a b=>exact .cons k b
 | succ n ih=>
   cases h with
   | nil=>exact .nil
   | cons a b=>exact .cons a (ih b)
theorem Rs.replicate {im :Nat->Prop} {w:World} {bo:Nat->Prop} {I:Env} {d:D} {v:Value} (h:R im w bo I d v) (n:Nat):Rs im w bo I (List.replicate n d) (List.replicate n v):=by
 induction n with
 | zero=>exact .nil
 | succ n ih=>exact .cons h ih
end Go.Proofs.YtpdcnikdoikldaaGreatDoor.Sv
namespace Go.Proofs.YtpdcnikdoikldaaGreatDoor.Sv
open Go Go.RowKit
structure Blk where
 pure:Bool
 sz:Nat
 cs:List D
 el:Nat:=0
 deriving Inhabited
abbrev bk (p :Bool) (sz:Nat) (cs:List D):Blk:={pure:=p,sz:=sz,cs:=cs}
structure St where
 T:List (Nat× D)
 H:List (Nat× Option Blk)
 deriving Inhabited
def look {U :Type}:List (Nat× U)->Nat->Option U
 | [],_=>none
 | (k,v) :: r,n=>bif Nat.beq k n then some v else look r n
def St.tmp (s :St) (t:Nat):D:=(look s.T t).getD .undef
def St.slot (s :St) (b:Nat):Option (Option Blk):=look s.H b
def St.setT (s :St) (t:Nat) (d:D):St:={s with T:=(t,d) :: s.T}
def St.setO (s :St) (o:Option Nat) (d:D):St:=match o with | some t=>s.setT t d | none=>s
def St.setH (s :St) (l:List (Nat× Option Blk)):St:={s with H:=l++s.H}
structure Log where
 t:List Nat:=[]
 h:List Nat:=[]
 o:List Prop:=[]
def M (U :Type):=St->Option (U× Log)
def M.pure {U :Type} (a:U):M U:=fun _=>some (a,{})
def M.fail {U :Type}:M U:=fun _=>none
def M.bind {U Qb :Type} (m:M U) (f:U->M Qb):M Qb:=fun s=>
 match m s with
 | none=>none
 | some (a,l)=>
   match f a s with
   | none=>none
   | some (b,k)=>some (b,{t:=l.t++k.t,h:=l.h++k.h,o:=l.o++k.o})
instance :Monad M where
 pure:=M.pure
 bind:=M.bind
def getT (t :Nat):M D:=fun s=>some (s.tmp t,{t:=[t]})
def getH (b :Nat):M (Option (Option Blk)):=fun s=>some (s.slot b,{h:=[b]})
def need (p :Prop):M Unit:=fun _=>some ((),{o:=[p]})
def lift {U :Type}:Option U->M U
 | some a=>M.pure a
 | none=>M.fail
def test (b :Bool):M Unit:=match b with | true=>M.pure () | false=>M.fail
def Yas :Nat->List D->Bool
 | 0,_=>true
 | _+1,[]=>false
 | n+1,_ :: r=>Yas n r
theorem Y9x :∀ {n:Nat} {l:List D},Yas n l=true->n<=l.length
 | 0,_,_=>Nat.zero_le _
 | _+1,[],h=>by simp [Yas] at h
 | n+1,_ :: r,h=>by simpa using Y9x (n:=n) (l:=r) h
def ask (sym b :Bool) (p:Prop) (h:b=true->p):M Unit:=match sym with
 | true=>need p
 | false=>test b
inductive TK where
 | bool | int (k:IntKind) | string | pointer (e:Nat) | slice (e:Nat) | array (n e:Nat)
 | struct (fs:List (Nat× Nat))
 | func | chan (e:Nat) | uptr | other
structure TI where
 size:Nat
 bytes:Nat
 kind:TK
 zero:List D
 eq:List Nat
 flat:Bool
abbrev Ty:=List TI
def zok (i :TI):Bool:=match i.zero with
 | []=>(match i.kind with | .struct []=>true | _=>false)
 | _ :: _=>true
theorem Ydv {i :TI} (h:i.zero.isEmpty=false):zok i=true:=by
 unfold zok
 cases hz:i.zero with
 | nil=>rw [hz] at h;simp at h
 | cons a b=>rfl
def Ty.at (ty :Ty) (t:Nat):M TI:=lift ty[t]?
def TK.agg :TK->Bool
 | .struct _ | .array _ _=>true
 | _=>false
def TK.desc :TK->TypeDesc->Bool
 | .bool,.bool=>true
 | .int k,.int k'=>k==k'
 | .string,.string=>true
 | .pointer e,.pointer e'=>e==e'
 | .slice e,.slice e'=>e==e'
 | .array n e,.array n' e'=>n==n'&&e==e'
 | .struct fs,.struct gs=>fs==gs.toList.map fun f=>(f.offset,f.type)
 | .func,.func _ _ _=>true
 | .chan e,.chan _ e'=>e==e'
 | .uptr,.unsafePointer=>true
 | .other,.struct _=>false
 | .other,.array _ _=>false
 | .other,_=>true
 | _,_=>false
mutual
def ofV :Value->Option D
 | .bool b=>some (.bool b)
 | .int k n=>some (.int k n)
 | .string s=>some (.str s)
 | .pointer none=>some .nilp
 | .slice none 0 0=>some .nils
 | .nilFunc=>some .nilf
 | .chan none=>some .undef
 | .nilIface=>some .undef
 | .func (.func f) ⟨[]⟩ ⟨[]⟩=>some (.fn f [])
 | .agg ⟨cs⟩=>bif cs.all Value.oneCell' then (Ydw cs).map .agg else none
 | _=>none
def Ydw :List Value->Option (List D)
 | []=>some []
 | v :: vs=>match ofV v,Ydw vs with
   | some d,some ds=>some (d :: ds)
   | _,_=>none
end
def ev :Operand->M D
 | .tmp t=>getT t
 | .const v=>lift (ofV v)
 | .func f=>M.pure (.fn f [])
 | .global _=>M.fail
def D.cells :D->List D
 | .agg cs=>cs
 | d=>[d]
def D.val :D->Bool
 | .tup _ | .undef=>false
 | _=>true
def D.free :D->Bool
 | .bool _ | .int _ _ | .str _ | .nilp | .nils | .nilf=>true
 | .ip true _ | .sl true _ _ _=>true
 | _=>false
def Y24 :List D->Bool
 | []=>true
 | d :: ds=>d.free&&Y24 ds
def D.one :D->Bool
 | .agg _ | .tup _ | .undef=>false
 | _=>true
def Y2g (cs :List D) (off:Nat) (vs:List D):List D:=cs.take off++vs++cs.drop (off+vs.length)
def Y6v (cs :List D):ByteArray:=⟨(cs.map fun | .int _ n=>UInt8.ofNat n.toNat | _=>0).toArray⟩
def Y63 (s :ByteArray):List D:=s.data.toList.map fun b=>.int .u8 (b.toNat:Int)
def bt (s :ByteArray) (i:Int):Int:=((s.data.toList.getD i.toNat 0).toNat:Int)
def Y4q (cs :List D):Nat->List D
 | 0=>[]
 | n+1=>cs++Y4q cs n
def D.byte :D->Prop
 | .int .u8 _=>True
 | _=>False
structure Eff where
 val:D
 sets:List (Nat× Option Blk):=[]
def eff (d :D):M Eff:=M.pure {val:=d}
def nameOf (o :Oper) (k:Nat):M Nat:=match o.dst with | some d=>M.pure (100+16*d+k) | none=>M.fail
def newAt (o :Oper) (b:Blk) (f:Nat->D):M Eff:=do
 let n <- nameOf o 0
 match <- getH n with
 | none=>M.pure {val:=f n,sets:=[(n,some b)]}
 | some _=>M.fail
def intOp (op :BinOp) (k:IntKind) (x y:Int):M D:=
 match op with
 | .add=>M.pure (.int k (k.wrap (x+y)))
 | .sub=>M.pure (.int k (k.wrap (x - y)))
 | .mul=>M.pure (.int k (k.wrap (x*y)))
 | .quo=>do need (y≠0);M.pure (.int k (k.wrap (x.tdiv y)))
 | .rem=>do need (y≠0);M.pure (.int k (x.tmod y))
 | .and=>M.pure (.int k (k.wrap (BitVec.ofInt k.bits x &&& BitVec.ofInt k.bits y).toNat))
 | .or=>M.pure (.int k (k.wrap (BitVec.ofInt k.bits x ||| BitVec.ofInt k.bits y).toNat))
 | .xor=>M.pure (.int k (k.wrap (BitVec.ofInt k.bits x ^^^ BitVec.ofInt k.bits y).toNat))
 | .andNot=>M.pure (.int k (k.wrap (BitVec.ofInt k.bits x &&& ~~~BitVec.ofInt k.bits y).toNat))
 | .eql=>M.pure (.bool (x==y))
 | .neq=>M.pure (.bool (x != y))
 | .lss=>M.pure (.bool (decide (x< y)))
 | .leq=>M.pure (.bool (decide (x<=y)))
 | .gtr=>M.pure (.bool (decide (x > y)))
 | .geq=>M.pure (.bool (decide (x>=y)))
 | _=>M.fail
def shOp (op :BinOp) (k:IntKind) (x y:Int):M D:=
 match op with
 | .shl=>do need (0<=y);M.pure (.int k (k.wrap (x*2 ^ (min y.toNat k.bits))))
 | .shr=>do need (0<=y);M.pure (.int k (x.fdiv (2 ^ (min y.toNat k.bits))))
 | _=>M.fail
def strOp (op :BinOp) (x y:ByteArray):M D:=
 match op with
 | .add=>do need (((x.size+y.size:Nat):Int)<=9223372036854775807);M.pure (.str (x++y))
 | .eql=>M.pure (.bool (x.toList==y.toList))
 | .neq=>M.pure (.bool (!(x.toList==y.toList)))
 | _=>M.fail
def Yhg :Nat->D->D->Option Bool
 | 0,.int k a,.int l b=>bif k==l then some (a==b) else none
 | 1,.bool a,.bool b=>some (a==b)
 | 2,.str a,.str b=>some (a.toList==b.toList)
 | _,_,_=>none
def Y1z :List Nat->List D->List D->Option Bool
 | [],[],[]=>some true
 | k :: ks,a :: as,b :: bs=>match Yhg k a b,Y1z ks as bs with
   | some x,some y=>some (x&&y)
   | _,_=>none
 | _,_,_=>none
def neg (op :BinOp) (b:Bool):M D:=match op with
 | .eql=>M.pure (.bool b)
 | .neq=>M.pure (.bool (!b))
 | _=>M.fail
def Ym5 :D->Option Bool
 | .nilp=>some true
 | .ptr _ _ | .ip _ _=>some false
 | _=>none
def Ymn :D->Option (Bool× Prop)
 | .nils=>some (true,True)
 | .e0=>some (false,True)
 | .sl _ _ len _=>some (false,len≠0)
 | .ref _ _ len _=>some (false,len≠0)
 | _=>none
def binD (ty :Ty) (op:BinOp) (t:Nat) (x y:D):M D:=
 match x,y with
 | .int k a,.int k' b=>(match op with
   | .shl | .shr=>shOp op k a b
   | _=>do test (k==k');intOp op k a b)
 | .str a,.str b=>strOp op a b
 | .bool a,.bool b=>do
   let i <- ty.at t
   test (match i.kind with | .bool=>true | _=>false)
   neg op (a==b)
 | .agg as,.agg bs=>do
   let i <- ty.at t
   test (!i.eq.isEmpty)
   let r <- lift (Y1z i.eq as bs)
   neg op r
 | .ptr b off,.ptr b' off'=>do
   let i <- ty.at t
   match i.kind,op with
   | .pointer e,.neq=>do
     let j <- ty.at e
     test (Nat.beq b b'&&Nat.beq off off')
     M.pure (.bool false)
   | _,_=>M.fail
 | .nilp,y=>do
   let i <- ty.at t
   test (match i.kind with | .pointer _=>true | _=>false)
   let b <- lift (Ym5 y)
   neg op b
 | x,.nilp=>do
   let i <- ty.at t
   test (match i.kind with | .pointer _=>true | _=>false)
   let b <- lift (Ym5 x)
   neg op b
 | x,.nils=>do
   let i <- ty.at t
   test (match i.kind with | .slice _=>true | _=>false)
   let r <- lift (Ymn x)
   need r.2
   neg op r.1
 | _,_=>M.fail
def unD (op :UnOp) (x:D):M D:=
 match op,x with
 | .neg,.int k n=>M.pure (.int k (k.wrap (0 - n)))
 | .xor,.int k n=>M.pure (.int k (k.wrap (BitVec.ofInt k.bits (if k.signed then -1 else k.max) ^^^ BitVec.ofInt k.bits n).toNat))
 | .not,.bool b=>M.pure (.bool (!b))
 | _,_=>M.fail
def Yt5 (c :Bool) (a b:D):D:=
 match a,b with
 | .bool x,.bool y=>.bool (bif c then x else y)
 | a,b=>bif c then a else b
def behind (addr :D):M (List D):=
 match addr with
 | .ptr b off=>do
   match <- getH b with
   | some (some blk)=>M.pure (blk.cs.drop off)
   | _=>M.fail
 | .ip _ cs=>M.pure cs
 | _=>M.fail
def loadD (ty :Ty) (t:Nat) (addr:D) (sym:Bool):M D:=do
 let i <- ty.at t
 let cs <- behind addr
 if i.kind.agg then do
   ask sym (Yas i.size cs) (i.size<=cs.length) Y9x
   M.pure (.agg (cs.take i.size))
 else match sym with
   | true=>do
     need (cs≠[])
     M.pure (cs.headD .undef)
   | false=>match cs with
     | d :: _=>M.pure d
     | []=>M.fail
theorem Y110 {n m k :Nat} {cs vs:List D} {p q:Bool} (h:(Nat.beq n m&&Yas k cs&&(!p||Y24 vs))=true):n=m/\k<=cs.length/\(p=true->Y24 vs=true):=by
 simp only [Bool.and_eq_true,Nat.beq_eq] at h
 refine ⟨h.1.1,Y9x h.1.2,fun hp=> ?_⟩
 have:=h.2
 rw [hp] at this
 simpa using this
def storeD (ty :Ty) (t:Nat) (addr v:D) (sym:Bool):M Eff:=do
 let i <- ty.at t
 match addr with
 | .ptr b off=>do
   match <- getH b with
   | some (some blk)=>do
     test v.val
     let vs:=v.cells
     ask sym (Nat.beq vs.length i.size&&Yas (off+vs.length) blk.cs&&(!blk.pure||Y24 vs)) (vs.length=i.size/\off+vs.length<=blk.cs.length/\(blk.pure=true->Y24 vs=true)) (Y110 (q:=true))
     M.pure {val:=.undef,sets:=[(b,some {blk with cs:=Y2g blk.cs off vs})]}
   | _=>M.fail
 | _=>M.fail
def fieldsOf (ty :Ty) (t:Nat):M (List (Nat× Nat)):=do
 let i <- ty.at t
 match i.kind with
 | .struct fs=>M.pure fs
 | _=>M.fail
def fieldAddrD (ty :Ty) (s:Nat) (addr:D) (f:Nat):M D:=do
 let fs <- fieldsOf ty s
 let (off,t) <- lift fs[f]?
 let i <- ty.at t
 test (!(Nat.beq i.size 0))
 match addr with
 | .ptr b o=>M.pure (.ptr b (o+off))
 | .ip g cs=>M.pure (.ip g (cs.drop off))
 | _=>M.fail
def fieldD (ty :Ty) (s:Nat) (x:D) (f:Nat):M D:=do
 let fs <- fieldsOf ty s
 let (off,t) <- lift fs[f]?
 let i <- ty.at t
 match x with
 | .agg cs=>
   if i.kind.agg then M.pure (.agg ((cs.drop off).take i.size))
   else lift cs[off]?
 | _=>M.fail
def indexAddrD (ty :Ty) (t:Nat) (x ix:D):M D:=do
 let i <- ty.at t
 match i.kind,x,ix with
 | .slice e,.sl g cs len _,.int _ n=>do
   let j <- ty.at e
   need (0<=n/\n< (len:Int))
   M.pure (.ip g (cs.drop (n.toNat*j.size)))
 | .slice e,.ref b off len _,.int _ n=>do
   let j <- ty.at e
   need (0<=n/\n< (len:Int))
   M.pure (.ptr b (off+n.toNat*j.size))
 | .array len e,.ptr b off,.int _ n=>do
   let j <- ty.at e
   need (0<=n/\n< (len:Int))
   M.pure (.ptr b (off+n.toNat*j.size))
 | .array len e,.ip g cs,.int _ n=>do
   let j <- ty.at e
   need (0<=n/\n< (len:Int))
   M.pure (.ip g (cs.drop (n.toNat*j.size)))
 | _,_,_=>M.fail
def indexD (ty :Ty) (t:Nat) (x ix:D):M D:=do
 let i <- ty.at t
 match i.kind,x,ix with
 | .string,.str s,.int _ n=>do
   need (0<=n/\n< (s.size:Int))
   M.pure (.int .u8 (bt s n))
 | .array len e,.agg cs,.int _ n=>do
   let j <- ty.at e
   need (0<=n/\n< (len:Int))
   if j.kind.agg then M.pure (.agg ((cs.drop (n.toNat*j.size)).take j.size))
   else do need (n.toNat*j.size< cs.length);M.pure (cs.getD (n.toNat*j.size) .undef)
 | _,_,_=>M.fail
def bound (x :Option D) (d:Nat):M Int:=
 match x with
 | none=>M.pure (d:Int)
 | some (.int _ n)=>M.pure n
 | _=>M.fail
def sliceD (ty :Ty) (t:Nat) (x:D) (lo hi mx:Option D):M D:=do
 let i <- ty.at t
 match i.kind,x,mx with
 | .slice e,.nils,_=>do
   let j <- ty.at e
   test (mx.isNone||hi.isSome)
   let h <- bound hi 0
   let l <- bound lo 0
   let m <- bound mx 0
   need (h=0/\l=0/\m=0)
   M.pure .nils
 | .slice e,.sl _ _ _ _,some m=>do
   let j <- ty.at e
   test hi.isSome
   let h <- bound hi 0
   let l <- bound lo 0
   let m <- bound mx 0
   need (h=0/\l=0/\m=0)
   M.pure .z0
 | .slice e,.ref _ _ _ _,some m=>do
   let j <- ty.at e
   test hi.isSome
   let h <- bound hi 0
   let l <- bound lo 0
   let m <- bound mx 0
   need (h=0/\l=0/\m=0)
   M.pure .z0
 | .string,.str s,none=>do
   let h <- bound hi s.size
   let l <- bound lo 0
   need (0<=h/\h<=(s.size:Int)/\0<=l/\l<=h)
   M.pure (.str (s.extract l.toNat h.toNat))
 | .slice e,.sl g cs len cap,none=>do
   let j <- ty.at e
   let h <- bound hi len
   let l <- bound lo 0
   need (0<=h/\h<=(cap:Int)/\0<=l/\l<=h/\len<=cap/\cs.length<=cap*j.size)
   M.pure (.sl g (cs.drop (l.toNat*j.size)) (h - l).toNat (cap - l.toNat))
 | .slice e,.ref b off len cap,none=>do
   let j <- ty.at e
   match <- getH b with
   | some (some blk)=>do
   test (Nat.beq blk.sz j.size)
   let h <- bound hi len
   let l <- bound lo 0
   need (0<=h/\h<=(cap:Int)/\0<=l/\l<=h/\len<=cap)
   M.pure (.ref b (off+l.toNat*j.size) (h - l).toNat (cap - l.toNat))
   | _=>M.fail
 | _,_,_=>M.fail
def slice3D (ty :Ty) (t:Nat) (x:D) (lo hi mx:Option D):M D:=do
 let i <- ty.at t
 match i.kind,x with
 | .slice e,.ref _ _ _ cap=>do
   let j <- ty.at e
   test (mx.isSome&&hi.isSome)
   let h <- bound hi 0
   let l <- bound lo 0
   let m <- bound mx 0
   need (0<=m/\m<=(cap:Int)/\0<=h/\h<=m/\0<=l/\l<=h)
   M.pure .undef
 | _,_=>M.fail
def fillD (place :Nat->Option (Nat× Nat)) (cs:List D):List (Nat× D)->M (List D)
 | []=>M.pure cs
 | (i,v) :: rest=>do
   let (off,size) <- lift (place i)
   test v.val
   ask false (Nat.beq v.cells.length size&&Yas (off+size) cs) (v.cells.length=size/\off+size<=cs.length) (fun h=>by
     simp only [Bool.and_eq_true,Nat.beq_eq] at h
     exact ⟨h.1,Y9x h.2⟩)
   fillD place (Y2g cs off v.cells) rest
def evs :List (Nat× Operand)->M (List (Nat× D))
 | []=>M.pure []
 | (i,x) :: r=>do
   let d <- ev x
   let ds <- evs r
   M.pure ((i,d) :: ds)
def evl :List Operand->M (List D)
 | []=>M.pure []
 | x :: r=>do
   let d <- ev x
   let ds <- evl r
   M.pure (d :: ds)
def placesOf (ty :Ty):List (Nat× Nat)->M (List (Nat× Nat))
 | []=>M.pure []
 | (off,t) :: r=>do
   let i <- ty.at t
   let ps <- placesOf ty r
   M.pure ((off,i.size) :: ps)
def buildD (ty :Ty) (t:Nat) (parts:List (Nat× D)):M D:=do
 let i <- ty.at t
 test (zok i)
 match i.kind with
 | .struct fs=>do
   let ps <- placesOf ty fs
   let cs <- fillD (fun k=>ps[k]?) i.zero parts
   M.pure (.agg cs)
 | .array _ e=>do
   let j <- ty.at e
   let cs <- fillD (fun k=>some (k*j.size,j.size)) i.zero parts
   M.pure (.agg cs)
 | _=>M.fail
def lenD (ty :Ty) (t:Nat) (x:D):M D:=do
 let i <- ty.at t
 match i.kind,x with
 | .string,.str s=>M.pure (.int .i64 (s.size:Int))
 | .array n _,_=>M.pure (.int .i64 (n:Int))
 | .slice _,.nils=>M.pure (.int .i64 0)
 | .slice _,.z0=>M.pure (.int .i64 0)
 | .slice _,.e0=>M.pure (.int .i64 0)
 | .slice _,.sl _ _ len _=>M.pure (.int .i64 (len:Int))
 | .slice _,.ref _ _ len _=>M.pure (.int .i64 (len:Int))
 | _,_=>M.fail
def minD (lt :Int->Int->Bool):D->List D->M D
 | d,[]=>M.pure d
 | .int k x,.int _ y :: r=>minD lt (.int k (if lt y x then y else x)) r
 | _,_=>M.fail
end Go.Proofs.YtpdcnikdoikldaaGreatDoor.Sv
namespace Go.Proofs.YtpdcnikdoikldaaGreatDoor.Sv
open Go Go.RowKit
def rowFrom (b off :Nat):M (List D):=do
 match <- getH b with
 | some (some blk)=>do
   test blk.pure
   M.pure (blk.cs.drop off)
 | _=>M.fail
def rowSz (sz b off :Nat):M (List D):=do
 match <- getH b with
 | some (some blk)=>do
   test blk.pure
   test (Nat.beq blk.sz sz)
   M.pure (blk.cs.drop off)
 | _=>M.fail
def addedD (ty :Ty) (sz:Nat) (x:D):M (List D× Nat):=
 match x with
 | .nils | .z0 | .e0=>M.pure ([],0)
 | .str s=>do test (Nat.beq sz 1);M.pure (Y63 s,s.size)
 | .sl g cs len _=>do need (g=true\/Y24 cs=true);need (len*sz<=cs.length);M.pure (cs.take (len*sz),len)
 | .ref b off len _=>do
   let cs <- rowFrom b off
   need (len*sz<=cs.length)
   M.pure (cs.take (len*sz),len)
 | _=>M.fail
def Y1a (bytes n :Nat):Prop:=2*n*bytes<=281474976710656/\n<=4611686018427387904
def appendD (ty :Ty) (o:Oper) (rm tl:Bool) (ts:List Nat) (s x:D):M Eff:=do
 let st <- lift ts[0]?
 let i <- ty.at st
 match i.kind with
 | .slice e=>do
   let j <- ty.at e
   test (!j.zero.isEmpty)
   let xt <- lift ts[1]?
   let xi <- ty.at xt
   test (match xi.kind with | .slice _ | .string=>true | _=>false)
   let (new,n) <- addedD ty j.size x
   match s with
   | .nils | .z0=>do
     need (Y1a j.bytes n)
     newAt o {pure:=true,sz:=j.size,cs:=new,el:=bif tl&&Nat.ble (e+1) 1000000 then e+1 else 0} fun b=>.ref b 0 n n
   | .ref b off len cap=>match rm with
     | true=>(do
       match <- getH b with
       | some (some blk)=>do
         test blk.pure
         test (Nat.beq blk.sz j.size)
         need (len+n<=cap/\off+(len+n)*j.size<=blk.cs.length)
         M.pure {val:=.ref b off (len+n) cap,sets:=[(b,some {blk with cs:=Y2g blk.cs (off+len*j.size) new})]}
       | _=>M.fail)
     | false=>do
     (match <- getH b with
       | some (some blk)=>test (!tl||(Nat.beq blk.el (e+1)&&Nat.beq off 0))
       | _=>M.fail)
     let cs <- rowSz j.size b off
     need (len*j.size<=cs.length)
     need (Y1a j.bytes (len+n))
     let m <- nameOf o 0
     match <- getH m with
     | none=>M.pure {val:=.ref m 0 (len+n) (len+n),sets:=[(m,some {pure:=true,sz:=j.size,cs:=cs.take (len*j.size)++new,el:=bif tl&&Nat.ble (e+1) 1000000 then e+1 else 0}),(b,none)]}
     | some _=>M.fail
   | _=>M.fail
 | _=>M.fail
def copiedD (sz :Nat) (x:D):M (List D× Nat):=
 match x with
 | .nils | .z0=>M.pure ([],0)
 | .sl g cs len _=>do need (g=true\/Y24 cs=true);need (len*sz<=cs.length);M.pure (cs.take (len*sz),len)
 | .ref b off len _=>do
   let cs <- rowFrom b off
   need (len*sz<=cs.length)
   M.pure (cs.take (len*sz),len)
 | _=>M.fail
def copyD (ty :Ty) (ts:List Nat) (d x:D):M Eff:=do
 let st <- lift ts[0]?
 let i <- ty.at st
 match i.kind with
 | .slice e=>do
   let j <- ty.at e
   let (new,n) <- copiedD j.size x
   match d with
   | .ref b off len _=>do
     match <- getH b with
     | some (some blk)=>do
       test blk.pure
       need (off+len*j.size<=blk.cs.length)
       M.pure {val:=.int .i64 (min n len:Nat),sets:=[(b,some {blk with cs:=Y2g blk.cs off (new.take (min n len*j.size))})]}
     | _=>M.fail
   | _=>M.fail
 | _=>M.fail
def clearD (ty :Ty) (ts:List Nat) (x:D):M Eff:=do
 let st <- lift ts[0]?
 let i <- ty.at st
 match i.kind with
 | .slice e=>do
   let j <- ty.at e
   test (!j.zero.isEmpty)
   match x with
   | .ref b off len _=>do
     match <- getH b with
     | some (some blk)=>do
       test blk.pure
       test (Y24 j.zero)
       need (off+len*j.size<=blk.cs.length)
       M.pure {val:=.tup [],sets:=[(b,some {blk with cs:=Y2g blk.cs off (Y4q j.zero len)})]}
     | _=>M.fail
   | _=>M.fail
 | _=>M.fail
def makeD (ty :Ty) (o:Oper) (t:Nat) (l c:D):M Eff:=do
 let i <- ty.at t
 match i.kind,l,c with
 | .slice e,.int _ n,.int _ m=>do
   let j <- ty.at e
   test (!j.zero.isEmpty)
   need (0<=n/\n<=m/\(j.bytes:Int)*m<=140737488355328/\m<=4611686018427387904)
   newAt o {pure:=Y24 j.zero,sz:=j.size,cs:=Y4q j.zero m.toNat} fun b=>.ref b 0 n.toNat m.toNat
 | _,_,_=>M.fail
def chanD (ty :Ty) (o:Oper) (t:Nat) (x:D):M Eff:=do
 let i <- ty.at t
 match i.kind,x with
 | .chan e,.int _ n=>do
   let j <- ty.at e
   need (0<=n/\n<=9223372036854775807/\(j.bytes:Int)*n<=281474976710544)
   newAt o {pure:=true,sz:=n.toNat,cs:=[.int .i64 0]} fun b=>.chan b
 | _,_=>M.fail
def Y1er (P :Program) (t n u:Nat):Bool:=liesAt P P.depth t (n / P.cellsOf t) 0 u 1
def convD (P :Program) (ty:Ty) (o:Oper) (src dst:Nat) (x:D):M Eff:=do
 let i <- ty.at src
 let j <- ty.at dst
 match j.kind,x with
 | .int k,.int _ n=>eff (.int k (k.wrap n))
 | .string,.str s=>eff (.str s)
 | .string,.nils=>do
   match i.kind with
   | .slice e=>do
     let k <- ty.at e
     test (match k.kind with | .int .u8=>true | _=>false)
     eff (.str ByteArray.empty)
   | _=>M.fail
 | .string,.sl g cs len _=>do
   match i.kind with
   | .slice e=>do
     let k <- ty.at e
     test (match k.kind with | .int .u8=>true | _=>false)
     need (len<=cs.length/\∀ d∈cs.take len,d.byte)
     eff (.str (Y6v (cs.take len)))
   | _=>M.fail
 | .string,.ref b off len _=>do
   match i.kind with
   | .slice e=>do
     let k <- ty.at e
     test (match k.kind with | .int .u8=>true | _=>false)
     let cs <- rowFrom b off
     need (len<=cs.length/\∀ d∈cs.take len,d.byte)
     eff (.str (Y6v (cs.take len)))
   | _=>M.fail
 | .uptr,.ptr b off=>(match i.kind with
   | .pointer t=>do
     let k <- ty.at t
     test (!(Nat.beq k.size 0))
     (match <- getH b with
       | some (some blk)=>do
         test (Yas (off+1) blk.cs)
         eff (.ptr b off)
       | _=>M.fail)
   | _=>M.fail)
 | .pointer u,.ptr b off=>(match i.kind with
   | .uptr=>do
     let k <- ty.at u
     (match <- getH b with
       | some (some blk)=>do
         test (Nat.beq off 0&&(Nat.ble 2000000 blk.el&&Y1er P ((blk.el - 1) % 1000000) ((blk.el - 1) / 1000000 - 1) u))
         eff (.ptr b 0)
       | _=>M.fail)
   | _=>M.fail)
 | .slice e,.str s=>do
   let k <- ty.at e
   test (match k.kind with | .int .u8=>true | _=>false)
   test (match i.kind with | .string=>true | _=>false)
   newAt o {pure:=true,sz:=1,cs:=Y63 s} fun b=>.ref b 0 s.size s.size
 | _,_=>M.fail
def idx :List Nat->Nat->Nat->Option Nat
 | [],_,_=>none
 | x :: r,k,n=>bif Nat.beq x n then some k else idx r (k+1) n
mutual
def hand (J av :List Nat):Nat->D->M (D× Bool)
 | 0,_=>M.fail
 | fuel+1,d=>match d with
   | .agg cs=>do let (r,t) <- hands J av fuel cs;M.pure (.agg r,t)
   | .fn f cs=>do let (r,t) <- hands J av fuel cs;M.pure (.fn f r,t)
   | .ptr b off=>match idx J 0 b with
     | some k=>M.pure (.ptr k off,false)
     | none=>do
       test (idx av 0 b).isNone
       match <- getH b with
       | some (some blk)=>(match blk.pure with
         | true=>M.pure (.ip false (blk.cs.drop off),true)
         | false=>do let (r,_) <- hands [] av fuel blk.cs;M.pure (.ip false (r.drop off),true))
       | _=>M.fail
   | .ref b off len cap=>match idx J 0 b with
     | some k=>M.pure (.ref k off len cap,false)
     | none=>do test (idx av 0 b).isNone;let cs <- rowFrom b off;M.pure (.sl false cs len cap,true)
   | .chan b=>match idx J 0 b with
     | some k=>M.pure (.chan k,false)
     | none=>M.fail
   | .pn b=>match idx J 0 b with
     | some k=>M.pure (.pn k,false)
     | none=>M.fail
   | .tup _=>M.fail
   | d=>M.pure (d,false)
def hands (J av :List Nat):Nat->List D->M (List D× Bool)
 | 0,_=>M.fail
 | fuel+1,ds=>match ds with
   | []=>M.pure ([],false)
   | d :: ds=>do
     let (r,t) <- hand J av fuel d
     let (rs,ts) <- hands J av fuel ds
     M.pure (r :: rs,t||ts)
end
def handBlks (J :List Nat) (fuel:Nat):List Nat->Nat->M (List (Nat× Blk)× Bool)
 | [],_=>M.pure ([],false)
 | b :: r,k=>do
   match <- getH b with
   | some (some blk)=>do
     let (cs,t) <- (match blk.pure with | true=>M.pure (blk.cs,false) | false=>hands J J fuel blk.cs)
     let (bs,ts) <- handBlks J fuel r (k+1)
     M.pure ((k,{blk with cs:=cs}) :: bs,t||ts)
   | _=>M.fail
mutual
def D.map (J :Nat->Nat):D->D
 | .agg cs=>.agg (Y7l J cs)
 | .tup cs=>.tup (Y7l J cs)
 | .fn f cs=>.fn f (Y7l J cs)
 | .ptr b off=>.ptr (J b) off
 | .ref b off len cap=>.ref (J b) off len cap
 | .undef=>.undef
 | .bool b=>.bool b
 | .int k n=>.int k n
 | .str s=>.str s
 | .nilp=>.nilp
 | .ip g cs=>.ip g cs
 | .nils=>.nils
 | .z0=>.z0
 | .e0=>.e0
 | .sl g cs len cap=>.sl g cs len cap
 | .nilf=>.nilf
 | .chan b=>.chan (J b)
 | .pn b=>.pn (J b)
def Y7l (J :Nat->Nat):List D->List D
 | []=>[]
 | d :: ds=>d.map J :: Y7l J ds
end
def Blk.map (J :Nat->Nat) (b:Blk):Blk:={pure:=b.pure,sz:=b.sz,el:=b.el,cs:=match b.pure with | true=>b.cs | false=>Y7l J b.cs}
def Y2l (J :List Nat) (base n:Nat):Nat:=bif Nat.ble 1000 n then base+(n - 1000) else J.getD n 99
def Y3k :List Nat->Bool
 | []=>true
 | x :: r=>(idx r 0 x).isNone&&Y3k r
mutual
def D.kept :D->Bool
 | .agg cs=>Ycf cs
 | .tup cs=>Ycf cs
 | .fn _ cs=>Ycf cs
 | .ip g _=>g
 | .sl g _ _ _=>g
 | .undef=>true
 | .bool _=>true
 | .int _ _=>true
 | .str _=>true
 | .nilp=>true
 | .ptr _ _=>true
 | .nils=>true
 | .z0=>true
 | .e0=>true
 | .ref _ _ _ _=>true
 | .nilf=>true
 | .chan _=>true
 | .pn _=>true
def Ycf :List D->Bool
 | []=>true
 | d :: ds=>d.kept&&Ycf ds
end
def Y89 :List (Nat× Option Blk)->Bool
 | []=>true
 | (_,none) :: r=>Y89 r
 | (_,some b) :: r=>(b.pure||Ycf b.cs)&&Y89 r
structure Out where
 J:List Nat:=[]
 r:D:=.undef
 H:List (Nat× Option Blk):=[]
 cv:Option D:=none
 cb:List (Nat× List D):=[]
 own:Option Nat:=none
 frz:Bool:=false
 rm:Bool:=false
 tl:Bool:=false
def Le (d d' :D):Prop:=∀ (im:Nat->Prop) (w:World) (bo:Nat->Prop) (I:Env) (v:Value),R im w bo I d v->R im w bo I d' v
def castH (ah :List (Nat× List D)):List (Nat× Option Blk)->M (List (Nat× Option Blk))
 | []=>M.pure []
 | (b,none) :: r=>do let q <- castH ah r;M.pure ((b,none) :: q)
 | (b,some blk) :: r=>do
   let q <- castH ah r
   match look ah b with
   | some cs=>do
     need (blk.cs=cs)
     M.pure ((b,some {blk with cs:=cs}) :: q)
   | none=>M.pure ((b,some blk) :: q)
def castV (d :D):Option D->M D
 | none=>M.pure d
 | some x=>do
   need (Le d x)
   M.pure x
def ownCells (o :Oper):Nat->Nat->List D->M (List D× List (Nat× Option Blk))
 | _,_,[]=>M.pure ([],[])
 | k,code,d :: r=>
   match d with
   | .nils=>match code % 1000000 with
     | 0=>do
       let (q,ss) <- ownCells o k (code / 1000000) r
       M.pure (.nils :: q,ss)
     | sz+1=>do
       let (q,ss) <- ownCells o (k+1) (code / 1000000) r
       let n <- nameOf o k
       test (ss.all fun p=> !(Nat.beq p.1 n))
       match <- getH n with
       | none=>M.pure (.ref n 0 0 0 :: q,(n,some {pure:=true,sz:=(sz+1) % 1000,cs:=[],el:=(sz+1) / 1000}) :: ss)
       | some _=>M.fail
   | d=>do
     let (q,ss) <- ownCells o k code r
     M.pure (d :: q,ss)
def underH {U :Type} (hs:List (Nat× Option Blk)) (m:M U):M U:=fun s=>m (s.setH hs)
def ownD (o :Oper) (e:Eff) (sz:Nat):M Eff:=
 match e.val,e.sets with
 | .nils,[]=>newAt o {pure:=true,sz:=sz,cs:=[]} fun b=>.ref b 0 0 0
 | .agg cs,[]=>do
   let (q,ss) <- ownCells o 0 sz cs
   M.pure {val:=.agg q,sets:=ss}
 | v,[(b',some blk)]=>do
   let (q,ss) <- underH [(b',some blk)] (ownCells o 1 sz blk.cs)
   test (ss.all fun p=> !(Nat.beq p.1 b'))
   M.pure {val:=v,sets:=(b',some {blk with pure:=false,cs:=q}) :: ss}
 | _,_=>M.fail
def frzCells :List D->M (List D× List (Nat× Option Blk))
 | []=>M.pure ([],[])
 | d :: r=>do
   let (q,ss) <- frzCells r
   match d with
   | .ref b off len cap=>do
     test (ss.all fun p=> !(Nat.beq p.1 b))
     match <- getH b with
     | some (some blk)=>do
       test blk.pure
       M.pure (.sl true (blk.cs.drop off) len cap :: q,(b,none) :: ss)
     | _=>M.fail
   | d=>M.pure (d :: q,ss)
def frzD (e :Eff):M Eff:=
 match e.val,e.sets with
 | .agg cs,[]=>do
   let (q,ss) <- frzCells cs
   M.pure {val:=.agg q,sets:=ss}
 | .ref b off len cap,[]=>do
   match <- getH b with
   | some (some blk)=>do
     test blk.pure
     M.pure {val:=.sl true (blk.cs.drop off) len cap,sets:=[(b,none)]}
   | _=>M.fail
 | _,_=>M.fail
def castD (o :Oper) (e:Eff):Option Out->M Eff
 | none=>M.pure e
 | some r=>
   match r.own with
   | some sz=>ownD o e sz
   | none=>
     match r.frz with
     | true=>frzD e
     | false=>do
       let v <- castV e.val r.cv
       let h <- castH r.cb e.sets
       M.pure {val:=v,sets:=h}
def Ymo :Option Out->Bool
 | some o=>o.rm
 | none=>false
def tlOf :Option Out->Bool
 | some o=>o.tl
 | none=>false
def Y15e :Option Out->Bool
 | some o=>(o.cv.isSome|| !o.cb.isEmpty)&& !o.rm
 | none=>false
structure Ymp (S :Nat->Prop) (w0 w:World):Prop where
 os:w.os=w0.os
 tape:w.tape=w0.tape
 output:w.output=w0.output
 size:w0.heap.size<=w.heap.size
 block:∀ b,b< w0.heap.size->¬ S b->w.heap[b]? =w0.heap[b]?
def Ycg (E base size el :Nat):Prop:=E=0\/(base=0/\el< 1000000/\(E=el+1\/E=1000000*(size+1)+el+1))
def Y49 (im bo :Nat->Prop) (I:Env) (w:World) (blk:Blk):Pl->Prop
 | .nil=>blk.cs=[]
 | .ch B cap=>∃ (buf:Array Value) (s r:Nat) (vs:List Value),w.heap[B]? =some (.chan cap buf false s r false)/\(cap=blk.sz/\(vs=[]\/vs=[.int .i64 (buf.size:Int)]))/\Rs im w (if blk.pure then noB else bo) (if blk.pure then Y1h else I) blk.cs vs
 | .at_ B base sz lim=>∃ c el fz,w.heap[B]? =some (.cells c el fz)/\base+lim<=c.size/\blk.cs.length<=lim/\(sz=blk.sz/\Ycg blk.el base c.size el)/\(fz.2<=fz.1\/c.size<=fz.1)/\Y1r ((c.toList.drop base).take blk.cs.length)/\
     Rs im w (if blk.pure then noB else bo) (if blk.pure then Y1h else I) blk.cs ((c.toList.drop base).take blk.cs.length)
structure Own (im bo :Nat->Prop) (I:Env) (w:World) (slot:Nat->Option (Option Blk)):Prop where
 blk:∀ b k,slot b=some (some k)->∃ pl,I b=some pl/\Y49 im bo I w k pl
 out:∀ b k pl B,slot b=some (some k)->I b=some pl->pl.blk=some B->¬ im B/\¬ bo B
 inj:∀ b c k l pl pl' B,slot b=some (some k)->slot c=some (some l)->I b=some pl->I c=some pl'->pl.blk=some B->pl'.blk=some B->b=c
def Y3z (I :Env) (slot:Nat->Option (Option Blk)) (B:Nat):Prop:=∃ b k pl,slot b=some (some k)/\I b=some pl/\pl.blk=some B
def Ymq (P :Program) (f:FuncId):Prop:=∃ fn,P.funcs[f]? =some fn/\fn.body.isNone=false/\(fn.name== "runtime.NumGoroutine")=false
def Y2h (H :List (Nat× Blk)) (b:Nat):Option (Option Blk):=(look H b).map some
def Con (P :Program) (f:FuncId) (ds:List D) (H:List (Nat× Blk)) (r:D) (H':List (Nat× Option Blk)):Prop:=
 Ymq P f/\∀ (im bo:Nat->Prop) (I:Env) (w:World) (vs:List Value),
   (∀ b,im b\/bo b->b< w.heap.size)->(∀ b,look H b=none->I b=none)->Own im bo I w (Y2h H)->Rs im w bo I ds vs->
   Calls P f vs.toArray w fun e w'=>∃ v im' Qa,e=.returned v/\Ymp (Y3z I (Y2h H)) w w'/\
     (∀ b,im b->im' b)/\(∀ b,im' b->im b\/Y3z I (Y2h H) b\/w.heap.size<=b)/\(∀ b,im' b->b< w'.heap.size)/\
     (∀ b,b< 1000->Qa b=I b)/\(∀ b,1000<=b->look H' b=none->Qa b=none)/\
     Own im' bo Qa w' (look H')/\(∀ B,Y3z Qa (look H') B->Y3z I (Y2h H) B\/w.heap.size<=B)/\R im' w' bo Qa r v
def freshD (J :List Nat) (base:Nat) (some_:Bool):List (Nat× Option Blk)->M Unit
 | []=>M.pure ()
 | (n,_) :: r=>do
   test (bif Nat.ble 1000 n then Nat.ble (n+1) 1016&&some_ else Nat.ble (n+1) J.length)
   match <- (bif Nat.ble 1000 n then getH (base+(n - 1000)) else M.pure none) with
   | none=>freshD J base some_ r
   | some _=>M.fail
def callD (P :Program) (o:Oper) (c:Call) (res:Out):M Eff:=do
 match c.callee with
 | .value x=>do
   match <- ev x with
   | .fn f caps=>do
     let as <- evl c.args.toList
     let (bs,u) <- handBlks res.J 60 res.J 0
     let (ds,t) <- hands res.J res.J 60 (as++caps)
     test (!(t||u)||(res.r.kept&&Y89 res.H))
     test (Nat.ble (res.J.length+1) 100&&Y3k res.J)
     let base:=match o.dst with | some d=>100+16*d | none=>90
     freshD res.J base o.dst.isSome res.H
     test (Y3k (res.H.map fun p=>Y2l res.J base p.1))
     test (bs.all fun p=>(look res.H p.1).isSome)
     need (Con P f ds bs res.r res.H)
     M.pure {val:=res.r.map (Y2l res.J base),sets:=res.H.map fun p=>(Y2l res.J base p.1,p.2.map (Blk.map (Y2l res.J base)))}
   | _=>M.fail
 | _=>M.fail
def Ydx (i :TI):Bool:=match i.kind with
 | .array _ _=>Y24 i.zero
 | _=>false
def opD.bs (ty :Ty) (o:Oper) (t n:Nat) (ps:List (Nat× Operand)):M Eff:=do
 let i <- ty.at t
 match i.kind with
 | .slice e=>do
   let j <- ty.at e
   test (Nat.ble (n*j.size) 16777216)
   test (Nat.beq n 0|| !j.zero.isEmpty)
   let l <- evs ps
   let cs <- fillD (fun k=>some (k*j.size,j.size)) (Y4q j.zero n) l
   ask false (!j.flat||Y24 cs) (j.flat=true->Y24 cs=true) (fun h hf=>by rw [hf] at h;simpa using h)
   newAt o {pure:=bif j.flat then true else Y24 cs,sz:=j.size,cs:=cs} fun b=>.ref b 0 n n
 | _=>M.fail
def Y15f (P :Program) (f:FuncId):Bool:=match P.funcs[f]? with
 | some fn=>fn.name== "internal/abi.NoEscape"&&fn.origin== ""&&fn.body.isNone
 | none=>false
def opD (P :Program) (ty:Ty) (o:Oper) (res:Option Out):M Eff:=
 match o.op with
 | .move x | .assign x=>do let d <- ev x;eff d
 | .pick c a b=>do
   match <- ev c with
   | .bool c=>do let x <- ev a;let y <- ev b;eff (Yt5 c x y)
   | _=>M.fail
 | .alloc e=>do
   let i <- ty.at e
   test (!i.zero.isEmpty)
   newAt o {pure:=Ydx i,sz:=0,cs:=i.zero,el:=bif tlOf res&&Nat.ble (e+1) 1000000 then 1000000*(i.size+1)+e+1 else 0} fun b=>.ptr b 0
 | .box e x=>do
   let d <- ev x
   test d.val
   newAt o {pure:=false,sz:=0,cs:=d.cells} fun b=>.ptr b 0
 | .build t ps=>do let l <- evs ps.toList;let d <- buildD ty t l;eff d
 | .buildSlice t n ps=>opD.bs ty o t n ps.toList
 | .load t a=>do let d <- ev a;let v <- loadD ty t d (Y15e res);eff v
 | .store t a x=>do let d <- ev a;let v <- ev x;storeD ty t d v (Y15e res)
 | .nilCheck x=>do
   match <- ev x with
   | .ptr b off=>eff (.ptr b off)
   | .ip g cs=>eff (.ip g cs)
   | .fn f cs=>eff (.fn f cs)
   | _=>M.fail
 | .binOp op t x y _=>do let a <- ev x;let b <- ev y;let d <- binD ty op t a b;eff d
 | .unOp op _ x=>do let a <- ev x;let d <- unD op a;eff d
 | .convert src dst x=>do let a <- ev x;convD P ty o src dst a
 | .makeFunc (.func f) first caps=>do
   match first.toList with
   | []=>do let cs <- evl caps.toList;eff (.fn f cs)
   | _=>M.fail
 | .makeSlice t l c=>do let a <- ev l;let b <- ev c;makeD ty o t a b
 | .makeChan t x=>do let a <- ev x;chanD ty o t a
 | .slice t x lo hi mx=>do
   let a <- ev x
   let l <- (match lo with | some y=>do let d <- ev y;M.pure (some d) | none=>M.pure none)
   let h <- (match hi with | some y=>do let d <- ev y;M.pure (some d) | none=>M.pure none)
   let m <- (match mx with | some y=>do let d <- ev y;M.pure (some d) | none=>M.pure none)
   let d <- (match Ymo res with | true=>slice3D ty t a l h m | false=>sliceD ty t a l h m)
   eff d
 | .fieldAddr s x f=>do let a <- ev x;let d <- fieldAddrD ty s a f;eff d
 | .field s x f=>do let a <- ev x;let d <- fieldD ty s a f;eff d
 | .indexAddr t x i=>do let a <- ev x;let b <- ev i;let d <- indexAddrD ty t a b;eff d
 | .index t x i=>do let a <- ev x;let b <- ev i;let d <- indexD ty t a b;eff d
 | .extract x i=>do
   match <- ev x with
   | .tup vs=>do let d <- lift vs[i]?;eff d
   | _=>M.fail
 | .call c=>match c.callee with
   | .builtin .len=>do
     let a <- evl c.args.toList
     let x <- lift a[0]?
     let t <- lift c.argTypes.toList[0]?
     let d <- lenD ty t x
     eff d
   | .builtin .append=>do
     match <- evl c.args.toList with
     | [s,x]=>appendD ty o (Ymo res) (tlOf res) c.argTypes.toList s x
     | _=>M.fail
   | .builtin .copy=>do
     match <- evl c.args.toList with
     | [d,x]=>copyD ty c.argTypes.toList d x
     | _=>M.fail
   | .builtin .clear=>do
     match <- evl c.args.toList with
     | [x]=>clearD ty c.argTypes.toList x
     | _=>M.fail
   | .builtin .unsafeSliceData=>do
     match <- evl c.args.toList with
     | [.ref b off len cap]=>do
       need (0< len/\len<=cap)
       M.pure {val:=.ptr b off}
     | _=>M.fail
   | .builtin .unsafeString=>do
     match <- evl c.args.toList with
     | [.ptr b off,.int .i64 n]=>do
       let pt <- lift c.argTypes.toList[0]?
       let i <- ty.at pt
       match i.kind with
       | .pointer e=>do
         let j <- ty.at e
         match <- getH b with
         | some (some blk)=>do
           test (Nat.beq off 0&&(blk.pure&&(Nat.beq blk.el (e+1)&&(Nat.beq (P.cellsOf e) 1&&Nat.ble (e+1) 1000000))))
           need (0< n/\n.toNat<=blk.cs.length/\n<=9223372036854775807/\∀ d∈blk.cs.take n.toNat,d.byte)
           M.pure {val:=.str (Y6v (blk.cs.take n.toNat)),sets:=[(b,none)]}
         | _=>M.fail
       | _=>M.fail
     | _=>M.fail
   | .builtin .min=>do
     match <- evl c.args.toList with
     | x :: r=>do let d <- minD (fun y x=>decide (y< x)) x r;eff d
     | []=>M.fail
   | .builtin .max=>do
     match <- evl c.args.toList with
     | x :: r=>do let d <- minD (fun y x=>decide (y > x)) x r;eff d
     | []=>M.fail
   | .value x=>do
     let r <- lift res
     (match r.tl with
       | true=>do
         match <- ev x,<- evl c.args.toList with
         | .fn f [],[d]=>do
           test (Y15f P f)
           eff d
         | _,_=>M.fail
       | false=>callD P o c r)
   | _=>M.fail
 | _=>M.fail
end Go.Proofs.YtpdcnikdoikldaaGreatDoor.Sv
