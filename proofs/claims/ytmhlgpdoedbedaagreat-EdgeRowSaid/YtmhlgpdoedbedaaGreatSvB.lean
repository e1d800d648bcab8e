/- States, and what each operation does to one, without memory. -/
import Derived.Test.YtmhlgpdoedbedaaGreatSvA
import Derived.Laws.StructEq
namespace Go.Proofs.YtmhlgpdoedbedaaGreat.Sv
set_option linter.unusedVariables false
set_option linter.unusedSimpArgs false
open Go Go.RowKit

/-- A block of one's own. pure: its cells name no block. -/
structure Blk where
  pure : Bool
  sz : Nat
  cs : List D
  deriving Inhabited

/-- Temporaries; blocks by number (none: it is dead). -/
structure St where
  T : List (Nat × D)
  H : List (Nat × Option Blk)
  deriving Inhabited

def look {α : Type} : List (Nat × α) → Nat → Option α
  | [], _ => none
  | (k, v) :: r, n => bif Nat.beq k n then some v else look r n
def St.tmp (s : St) (t : Nat) : D := (look s.T t).getD .undef
def St.slot (s : St) (b : Nat) : Option (Option Blk) := look s.H b
def St.setT (s : St) (t : Nat) (d : D) : St := { s with T := (t, d) :: s.T }
def St.setO (s : St) (o : Option Nat) (d : D) : St := match o with | some t => s.setT t d | none => s
def St.setH (s : St) (l : List (Nat × Option Blk)) : St := { s with H := l ++ s.H }

/-- What an operation looks at, what it asks. -/
structure Log where
  t : List Nat := []
  h : List Nat := []
  o : List Prop := []
def M (α : Type) := St → Option (α × Log)
def M.pure {α : Type} (a : α) : M α := fun _ => some (a, {})
def M.fail {α : Type} : M α := fun _ => none
def M.bind {α β : Type} (m : M α) (f : α → M β) : M β := fun s =>
  match m s with
  | none => none
  | some (a, l) =>
    match f a s with
    | none => none
    | some (b, k) => some (b, { t := l.t ++ k.t, h := l.h ++ k.h, o := l.o ++ k.o })
instance : Monad M where
  pure := M.pure
  bind := M.bind
def getT (t : Nat) : M D := fun s => some (s.tmp t, { t := [t] })
def getH (b : Nat) : M (Option (Option Blk)) := fun s => some (s.slot b, { h := [b] })
def need (p : Prop) : M Unit := fun _ => some ((), { o := [p] })
def lift {α : Type} : Option α → M α
  | some a => M.pure a
  | none => M.fail
def test (b : Bool) : M Unit := match b with | true => M.pure () | false => M.fail

/-- At least so many. -/
def leLen : Nat → List D → Bool
  | 0, _ => true
  | _ + 1, [] => false
  | n + 1, _ :: r => leLen n r
theorem leLen_ok : ∀ {n : Nat} {l : List D}, leLen n l = true → n ≤ l.length
  | 0, _, _ => Nat.zero_le _
  | _ + 1, [], h => by simp [leLen] at h
  | n + 1, _ :: r, h => by simpa using leLen_ok (n := n) (l := r) h
/-- Tested, or asked. -/
def ask (sym b : Bool) (p : Prop) (h : b = true → p) : M Unit := match sym with
  | true => need p
  | false => test b
/-! ### types -/
inductive TK where
  | bool | int (k : IntKind) | string | pointer (e : Nat) | slice (e : Nat) | array (n e : Nat)
  | struct (fs : List (Nat × Nat))
  | func | other
/-- A type: its cells, its bytes, its kind, its zero's cells; flat: '==' of it compares cell by cell. -/
structure TI where
  size : Nat
  bytes : Nat
  kind : TK
  zero : List D
  eq : List Nat
  flat : Bool
abbrev Ty := List TI
def Ty.at (ty : Ty) (t : Nat) : M TI := lift ty[t]?
def TK.agg : TK → Bool
  | .struct _ | .array _ _ => true
  | _ => false
def TK.desc : TK → TypeDesc → Bool
  | .bool, .bool => true
  | .int k, .int k' => k == k'
  | .string, .string => true
  | .pointer e, .pointer e' => e == e'
  | .slice e, .slice e' => e == e'
  | .array n e, .array n' e' => n == n' && e == e'
  | .struct fs, .struct gs => fs == gs.toList.map fun f => (f.offset, f.type)
  | .func, .func _ _ _ => true
  | .other, .struct _ => false
  | .other, .array _ _ => false
  | .other, _ => true
  | _, _ => false

mutual
/-- A constant's value. -/
def ofV : Value → Option D
  | .bool b => some (.bool b)
  | .int k n => some (.int k n)
  | .string s => some (.str s)
  | .pointer none => some .nilp
  | .slice none 0 0 => some .nils
  | .nilFunc => some .nilf
  | .func (.func f) ⟨[]⟩ ⟨[]⟩ => some (.fn f [])
  | .agg ⟨cs⟩ => bif cs.all Value.oneCell' then (ofVs cs).map .agg else none
  | _ => none
def ofVs : List Value → Option (List D)
  | [] => some []
  | v :: vs => match ofV v, ofVs vs with
    | some d, some ds => some (d :: ds)
    | _, _ => none
end
def ev : Operand → M D
  | .tmp t => getT t
  | .const v => lift (ofV v)
  | .func f => M.pure (.fn f [])
  | .global _ => M.fail

/-! ### values -/
def D.cells : D → List D
  | .agg cs => cs
  | d => [d]
/-- Not a tuple. -/
def D.val : D → Bool
  | .tup _ | .undef => false
  | _ => true
/-- It names no block, and none that is lent. -/
def D.free : D → Bool
  | .bool _ | .int _ _ | .str _ | .nilp | .nils | .nilf => true
  | .ip true _ | .sl true _ _ _ => true
  | _ => false
def frees : List D → Bool
  | [] => true
  | d :: ds => d.free && frees ds
/-- Not a struct, not a tuple. -/
def D.one : D → Bool
  | .agg _ | .tup _ | .undef => false
  | _ => true
def splice (cs : List D) (off : Nat) (vs : List D) : List D := cs.take off ++ vs ++ cs.drop (off + vs.length)
def bytesD (cs : List D) : ByteArray := ⟨(cs.map fun | .int _ n => UInt8.ofNat n.toNat | _ => 0).toArray⟩
def cellsD (s : ByteArray) : List D := s.data.toList.map fun b => .int .u8 (b.toNat : Int)
def bt (s : ByteArray) (i : Int) : Int := ((s.data.toList.getD i.toNat 0).toNat : Int)
def repD (cs : List D) : Nat → List D
  | 0 => []
  | n + 1 => cs ++ repD cs n
/-- It's a byte. -/
def D.byte : D → Prop
  | .int .u8 _ => True
  | _ => False

/-- What an operation comes to: its value; what becomes of blocks. -/
structure Eff where
  val : D
  sets : List (Nat × Option Blk) := []
def eff (d : D) : M Eff := M.pure { val := d }
def nameOf (o : Oper) (k : Nat) : M Nat := match o.dst with | some d => M.pure (100 + 8 * d + k) | none => M.fail
def newAt (o : Oper) (b : Blk) (f : Nat → D) : M Eff := do
  let n ← nameOf o 0
  match ← getH n with
  | none => M.pure { val := f n, sets := [(n, some b)] }
  | some _ => M.fail

def intOp (op : BinOp) (k : IntKind) (x y : Int) : M D :=
  match op with
  | .add => M.pure (.int k (k.wrap (x + y)))
  | .sub => M.pure (.int k (k.wrap (x - y)))
  | .mul => M.pure (.int k (k.wrap (x * y)))
  | .quo => do need (y ≠ 0); M.pure (.int k (k.wrap (x.tdiv y)))
  | .rem => do need (y ≠ 0); M.pure (.int k (x.tmod y))
  | .and => M.pure (.int k (k.wrap (BitVec.ofInt k.bits x &&& BitVec.ofInt k.bits y).toNat))
  | .or => M.pure (.int k (k.wrap (BitVec.ofInt k.bits x ||| BitVec.ofInt k.bits y).toNat))
  | .xor => M.pure (.int k (k.wrap (BitVec.ofInt k.bits x ^^^ BitVec.ofInt k.bits y).toNat))
  | .andNot => M.pure (.int k (k.wrap (BitVec.ofInt k.bits x &&& ~~~BitVec.ofInt k.bits y).toNat))
  | .eql => M.pure (.bool (x == y))
  | .neq => M.pure (.bool (x != y))
  | .lss => M.pure (.bool (decide (x < y)))
  | .leq => M.pure (.bool (decide (x ≤ y)))
  | .gtr => M.pure (.bool (decide (x > y)))
  | .geq => M.pure (.bool (decide (x ≥ y)))
  | _ => M.fail
def shOp (op : BinOp) (k : IntKind) (x y : Int) : M D :=
  match op with
  | .shl => do need (0 ≤ y); M.pure (.int k (k.wrap (x * 2 ^ (min y.toNat k.bits))))
  | .shr => do need (0 ≤ y); M.pure (.int k (x.fdiv (2 ^ (min y.toNat k.bits))))
  | _ => M.fail
def strOp (op : BinOp) (x y : ByteArray) : M D :=
  match op with
  | .add => do need (((x.size + y.size : Nat) : Int) ≤ 9223372036854775807); M.pure (.str (x ++ y))
  | .eql => M.pure (.bool (x.toList == y.toList))
  | .neq => M.pure (.bool (!(x.toList == y.toList)))
  | _ => M.fail
/-- '==' of two cells of a kind: 0 a number, 1 a bool, 2 a string. -/
def eqCell : Nat → D → D → Option Bool
  | 0, .int k a, .int l b => bif k == l then some (a == b) else none
  | 1, .bool a, .bool b => some (a == b)
  | 2, .str a, .str b => some (a.toList == b.toList)
  | _, _, _ => none
def eqCells : List Nat → List D → List D → Option Bool
  | [], [], [] => some true
  | k :: ks, a :: as, b :: bs => match eqCell k a b, eqCells ks as bs with
    | some x, some y => some (x && y)
    | _, _ => none
  | _, _, _ => none
def neg (op : BinOp) (b : Bool) : M D := match op with
  | .eql => M.pure (.bool b)
  | .neq => M.pure (.bool (!b))
  | _ => M.fail
def isNil : D → Option Bool
  | .nilp => some true
  | .ptr _ _ | .ip _ _ => some false
  | _ => none
def isNilS : D → Option (Bool × Prop)
  | .nils => some (true, True)
  | .e0 => some (false, True)
  | .sl _ _ len _ => some (false, len ≠ 0)
  | .ref _ _ len _ => some (false, len ≠ 0)
  | _ => none
def binD (ty : Ty) (op : BinOp) (t : Nat) (x y : D) : M D :=
  match x, y with
  | .int k a, .int k' b => (match op with
    | .shl | .shr => shOp op k a b
    | _ => do test (k == k'); intOp op k a b)
  | .str a, .str b => strOp op a b
  | .bool a, .bool b => do
    let i ← ty.at t
    test (match i.kind with | .bool => true | _ => false)
    neg op (a == b)
  | .agg as, .agg bs => do
    let i ← ty.at t
    test (!i.eq.isEmpty)
    let r ← lift (eqCells i.eq as bs)
    neg op r
  | .nilp, y => do
    let i ← ty.at t
    test (match i.kind with | .pointer _ => true | _ => false)
    let b ← lift (isNil y)
    neg op b
  | x, .nilp => do
    let i ← ty.at t
    test (match i.kind with | .pointer _ => true | _ => false)
    let b ← lift (isNil x)
    neg op b
  | x, .nils => do
    let i ← ty.at t
    test (match i.kind with | .slice _ => true | _ => false)
    let r ← lift (isNilS x)
    need r.2
    neg op r.1
  | _, _ => M.fail
def unD (op : UnOp) (x : D) : M D :=
  match op, x with
  | .neg, .int k n => M.pure (.int k (k.wrap (0 - n)))
  | .xor, .int k n => M.pure (.int k (k.wrap (BitVec.ofInt k.bits (if k.signed then -1 else k.max) ^^^ BitVec.ofInt k.bits n).toNat))
  | .not, .bool b => M.pure (.bool (!b))
  | _, _ => M.fail
def pickD (c : Bool) (a b : D) : D :=
  match a, b with
  | .bool x, .bool y => .bool (bif c then x else y)
  | a, b => bif c then a else b

/-- The cells that an address begins. -/
def behind (addr : D) : M (List D) :=
  match addr with
  | .ptr b off => do
    match ← getH b with
    | some (some blk) => M.pure (blk.cs.drop off)
    | _ => M.fail
  | .ip _ cs => M.pure cs
  | _ => M.fail
def loadD (ty : Ty) (t : Nat) (addr : D) (sym : Bool) : M D := do
  let i ← ty.at t
  let cs ← behind addr
  if i.kind.agg then do
    ask sym (leLen i.size cs) (i.size ≤ cs.length) leLen_ok
    M.pure (.agg (cs.take i.size))
  else match sym with
    | true => do
      need (cs ≠ [])
      M.pure (cs.headD .undef)
    | false => match cs with
      | d :: _ => M.pure d
      | [] => M.fail
theorem storeAsk {n m k : Nat} {cs vs : List D} {p q : Bool} (h : (Nat.beq n m && leLen k cs && (!p || frees vs)) = true) : n = m ∧ k ≤ cs.length ∧ (p = true → frees vs = true) := by
  simp only [Bool.and_eq_true, Nat.beq_eq] at h
  refine ⟨h.1.1, leLen_ok h.1.2, fun hp => ?_⟩
  have := h.2
  rw [hp] at this
  simpa using this
def storeD (ty : Ty) (t : Nat) (addr v : D) (sym : Bool) : M Eff := do
  let i ← ty.at t
  match addr with
  | .ptr b off => do
    match ← getH b with
    | some (some blk) => do
      test v.val
      let vs := v.cells
      ask sym (Nat.beq vs.length i.size && leLen (off + vs.length) blk.cs && (!blk.pure || frees vs)) (vs.length = i.size ∧ off + vs.length ≤ blk.cs.length ∧ (blk.pure = true → frees vs = true)) (storeAsk (q := true))
      M.pure { val := .undef, sets := [(b, some { blk with cs := splice blk.cs off vs })] }
    | _ => M.fail
  | _ => M.fail
def fieldsOf (ty : Ty) (t : Nat) : M (List (Nat × Nat)) := do
  let i ← ty.at t
  match i.kind with
  | .struct fs => M.pure fs
  | _ => M.fail
def fieldAddrD (ty : Ty) (s : Nat) (addr : D) (f : Nat) : M D := do
  let fs ← fieldsOf ty s
  let (off, t) ← lift fs[f]?
  let i ← ty.at t
  test (!(Nat.beq i.size 0))
  match addr with
  | .ptr b o => M.pure (.ptr b (o + off))
  | .ip g cs => M.pure (.ip g (cs.drop off))
  | _ => M.fail
def fieldD (ty : Ty) (s : Nat) (x : D) (f : Nat) : M D := do
  let fs ← fieldsOf ty s
  let (off, t) ← lift fs[f]?
  let i ← ty.at t
  match x with
  | .agg cs =>
    if i.kind.agg then M.pure (.agg ((cs.drop off).take i.size))
    else lift cs[off]?
  | _ => M.fail
def indexAddrD (ty : Ty) (t : Nat) (x ix : D) : M D := do
  let i ← ty.at t
  match i.kind, x, ix with
  | .slice e, .sl g cs len _, .int _ n => do
    let j ← ty.at e
    need (0 ≤ n ∧ n < (len : Int))
    M.pure (.ip g (cs.drop (n.toNat * j.size)))
  | .slice e, .ref b off len _, .int _ n => do
    let j ← ty.at e
    need (0 ≤ n ∧ n < (len : Int))
    M.pure (.ptr b (off + n.toNat * j.size))
  | .array len e, .ptr b off, .int _ n => do
    let j ← ty.at e
    need (0 ≤ n ∧ n < (len : Int))
    M.pure (.ptr b (off + n.toNat * j.size))
  | .array len e, .ip g cs, .int _ n => do
    let j ← ty.at e
    need (0 ≤ n ∧ n < (len : Int))
    M.pure (.ip g (cs.drop (n.toNat * j.size)))
  | _, _, _ => M.fail
def indexD (ty : Ty) (t : Nat) (x ix : D) : M D := do
  let i ← ty.at t
  match i.kind, x, ix with
  | .string, .str s, .int _ n => do
    need (0 ≤ n ∧ n < (s.size : Int))
    M.pure (.int .u8 (bt s n))
  | .array len e, .agg cs, .int _ n => do
    let j ← ty.at e
    need (0 ≤ n ∧ n < (len : Int))
    if j.kind.agg then M.pure (.agg ((cs.drop (n.toNat * j.size)).take j.size))
    else do need (n.toNat * j.size < cs.length); M.pure (cs.getD (n.toNat * j.size) .undef)
  | _, _, _ => M.fail
def bound (x : Option D) (d : Nat) : M Int :=
  match x with
  | none => M.pure (d : Int)
  | some (.int _ n) => M.pure n
  | _ => M.fail
def sliceD (ty : Ty) (t : Nat) (x : D) (lo hi mx : Option D) : M D := do
  let i ← ty.at t
  match i.kind, x, mx with
  | .slice e, .nils, _ => do
    let j ← ty.at e
    test (mx.isNone || hi.isSome)
    let h ← bound hi 0
    let l ← bound lo 0
    let m ← bound mx 0
    need (h = 0 ∧ l = 0 ∧ m = 0)
    M.pure .nils
  | .slice e, .sl _ _ _ _, some m => do
    let j ← ty.at e
    test hi.isSome
    let h ← bound hi 0
    let l ← bound lo 0
    let m ← bound mx 0
    need (h = 0 ∧ l = 0 ∧ m = 0)
    M.pure .z0
  | .slice e, .ref _ _ _ _, some m => do
    let j ← ty.at e
    test hi.isSome
    let h ← bound hi 0
    let l ← bound lo 0
    let m ← bound mx 0
    need (h = 0 ∧ l = 0 ∧ m = 0)
    M.pure .z0
  | .string, .str s, none => do
    let h ← bound hi s.size
    let l ← bound lo 0
    need (0 ≤ h ∧ h ≤ (s.size : Int) ∧ 0 ≤ l ∧ l ≤ h)
    M.pure (.str (s.extract l.toNat h.toNat))
  | .slice e, .sl g cs len cap, none => do
    let j ← ty.at e
    let h ← bound hi len
    let l ← bound lo 0
    need (0 ≤ h ∧ h ≤ (cap : Int) ∧ 0 ≤ l ∧ l ≤ h ∧ len ≤ cap ∧ cs.length ≤ cap * j.size)
    M.pure (.sl g (cs.drop (l.toNat * j.size)) (h - l).toNat (cap - l.toNat))
  | .slice e, .ref b off len cap, none => do
    let j ← ty.at e
    match ← getH b with
    | some (some blk) => do
    test (Nat.beq blk.sz j.size)
    let h ← bound hi len
    let l ← bound lo 0
    need (0 ≤ h ∧ h ≤ (cap : Int) ∧ 0 ≤ l ∧ l ≤ h ∧ len ≤ cap)
    M.pure (.ref b (off + l.toNat * j.size) (h - l).toNat (cap - l.toNat))
    | _ => M.fail
  | _, _, _ => M.fail
def fillD (place : Nat → Option (Nat × Nat)) (cs : List D) : List (Nat × D) → M (List D)
  | [] => M.pure cs
  | (i, v) :: rest => do
    let (off, size) ← lift (place i)
    test v.val
    ask false (Nat.beq v.cells.length size && leLen (off + size) cs) (v.cells.length = size ∧ off + size ≤ cs.length) (fun h => by
      simp only [Bool.and_eq_true, Nat.beq_eq] at h
      exact ⟨h.1, leLen_ok h.2⟩)
    fillD place (splice cs off v.cells) rest
def evs : List (Nat × Operand) → M (List (Nat × D))
  | [] => M.pure []
  | (i, x) :: r => do
    let d ← ev x
    let ds ← evs r
    M.pure ((i, d) :: ds)
def evl : List Operand → M (List D)
  | [] => M.pure []
  | x :: r => do
    let d ← ev x
    let ds ← evl r
    M.pure (d :: ds)
def placesOf (ty : Ty) : List (Nat × Nat) → M (List (Nat × Nat))
  | [] => M.pure []
  | (off, t) :: r => do
    let i ← ty.at t
    let ps ← placesOf ty r
    M.pure ((off, i.size) :: ps)
def buildD (ty : Ty) (t : Nat) (parts : List (Nat × D)) : M D := do
  let i ← ty.at t
  test (!i.zero.isEmpty)
  match i.kind with
  | .struct fs => do
    let ps ← placesOf ty fs
    let cs ← fillD (fun k => ps[k]?) i.zero parts
    M.pure (.agg cs)
  | .array _ e => do
    let j ← ty.at e
    let cs ← fillD (fun k => some (k * j.size, j.size)) i.zero parts
    M.pure (.agg cs)
  | _ => M.fail
def lenD (ty : Ty) (t : Nat) (x : D) : M D := do
  let i ← ty.at t
  match i.kind, x with
  | .string, .str s => M.pure (.int .i64 (s.size : Int))
  | .array n _, _ => M.pure (.int .i64 (n : Int))
  | .slice _, .nils => M.pure (.int .i64 0)
  | .slice _, .z0 => M.pure (.int .i64 0)
  | .slice _, .e0 => M.pure (.int .i64 0)
  | .slice _, .sl _ _ len _ => M.pure (.int .i64 (len : Int))
  | .slice _, .ref _ _ len _ => M.pure (.int .i64 (len : Int))
  | _, _ => M.fail
def minD (lt : Int → Int → Bool) : D → List D → M D
  | d, [] => M.pure d
  | .int k x, .int _ y :: r => minD lt (.int k (if lt y x then y else x)) r
  | _, _ => M.fail
end Go.Proofs.YtmhlgpdoedbedaaGreat.Sv
