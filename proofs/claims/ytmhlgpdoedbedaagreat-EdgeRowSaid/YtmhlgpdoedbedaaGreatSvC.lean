/- One operation; a region; what a function is said to do. -/
import Derived.Test.YtmhlgpdoedbedaaGreatSvB
namespace Go.Proofs.YtmhlgpdoedbedaaGreat.Sv
set_option linter.unusedVariables false
set_option linter.unusedSimpArgs false
open Go Go.RowKit

/-- The cells of a row from 'off' on, of a live block of pure cells. -/
def rowFrom (b off : Nat) : M (List D) := do
  match ← getH b with
  | some (some blk) => do
    test blk.pure
    M.pure (blk.cs.drop off)
  | _ => M.fail
def rowSz (sz b off : Nat) : M (List D) := do
  match ← getH b with
  | some (some blk) => do
    test blk.pure
    test (Nat.beq blk.sz sz)
    M.pure (blk.cs.drop off)
  | _ => M.fail
/-- The first n elements of what is appended. -/
def addedD (ty : Ty) (sz : Nat) (x : D) : M (List D × Nat) :=
  match x with
  | .nils | .z0 | .e0 => M.pure ([], 0)
  | .str s => do test (Nat.beq sz 1); M.pure (cellsD s, s.size)
  | .sl g cs len _ => do need (g = true ∨ frees cs = true); need (len * sz ≤ cs.length); M.pure (cs.take (len * sz), len)
  | .ref b off len _ => do
    let cs ← rowFrom b off
    need (len * sz ≤ cs.length)
    M.pure (cs.take (len * sz), len)
  | _ => M.fail
def growOk (bytes n : Nat) : Prop := 2 * n * bytes ≤ 281474976710656 ∧ n ≤ 4611686018427387904
def appendD (ty : Ty) (o : Oper) (ts : List Nat) (s x : D) : M Eff := do
  let st ← lift ts[0]?
  let i ← ty.at st
  match i.kind with
  | .slice e => do
    let j ← ty.at e
    test (!j.zero.isEmpty)
    let xt ← lift ts[1]?
    let xi ← ty.at xt
    test (match xi.kind with | .slice _ | .string => true | _ => false)
    let (new, n) ← addedD ty j.size x
    match s with
    | .nils | .z0 => do
      need (growOk j.bytes n)
      newAt o { pure := true, sz := j.size, cs := new } fun b => .ref b 0 n n
    | .ref b off len cap => do
      let cs ← rowSz j.size b off
      need (len * j.size ≤ cs.length)
      need (growOk j.bytes (len + n))
      let m ← nameOf o 0
      match ← getH m with
      | none => M.pure { val := .ref m 0 (len + n) (len + n), sets := [(m, some { pure := true, sz := j.size, cs := cs.take (len * j.size) ++ new }), (b, none)] }
      | some _ => M.fail
    | _ => M.fail
  | _ => M.fail
/-- What is copied: all of it. -/
def copiedD (sz : Nat) (x : D) : M (List D × Nat) :=
  match x with
  | .nils | .z0 => M.pure ([], 0)
  | .sl g cs len _ => do need (g = true ∨ frees cs = true); need (len * sz ≤ cs.length); M.pure (cs.take (len * sz), len)
  | .ref b off len _ => do
    let cs ← rowFrom b off
    need (len * sz ≤ cs.length)
    M.pure (cs.take (len * sz), len)
  | _ => M.fail
def copyD (ty : Ty) (ts : List Nat) (d x : D) : M Eff := do
  let st ← lift ts[0]?
  let i ← ty.at st
  match i.kind with
  | .slice e => do
    let j ← ty.at e
    let (new, n) ← copiedD j.size x
    match d with
    | .ref b off len _ => do
      match ← getH b with
      | some (some blk) => do
        test blk.pure
        need (off + len * j.size ≤ blk.cs.length)
        M.pure { val := .int .i64 (min n len : Nat), sets := [(b, some { blk with cs := splice blk.cs off (new.take (min n len * j.size)) })] }
      | _ => M.fail
    | _ => M.fail
  | _ => M.fail
def makeD (ty : Ty) (o : Oper) (t : Nat) (l c : D) : M Eff := do
  let i ← ty.at t
  match i.kind, l, c with
  | .slice e, .int _ n, .int _ m => do
    let j ← ty.at e
    test (!j.zero.isEmpty)
    need (0 ≤ n ∧ n ≤ m ∧ (j.bytes : Int) * m ≤ 140737488355328 ∧ m ≤ 4611686018427387904)
    newAt o { pure := frees j.zero, sz := j.size, cs := repD j.zero m.toNat } fun b => .ref b 0 n.toNat m.toNat
  | _, _, _ => M.fail
def convD (ty : Ty) (o : Oper) (src dst : Nat) (x : D) : M Eff := do
  let i ← ty.at src
  let j ← ty.at dst
  match j.kind, x with
  | .int k, .int _ n => eff (.int k (k.wrap n))
  | .string, .str s => eff (.str s)
  | .string, .nils => do
    match i.kind with
    | .slice e => do
      let k ← ty.at e
      test (match k.kind with | .int .u8 => true | _ => false)
      eff (.str ByteArray.empty)
    | _ => M.fail
  | .string, .sl g cs len _ => do
    match i.kind with
    | .slice e => do
      let k ← ty.at e
      test (match k.kind with | .int .u8 => true | _ => false)
      need (len ≤ cs.length ∧ ∀ d ∈ cs.take len, d.byte)
      eff (.str (bytesD (cs.take len)))
    | _ => M.fail
  | .string, .ref b off len _ => do
    match i.kind with
    | .slice e => do
      let k ← ty.at e
      test (match k.kind with | .int .u8 => true | _ => false)
      let cs ← rowFrom b off
      need (len ≤ cs.length ∧ ∀ d ∈ cs.take len, d.byte)
      eff (.str (bytesD (cs.take len)))
    | _ => M.fail
  | .slice e, .str s => do
    let k ← ty.at e
    test (match k.kind with | .int .u8 => true | _ => false)
    test (match i.kind with | .string => true | _ => false)
    newAt o { pure := true, sz := 1, cs := cellsD s } fun b => .ref b 0 s.size s.size
  | _, _ => M.fail

/-! ### what is handed to a callee -/
def idx : List Nat → Nat → Nat → Option Nat
  | [], _, _ => none
  | x :: r, k, n => bif Nat.beq x n then some k else idx r (k + 1) n
mutual
/-- A value as the callee has it: blocks that are handed on (ρ) by their place there, others (but av) read whole. Second: something was lent. -/
def hand (ρ av : List Nat) : Nat → D → M (D × Bool)
  | 0, _ => M.fail
  | fuel + 1, d => match d with
    | .agg cs => do let (r, t) ← hands ρ av fuel cs; M.pure (.agg r, t)
    | .fn f cs => do let (r, t) ← hands ρ av fuel cs; M.pure (.fn f r, t)
    | .ptr b off => match idx ρ 0 b with
      | some k => M.pure (.ptr k off, false)
      | none => do
        test (idx av 0 b).isNone
        match ← getH b with
        | some (some blk) => (match blk.pure with
          | true => M.pure (.ip false (blk.cs.drop off), true)
          | false => do let (r, _) ← hands [] av fuel blk.cs; M.pure (.ip false (r.drop off), true))
        | _ => M.fail
    | .ref b off len cap => match idx ρ 0 b with
      | some k => M.pure (.ref k off len cap, false)
      | none => do test (idx av 0 b).isNone; let cs ← rowFrom b off; M.pure (.sl false cs len cap, true)
    | .tup _ => M.fail
    | d => M.pure (d, false)
def hands (ρ av : List Nat) : Nat → List D → M (List D × Bool)
  | 0, _ => M.fail
  | fuel + 1, ds => match ds with
    | [] => M.pure ([], false)
    | d :: ds => do
      let (r, t) ← hand ρ av fuel d
      let (rs, ts) ← hands ρ av fuel ds
      M.pure (r :: rs, t || ts)
end
/-- Block k, as the callee has it. -/
def handBlks (ρ : List Nat) (fuel : Nat) : List Nat → Nat → M (List (Nat × Blk) × Bool)
  | [], _ => M.pure ([], false)
  | b :: r, k => do
    match ← getH b with
    | some (some blk) => do
      let (cs, t) ← (match blk.pure with | true => M.pure (blk.cs, false) | false => hands ρ ρ fuel blk.cs)
      let (bs, ts) ← handBlks ρ fuel r (k + 1)
      M.pure ((k, { blk with cs := cs }) :: bs, t || ts)
    | _ => M.fail
mutual
/-- Under other names. -/
def D.map (ρ : Nat → Nat) : D → D
  | .agg cs => .agg (mapL ρ cs)
  | .tup cs => .tup (mapL ρ cs)
  | .fn f cs => .fn f (mapL ρ cs)
  | .ptr b off => .ptr (ρ b) off
  | .ref b off len cap => .ref (ρ b) off len cap
  | .undef => .undef
  | .bool b => .bool b
  | .int k n => .int k n
  | .str s => .str s
  | .nilp => .nilp
  | .ip g cs => .ip g cs
  | .nils => .nils
  | .z0 => .z0
  | .e0 => .e0
  | .sl g cs len cap => .sl g cs len cap
  | .nilf => .nilf
def mapL (ρ : Nat → Nat) : List D → List D
  | [] => []
  | d :: ds => d.map ρ :: mapL ρ ds
end
def Blk.map (ρ : Nat → Nat) (b : Blk) : Blk := { pure := b.pure, sz := b.sz, cs := match b.pure with | true => b.cs | false => mapL ρ b.cs }
/-- A callee's names, as the caller has them: those that were handed on; from 1000 on: new ones. -/
def back (ρ : List Nat) (base n : Nat) : Nat := bif Nat.ble 1000 n then base + (n - 1000) else ρ.getD n 99
def nodupB : List Nat → Bool
  | [] => true
  | x :: r => (idx r 0 x).isNone && nodupB r
mutual
/-- Nothing in it is lent. -/
def D.kept : D → Bool
  | .agg cs => kepts cs
  | .tup cs => kepts cs
  | .fn _ cs => kepts cs
  | .ip g _ => g
  | .sl g _ _ _ => g
  | .undef => true
  | .bool _ => true
  | .int _ _ => true
  | .str _ => true
  | .nilp => true
  | .ptr _ _ => true
  | .nils => true
  | .z0 => true
  | .e0 => true
  | .ref _ _ _ _ => true
  | .nilf => true
def kepts : List D → Bool
  | [] => true
  | d :: ds => d.kept && kepts ds
end
def keptBlks : List (Nat × Option Blk) → Bool
  | [] => true
  | (_, none) :: r => keptBlks r
  | (_, some b) :: r => (b.pure || kepts b.cs) && keptBlks r
/-- What a call comes to: blocks that are handed on, the result, these blocks then. -/
structure Out where
  ρ : List Nat := []
  r : D := .undef
  H : List (Nat × Option Blk) := []
  cv : Option D := none
  cb : List (Nat × List D) := []
  own : Option Nat := none
  frz : Bool := false
/-- What is said of a value may be said so. -/
def Le (d d' : D) : Prop := ∀ (im : Nat → Prop) (w : World) (bo : Nat → Prop) (φ : Env) (v : Value), R im w bo φ d v → R im w bo φ d' v
def castH (ah : List (Nat × List D)) : List (Nat × Option Blk) → M (List (Nat × Option Blk))
  | [] => M.pure []
  | (b, none) :: r => do let q ← castH ah r; M.pure ((b, none) :: q)
  | (b, some blk) :: r => do
    let q ← castH ah r
    match look ah b with
    | some cs => do
      need (blk.cs = cs)
      M.pure ((b, some { blk with cs := cs }) :: q)
    | none => M.pure ((b, some blk) :: q)
def castV (d : D) : Option D → M D
  | none => M.pure d
  | some x => do
    need (Le d x)
    M.pure x
/-- Rows of one's own, that are nil, in a struct: their sizes are the code's digits (of 1000); 0: it stays nil. -/
def ownCells (o : Oper) : Nat → Nat → List D → M (List D × List (Nat × Option Blk))
  | _, _, [] => M.pure ([], [])
  | k, code, d :: r =>
    match d with
    | .nils => match code % 1000 with
      | 0 => do
        let (q, ss) ← ownCells o k (code / 1000) r
        M.pure (.nils :: q, ss)
      | sz + 1 => do
        let (q, ss) ← ownCells o (k + 1) (code / 1000) r
        let n ← nameOf o k
        test (ss.all fun p => !(Nat.beq p.1 n))
        match ← getH n with
        | none => M.pure (.ref n 0 0 0 :: q, (n, some { pure := true, sz := sz + 1, cs := [] }) :: ss)
        | some _ => M.fail
    | d => do
      let (q, ss) ← ownCells o k code r
      M.pure (d :: q, ss)
/-- A row of one's own, that is nil. -/
def ownD (o : Oper) (e : Eff) (sz : Nat) : M Eff :=
  match e.val, e.sets with
  | .nils, [] => newAt o { pure := true, sz := sz, cs := [] } fun b => .ref b 0 0 0
  | .agg cs, [] => do
    let (q, ss) ← ownCells o 0 sz cs
    M.pure { val := .agg q, sets := ss }
  | _, _ => M.fail
/-- A row of one's own that is not turned any more. -/
def frzCells : List D → M (List D × List (Nat × Option Blk))
  | [] => M.pure ([], [])
  | d :: r => do
    let (q, ss) ← frzCells r
    match d with
    | .ref b off len cap => do
      test (ss.all fun p => !(Nat.beq p.1 b))
      match ← getH b with
      | some (some blk) => do
        test blk.pure
        M.pure (.sl true (blk.cs.drop off) len cap :: q, (b, none) :: ss)
      | _ => M.fail
    | d => M.pure (d :: q, ss)
def frzD (e : Eff) : M Eff :=
  match e.val, e.sets with
  | .agg cs, [] => do
    let (q, ss) ← frzCells cs
    M.pure { val := .agg q, sets := ss }
  | .ref b off len cap, [] => do
    match ← getH b with
    | some (some blk) => do
      test blk.pure
      M.pure { val := .sl true (blk.cs.drop off) len cap, sets := [(b, none)] }
    | _ => M.fail
  | _, _ => M.fail
/-- An effect, said otherwise. -/
def castD (o : Oper) (e : Eff) : Option Out → M Eff
  | none => M.pure e
  | some r =>
    match r.own with
    | some sz => ownD o e sz
    | none =>
      match r.frz with
      | true => frzD e
      | false => do
        let v ← castV e.val r.cv
        let h ← castH r.cb e.sets
        M.pure { val := v, sets := h }
def symOf : Option Out → Bool
  | some o => o.cv.isSome || !o.cb.isEmpty
  | none => false

/-! ### what a function is said to do -/
/-- Nothing has turned but the blocks S. -/
structure Kept (S : Nat → Prop) (w0 w : World) : Prop where
  os : w.os = w0.os
  tape : w.tape = w0.tape
  output : w.output = w0.output
  size : w0.heap.size ≤ w.heap.size
  block : ∀ b, b < w0.heap.size → ¬ S b → w.heap[b]? = w0.heap[b]?
def BlkAt (im bo : Nat → Prop) (φ : Env) (w : World) (blk : Blk) : Pl → Prop
  | .nil => blk.cs = []
  | .at_ B base sz lim => ∃ c el fz, w.heap[B]? = some (.cells c el fz) ∧ base + lim ≤ c.size ∧ blk.cs.length ≤ lim ∧ sz = blk.sz ∧ (fz.2 ≤ fz.1 ∨ c.size ≤ fz.1) ∧ Ones ((c.toList.drop base).take blk.cs.length) ∧
      Rs im w (if blk.pure then noB else bo) (if blk.pure then noEnv else φ) blk.cs ((c.toList.drop base).take blk.cs.length)
/-- The live blocks of one's own. -/
structure Own (im bo : Nat → Prop) (φ : Env) (w : World) (slot : Nat → Option (Option Blk)) : Prop where
  blk : ∀ b k, slot b = some (some k) → ∃ pl, φ b = some pl ∧ BlkAt im bo φ w k pl
  out : ∀ b k B base sz lim, slot b = some (some k) → φ b = some (.at_ B base sz lim) → ¬ im B ∧ ¬ bo B
  inj : ∀ b c k l B base sz lim base' sz' lim', slot b = some (some k) → slot c = some (some l) → φ b = some (.at_ B base sz lim) → φ c = some (.at_ B base' sz' lim') → b = c
def Held (φ : Env) (slot : Nat → Option (Option Blk)) (B : Nat) : Prop := ∃ b k base sz lim, slot b = some (some k) ∧ φ b = some (.at_ B base sz lim)
def Enters (P : Program) (f : FuncId) : Prop := ∃ fn, P.funcs[f]? = some fn ∧ fn.body.isNone = false ∧ (fn.name == "runtime.NumGoroutine") = false
def live (H : List (Nat × Blk)) (b : Nat) : Option (Option Blk) := (look H b).map some
/-- The function f, of ds, over its blocks H: comes to r, and the blocks are H' then (from 1000 on: new ones). -/
def Con (P : Program) (f : FuncId) (ds : List D) (H : List (Nat × Blk)) (r : D) (H' : List (Nat × Option Blk)) : Prop :=
  Enters P f ∧ ∀ (im bo : Nat → Prop) (φ : Env) (w : World) (vs : List Value),
    (∀ b, im b ∨ bo b → b < w.heap.size) → (∀ b, look H b = none → φ b = none) → Own im bo φ w (live H) → Rs im w bo φ ds vs →
    Calls P f vs.toArray w fun e w' => ∃ v im' φ', e = .returned v ∧ Kept (Held φ (live H)) w w' ∧
      (∀ b, im b → im' b) ∧ (∀ b, im' b → im b ∨ Held φ (live H) b ∨ w.heap.size ≤ b) ∧ (∀ b, im' b → b < w'.heap.size) ∧
      (∀ b, b < 1000 → φ' b = φ b) ∧ (∀ b, 1000 ≤ b → look H' b = none → φ' b = none) ∧
      Own im' bo φ' w' (look H') ∧ (∀ B, Held φ' (look H') B → Held φ (live H) B ∨ w.heap.size ≤ B) ∧ R im' w' bo φ' r v
/-- New names are new, the others are such as were handed on. -/
def freshD (ρ : List Nat) (base : Nat) (some_ : Bool) : List (Nat × Option Blk) → M Unit
  | [] => M.pure ()
  | (n, _) :: r => do
    test (bif Nat.ble 1000 n then Nat.ble (n + 1) 1008 && some_ else Nat.ble (n + 1) ρ.length)
    match ← (bif Nat.ble 1000 n then getH (base + (n - 1000)) else M.pure none) with
    | none => freshD ρ base some_ r
    | some _ => M.fail
/-- A call's effect. -/
def callD (P : Program) (o : Oper) (c : Call) (res : Out) : M Eff := do
  match c.callee with
  | .value x => do
    match ← ev x with
    | .fn f caps => do
      let as ← evl c.args.toList
      let (bs, u) ← handBlks res.ρ 60 res.ρ 0
      let (ds, t) ← hands res.ρ res.ρ 60 (as ++ caps)
      test (!(t || u) || (res.r.kept && keptBlks res.H))
      test (Nat.ble (res.ρ.length + 1) 100 && nodupB res.ρ)
      let base := match o.dst with | some d => 100 + 8 * d | none => 90
      freshD res.ρ base o.dst.isSome res.H
      test (nodupB (res.H.map fun p => back res.ρ base p.1))
      test (bs.all fun p => (look res.H p.1).isSome)
      need (Con P f ds bs res.r res.H)
      M.pure { val := res.r.map (back res.ρ base), sets := res.H.map fun p => (back res.ρ base p.1, p.2.map (Blk.map (back res.ρ base))) }
    | _ => M.fail
  | _ => M.fail
/-- A new array of what names no block holds none ever. -/
def allocPure (i : TI) : Bool := match i.kind with
  | .array _ _ => frees i.zero
  | _ => false
def opD.bs (ty : Ty) (o : Oper) (t n : Nat) (ps : List (Nat × Operand)) : M Eff := do
  let i ← ty.at t
  match i.kind with
  | .slice e => do
    let j ← ty.at e
    test (Nat.ble (n * j.size) 16777216)
    test (Nat.beq n 0 || !j.zero.isEmpty)
    let l ← evs ps
    let cs ← fillD (fun k => some (k * j.size, j.size)) (repD j.zero n) l
    ask false (!j.flat || frees cs) (j.flat = true → frees cs = true) (fun h hf => by rw [hf] at h; simpa using h)
    newAt o { pure := bif j.flat then true else frees cs, sz := j.size, cs := cs } fun b => .ref b 0 n n
  | _ => M.fail
def opD (P : Program) (ty : Ty) (o : Oper) (res : Option Out) : M Eff :=
  match o.op with
  | .move x | .assign x => do let d ← ev x; eff d
  | .pick c a b => do
    match ← ev c with
    | .bool c => do let x ← ev a; let y ← ev b; eff (pickD c x y)
    | _ => M.fail
  | .alloc e => do
    let i ← ty.at e
    test (!i.zero.isEmpty)
    newAt o { pure := allocPure i, sz := 0, cs := i.zero } fun b => .ptr b 0
  | .box e x => do
    let d ← ev x
    test d.val
    newAt o { pure := false, sz := 0, cs := d.cells } fun b => .ptr b 0
  | .build t ps => do let l ← evs ps.toList; let d ← buildD ty t l; eff d
  | .buildSlice t n ps => opD.bs ty o t n ps.toList
  | .load t a => do let d ← ev a; let v ← loadD ty t d (symOf res); eff v
  | .store t a x => do let d ← ev a; let v ← ev x; storeD ty t d v (symOf res)
  | .nilCheck x => do
    match ← ev x with
    | .ptr b off => eff (.ptr b off)
    | .ip g cs => eff (.ip g cs)
    | .fn f cs => eff (.fn f cs)
    | _ => M.fail
  | .binOp op t x y _ => do let a ← ev x; let b ← ev y; let d ← binD ty op t a b; eff d
  | .unOp op _ x => do let a ← ev x; let d ← unD op a; eff d
  | .convert src dst x => do let a ← ev x; convD ty o src dst a
  | .makeFunc (.func f) first caps => do
    match first.toList with
    | [] => do let cs ← evl caps.toList; eff (.fn f cs)
    | _ => M.fail
  | .makeSlice t l c => do let a ← ev l; let b ← ev c; makeD ty o t a b
  | .slice t x lo hi mx => do
    let a ← ev x
    let l ← (match lo with | some y => do let d ← ev y; M.pure (some d) | none => M.pure none)
    let h ← (match hi with | some y => do let d ← ev y; M.pure (some d) | none => M.pure none)
    let m ← (match mx with | some y => do let d ← ev y; M.pure (some d) | none => M.pure none)
    let d ← sliceD ty t a l h m
    eff d
  | .fieldAddr s x f => do let a ← ev x; let d ← fieldAddrD ty s a f; eff d
  | .field s x f => do let a ← ev x; let d ← fieldD ty s a f; eff d
  | .indexAddr t x i => do let a ← ev x; let b ← ev i; let d ← indexAddrD ty t a b; eff d
  | .index t x i => do let a ← ev x; let b ← ev i; let d ← indexD ty t a b; eff d
  | .extract x i => do
    match ← ev x with
    | .tup vs => do let d ← lift vs[i]?; eff d
    | _ => M.fail
  | .call c => match c.callee with
    | .builtin .len => do
      let a ← evl c.args.toList
      let x ← lift a[0]?
      let t ← lift c.argTypes.toList[0]?
      let d ← lenD ty t x
      eff d
    | .builtin .append => do
      match ← evl c.args.toList with
      | [s, x] => appendD ty o c.argTypes.toList s x
      | _ => M.fail
    | .builtin .copy => do
      match ← evl c.args.toList with
      | [d, x] => copyD ty c.argTypes.toList d x
      | _ => M.fail
    | .builtin .min => do
      match ← evl c.args.toList with
      | x :: r => do let d ← minD (fun y x => decide (y < x)) x r; eff d
      | [] => M.fail
    | .builtin .max => do
      match ← evl c.args.toList with
      | x :: r => do let d ← minD (fun y x => decide (y > x)) x r; eff d
      | [] => M.fail
    | .value _ => do
      let r ← lift res
      callD P o c r
    | _ => M.fail
  | _ => M.fail
end Go.Proofs.YtmhlgpdoedbedaaGreat.Sv
