import Derived.Test.YthhlflmjikdgcaaSvX
import Derived.KernelRfl
set_option linter.unusedVariables false
set_option linter.unusedSimpArgs false
namespace Go.Proofs.Ythhlflmjikdgcaa.Sv
open Go Go.RowKit
section
variable {α : Type} {e : α → List D} {sz : Nat} {xs : List α}
theorem eL_len (he : ∀ x, (e x).length = sz) : ∀ (xs : List α), (eL e xs).length = xs.length * sz
  | [] => by simp [eL]
  | x :: r => by simp [eL, eL_len he r, he x, Nat.succ_mul, Nat.add_comm]
theorem eL_append : ∀ (xs ys : List α), eL e (xs ++ ys) = eL e xs ++ eL e ys
  | [], ys => rfl
  | x :: r, ys => by simp [eL, eL_append r ys]
theorem eL_snoc (xs : List α) (y : α) : eL e (xs ++ [y]) = eL e xs ++ e y := by rw [eL_append]; simp [eL]
theorem eL_drop (he : ∀ x, (e x).length = sz) : ∀ (i : Nat) (xs : List α), (eL e xs).drop (i * sz) = eL e (xs.drop i)
  | 0, xs => by simp
  | i + 1, [] => by simp [eL]
  | i + 1, x :: r => by
    rw [List.drop_succ_cons, ← eL_drop he i r]
    show (e x ++ eL e r).drop ((i + 1) * sz) = _
    rw [Nat.succ_mul, Nat.add_comm, ← List.drop_drop, List.drop_left' (he x)]
theorem eL_take (he : ∀ x, (e x).length = sz) : ∀ (i : Nat) (xs : List α), (eL e xs).take (i * sz) = eL e (xs.take i)
  | 0, xs => by simp [eL]
  | i + 1, [] => by simp [eL]
  | i + 1, x :: r => by
    rw [List.take_succ_cons]
    show (e x ++ eL e r).take ((i + 1) * sz) = e x ++ eL e (r.take i)
    rw [Nat.succ_mul, Nat.add_comm, List.take_append, List.take_of_length_le (by rw [he x]; omega), he x, Nat.add_sub_cancel_left, eL_take he i r]
theorem eL_all (he : ∀ x, (e x).length = sz) (xs : List α) : (eL e xs).take (xs.length * sz) = eL e xs := by
  rw [eL_take he, List.take_length]
theorem st_len (he : ∀ x, (e x).length = sz) {i o k : Nat} (hi : i < xs.length) (ho : o + k ≤ sz) : (i * sz + o) + k ≤ (eL e xs).length := by
  rw [eL_len he]
  have : (i + 1) * sz ≤ xs.length * sz := Nat.mul_le_mul_right _ hi
  rw [Nat.succ_mul] at this
  omega
theorem ap_len (he : ∀ x, (e x).length = sz) : xs.length * sz ≤ (eL e xs).length := by rw [eL_len he]; exact Nat.le_refl _
theorem ap_one (he : ∀ x, (e x).length = sz) {y : α} {cs : List D} (hy : cs = e y) : (eL e xs).take (xs.length * sz) ++ cs = eL e (xs ++ [y]) := by rw [eL_all he, eL_snoc, hy]
theorem ap_ex (he : ∀ x, (e x).length = sz) {ys : List α} {cs : List D} (hy : cs = eL e ys) : (eL e xs).take (xs.length * sz) ++ cs = eL e (xs ++ ys) := by rw [eL_all he, eL_append, hy]
theorem ap_all (he : ∀ x, (e x).length = sz) {ys : List α} : (eL e xs).take (xs.length * sz) ++ (eL e ys).take (ys.length * sz) = eL e (xs ++ ys) := by rw [eL_all he, eL_all he, eL_append]
theorem Le.apr {b n : Nat} {ys : List α} (hn : ys.length = n) : Le (.ref b 0 n n) (.ref b 0 ys.length ys.length) := by rw [hn]; exact Le.rfl
variable [Inhabited α]
theorem drop_get {i : Nat} (hi : i < xs.length) : xs.drop i = xs.getD i default :: xs.drop (i + 1) := by
  rw [List.drop_eq_getElem_cons hi]
  simp [hi]
theorem eL_at (he : ∀ x, (e x).length = sz) {i : Nat} (hi : i < xs.length) : (eL e xs).drop (i * sz) = e (xs.getD i default) ++ eL e (xs.drop (i + 1)) := by
  rw [eL_drop he, drop_get hi]
  rfl
theorem ixl {n : Int} {k : Nat} (h : 0 ≤ n ∧ n < (k : Int)) : n.toNat < k := by omega
theorem Le.ipc {g : Bool} {cs ds : List D} (h : cs = ds) : Le (.ip g cs) (.ip g ds) := Le.of (by rw [h])
theorem Le.ipt {g : Bool} {cs ds : List D} : Le (.ip g (cs ++ ds)) (.ip g cs) := by
  intro im w bo φ v h
  cases h with
  | ip h1 h2 h3 o h4 =>
    refine .ip h1 h2 (vs := _) (Eq.refl _) ?_ ?_
    · subst h3
      have := o.take cs.length
      rwa [List.take_take, List.length_append, Nat.min_eq_left (by omega)] at this
    · subst h3
      have := h4.take cs.length
      rwa [List.take_left' (Eq.refl _), List.take_take, List.length_append, Nat.min_eq_left (by omega)] at this
theorem Le.iptl {g : Bool} {cs ds es : List D} (h : cs = ds ++ es) : Le (.ip g cs) (.ip g ds) := fun im w bo φ v k => Le.ipt im w bo φ v (Le.ipc h im w bo φ v k)
theorem ld_ne (he : ∀ x, (e x).length = sz) {i o : Nat} (hi : i < xs.length) (ho : o < sz) : (eL e xs).drop (i * sz + o) ≠ [] := by
  rw [← List.drop_drop, eL_at he hi]
  intro h
  have := congrArg List.length h
  simp [he] at this
  omega
theorem ld_hd (he : ∀ x, (e x).length = sz) {i o : Nat} (hi : i < xs.length) (ho : o < sz) : ((eL e xs).drop (i * sz + o)).headD .undef = ((e (xs.getD i default)).drop o).headD .undef := by
  rw [← List.drop_drop, eL_at he hi, List.drop_append]
  have h0 : o - (e (xs.getD i default)).length = 0 := by rw [he]; omega
  rw [h0]
  have hne : (e (xs.getD i default)).drop o ≠ [] := by
    intro h
    have := congrArg List.length h
    simp [he] at this
    omega
  cases hd : (e (xs.getD i default)).drop o with
  | nil => exact absurd hd hne
  | cons a r => rfl
theorem ld_len (he : ∀ x, (e x).length = sz) {i o k : Nat} (hi : i < xs.length) (ho : o + k ≤ sz) : k ≤ ((eL e xs).drop (i * sz + o)).length := by
  rw [← List.drop_drop, eL_at he hi]
  simp [he]
  omega
theorem ld_tk (he : ∀ x, (e x).length = sz) {i o k : Nat} (hi : i < xs.length) (ho : o + k ≤ sz) : ((eL e xs).drop (i * sz + o)).take k = ((e (xs.getD i default)).drop o).take k := by
  rw [← List.drop_drop, eL_at he hi, List.drop_append]
  have h0 : o - (e (xs.getD i default)).length = 0 := by rw [he]; omega
  rw [h0, List.drop_zero, List.take_append]
  have h1 : k - ((e (xs.getD i default)).drop o).length = 0 := by rw [List.length_drop, he]; omega
  rw [h1, List.take_zero, List.append_nil]
theorem st_set (he : ∀ x, (e x).length = sz) {i o : Nat} {vs : List D} {y : α} (hi : i < xs.length) (ho : o + vs.length ≤ sz) (hy : splice (e (xs.getD i default)) o vs = e y) : splice (eL e xs) (i * sz + o) vs = eL e (xs.set i y) := by
  have h1 : xs = xs.take i ++ xs.getD i default :: xs.drop (i + 1) := by rw [← drop_get hi, List.take_append_drop]
  have h2 : xs.set i y = xs.take i ++ y :: xs.drop (i + 1) := by
    rw [List.set_eq_take_append_cons_drop, if_pos hi]
  rw [h2, eL_append]
  conv => lhs; rw [h1, eL_append]
  have hl : (eL e (xs.take i)).length = i * sz := by rw [eL_len he, List.length_take, Nat.min_eq_left (Nat.le_of_lt hi)]
  show splice (eL e (xs.take i) ++ (e (xs.getD i default) ++ eL e (xs.drop (i + 1)))) _ _ = _ ++ (e y ++ eL e (xs.drop (i + 1)))
  rw [← hy]
  unfold splice
  have hx := he (xs.getD i default)
  simp only [List.take_append, List.drop_append, hl, hx]
  have a1 : i * sz + o - i * sz = o := by omega
  have a2 : o - sz = 0 := by omega
  have a3 : i * sz + o + vs.length - i * sz = o + vs.length := by omega
  have a4 : o + vs.length - sz = 0 := by omega
  rw [a1, a2, a3, a4, List.take_of_length_le (by rw [hl]; omega), List.drop_of_length_le (l := eL e (xs.take i)) (by rw [hl]; omega)]
  simp
end
theorem st_need {α : Type} {e : α → List D} {sz : Nat} {xs : List α} (he : ∀ x, (e x).length = sz) {i o k : Nat} {vs : List D} {p : Bool} (hi : i < xs.length) (ho : o + k ≤ sz) (hv : vs.length = k) (hf : frees vs = true) :
    vs.length = k ∧ (i * sz + o) + vs.length ≤ (eL e xs).length ∧ (p = true → frees vs = true) := ⟨hv, by rw [hv]; exact st_len he hi ho, fun _ => hf⟩
theorem Le.pt {b k : Nat} : Le (.ptr b (0 + k)) (.ptr b (k + 0)) := Le.of (by rw [Nat.zero_add, Nat.add_zero])
instance {b n : Nat} : Decidable (growOk b n) := by unfold growOk; exact inferInstance
theorem frees_app : ∀ (a b : List D), frees a = true → frees b = true → frees (a ++ b) = true
  | [], b, _, h => h
  | d :: a, b, h, k => by
    simp only [List.cons_append, frees, Bool.and_eq_true] at h ⊢
    exact ⟨h.1, frees_app a b h.2 k⟩
theorem eL_frees {α : Type} {e : α → List D} (h : ∀ x, frees (e x) = true) : ∀ (xs : List α), frees (eL e xs) = true
  | [] => rfl
  | x :: r => frees_app _ _ (h x) (eL_frees h r)
def bytesL (s : ByteArray) : List Int := s.data.toList.map fun b => (b.toNat : Int)
theorem eInt_len (k : IntKind) (x : Int) : (eInt k x).length = 1 := rfl
theorem eBool_len (x : Bool) : (eBool x).length = 1 := rfl
theorem repD_eq {α : Type} {e : α → List D} {z : α} {cs : List D} (h : cs = e z) : ∀ n, repD cs n = eL e (List.replicate n z)
  | 0 => rfl
  | n + 1 => by rw [List.replicate_succ]; show cs ++ repD cs n = e z ++ eL e (List.replicate n z); rw [repD_eq h n, h]
inductive LeT : List (Nat × D) → List (Nat × D) → Prop
  | nil : LeT [] []
  | cons {t : Nat} {d d' : D} {r r' : List (Nat × D)} : Le d d' → LeT r r' → LeT ((t, d) :: r) ((t, d') :: r')
theorem LeT.look {l l' : List (Nat × D)} (h : LeT l l') (t : Nat) : Le ((look l t).getD .undef) ((look l' t).getD .undef) := by
  induction h with
  | nil => exact Le.rfl
  | cons a b ih =>
    simp only [Sv.look]
    rename_i k d d' r r'
    cases Nat.beq k t with
    | true => exact a
    | false => exact ih
theorem Is.jumpL {c : Cx} {P : Program} {ty : Ty} {f n : Nat} (hc : Is c P ty f n) {orc : List (Nat × List (Nat × Out))} {m : Nat} {kt : List Nat} {kh : List (Nat × Nat)} {K K' : List Item} {s : St} {T T' : List (Nat × D)} {H : List (Nat × Option Blk)} {os : List Prop} (h : advP P ty n orc m kt kh K s = some (K', ⟨T, H⟩, os)) (ho : Os os) (hT : LeT T T') (hn : c.Goes K' ⟨T', H⟩) : c.Goes K s := by
  refine hc.jump h ho ?_
  intro im φ a w hr
  exact hn im φ a w { hr with tmp := fun t => hT.look t _ _ _ _ _ (hr.tmp t) }
theorem Le.rfs {b n m k : Nat} (h : n = k) (h' : m = k) : Le (.ref b 0 n m) (.ref b 0 k k) := by rw [h, h']; exact Le.rfl
inductive Les : List D → List D → Prop
  | nil : Les [] []
  | cons {d d' : D} {ds ds' : List D} : Le d d' → Les ds ds' → Les (d :: ds) (d' :: ds')
theorem Les.rs {ds ds' : List D} (h : Les ds ds') {im : Nat → Prop} {w : World} {bo : Nat → Prop} {φ : Env} : ∀ {vs : List Value}, Rs im w bo φ ds vs → Rs im w bo φ ds' vs := by
  induction h with
  | nil => intro vs k; exact k
  | cons a b ih =>
    intro vs k
    cases k with
    | cons k1 k2 => exact .cons (a _ _ _ _ _ k1) (ih k2)
theorem Le.tup {ds ds' : List D} (h : Les ds ds') : Le (.tup ds) (.tup ds') := fun _ _ _ _ _ k => by
  cases k with
  | tup k => exact .tup (h.rs k)
theorem Le.agg {ds ds' : List D} (h : Les ds ds') : Le (.agg ds) (.agg ds') := fun _ _ _ _ _ k => by
  cases k with
  | agg o k => exact .agg o (h.rs k)
theorem Con.le {P : Program} {f : FuncId} {ds ds' : List D} {H : List (Nat × Blk)} {r : D} {H' : List (Nat × Option Blk)} (h : Con P f ds' H r H') (l : Les ds ds') : Con P f ds H r H' :=
  ⟨h.1, fun im bo φ w vs a b c d => h.2 im bo φ w vs a b c (l.rs d)⟩
theorem Le.slt {g : Bool} {cs ds : List D} {n c c' : Nat} (hc : c' ≤ c) : Le (.sl g (cs ++ ds) n c) (.sl g cs n c') := by
  intro im w bo φ v h
  cases h with
  | sl0 a c h =>
    obtain rfl : c' = 0 := by omega
    exact .sl0 a _ h
  | sl h1 h2 h3 h4 o h5 =>
    subst h4
    refine .sl h1 (Nat.le_trans hc h2) h3 (Eq.refl _) ?_ ?_
    · have := o.take cs.length
      rwa [List.take_take, List.length_append, Nat.min_eq_left (by omega)] at this
    · have := h5.take cs.length
      rwa [List.take_left' (Eq.refl _), List.take_take, List.length_append, Nat.min_eq_left (by omega)] at this
theorem Le.via {d e f : D} (h : Le d e) (k : Le e f) : Le d f := fun im w bo φ v x => k im w bo φ v (h im w bo φ v x)
theorem Le.cutr {α : Type} {e : α → List D} {sz : Nat} {g : Bool} (he : ∀ x, (e x).length = sz) {xs : List α} {off lo n c : Nat} (ho : off = lo * sz) (h : lo + n ≤ xs.length) (hc : n ≤ c) :
    Le (.sl g ((eL e xs).drop off) n c) (.sl g (eL e ((xs.drop lo).take n)) ((xs.drop lo).take n).length ((xs.drop lo).take n).length) := by
  have hl : ((xs.drop lo).take n).length = n := by rw [List.length_take, List.length_drop]; omega
  have hs : (eL e xs).drop off = eL e ((xs.drop lo).take n) ++ eL e ((xs.drop lo).drop n) := by
    rw [ho, eL_drop he, ← eL_append, List.take_append_drop]
  rw [hs, hl]
  exact Le.slt hc
inductive LeH : List (Nat × Option Blk) → List (Nat × Option Blk) → Prop
  | nil : LeH [] []
  | same {b : Nat} {x : Option Blk} {r r' : List (Nat × Option Blk)} : LeH r r' → LeH ((b, x) :: r) ((b, x) :: r')
  | cons {b : Nat} {p : Bool} {sz : Nat} {cs0 cs : List D} {r r' : List (Nat × Option Blk)} : Les cs0 cs → LeH r r' → LeH ((b, some ⟨p, sz, cs0⟩) :: r) ((b, some ⟨p, sz, cs⟩) :: r')
  | cut {b : Nat} {p : Bool} {sz : Nat} {cs0 cs : List D} {r r' : List (Nat × Option Blk)} (k : Nat) : cs = cs0.take k → LeH r r' → LeH ((b, some ⟨p, sz, cs0⟩) :: r) ((b, some ⟨p, sz, cs⟩) :: r')
theorem Les.len {a b : List D} (h : Les a b) : a.length = b.length := by
  induction h with
  | nil => exact Eq.refl _
  | cons _ _ ih => rw [List.length_cons, List.length_cons, ih]
def HRel (x y : Option (Option Blk)) : Prop := y = x ∨ ∃ blk cs, x = some (some blk) ∧ y = some (some { blk with cs := cs }) ∧ cs.length ≤ blk.cs.length ∧ ∀ (im bo : Nat → Prop) (φ : Env) (w : World) (vs : List Value), Rs im w bo φ blk.cs vs → Rs im w bo φ cs (vs.take cs.length)
theorem LeH.look {l l' : List (Nat × Option Blk)} (h : LeH l l') (t : Nat) : HRel (look l t) (look l' t) := by
  induction h with
  | nil => exact .inl (Eq.refl _)
  | same _ ih =>
    simp only [Sv.look]
    rename_i k x r r' _
    cases Nat.beq k t with
    | true => exact .inl (Eq.refl _)
    | false => exact ih
  | cons a b ih =>
    simp only [Sv.look]
    rename_i k p sz cs0 cs r r'
    cases Nat.beq k t with
    | true =>
      refine .inr ⟨⟨p, sz, cs0⟩, cs, Eq.refl _, Eq.refl _, Nat.le_of_eq a.len.symm, fun im bo φ w vs h => ?_⟩
      have := a.rs h
      rwa [List.take_of_length_le (by rw [this.length]; exact Nat.le_refl _)]
    | false => exact ih
  | cut k0 a b ih =>
    simp only [Sv.look]
    rename_i k p sz cs0 cs r r'
    cases Nat.beq k t with
    | true =>
      refine .inr ⟨⟨p, sz, cs0⟩, cs, Eq.refl _, Eq.refl _, by rw [a, List.length_take]; exact Nat.min_le_right _ _, fun im bo φ w vs h => ?_⟩
      have := h.take k0
      rw [a, List.length_take, h.length]
      have e : vs.take (min k0 vs.length) = vs.take k0 := by
        rw [List.take_eq_take_iff]; omega
      rw [e]
      exact this
    | false => exact ih
theorem HRel.up {x y : Option (Option Blk)} (h : HRel x y) {k : Blk} (hy : y = some (some k)) : ∃ k0, x = some (some k0) ∧ k.pure = k0.pure ∧ k.sz = k0.sz ∧ k.cs.length ≤ k0.cs.length ∧ ∀ (im bo : Nat → Prop) (φ : Env) (w : World) (vs : List Value), Rs im w bo φ k0.cs vs → Rs im w bo φ k.cs (vs.take k.cs.length) := by
  rcases h with h | ⟨blk, cs, h1, h2, h3, h4⟩
  · refine ⟨k, by rw [← h, hy], Eq.refl _, Eq.refl _, Nat.le_refl _, fun _ _ _ _ vs h => ?_⟩
    rwa [List.take_of_length_le (by rw [h.length]; exact Nat.le_refl _)]
  · rw [h2] at hy
    obtain rfl := Option.some.inj (Option.some.inj hy)
    exact ⟨blk, h1, Eq.refl _, Eq.refl _, h3, h4⟩
abbrev oT : Out := { cv := some (.bool true) }
abbrev oF : Out := { cv := some (.bool false) }
abbrev oC (d : D) : Out := { cv := some d }
abbrev oR (d : D) : Out := { r := d }
theorem Is.rt {c : Cx} {P : Program} {ty : Ty} {f n : Nat} (hc : Is c P ty f n) {α : Type} {F : α → D} {e r : α} {H : List (Nat × Blk)} (hfin : c.Fin H (F r) []) {fn : Func} (hf : P.funcs[f]? = some fn) {orc : List (Nat × List (Nat × Out))} {m : Nat} {K : List Item} {s : St} {d : D} {os : List Prop}
    (h : advR P ty n fn.results.toList orc m K s = some (d, os)) (ho : Os os) (k : some e = some r) (hle : Le d (F e)) (hi : (F e).inn [] = true) : c.Goes K s := by
  obtain rfl := Option.some.inj k
  exact hc.ret hfin hf h ho hle hi
def conB (fn : Func) (ds : List D) (H : List (Nat × Blk)) : Bool := !fn.body.isNone && (!(fn.name == "runtime.NumGoroutine") && ((H.all fun p => Nat.ble (p.1 + 1) 100) && Nat.ble ds.length fn.ntmps))
theorem con_in {P : Program} {ty : Ty} {f : FuncId} {fn : Func} {ds : List D} {H : List (Nat × Blk)} {r : D} {H' : List (Nat × Option Blk)} (ok : TyOk P ty) (mix : P.follows .mixedOrders = true) (hf : P.funcs[f]? = some fn) (hb : conB fn ds H = true)
    (h : ∀ {c : Cx}, Is c P ty f fn.ntmps → c.Fin H r H' → c.Goes [.code (bodyOf fn)] (st0 ds H)) : Con P f ds H r H' := by
  unfold conB at hb
  simp only [Bool.and_eq_true, Bool.not_eq_true'] at hb
  obtain ⟨b1, b2, b3, b4⟩ := hb
  obtain ⟨body, hbody⟩ : ∃ b, fn.body = some b := by
    cases hh : fn.body with
    | none => rw [hh] at b1; cases b1
    | some b => exact ⟨b, Eq.refl _⟩
  refine con_intro ok mix hf hbody b2 b3 (Nat.le_of_ble_eq_true b4) fun c h1 h2 h3 h4 hfin => ?_
  have := h ⟨h1, h2, h3, h4⟩ hfin
  rwa [show bodyOf fn = body by unfold bodyOf; rw [hbody]; exact Eq.refl _] at this
abbrev iI (n : Int) : D := .int .i64 n
abbrev sS {α : Type} (g : Bool) (e : α → List D) (xs : List α) : D := .sl g (eL e xs) xs.length xs.length
abbrev rR {α : Type} (b : Nat) (xs : List α) : D := .ref b 0 xs.length xs.length
abbrev pB (b sz : Nat) (cs : List D) : Nat × Option Blk := (b, some ⟨true, sz, cs⟩)
abbrev qB (b : Nat) (cs : List D) : Nat × Option Blk := (b, some ⟨false, 0, cs⟩)
theorem o0 : Os [] := .nil
theorem o1 {p : Prop} (h : p) : Os [p] := .cons h .nil
theorem o2 {p q : Prop} (h : p) (i : q) : Os [p, q] := .cons h (o1 i)
theorem o3 {p q r : Prop} (h : p) (i : q) (j : r) : Os [p, q, r] := .cons h (o2 i j)
theorem o4 {p q r s : Prop} (h : p) (i : q) (j : r) (k : s) : Os [p, q, r, s] := .cons h (o3 i j k)
theorem o5 {p q r s : Prop} {os : List Prop} (h : p) (i : q) (j : r) (k : s) (t : Os os) : Os (p :: q :: r :: s :: os) := .cons h (.cons i (.cons j (.cons k t)))
section
variable {P : Program} {ty : Ty} {f : FuncId} {fn : Func} {α : Type}
abbrev Orc := List (Nat × List (Nat × Out))
def nx (P : Program) (ty : Ty) (n : Nat) (orc : Orc) (m : Nat) (x : Option (List Item × St)) : Option (List Item × St) := match x with
  | some (K, s) => (match adv P ty n orc m K s with | some (K', s', _) => some (K', s') | none => none)
  | none => none
def nxO (P : Program) (ty : Ty) (n : Nat) (orc : Orc) (m : Nat) (x : Option (List Item × St)) : Option (List Prop) := match x with
  | some (K, s) => (match adv P ty n orc m K s with | some (_, _, os) => some os | none => none)
  | none => none
def nxP (P : Program) (ty : Ty) (n : Nat) (orc : Orc) (m : Nat) (kt : List Nat) (kh : List (Nat × Nat)) (x : Option (List Item × St)) : Option (List Item × St × List Prop) := match x with
  | some (K, s) => advP P ty n orc m kt kh K s
  | none => none
def nxR (P : Program) (ty : Ty) (fn : Func) (orc : Orc) (m : Nat) (x : Option (List Item × St)) : Option (D × List Prop) := match x with
  | some (K, s) => advR P ty fn.ntmps fn.results.toList orc m K s
  | none => none
def nxB (P : Program) (ty : Ty) (fn : Func) (orc : Orc) (m : Nat) (l : List (Nat × Nat)) (hs : List Nat) (x : Option (List Item × St)) : Option (D × List (Option (Option Blk)) × List Prop) := match x with
  | some (K, s) => advB P ty fn.ntmps fn.results.toList orc m l hs K s
  | none => none
structure Z (P : Program) (ty : Ty) (f : FuncId) (fn : Func) (F : Cx → Prop) where
  c : Cx
  is : Is c P ty f fn.ntmps
  hf : P.funcs[f]? = some fn
  fin : F c
def Fi (H : List (Nat × Blk)) (r : D) (H' : List (Nat × Option Blk)) (c : Cx) : Prop := c.Fin H r H'
variable {F : Cx → Prop}
def Z.X (z : Z P ty f fn F) (x : Option (List Item × St)) : Prop := ∀ K s, x = some (K, s) → z.c.Goes K s
def Z.G (z : Z P ty f fn F) (p : List Kt) (T : List (Nat × D)) (H : List (Nat × Option Blk)) : Prop := z.X (some (items (bodyOf fn) p, ⟨T, H⟩))
theorem Z.s {x : Option (List Item × St)} (z : Z P ty f fn F) (orc : Orc) (m : Nat) {os : List Prop} (ho : Os os) (hn : z.X (nx P ty fn.ntmps orc m x)) (h : nxO P ty fn.ntmps orc m x = some os := by kernel_rfl) : z.X x := by
  rintro K s rfl
  simp only [nxO, nx] at h hn
  split at h
  · rename_i K' s' os' he
    obtain rfl := Option.some.inj h
    rw [he] at hn
    exact z.is.go he ho (hn _ _ (Eq.refl _))
  · simp at h
theorem Z.j {x : Option (List Item × St)} (z : Z P ty f fn F) (orc : Orc) (m : Nat) (kt : List Nat) (kh : List (Nat × Nat)) {os : List Prop} (ho : Os os) {K' : List Kt} {T : List (Nat × D)} {H : List (Nat × Option Blk)} (hn : z.G K' T H) (h : nxP P ty fn.ntmps orc m kt kh x = some (items (bodyOf fn) K', ⟨T, H⟩, os) := by kernel_rfl) : z.X x := by
  rintro K s rfl
  exact z.is.jump h ho (hn _ _ (Eq.refl _))
theorem Z.jL {x : Option (List Item × St)} (z : Z P ty f fn F) (orc : Orc) (m : Nat) (kt : List Nat) (kh : List (Nat × Nat)) {os : List Prop} (ho : Os os) {K' : List Kt} {T T' : List (Nat × D)} {H : List (Nat × Option Blk)} (hT : LeT T T') (hn : z.G K' T' H) (h : nxP P ty fn.ntmps orc m kt kh x = some (items (bodyOf fn) K', ⟨T, H⟩, os) := by kernel_rfl) : z.X x := by
  rintro K s rfl
  exact z.is.jumpL h ho hT (hn _ _ (Eq.refl _))
theorem Z.r {x : Option (List Item × St)} {H : List (Nat × Blk)} {d : α → D} {e r : α} (z : Z P ty f fn (Fi H (d r) [])) (orc : Orc) (m : Nat) {os : List Prop} (ho : Os os) (k : some e = some r) (h : nxR P ty fn orc m x = some (d e, os) := by kernel_rfl) (hi : (d e).inn [] = true := by kernel_rfl) : z.X x := by
  rintro K s rfl
  exact z.is.rt z.fin z.hf h ho k Le.rfl hi
theorem Z.rl {x : Option (List Item × St)} {H : List (Nat × Blk)} {d : α → D} {e r : α} (z : Z P ty f fn (Fi H (d r) [])) (orc : Orc) (m : Nat) (d' : D) {os : List Prop} (ho : Os os) (k : some e = some r) (hle : Le d' (d e)) (h : nxR P ty fn orc m x = some (d', os) := by kernel_rfl) (hi : (d e).inn [] = true := by kernel_rfl) : z.X x := by
  rintro K s rfl
  exact z.is.rt z.fin z.hf h ho k hle hi
theorem Z.rb {x : Option (List Item × St)} {H : List (Nat × Blk)} {d : α → D} {dh : α → List (Nat × Option Blk)} {e r : α} (z : Z P ty f fn (Fi H (d r) (dh r))) (orc : Orc) (m : Nat) (l : List (Nat × Nat)) (d' : D) {os : List Prop} (ho : Os os) (k : some e = some r) (hle : Le d' ((d e).map (ren l)))
    (h : nxB P ty fn orc m l ((lives (dh e)).map (·.1)) x = some (d', (lives (dh e)).map (fun p => some (some (p.2.map (ren l)))), os) := by kernel_rfl) (hi : finB H (d e) (dh e) l = true := by kernel_rfl) : z.X x := by
  rintro K s rfl
  obtain rfl := Option.some.inj k
  exact z.is.retB z.fin l z.hf h ho hle hi
theorem ci (ok : TyOk P ty) (mix : P.follows .mixedOrders = true) (fn : Func) {ds : List D} {H : List (Nat × Blk)} {r : D} {H' : List (Nat × Option Blk)} (h : ∀ z : Z P ty f fn (Fi H r H'), z.X (some ([.code (bodyOf fn)], st0 ds H))) (hf : P.funcs[f]? = some fn := by kernel_rfl) (hb : conB fn ds H = true := by kernel_rfl) : Con P f ds H r H' :=
  con_in ok mix hf hb fun hc hfin => h ⟨_, hc, hf, hfin⟩ _ _ (Eq.refl _)
end
section
variable {C : Prop} {β : Type} {r : β}
theorem br {b : Bool} {x y : Option β} (h : (bif b then x else y) = some r) (t : b = true → x = some r → C) (f : b = false → y = some r → C) : C := by
  cases b
  · exact f rfl h
  · exact t rfl h
theorem bd {α : Type} {a : Option α} {f : α → Option β} (h : a.bind f = some r) (k : ∀ x, a = some x → f x = some r → C) : C := by
  cases a with
  | none => simp at h
  | some x => exact k x rfl h
theorem vi {α : Type} {a : α} {f : α → Option β} (h : via a f = some r) (k : ∀ x, a = x → f x = some r → C) : C := k a rfl h
theorem ck {p : Prop} [Decidable p] {a : Option β} (h : (if p then a else none) = some r) (k : p → a = some r → C) : C := by
  split at h
  · exact k (by assumption) h
  · simp at h
theorem brT {x y : Option β} (h : (bif true then x else y) = some r) (k : x = some r → C) : C := k h
theorem brF {x y : Option β} (h : (bif false then x else y) = some r) (k : y = some r → C) : C := k h
theorem no (h : (none : Option β) = some r) : C := by cases h
end
end Go.Proofs.Ythhlflmjikdgcaa.Sv
