/- Operations that only compute: against the model. -/
import Derived.Test.YtmhlgpdoedbedaaGreatSvD
namespace Go.Proofs.YtmhlgpdoedbedaaGreat.Sv
set_option linter.unusedVariables false
set_option linter.unusedSimpArgs false
open Go Go.RowKit
section
variable {P : Program} {ty : Ty} {n : Nat} {w0 : World} {S im0 bo im : Nat → Prop} {φ0 φ : Env} {s : St} {a : Act} {w : World}

theorem run_eqGuard {op : BinOp} {t : TypeId} {x y : Operand} {v u : Value} (h : (match v, u with | .nilIface, .nilIface => false | .agg _, .agg _ => false | _, _ => true) = true) :
    (eqGuard op t x y v u).run P w = .ok () w := by
  cases op <;> first | rfl | (cases v <;> first | rfl | (cases u <;> first | rfl | exact absurd (show false = true from h) Bool.false_ne_true))
theorem run_eqGuard_agg {op : BinOp} {t : TypeId} {x y : Operand} {v u : Array Value} (h : P.eqGuardType P.depth t = false) :
    (eqGuard op t x y (.agg v) (.agg u)).run P w = .ok () w := by
  cases op <;> first
    | rfl
    | (show ((program >>= fun p => program >>= fun q => if (!p.eqGuardType q.depth t) = true then pure () else _ : Sem Unit).run P w = _)
       simp only [Sem.run_bind, run_program, Result.andThen_ok, h]
       rfl)
theorem equal_run_bool {t : TypeId} {x y : Bool} (h : P.underlying t = some .bool) : (Op.equal t (.bool x) (.bool y)).run P w = .ok (x == y) w := run_equalIn_bool w 9999 t x y h
theorem equalIn_ptr (k : Nat) {t e : TypeId} (h : P.underlying t = some (.pointer e)) (x : Option Addr) : (Op.equalIn (k + 1) t (.pointer none) (.pointer x)).run P w = .ok x.isNone w := by
  simp only [Op.equalIn, Sem.run_bind, run_underlying h, Result.andThen_ok]
  rfl
theorem equalIn_ptr' (k : Nat) {t e : TypeId} (h : P.underlying t = some (.pointer e)) (x : Option Addr) : (Op.equalIn (k + 1) t (.pointer x) (.pointer none)).run P w = .ok x.isNone w := by
  simp only [Op.equalIn, Sem.run_bind, run_underlying h, Result.andThen_ok]
  cases x <;> rfl
theorem equal_run_ptr {t e : TypeId} (h : P.underlying t = some (.pointer e)) (x : Option Addr) : (Op.equal t (.pointer none) (.pointer x)).run P w = .ok x.isNone w := equalIn_ptr 9999 h x
theorem equal_run_ptr' {t e : TypeId} (h : P.underlying t = some (.pointer e)) (x : Option Addr) : (Op.equal t (.pointer x) (.pointer none)).run P w = .ok x.isNone w := equalIn_ptr' 9999 h x
theorem binOp_eq {op : BinOp} {t : TypeId} {v u : Value} {r : Bool} {d : D} {l : Log} (hn : neg op r s = some (d, l)) (hq : (Op.equal t v u).run P w = .ok r w)
    (hp : ∀ o, (o = BinOp.eql ∨ o = BinOp.neq) → binOp o t v u = (if o = .eql then (do pure (.bool (← Op.equal t v u))) else (do pure (.bool (!(← Op.equal t v u)))))) :
    ∃ x, (binOp op t v u).run P w = .ok x w ∧ ∀ im bo φ, R im w bo φ d x := by
  obtain ⟨h, _⟩ := neg_eq hn
  rcases h with ⟨rfl, rfl⟩ | ⟨rfl, rfl⟩
  · refine ⟨.bool r, ?_, fun _ _ _ => .bool _⟩
    rw [hp _ (.inl rfl)]
    simp [hq]
  · refine ⟨.bool (!r), ?_, fun _ _ _ => .bool _⟩
    rw [hp _ (.inr rfl)]
    simp [hq]
theorem kind_ptr {i : TI} {d : TypeDesc} (h : i.kind.desc d = true) (hk : (match i.kind with | .pointer _ => true | _ => false) = true) : ∃ e, d = .pointer e := by
  cases hi : i.kind <;> simp [hi] at hk
  rw [hi] at h
  cases d <;> simp [TK.desc] at h
  exact ⟨_, rfl⟩
theorem kind_slice {i : TI} {d : TypeDesc} (h : i.kind.desc d = true) (hk : (match i.kind with | .slice _ => true | _ => false) = true) : ∃ e, d = .slice e := by
  cases hi : i.kind <;> simp [hi] at hk
  rw [hi] at h
  cases d <;> simp [TK.desc] at h
  exact ⟨_, rfl⟩
theorem equalIn_slice (k : Nat) {t e : TypeId} (h : P.underlying t = some (.slice e)) (x : Option Addr) (n c : Nat) : (Op.equalIn (k + 1) t (.slice x n c) (.slice none 0 0)).run P w = .ok x.isNone w := by
  simp only [Op.equalIn, Sem.run_bind, run_underlying h, Result.andThen_ok]
  cases x <;> rfl
theorem equal_run_slice {t e : TypeId} (h : P.underlying t = some (.slice e)) (x : Option Addr) (n c : Nat) : (Op.equal t (.slice x n c) (.slice none 0 0)).run P w = .ok x.isNone w := equalIn_slice 9999 h x n c
theorem isNilS_sim {x : D} {v : Value} {r : Bool × Prop} (h : isNilS x = some r) (hr : r.2) (hx : R im w bo φ x v) : ∃ a n c, v = .slice a n c ∧ a.isNone = r.1 := by
  cases x <;> simp [isNilS] at h
  · subst h; cases hx; exact ⟨_, _, _, rfl, rfl⟩
  · subst h; cases hx; exact ⟨_, _, _, rfl, rfl⟩
  · subst h
    cases hx with
    | sl0 a c => exact absurd rfl hr
    | sl => exact ⟨_, _, _, rfl, rfl⟩
  · subst h
    cases hx with
    | ref0 a => exact absurd rfl hr
    | refz a => exact absurd rfl hr
    | ref => exact ⟨_, _, _, rfl, rfl⟩
theorem kind_bool {i : TI} {d : TypeDesc} (h : i.kind.desc d = true) (hk : (match i.kind with | .bool => true | _ => false) = true) : d = .bool := by
  cases hi : i.kind <;> simp [hi] at hk
  rw [hi] at h
  cases d <;> simp [TK.desc] at h
  rfl
theorem binD_sim (ht : TyOk P ty) {op : BinOp} {t : Nat} {x y d : D} {v u : Value} {l : Log} {ox oy : Operand} (h : binD ty op t x y s = some (d, l)) (ho : l.ok)
    (hx : R im w bo φ x v) (hy : R im w bo φ y u) : ∃ r, (eqGuard op t ox oy v u).run P w = .ok () w ∧ (binOp op t v u).run P w = .ok r w ∧ R im w bo φ d r := by
  unfold binD at h
  split at h
  · rename_i k x k' y
    cases hx; cases hy
    refine (fun ⟨r, h1, h2⟩ => ⟨r, run_eqGuard rfl, h1, h2 _ _ _⟩ : (∃ r, (binOp op t (.int k x) (.int k' y)).run P w = .ok r w ∧ ∀ im bo φ, R im w bo φ d r) → _) ?_
    split at h
    · exact binOp_sh h ho
    · exact binOp_sh h ho
    · rename_i h1 h2
      obtain ⟨hk, l', h3, ho3⟩ := test_bind h ho
      have hk' : k = k' := by simpa using hk
      subst hk'
      exact binOp_int h1 h2 h3 ho3
  · cases hx; cases hy
    obtain ⟨r, h1, h2⟩ := binOp_str (P := P) (w := w) (t := t) h ho
    exact ⟨r, run_eqGuard rfl, h1, h2 _ _ _⟩
  · cases hx; cases hy
    obtain ⟨i, hi, l', h, ho⟩ := at_bind ht h ho
    obtain ⟨hk, l', h, ho⟩ := test_bind h ho
    obtain ⟨j, dd, h1, h2, _, _, h3, _⟩ := hi.info
    obtain rfl := kind_bool h3 hk
    obtain ⟨r, h4, h5⟩ := binOp_eq (P := P) (w := w) h (equal_run_bool h2) (by rintro o (rfl | rfl) <;> rfl)
    exact ⟨r, run_eqGuard rfl, h4, h5 _ _ _⟩
  · obtain ⟨xs, rfl, hxs, _⟩ := Rs.toArr hx
    obtain ⟨ys, rfl, hys, _⟩ := Rs.toArr hy
    obtain ⟨i, hi, l', h, ho⟩ := at_bind ht h ho
    obtain ⟨hk, l', h, ho⟩ := test_bind h ho
    obtain ⟨b, hb, l', h, ho⟩ := lift_bind h ho
    obtain ⟨h1, h2⟩ := hi.eq (by simpa using hk) im bo φ w w _ _ _ _ _ hxs hys hb
    obtain ⟨r, h4, h5⟩ := binOp_eq (P := P) (w := w) h h1 (by rintro o (rfl | rfl) <;> rfl)
    exact ⟨r, run_eqGuard_agg h2, h4, h5 _ _ _⟩
  · cases hx
    obtain ⟨i, hi, l', h, ho⟩ := at_bind ht h ho
    obtain ⟨hk, l', h, ho⟩ := test_bind h ho
    obtain ⟨b, hb, l', h, ho⟩ := lift_bind h ho
    obtain ⟨j, dd, h1, h2, _, _, h3, _⟩ := hi.info
    obtain ⟨e, rfl⟩ := kind_ptr h3 hk
    cases hy <;> simp [isNil] at hb
    · subst hb
      obtain ⟨r, h4, h5⟩ := binOp_eq (P := P) (w := w) h (equal_run_ptr h2 none) (by rintro o (rfl | rfl) <;> rfl)
      exact ⟨r, run_eqGuard rfl, h4, h5 _ _ _⟩
    · subst hb
      obtain ⟨r, h4, h5⟩ := binOp_eq (P := P) (w := w) h (equal_run_ptr h2 (some _)) (by rintro o (rfl | rfl) <;> rfl)
      exact ⟨r, run_eqGuard rfl, h4, h5 _ _ _⟩
    · subst hb
      obtain ⟨r, h4, h5⟩ := binOp_eq (P := P) (w := w) h (equal_run_ptr h2 (some _)) (by rintro o (rfl | rfl) <;> rfl)
      exact ⟨r, run_eqGuard rfl, h4, h5 _ _ _⟩
  · cases hy
    obtain ⟨i, hi, l', h, ho⟩ := at_bind ht h ho
    obtain ⟨hk, l', h, ho⟩ := test_bind h ho
    obtain ⟨b, hb, l', h, ho⟩ := lift_bind h ho
    obtain ⟨j, dd, h1, h2, _, _, h3, _⟩ := hi.info
    obtain ⟨e, rfl⟩ := kind_ptr h3 hk
    cases hx <;> simp [isNil] at hb
    · subst hb
      obtain ⟨r, h4, h5⟩ := binOp_eq (P := P) (w := w) h (equal_run_ptr h2 none) (by rintro o (rfl | rfl) <;> rfl)
      exact ⟨r, run_eqGuard rfl, h4, h5 _ _ _⟩
    · subst hb
      obtain ⟨r, h4, h5⟩ := binOp_eq (P := P) (w := w) h (equal_run_ptr' h2 (some _)) (by rintro o (rfl | rfl) <;> rfl)
      exact ⟨r, run_eqGuard rfl, h4, h5 _ _ _⟩
    · subst hb
      obtain ⟨r, h4, h5⟩ := binOp_eq (P := P) (w := w) h (equal_run_ptr' h2 (some _)) (by rintro o (rfl | rfl) <;> rfl)
      exact ⟨r, run_eqGuard rfl, h4, h5 _ _ _⟩
  · cases hy
    obtain ⟨i, hi, l', h, ho⟩ := at_bind ht h ho
    obtain ⟨hk, l', h, ho⟩ := test_bind h ho
    obtain ⟨r, hr, l', h, ho⟩ := lift_bind h ho
    obtain ⟨hn, l', h, ho⟩ := need_bind h ho
    obtain ⟨j, dd, h1, h2, _, _, h3, _⟩ := hi.info
    obtain ⟨e, rfl⟩ := kind_slice h3 hk
    obtain ⟨a', n', c', rfl, hb⟩ := isNilS_sim hr hn hx
    obtain ⟨r', h4, h5⟩ := binOp_eq (P := P) (w := w) h ((equal_run_slice h2 a' n' c').trans (by rw [hb])) (by rintro o (rfl | rfl) <;> rfl)
    exact ⟨r', run_eqGuard rfl, h4, h5 _ _ _⟩
  · exact (M.fail_eq h).elim
end
end Go.Proofs.YtmhlgpdoedbedaaGreat.Sv
