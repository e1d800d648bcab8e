import Derived.Test.YthhlflmjikdgcaaSvO
set_option linter.unusedVariables false
set_option linter.unusedSimpArgs false
namespace Go.Proofs.Ythhlflmjikdgcaa.Sv
open Go Go.RowKit
section
variable {P : Program} {ty : Ty} {n : Nat} {w0 : World} {S im0 bo im : Nat → Prop} {φ0 φ : Env} {s : St} {a : Act} {w : World}
theorem eff_next {o : Oper} {e : Eff} (h : EffOk n w0 S im0 bo φ0 s a e ((execOp a.eval o).run P w)) (hd : ∀ t, o.dst = some t → t < n) {next : Act → World → Prop} {Q : Exit → Act → World → Prop}
    (hnext : ∀ a' w' im' φ', Rel n w0 S im0 bo φ0 im' φ' ((s.setH e.sets).setO o.dst e.val) a' w' → next a' w') : o.wp P a w next Q := by
  obtain ⟨v, w', hrun, im', φ', hr', hv⟩ := h
  show o.upon P a next Q ((execOp a.eval o).run P w)
  rcases hrun with hrun | ⟨hrun, rfl⟩
  · rw [hrun, Oper.upon_value]
    exact hnext _ _ _ _ (hr'.setO hv hd)
  · rw [hrun, Oper.upon_skip]
    exact hnext _ _ _ _ (hr'.setO hv hd)
theorem pure_val {v : Value} : (pure (.value v) : Sem Next) = (do pure (.value (← (pure v : Sem Value)))) := by simp
theorem opt_bind (hr : Rel n w0 S im0 bo φ0 im φ s a w) {x : Option Operand} {β : Type} {f : Option D → M β} {b : β} {k : Log} (h : ((match x with | some y => do let d ← ev y; M.pure (some d) | none => M.pure none : M (Option D)) >>= f) s = some (b, k)) (ho : k.ok) :
    ∃ d, Bd d (x.map a.eval) ∧ ∃ l, f d s = some (b, l) ∧ l.ok := by
  obtain ⟨d, l1, l2, h1, h2, ho1, ho2⟩ := M.bindO h ho
  cases x with
  | none =>
    have e := pure_ok (s := s) h1
    subst e
    exact ⟨none, trivial, l2, h2, ho2⟩
  | some y =>
    obtain ⟨d', hd, l3, h3, ho3⟩ := ev_bind hr h1 ho1
    have e := pure_ok (s := s) h3
    subst e
    refine ⟨some d', ?_, l2, h2, ho2⟩
    intro k m e
    subst e
    show a.eval y = _
    generalize a.eval y = v at hd
    cases hd
    rfl
set_option maxHeartbeats 4000000 in
theorem opD_sim (ht : TyOk P ty) (hr : Rel n w0 S im0 bo φ0 im φ s a w) {o : Oper} {res : Option Out} {e : Eff} {l : Log} (h : opD P ty o res s = some (e, l)) (ho : l.ok) (hd : ∀ t, o.dst = some t → t < n) {next : Act → World → Prop} {Q : Exit → Act → World → Prop}
    (hnext : ∀ a' w' im' φ', Rel n w0 S im0 bo φ0 im' φ' ((s.setH e.sets).setO o.dst e.val) a' w' → next a' w') : o.wp P a w next Q := by
  cases hop : o.op <;> simp only [opD, hop] at h <;> first
    | exact (M.fail_eq (s := s) h).elim
    | skip
  case move x =>
    obtain ⟨d, hx, l1, h1, ho1⟩ := ev_bind hr h ho
    refine eff_next ?_ hd hnext
    simp only [execOp, hop]
    rw [pure_val]
    exact eff_quiet hr h1 (by simp) hx
  case assign x =>
    obtain ⟨d, hx, l1, h1, ho1⟩ := ev_bind hr h ho
    refine eff_next ?_ hd hnext
    simp only [execOp, hop]
    rw [pure_val]
    exact eff_quiet hr h1 (by simp) hx
  case pick c x y =>
    obtain ⟨d, hc, l1, h1, ho1⟩ := ev_bind hr h ho
    cases d <;> first
      | exact (M.fail_eq (s := s) h1).elim
      | skip
    rename_i b
    obtain ⟨d1, hx, l2, h2, ho2⟩ := ev_bind hr h1 ho1
    obtain ⟨d2, hy, l3, h3, ho3⟩ := ev_bind hr h2 ho2
    refine eff_next ?_ hd hnext
    have hb : a.eval c = .bool b := by generalize a.eval c = v at hc; cases hc; rfl
    simp only [execOp, hop, hb]
    have : (do pure (.value (if ← asBool (.bool b) then a.eval x else a.eval y)) : Sem Next) = (do pure (.value (← (pure (if b then a.eval x else a.eval y) : Sem Value)))) := by
      simp [asBool]
    rw [this]
    exact eff_quiet hr h3 (by simp) (pickD_sim hx hy)
  case alloc t =>
    refine eff_next ?_ hd hnext
    simp only [execOp, hop]
    exact alloc_sim ht hr h ho
  case box t x =>
    obtain ⟨d, hx, l1, h1, ho1⟩ := ev_bind hr h ho
    obtain ⟨hv, l2, h2, ho2⟩ := test_bind h1 ho1
    refine eff_next ?_ hd hnext
    simp only [execOp, hop]
    exact box_sim hr h2 ho2 hv hx
  case build t ps =>
    obtain ⟨ds, hps, l1, h1, ho1⟩ := evs_bind hr h ho
    obtain ⟨d, l2, l3, h2, h3, ho2, ho3⟩ := M.bindO h1 ho1
    obtain ⟨v, hrun, hv⟩ := build_sim (P := P) (qs := ps.map fun p => (p.1, a.eval p.2)) ht h2 ho2 (by simpa using hps)
    refine eff_next ?_ hd hnext
    simp only [execOp, hop]
    exact eff_quiet hr h3 hrun hv
  case buildSlice t k ps =>
    refine eff_next ?_ hd hnext
    simp only [execOp, hop]
    exact buildSlice_sim ht hr (by simp) h ho
  case load t x =>
    obtain ⟨d, hx, l1, h1, ho1⟩ := ev_bind hr h ho
    obtain ⟨r, l2, l3, h2, h3, ho2, ho3⟩ := M.bindO h1 ho1
    obtain ⟨v, hrun, hv⟩ := loadD_sim ht hr h2 ho2 hx
    refine eff_next ?_ hd hnext
    simp only [execOp, hop]
    exact eff_quiet hr h3 hrun hv
  case store t x y =>
    obtain ⟨d, hx, l1, h1, ho1⟩ := ev_bind hr h ho
    obtain ⟨d2, hy, l2, h2, ho2⟩ := ev_bind hr h1 ho1
    refine eff_next ?_ hd hnext
    simp only [execOp, hop]
    exact storeD_sim ht hr h2 ho2 hx hy
  case nilCheck x =>
    obtain ⟨d, hx, l1, h1, ho1⟩ := ev_bind hr h ho
    refine eff_next ?_ hd hnext
    cases d <;> first
      | exact (M.fail_eq (s := s) h1).elim
      | skip
    · obtain ⟨ad, had⟩ : ∃ ad, a.eval x = .pointer (some ad) := by generalize a.eval x = v at hx; cases hx; exact ⟨_, rfl⟩
      rw [had] at hx
      simp only [execOp, hop, had]
      rw [pure_val]
      exact eff_quiet hr h1 (v := .pointer (some ad)) (by simp) hx
    · obtain ⟨ad, had⟩ : ∃ ad, a.eval x = .pointer (some ad) := by generalize a.eval x = v at hx; cases hx; exact ⟨_, rfl⟩
      rw [had] at hx
      simp only [execOp, hop, had]
      rw [pure_val]
      exact eff_quiet hr h1 (v := .pointer (some ad)) (by simp) hx
    · rename_i f cs
      obtain ⟨vs, had⟩ : ∃ vs : Array Value, a.eval x = .func (.func f) #[] vs := by generalize a.eval x = v at hx; cases hx; exact ⟨_, rfl⟩
      rw [had] at hx
      simp only [execOp, hop, had]
      rw [pure_val]
      exact eff_quiet hr h1 (v := .func (.func f) #[] vs) (by simp) hx
  case binOp op t x y t' =>
    obtain ⟨d, hx, l1, h1, ho1⟩ := ev_bind hr h ho
    obtain ⟨d2, hy, l2, h2, ho2⟩ := ev_bind hr h1 ho1
    obtain ⟨r, l3, l4, h3, h4, ho3, ho4⟩ := M.bindO h2 ho2
    obtain ⟨v, hg, hrun, hv⟩ := binD_sim (P := P) (ox := x) (oy := y) ht h3 ho3 hx hy
    refine eff_next ?_ hd hnext
    simp only [execOp, hop]
    refine eff_quiet hr h4 ?_ hv
    simp [hg, hrun]
  case unOp op t x =>
    obtain ⟨d, hx, l1, h1, ho1⟩ := ev_bind hr h ho
    obtain ⟨r, l3, l4, h3, h4, ho3, ho4⟩ := M.bindO h1 ho1
    obtain ⟨v, hrun, hv⟩ := unD_sim (P := P) h3 hx
    refine eff_next ?_ hd hnext
    simp only [execOp, hop]
    exact eff_quiet hr h4 hrun hv
  case convert src dst x =>
    obtain ⟨d, hx, l1, h1, ho1⟩ := ev_bind hr h ho
    refine eff_next ?_ hd hnext
    simp only [execOp, hop]
    exact convD_sim ht hr h1 ho1 hx
  case makeFunc fn first caps =>
    cases fn <;> first
      | exact (M.fail_eq (s := s) h).elim
      | skip
    rename_i f
    simp only at h
    cases hf : first.toList with
    | cons _ _ => rw [hf] at h; exact (M.fail_eq (s := s) h).elim
    | nil =>
    rw [hf] at h
    obtain ⟨cs, hcs, l1, h1, ho1⟩ := evl_bind hr h ho
    refine eff_next ?_ hd hnext
    have e1 : first = #[] := by apply Array.ext'; simpa using hf
    simp only [execOp, hop, Instr.makeFunc, e1]
    refine eff_quiet hr h1 (v := .func (.func f) #[] (caps.toList.map a.eval).toArray) ?_ (.fn hcs)
    have e2 : caps.map a.eval = (caps.toList.map a.eval).toArray := by apply Array.ext'; simp
    rw [e2]
    simp
  case makeSlice t x y =>
    obtain ⟨d, hx, l1, h1, ho1⟩ := ev_bind hr h ho
    obtain ⟨d2, hy, l2, h2, ho2⟩ := ev_bind hr h1 ho1
    refine eff_next ?_ hd hnext
    simp only [execOp, hop]
    exact makeD_sim ht hr h2 ho2 hx hy
  case slice t x lo hi mx =>
    obtain ⟨d, hx, l1, h1, ho1⟩ := ev_bind hr h ho
    obtain ⟨dl, bl, l2, h2, ho2⟩ := opt_bind hr h1 ho1
    obtain ⟨dh, bh, l3, h3, ho3⟩ := opt_bind hr h2 ho2
    obtain ⟨dm, bm, l4, h4, ho4⟩ := opt_bind hr h3 ho3
    obtain ⟨r, l5, l6, h5, h6, ho5, ho6⟩ := M.bindO h4 ho4
    obtain ⟨v, hrun, hv⟩ := sliceD_sim ht hr h5 ho5 hx bl bh bm
    refine eff_next ?_ hd hnext
    simp only [execOp, hop]
    exact eff_quiet hr h6 hrun hv
  case fieldAddr t x f =>
    obtain ⟨d, hx, l1, h1, ho1⟩ := ev_bind hr h ho
    obtain ⟨r, l3, l4, h3, h4, ho3, ho4⟩ := M.bindO h1 ho1
    obtain ⟨v, hrun, hv⟩ := fieldAddrD_sim (P := P) ht h3 ho3 hx
    refine eff_next ?_ hd hnext
    simp only [execOp, hop]
    exact eff_quiet hr h4 hrun hv
  case field t x f =>
    obtain ⟨d, hx, l1, h1, ho1⟩ := ev_bind hr h ho
    obtain ⟨r, l3, l4, h3, h4, ho3, ho4⟩ := M.bindO h1 ho1
    obtain ⟨v, hrun, hv⟩ := fieldD_sim (P := P) ht h3 ho3 hx
    refine eff_next ?_ hd hnext
    simp only [execOp, hop]
    exact eff_quiet hr h4 hrun hv
  case indexAddr t x i =>
    obtain ⟨d, hx, l1, h1, ho1⟩ := ev_bind hr h ho
    obtain ⟨d2, hy, l2, h2, ho2⟩ := ev_bind hr h1 ho1
    obtain ⟨r, l3, l4, h3, h4, ho3, ho4⟩ := M.bindO h2 ho2
    obtain ⟨v, hrun, hv⟩ := indexAddrD_sim (P := P) ht h3 ho3 hx hy
    refine eff_next ?_ hd hnext
    simp only [execOp, hop]
    exact eff_quiet hr h4 hrun hv
  case index t x i =>
    obtain ⟨d, hx, l1, h1, ho1⟩ := ev_bind hr h ho
    obtain ⟨d2, hy, l2, h2, ho2⟩ := ev_bind hr h1 ho1
    obtain ⟨r, l3, l4, h3, h4, ho3, ho4⟩ := M.bindO h2 ho2
    obtain ⟨v, hrun, hv⟩ := indexD_sim (P := P) ht h3 ho3 hx hy
    refine eff_next ?_ hd hnext
    simp only [execOp, hop]
    exact eff_quiet hr h4 hrun hv
  case extract x i =>
    obtain ⟨d, hx, l1, h1, ho1⟩ := ev_bind hr h ho
    cases d <;> first
      | exact (M.fail_eq (s := s) h1).elim
      | skip
    rename_i ds
    obtain ⟨r, hr', l2, h2, ho2⟩ := lift_bind h1 ho1
    refine eff_next ?_ hd hnext
    simp only [execOp, hop]
    generalize a.eval x = v at hx
    cases hx with
    | tup hvs =>
      obtain ⟨v, hv, hR⟩ := hvs.get hr'
      exact eff_quiet hr h2 (by simp [Instr.extract, hv]) hR
  case call c =>
    cases hc : c.callee with
    | invoke _ _ => simp only [hc] at h; exact (M.fail_eq (s := s) h).elim
    | value x =>
      simp only [hc] at h
      obtain ⟨r, hr', l1, h1, ho1⟩ := lift_bind h ho
      exact callD_sim hr hop h1 ho1 hd hnext
    | builtin b =>
      cases b <;> simp only [hc] at h <;> first
        | exact (M.fail_eq (s := s) h).elim
        | skip
      case append =>
        obtain ⟨as, has, l1, h1, ho1⟩ := evl_bind hr h ho
        match as, has, h1 with
        | [d1, d2], has, h1 =>
          cases hvs : c.args.toList.map a.eval with
          | nil => rw [hvs] at has; cases has
          | cons v vs =>
          rw [hvs] at has
          cases has with
          | cons k1 k2 =>
          cases k2 with
          | cons k2 k3 =>
          cases k3
          rename_i u
          refine eff_next ?_ hd hnext
          have e : (execOp a.eval o) = (do pure (.value (← Builtin.append_ c.argTypes o.type (c.args.map a.eval))) : Sem Next) := by
            simp [execOp, hop, resolve, hc, invoke, builtin]
          rw [e]
          exact appendD_sim ht hr h1 ho1 k1 k2 (by apply Array.ext'; simpa using hvs)
        | [], has, h1 => exact (M.fail_eq (s := s) h1).elim
        | [_], has, h1 => exact (M.fail_eq (s := s) h1).elim
        | _ :: _ :: _ :: _, has, h1 => exact (M.fail_eq (s := s) h1).elim
      case copy =>
        obtain ⟨as, has, l1, h1, ho1⟩ := evl_bind hr h ho
        match as, has, h1 with
        | [d1, d2], has, h1 =>
          cases hvs : c.args.toList.map a.eval with
          | nil => rw [hvs] at has; cases has
          | cons v vs =>
          rw [hvs] at has
          cases has with
          | cons k1 k2 =>
          cases k2 with
          | cons k2 k3 =>
          cases k3
          rename_i u
          refine eff_next ?_ hd hnext
          have e : (execOp a.eval o) = (do pure (.value (← Builtin.copy_ c.argTypes o.type (c.args.map a.eval))) : Sem Next) := by
            simp [execOp, hop, resolve, hc, invoke, builtin]
          rw [e]
          exact copyD_sim ht hr h1 ho1 k1 k2 (by apply Array.ext'; simpa using hvs)
        | [], has, h1 => exact (M.fail_eq (s := s) h1).elim
        | [_], has, h1 => exact (M.fail_eq (s := s) h1).elim
        | _ :: _ :: _ :: _, has, h1 => exact (M.fail_eq (s := s) h1).elim
      case len =>
        obtain ⟨as, has, l1, h1, ho1⟩ := evl_bind hr h ho
        obtain ⟨d1, hd1, l2, h2, ho2⟩ := lift_bind h1 ho1
        obtain ⟨t, ht1, l3, h3, ho3⟩ := lift_bind h2 ho2
        obtain ⟨r, l4, l5, h4, h5, ho4, ho5⟩ := M.bindO h3 ho3
        obtain ⟨v, hv, hR⟩ := has.get hd1
        obtain ⟨u, hrun, hR2⟩ := lenD_sim (P := P) (ts := c.argTypes) (vs := c.args.map a.eval) (rt := o.type) ht h4 ho4 hR (by simpa using ht1) (by simpa using hv)
        refine eff_next ?_ hd hnext
        have e : (execOp a.eval o) = (do pure (.value (← Builtin.len_ c.argTypes o.type (c.args.map a.eval))) : Sem Next) := by
          simp [execOp, hop, resolve, hc, invoke, builtin]
        rw [e]
        exact eff_quiet hr h5 hrun hR2
      case max =>
        obtain ⟨as, has, l1, h1, ho1⟩ := evl_bind hr h ho
        match as, has, h1 with
        | [], has, h1 => exact (M.fail_eq (s := s) h1).elim
        | d1 :: ds, has, h1 =>
          obtain ⟨r, l2, l3, h2, h3, ho2, ho3⟩ := M.bindO h1 ho1
          cases hvs : c.args.toList.map a.eval with
          | nil => rw [hvs] at has; cases has
          | cons v vs =>
          rw [hvs] at has
          cases has with
          | cons k1 k2 =>
          obtain ⟨u, hrun, hu⟩ := minD_sim (P := P) (w := w) (m2 := Builtin.max2) (fun k x k' y => by simp [Builtin.max2]) h2 k1 k2 (fun _ => trivial)
          refine eff_next ?_ hd hnext
          have e : (execOp a.eval o) = (do pure (.value (← Builtin.max_ c.argTypes o.type (c.args.map a.eval))) : Sem Next) := by
            simp [execOp, hop, resolve, hc, invoke, builtin]
          rw [e]
          refine eff_quiet hr h3 ?_ hu
          have e2 : (c.args.map a.eval).toList = v :: vs := by simpa using hvs
          simp only [Builtin.max_, e2, hrun]
      case min =>
        obtain ⟨as, has, l1, h1, ho1⟩ := evl_bind hr h ho
        match as, has, h1 with
        | [], has, h1 => exact (M.fail_eq (s := s) h1).elim
        | d1 :: ds, has, h1 =>
          obtain ⟨r, l2, l3, h2, h3, ho2, ho3⟩ := M.bindO h1 ho1
          cases hvs : c.args.toList.map a.eval with
          | nil => rw [hvs] at has; cases has
          | cons v vs =>
          rw [hvs] at has
          cases has with
          | cons k1 k2 =>
          obtain ⟨u, hrun, hu⟩ := minD_sim (P := P) (w := w) (m2 := Builtin.min2) (fun k x k' y => by simp [Builtin.min2]) h2 k1 k2 (fun _ => trivial)
          refine eff_next ?_ hd hnext
          have e : (execOp a.eval o) = (do pure (.value (← Builtin.min_ c.argTypes o.type (c.args.map a.eval))) : Sem Next) := by
            simp [execOp, hop, resolve, hc, invoke, builtin]
          rw [e]
          refine eff_quiet hr h3 ?_ hu
          have e2 : (c.args.map a.eval).toList = v :: vs := by simpa using hvs
          simp only [Builtin.min_, e2, hrun]
end
end Go.Proofs.Ythhlflmjikdgcaa.Sv
namespace Go.Proofs.Ythhlflmjikdgcaa.Sv
open Go Go.RowKit
structure Loc {α : Type} (m : M α) : Prop where
  out : ∀ (s s' : St) (x : α) (l : Log), m s = some (x, l) → (∀ t, t ∈ l.t → s'.tmp t = s.tmp t) → (∀ h, h ∈ l.h → s'.slot h = s.slot h) → m s' = some (x, l)
theorem Loc.pure {α : Type} (x : α) : Loc (M.pure x) := ⟨fun s s' y l h _ _ => h⟩
theorem Loc.fail {α : Type} : Loc (M.fail : M α) := ⟨fun s s' y l h _ _ => h⟩
theorem Loc.need (p : Prop) : Loc (need p) := ⟨fun s s' y l h _ _ => h⟩
theorem Loc.ask {sym b : Bool} {p : Prop} {h : b = true → p} : Loc (ask sym b p h) := by cases sym <;> cases b <;> exact ⟨fun s s' y l h _ _ => h⟩
theorem Loc.test (b : Bool) : Loc (test b) := by cases b; exact Loc.fail; exact Loc.pure _
theorem Loc.lift {α : Type} (x : Option α) : Loc (lift x) := by cases x; exact Loc.fail; exact Loc.pure _
theorem Loc.getT (t : Nat) : Loc (getT t) := by
  refine ⟨?_⟩
  intro s s' x l h h1 h2
  simp only [Sv.getT, Option.some.injEq, Prod.mk.injEq] at h ⊢
  obtain ⟨rfl, rfl⟩ := h
  exact ⟨h1 t (by simp), rfl⟩
theorem Loc.getH (t : Nat) : Loc (getH t) := by
  refine ⟨?_⟩
  intro s s' x l h h1 h2
  simp only [Sv.getH, Option.some.injEq, Prod.mk.injEq] at h ⊢
  obtain ⟨rfl, rfl⟩ := h
  exact ⟨h2 t (by simp), rfl⟩
theorem Loc.bind {α β : Type} {m : M α} {f : α → M β} (hm : Loc m) (hf : ∀ a, Loc (f a)) : Loc (m >>= f) := by
  refine ⟨?_⟩
  intro s s' x l h h1 h2
  obtain ⟨a, l1, l2, g1, g2, rfl⟩ := M.bind_eq h
  have e1 := hm.out s s' a l1 g1 (fun t ht => h1 t (List.mem_append.2 (.inl ht))) (fun t ht => h2 t (List.mem_append.2 (.inl ht)))
  have e2 := (hf a).out s s' x l2 g2 (fun t ht => h1 t (List.mem_append.2 (.inr ht))) (fun t ht => h2 t (List.mem_append.2 (.inr ht)))
  show M.bind m f s' = _
  simp only [M.bind, e1, e2]
theorem Loc.at_ (ty : Ty) (t : Nat) : Loc (ty.at t) := Loc.lift _
theorem Loc.ev (x : Operand) : Loc (ev x) := by
  cases x
  · exact Loc.getT _
  · exact Loc.lift _
  · exact Loc.fail
  · exact Loc.pure _
theorem Loc.eff (d : D) : Loc (eff d) := Loc.pure _
theorem Loc.neg (op : BinOp) (b : Bool) : Loc (neg op b) := by cases op <;> first | exact Loc.pure _ | exact Loc.fail
theorem Loc.intOp (op : BinOp) (k : IntKind) (x y : Int) : Loc (intOp op k x y) := by
  cases op <;> first | exact Loc.pure _ | exact Loc.fail | exact Loc.bind (Loc.need _) fun _ => Loc.pure _
theorem Loc.shOp (op : BinOp) (k : IntKind) (x y : Int) : Loc (shOp op k x y) := by
  cases op <;> first | exact Loc.pure _ | exact Loc.fail | exact Loc.bind (Loc.need _) fun _ => Loc.pure _
theorem Loc.strOp (op : BinOp) (x y : ByteArray) : Loc (strOp op x y) := by
  cases op <;> first | exact Loc.pure _ | exact Loc.fail | exact Loc.bind (Loc.need _) fun _ => Loc.pure _
theorem Loc.nameOf (o : Oper) (k : Nat) : Loc (nameOf o k) := by
  unfold Sv.nameOf
  split
  · exact Loc.pure _
  · exact Loc.fail
theorem Loc.newAt (o : Oper) (b : Blk) (f : Nat → D) : Loc (newAt o b f) := by
  unfold Sv.newAt
  refine Loc.bind (Loc.nameOf _ _) fun n => Loc.bind (Loc.getH _) fun x => ?_
  split
  · exact Loc.pure _
  · exact Loc.fail
theorem Loc.unD (op : UnOp) (x : D) : Loc (unD op x) := by
  cases op <;> cases x <;> first | exact Loc.pure _ | exact Loc.fail
theorem Loc.bound (x : Option D) (d : Nat) : Loc (bound x d) := by
  cases x with
  | none => exact Loc.pure _
  | some d => cases d <;> first | exact Loc.pure _ | exact Loc.fail
theorem Loc.binD (ty : Ty) (op : BinOp) (t : Nat) (x y : D) : Loc (binD ty op t x y) := by
  unfold Sv.binD
  split
  · split
    · exact Loc.shOp ..
    · exact Loc.shOp ..
    · exact Loc.bind (Loc.test _) fun _ => Loc.intOp ..
  · exact Loc.strOp ..
  · exact Loc.bind (Loc.at_ ..) fun _ => Loc.bind (Loc.test _) fun _ => Loc.neg ..
  · exact Loc.bind (Loc.at_ ..) fun _ => Loc.bind (Loc.test _) fun _ => Loc.bind (Loc.lift _) fun _ => Loc.neg ..
  · exact Loc.bind (Loc.at_ ..) fun _ => Loc.bind (Loc.test _) fun _ => Loc.bind (Loc.lift _) fun _ => Loc.neg ..
  · exact Loc.bind (Loc.at_ ..) fun _ => Loc.bind (Loc.test _) fun _ => Loc.bind (Loc.lift _) fun _ => Loc.neg ..
  · exact Loc.bind (Loc.at_ ..) fun _ => Loc.bind (Loc.test _) fun _ => Loc.bind (Loc.lift _) fun _ => Loc.bind (Loc.need _) fun _ => Loc.neg ..
  · exact Loc.fail
theorem Loc.rowFrom (b off : Nat) : Loc (rowFrom b off) := by
  unfold Sv.rowFrom
  refine Loc.bind (Loc.getH _) fun x => ?_
  split
  · exact Loc.bind (Loc.test _) fun _ => Loc.pure _
  · exact Loc.fail
theorem Loc.rowSz (z b off : Nat) : Loc (rowSz z b off) := by
  unfold Sv.rowSz
  refine Loc.bind (Loc.getH _) fun x => ?_
  split
  · exact Loc.bind (Loc.test _) fun _ => Loc.bind (Loc.test _) fun _ => Loc.pure _
  · exact Loc.fail
theorem Loc.behind (x : D) : Loc (behind x) := by
  unfold Sv.behind
  split
  · refine Loc.bind (Loc.getH _) fun x => ?_
    split
    · exact Loc.pure _
    · exact Loc.fail
  · exact Loc.pure _
  · exact Loc.fail
theorem Loc.loadD (ty : Ty) (t : Nat) (x : D) (sym : Bool) : Loc (loadD ty t x sym) := by
  refine Loc.bind (Loc.at_ ..) fun i => Loc.bind (Loc.behind _) fun cs => ?_
  split
  · exact Loc.bind Loc.ask fun _ => Loc.pure _
  · split
    · exact Loc.bind (Loc.need _) fun _ => Loc.pure _
    · split
      · exact Loc.pure _
      · exact Loc.fail
theorem Loc.castH (ah : List (Nat × List D)) : ∀ (h : List (Nat × Option Blk)), Loc (castH ah h)
  | [] => Loc.pure _
  | (b, none) :: r => Loc.bind (Loc.castH ah r) fun _ => Loc.pure _
  | (b, some blk) :: r => by
    unfold Sv.castH
    refine Loc.bind (Loc.castH ah r) fun _ => ?_
    split
    · exact Loc.bind (Loc.need _) fun _ => Loc.pure _
    · exact Loc.pure _
theorem Loc.castV (d : D) : ∀ (x : Option D), Loc (castV d x)
  | none => Loc.pure _
  | some x => Loc.bind (Loc.need _) fun _ => Loc.pure _
theorem Loc.storeD (ty : Ty) (t : Nat) (x v : D) (sym : Bool) : Loc (storeD ty t x v sym) := by
  unfold Sv.storeD
  refine Loc.bind (Loc.at_ ..) fun i => ?_
  split
  · refine Loc.bind (Loc.getH _) fun x => ?_
    split
    · exact Loc.bind (Loc.test _) fun _ => Loc.bind Loc.ask fun _ => Loc.pure _
    · exact Loc.fail
  · exact Loc.fail
theorem Loc.fieldsOf (ty : Ty) (t : Nat) : Loc (fieldsOf ty t) := by
  unfold Sv.fieldsOf
  refine Loc.bind (Loc.at_ ..) fun i => ?_
  split
  · exact Loc.pure _
  · exact Loc.fail
theorem Loc.fieldAddrD (ty : Ty) (t : Nat) (x : D) (k : Nat) : Loc (fieldAddrD ty t x k) := by
  unfold Sv.fieldAddrD
  refine Loc.bind (Loc.fieldsOf ..) fun fs => Loc.bind (Loc.lift _) fun p => Loc.bind (Loc.at_ ..) fun i => Loc.bind (Loc.test _) fun _ => ?_
  split
  · exact Loc.pure _
  · exact Loc.pure _
  · exact Loc.fail
theorem Loc.fieldD (ty : Ty) (t : Nat) (x : D) (k : Nat) : Loc (fieldD ty t x k) := by
  unfold Sv.fieldD
  refine Loc.bind (Loc.fieldsOf ..) fun fs => Loc.bind (Loc.lift _) fun p => Loc.bind (Loc.at_ ..) fun i => ?_
  split
  · split
    · exact Loc.pure _
    · exact Loc.lift _
  · exact Loc.fail
theorem Loc.indexAddrD (ty : Ty) (t : Nat) (x y : D) : Loc (indexAddrD ty t x y) := by
  unfold Sv.indexAddrD
  refine Loc.bind (Loc.at_ ..) fun i => ?_
  split <;> first | exact Loc.fail | exact Loc.bind (Loc.at_ ..) fun _ => Loc.bind (Loc.need _) fun _ => Loc.pure _
theorem Loc.indexD (ty : Ty) (t : Nat) (x y : D) : Loc (indexD ty t x y) := by
  unfold Sv.indexD
  refine Loc.bind (Loc.at_ ..) fun i => ?_
  split
  · exact Loc.bind (Loc.need _) fun _ => Loc.pure _
  · refine Loc.bind (Loc.at_ ..) fun _ => Loc.bind (Loc.need _) fun _ => ?_
    split
    · exact Loc.pure _
    · exact Loc.bind (Loc.need _) fun _ => Loc.pure _
  · exact Loc.fail
theorem Loc.sliceD (ty : Ty) (t : Nat) (x : D) (lo hi mx : Option D) : Loc (sliceD ty t x lo hi mx) := by
  unfold Sv.sliceD
  refine Loc.bind (Loc.at_ ..) fun i => ?_
  split
  · exact Loc.bind (Loc.at_ ..) fun _ => Loc.bind (Loc.test _) fun _ => Loc.bind (Loc.bound ..) fun _ => Loc.bind (Loc.bound ..) fun _ => Loc.bind (Loc.bound ..) fun _ => Loc.bind (Loc.need _) fun _ => Loc.pure _
  · exact Loc.bind (Loc.at_ ..) fun _ => Loc.bind (Loc.test _) fun _ => Loc.bind (Loc.bound ..) fun _ => Loc.bind (Loc.bound ..) fun _ => Loc.bind (Loc.bound ..) fun _ => Loc.bind (Loc.need _) fun _ => Loc.pure _
  · exact Loc.bind (Loc.at_ ..) fun _ => Loc.bind (Loc.test _) fun _ => Loc.bind (Loc.bound ..) fun _ => Loc.bind (Loc.bound ..) fun _ => Loc.bind (Loc.bound ..) fun _ => Loc.bind (Loc.need _) fun _ => Loc.pure _
  · exact Loc.bind (Loc.bound ..) fun _ => Loc.bind (Loc.bound ..) fun _ => Loc.bind (Loc.need _) fun _ => Loc.pure _
  · exact Loc.bind (Loc.at_ ..) fun _ => Loc.bind (Loc.bound ..) fun _ => Loc.bind (Loc.bound ..) fun _ => Loc.bind (Loc.need _) fun _ => Loc.pure _
  · refine Loc.bind (Loc.at_ ..) fun _ => Loc.bind (Loc.getH _) fun _ => ?_
    split
    · exact Loc.bind (Loc.test _) fun _ => Loc.bind (Loc.bound ..) fun _ => Loc.bind (Loc.bound ..) fun _ => Loc.bind (Loc.need _) fun _ => Loc.pure _
    · exact Loc.fail
  · exact Loc.fail
theorem Loc.fillD (pl : Nat → Option (Nat × Nat)) : ∀ (ps : List (Nat × D)) (cs : List D), Loc (fillD pl cs ps)
  | [], cs => Loc.pure _
  | (i, d) :: ps, cs => Loc.bind (Loc.lift _) fun p => Loc.bind (Loc.test _) fun _ => Loc.bind Loc.ask fun _ => Loc.fillD pl ps _
theorem Loc.evs : ∀ (xs : List (Nat × Operand)), Loc (evs xs)
  | [] => Loc.pure _
  | (i, x) :: r => Loc.bind (Loc.ev _) fun _ => Loc.bind (Loc.evs r) fun _ => Loc.pure _
theorem Loc.evl : ∀ (xs : List Operand), Loc (evl xs)
  | [] => Loc.pure _
  | x :: r => Loc.bind (Loc.ev _) fun _ => Loc.bind (Loc.evl r) fun _ => Loc.pure _
theorem Loc.placesOf (ty : Ty) : ∀ (fs : List (Nat × Nat)), Loc (placesOf ty fs)
  | [] => Loc.pure _
  | (o, t) :: r => Loc.bind (Loc.at_ ..) fun _ => Loc.bind (Loc.placesOf ty r) fun _ => Loc.pure _
theorem Loc.buildD (ty : Ty) (t : Nat) (ps : List (Nat × D)) : Loc (buildD ty t ps) := by
  unfold Sv.buildD
  refine Loc.bind (Loc.at_ ..) fun i => Loc.bind (Loc.test _) fun _ => ?_
  split
  · exact Loc.bind (Loc.placesOf ..) fun _ => Loc.bind (Loc.fillD ..) fun _ => Loc.pure _
  · exact Loc.bind (Loc.at_ ..) fun _ => Loc.bind (Loc.fillD ..) fun _ => Loc.pure _
  · exact Loc.fail
theorem Loc.lenD (ty : Ty) (t : Nat) (x : D) : Loc (lenD ty t x) := by
  unfold Sv.lenD
  refine Loc.bind (Loc.at_ ..) fun i => ?_
  split <;> first | exact Loc.pure _ | exact Loc.fail
theorem Loc.minD (lt : Int → Int → Bool) : ∀ (ds : List D) (d : D), Loc (minD lt d ds)
  | [], d => by cases d <;> exact Loc.pure _
  | y :: r, d => by
    cases d <;> cases y <;> first
      | exact Loc.fail
      | exact Loc.minD lt r _
theorem Loc.addedD (ty : Ty) (sz : Nat) (x : D) : Loc (addedD ty sz x) := by
  unfold Sv.addedD
  split
  · exact Loc.pure _
  · exact Loc.pure _
  · exact Loc.pure _
  · exact Loc.bind (Loc.test _) fun _ => Loc.pure _
  · exact Loc.bind (Loc.need _) fun _ => Loc.bind (Loc.need _) fun _ => Loc.pure _
  · exact Loc.bind (Loc.rowFrom ..) fun _ => Loc.bind (Loc.need _) fun _ => Loc.pure _
  · exact Loc.fail
theorem Loc.copiedD (sz : Nat) (x : D) : Loc (copiedD sz x) := by
  unfold Sv.copiedD
  split
  · exact Loc.pure _
  · exact Loc.pure _
  · exact Loc.bind (Loc.need _) fun _ => Loc.bind (Loc.need _) fun _ => Loc.pure _
  · exact Loc.bind (Loc.rowFrom ..) fun _ => Loc.bind (Loc.need _) fun _ => Loc.pure _
  · exact Loc.fail
theorem Loc.copyD (ty : Ty) (ts : List Nat) (x y : D) : Loc (copyD ty ts x y) := by
  unfold Sv.copyD
  refine Loc.bind (Loc.lift _) fun t => Loc.bind (Loc.at_ ..) fun i => ?_
  split
  · refine Loc.bind (Loc.at_ ..) fun j => Loc.bind (Loc.copiedD ..) fun ⟨new, k⟩ => ?_
    dsimp only
    split
    · refine Loc.bind (Loc.getH _) fun _ => ?_
      split
      · exact Loc.bind (Loc.test _) fun _ => Loc.bind (Loc.need _) fun _ => Loc.pure _
      · exact Loc.fail
    · exact Loc.fail
  · exact Loc.fail
theorem Loc.appendD (ty : Ty) (o : Oper) (ts : List Nat) (x y : D) : Loc (appendD ty o ts x y) := by
  unfold Sv.appendD
  refine Loc.bind (Loc.lift _) fun t => Loc.bind (Loc.at_ ..) fun i => ?_
  split
  · refine Loc.bind (Loc.at_ ..) fun j => Loc.bind (Loc.test _) fun _ => Loc.bind (Loc.lift _) fun _ => Loc.bind (Loc.at_ ..) fun _ => Loc.bind (Loc.test _) fun _ => Loc.bind (Loc.addedD ..) fun ⟨new, k⟩ => ?_
    dsimp only
    split
    · exact Loc.bind (Loc.need _) fun _ => Loc.newAt ..
    · exact Loc.bind (Loc.need _) fun _ => Loc.newAt ..
    · refine Loc.bind (Loc.rowSz ..) fun _ => Loc.bind (Loc.need _) fun _ => Loc.bind (Loc.need _) fun _ => Loc.bind (Loc.nameOf ..) fun _ => Loc.bind (Loc.getH _) fun _ => ?_
      split
      · exact Loc.pure _
      · exact Loc.fail
    · exact Loc.fail
  · exact Loc.fail
theorem Loc.makeD (ty : Ty) (o : Oper) (t : Nat) (x y : D) : Loc (makeD ty o t x y) := by
  unfold Sv.makeD
  refine Loc.bind (Loc.at_ ..) fun i => ?_
  split
  · exact Loc.bind (Loc.at_ ..) fun _ => Loc.bind (Loc.test _) fun _ => Loc.bind (Loc.need _) fun _ => Loc.newAt ..
  · exact Loc.fail
theorem Loc.convD (ty : Ty) (o : Oper) (t t' : Nat) (x : D) : Loc (convD ty o t t' x) := by
  unfold Sv.convD
  refine Loc.bind (Loc.at_ ..) fun i => Loc.bind (Loc.at_ ..) fun j => ?_
  split
  · exact Loc.eff _
  · exact Loc.eff _
  · split
    · exact Loc.bind (Loc.at_ ..) fun _ => Loc.bind (Loc.test _) fun _ => Loc.eff _
    · exact Loc.fail
  · split
    · exact Loc.bind (Loc.at_ ..) fun _ => Loc.bind (Loc.test _) fun _ => Loc.bind (Loc.need _) fun _ => Loc.eff _
    · exact Loc.fail
  · split
    · exact Loc.bind (Loc.at_ ..) fun _ => Loc.bind (Loc.test _) fun _ => Loc.bind (Loc.rowFrom ..) fun _ => Loc.bind (Loc.need _) fun _ => Loc.eff _
    · exact Loc.fail
  · exact Loc.bind (Loc.at_ ..) fun _ => Loc.bind (Loc.test _) fun _ => Loc.bind (Loc.test _) fun _ => Loc.newAt ..
  · exact Loc.fail
mutual
theorem Loc.hand (ρ av : List Nat) : ∀ (fuel : Nat) (d : D), Loc (hand ρ av fuel d)
  | 0, d => Loc.fail
  | fuel + 1, d => by
    cases d with
    | agg cs => exact Loc.bind (Loc.hands ρ av fuel cs) fun _ => Loc.pure _
    | fn f cs => exact Loc.bind (Loc.hands ρ av fuel cs) fun _ => Loc.pure _
    | tup cs => exact Loc.fail
    | ptr b off =>
      simp only [Sv.hand]
      split
      · exact Loc.pure _
      · refine Loc.bind (Loc.test _) fun _ => Loc.bind (Loc.getH _) fun _ => ?_
        split
        · split
          · exact Loc.pure _
          · exact Loc.bind (Loc.hands [] av fuel _) fun _ => Loc.pure _
        · exact Loc.fail
    | ref b off len cap =>
      simp only [Sv.hand]
      split
      · exact Loc.pure _
      · exact Loc.bind (Loc.test _) fun _ => Loc.bind (Loc.rowFrom ..) fun _ => Loc.pure _
    | _ => exact Loc.pure _
theorem Loc.hands (ρ av : List Nat) : ∀ (fuel : Nat) (ds : List D), Loc (hands ρ av fuel ds)
  | 0, ds => Loc.fail
  | fuel + 1, [] => Loc.pure _
  | fuel + 1, d :: ds => Loc.bind (Loc.hand ρ av fuel d) fun _ => Loc.bind (Loc.hands ρ av fuel ds) fun _ => Loc.pure _
end
theorem Loc.handBlks (ρ : List Nat) (fuel : Nat) : ∀ (l : List Nat) (k : Nat), Loc (handBlks ρ fuel l k)
  | [], k => Loc.pure _
  | b :: r, k => by
    unfold Sv.handBlks
    refine Loc.bind (Loc.getH _) fun x => ?_
    split
    · refine Loc.bind ?_ fun _ => Loc.bind (Loc.handBlks ρ fuel r (k + 1)) fun _ => Loc.pure _
      split
      · exact Loc.pure _
      · exact Loc.hands ..
    · exact Loc.fail
theorem Loc.freshD (ρ : List Nat) (base : Nat) (q : Bool) : ∀ (H : List (Nat × Option Blk)), Loc (freshD ρ base q H)
  | [] => Loc.pure _
  | (j, y) :: H => by
    unfold Sv.freshD
    refine Loc.bind (Loc.test _) fun _ => Loc.bind ?_ fun x => ?_
    · cases Nat.ble 1000 j
      · exact Loc.pure _
      · exact Loc.getH _
    · split
      · exact Loc.freshD ρ base q H
      · exact Loc.fail
theorem Loc.callD (P : Program) (o : Oper) (c : Call) (res : Out) : Loc (callD P o c res) := by
  unfold Sv.callD
  split
  · refine Loc.bind (Loc.ev _) fun x => ?_
    split
    · exact Loc.bind (Loc.evl _) fun _ => Loc.bind (Loc.handBlks ..) fun _ => Loc.bind (Loc.hands ..) fun _ => Loc.bind (Loc.test _) fun _ => Loc.bind (Loc.test _) fun _ => Loc.bind (Loc.freshD ..) fun _ => Loc.bind (Loc.test _) fun _ => Loc.bind (Loc.test _) fun _ => Loc.bind (Loc.need _) fun _ => Loc.pure _
    · exact Loc.fail
  · exact Loc.fail
theorem Loc.bs (ty : Ty) (o : Oper) (t k : Nat) (ps : List (Nat × Operand)) : Loc (opD.bs ty o t k ps) := by
  unfold Sv.opD.bs
  refine Loc.bind (Loc.at_ ..) fun i => ?_
  split
  · exact Loc.bind (Loc.at_ ..) fun _ => Loc.bind (Loc.test _) fun _ => Loc.bind (Loc.test _) fun _ => Loc.bind (Loc.evs _) fun _ => Loc.bind (Loc.fillD ..) fun _ => Loc.bind Loc.ask fun _ => Loc.newAt ..
  · exact Loc.fail
theorem Loc.opt (x : Option Operand) : Loc (match x with | some y => do let d ← Sv.ev y; M.pure (some d) | none => M.pure none : M (Option D)) := by
  cases x
  · exact Loc.pure _
  · exact Loc.bind (Loc.ev _) fun _ => Loc.pure _
theorem Loc.ownCells (o : Oper) : ∀ (k code : Nat) (cs : List D), Loc (ownCells o k code cs)
  | _, _, [] => Loc.pure _
  | k, code, d :: r => by
    unfold Sv.ownCells
    split
    · split
      · refine Loc.bind (Loc.ownCells o k (code / 1000) r) fun p => ?_
        exact Loc.pure _
      · refine Loc.bind (Loc.ownCells o (k + 1) (code / 1000) r) fun p => ?_
        dsimp only
        refine Loc.bind (Loc.nameOf o k) fun _ => Loc.bind (Loc.test _) fun _ => Loc.bind (Loc.getH _) fun _ => ?_
        split
        · exact Loc.pure _
        · exact Loc.fail
    · refine Loc.bind (Loc.ownCells o k code r) fun p => ?_
      exact Loc.pure _
theorem setH_slot_congr {s s' : St} {hs : List (Nat × Option Blk)} {b : Nat} (h : s'.slot b = s.slot b) : (s'.setH hs).slot b = (s.setH hs).slot b := by
  unfold St.slot St.setH at *
  induction hs with
  | nil => exact h
  | cons p hs ih =>
    obtain ⟨k, x⟩ := p
    simp only [List.cons_append, look]
    rw [ih]
theorem Loc.underH {α : Type} {hs : List (Nat × Option Blk)} {m : M α} (hm : Loc m) : Loc (underH hs m) :=
  ⟨fun s s' x l h h1 h2 => hm.out (s.setH hs) (s'.setH hs) x l h h1 fun b hb => setH_slot_congr (h2 b hb)⟩
theorem Loc.ownD (o : Oper) (e : Eff) (sz : Nat) : Loc (ownD o e sz) := by
  unfold Sv.ownD
  split
  · exact Loc.newAt ..
  · exact Loc.bind (Loc.ownCells ..) fun _ => Loc.pure _
  · refine Loc.bind (Loc.underH (Loc.ownCells ..)) fun _ => Loc.bind (Loc.test _) fun _ => Loc.pure _
  · exact Loc.fail
theorem Loc.frzCells : ∀ (cs : List D), Loc (frzCells cs)
  | [] => Loc.pure _
  | d :: r => by
    unfold Sv.frzCells
    refine Loc.bind (Loc.frzCells r) fun p => ?_
    obtain ⟨q, ss⟩ := p
    dsimp only
    split
    · refine Loc.bind (Loc.test _) fun _ => Loc.bind (Loc.getH _) fun _ => ?_
      split
      · exact Loc.bind (Loc.test _) fun _ => Loc.pure _
      · exact Loc.fail
    · exact Loc.pure _
theorem Loc.frzD (e : Eff) : Loc (frzD e) := by
  unfold Sv.frzD
  split
  · exact Loc.bind (Loc.frzCells _) fun _ => Loc.pure _
  · refine Loc.bind (Loc.getH _) fun _ => ?_
    split
    · exact Loc.bind (Loc.test _) fun _ => Loc.pure _
    · exact Loc.fail
  · exact Loc.fail
theorem Loc.castD (o : Oper) (e : Eff) : ∀ (r : Option Out), Loc (castD o e r)
  | none => Loc.pure _
  | some ⟨_, _, _, as, ah, some sz, _⟩ => Loc.ownD o e sz
  | some ⟨_, _, _, as, ah, none, true⟩ => Loc.frzD e
  | some ⟨_, _, _, as, ah, none, false⟩ => Loc.bind (Loc.castV e.val as) fun _ => Loc.bind (Loc.castH ah e.sets) fun _ => Loc.pure _
theorem Loc.opD (P : Program) (ty : Ty) (o : Oper) (res : Option Out) : Loc (opD P ty o res) := by
  unfold Sv.opD
  split
  · exact Loc.bind (Loc.ev _) fun _ => Loc.eff _
  · exact Loc.bind (Loc.ev _) fun _ => Loc.eff _
  · refine Loc.bind (Loc.ev _) fun _ => ?_
    split
    · exact Loc.bind (Loc.ev _) fun _ => Loc.bind (Loc.ev _) fun _ => Loc.eff _
    · exact Loc.fail
  · exact Loc.bind (Loc.at_ ..) fun _ => Loc.bind (Loc.test _) fun _ => Loc.newAt ..
  · exact Loc.bind (Loc.ev _) fun _ => Loc.bind (Loc.test _) fun _ => Loc.newAt ..
  · exact Loc.bind (Loc.evs _) fun _ => Loc.bind (Loc.buildD ..) fun _ => Loc.eff _
  · exact Loc.bs ..
  · exact Loc.bind (Loc.ev _) fun _ => Loc.bind (Loc.loadD ..) fun _ => Loc.eff _
  · exact Loc.bind (Loc.ev _) fun _ => Loc.bind (Loc.ev _) fun _ => Loc.storeD ..
  · refine Loc.bind (Loc.ev _) fun _ => ?_
    split <;> first | exact Loc.eff _ | exact Loc.fail
  · exact Loc.bind (Loc.ev _) fun _ => Loc.bind (Loc.ev _) fun _ => Loc.bind (Loc.binD ..) fun _ => Loc.eff _
  · exact Loc.bind (Loc.ev _) fun _ => Loc.bind (Loc.unD ..) fun _ => Loc.eff _
  · exact Loc.bind (Loc.ev _) fun _ => Loc.convD ..
  · split
    · exact Loc.bind (Loc.evl _) fun _ => Loc.eff _
    · exact Loc.fail
  · exact Loc.bind (Loc.ev _) fun _ => Loc.bind (Loc.ev _) fun _ => Loc.makeD ..
  · exact Loc.bind (Loc.ev _) fun _ => Loc.bind (Loc.opt _) fun _ => Loc.bind (Loc.opt _) fun _ => Loc.bind (Loc.opt _) fun _ => Loc.bind (Loc.sliceD ..) fun _ => Loc.eff _
  · exact Loc.bind (Loc.ev _) fun _ => Loc.bind (Loc.fieldAddrD ..) fun _ => Loc.eff _
  · exact Loc.bind (Loc.ev _) fun _ => Loc.bind (Loc.fieldD ..) fun _ => Loc.eff _
  · exact Loc.bind (Loc.ev _) fun _ => Loc.bind (Loc.ev _) fun _ => Loc.bind (Loc.indexAddrD ..) fun _ => Loc.eff _
  · exact Loc.bind (Loc.ev _) fun _ => Loc.bind (Loc.ev _) fun _ => Loc.bind (Loc.indexD ..) fun _ => Loc.eff _
  · refine Loc.bind (Loc.ev _) fun _ => ?_
    split
    · exact Loc.bind (Loc.lift _) fun _ => Loc.eff _
    · exact Loc.fail
  · split
    · exact Loc.bind (Loc.evl _) fun _ => Loc.bind (Loc.lift _) fun _ => Loc.bind (Loc.lift _) fun _ => Loc.bind (Loc.lenD ..) fun _ => Loc.eff _
    · refine Loc.bind (Loc.evl _) fun _ => ?_
      split
      · exact Loc.appendD ..
      · exact Loc.fail
    · refine Loc.bind (Loc.evl _) fun _ => ?_
      split
      · exact Loc.copyD ..
      · exact Loc.fail
    · refine Loc.bind (Loc.evl _) fun _ => ?_
      split
      · exact Loc.bind (Loc.minD ..) fun _ => Loc.eff _
      · exact Loc.fail
    · refine Loc.bind (Loc.evl _) fun _ => ?_
      split
      · exact Loc.bind (Loc.minD ..) fun _ => Loc.eff _
      · exact Loc.fail
    · exact Loc.bind (Loc.lift _) fun _ => Loc.callD ..
    · exact Loc.fail
  · exact Loc.fail
end Go.Proofs.Ythhlflmjikdgcaa.Sv
