/- Each operation against the model. -/
import Derived.Test.YtmhlgpdoedbedaaGreatSvR
namespace Go.Proofs.YtmhlgpdoedbedaaGreat.Sv
set_option linter.unusedVariables false
set_option linter.unusedSimpArgs false
open Go Go.RowKit
section
variable {P : Program} {ty : Ty} {n : Nat} {w0 : World} {S im0 bo im : Nat → Prop} {φ0 φ : Env} {s : St} {a : Act} {w : World}
theorem eff_next {o : Oper} {e : Eff} (h : EffOk n w0 S im0 bo φ0 s a e ((execOp a.eval o).run P w)) (hd : ∀ t, o.dst = some t → t < n) {next : Act → World → Prop} {Q : Exit → Act → World → Prop}
    (hnext : ∀ a' w' im' φ', Rel n w0 S im0 bo φ0 im' φ' ((s.setH e.sets).setO o.dst e.val) a' w' → next a' w') : o.wp P a w next Q := by
  obtain ⟨v, w', hrun, im', φ', hr', hv⟩ := h
  show o.upon P a next Q ((execOp a.eval o).run P w)
  rcases hrun with hrun | ⟨hrun, rfl⟩
  · rw [hrun, Oper.upon_value]
    exact hnext _ _ _ _ (hr'.setO hv hd)
  · rw [hrun, Oper.upon_skip]
    exact hnext _ _ _ _ (hr'.setO hv hd)
theorem pure_val {v : Value} : (pure (.value v) : Sem Next) = (do pure (.value (← (pure v : Sem Value)))) := by simp
theorem opt_bind (hr : Rel n w0 S im0 bo φ0 im φ s a w) {x : Option Operand} {β : Type} {f : Option D → M β} {b : β} {k : Log} (h : ((match x with | some y => do let d ← ev y; M.pure (some d) | none => M.pure none : M (Option D)) >>= f) s = some (b, k)) (ho : k.ok) :
    ∃ d, Bd d (x.map a.eval) ∧ ∃ l, f d s = some (b, l) ∧ l.ok := by
  obtain ⟨d, l1, l2, h1, h2, ho1, ho2⟩ := M.bindO h ho
  cases x with
  | none =>
    have e := pure_ok (s := s) h1
    subst e
    exact ⟨none, trivial, l2, h2, ho2⟩
  | some y =>
    obtain ⟨d', hd, l3, h3, ho3⟩ := ev_bind hr h1 ho1
    have e := pure_ok (s := s) h3
    subst e
    refine ⟨some d', ?_, l2, h2, ho2⟩
    intro k m e
    subst e
    show a.eval y = _
    generalize a.eval y = v at hd
    cases hd
    rfl
set_option maxHeartbeats 4000000 in
theorem opD_sim (ht : TyOk P ty) (hr : Rel n w0 S im0 bo φ0 im φ s a w) {o : Oper} {res : Option Out} {e : Eff} {l : Log} (h : opD P ty o res s = some (e, l)) (ho : l.ok) (hd : ∀ t, o.dst = some t → t < n) {next : Act → World → Prop} {Q : Exit → Act → World → Prop}
    (hnext : ∀ a' w' im' φ', Rel n w0 S im0 bo φ0 im' φ' ((s.setH e.sets).setO o.dst e.val) a' w' → next a' w') : o.wp P a w next Q := by
  cases hop : o.op <;> simp only [opD, hop] at h <;> first
    | exact (M.fail_eq (s := s) h).elim
    | skip
  case move x =>
    obtain ⟨d, hx, l1, h1, ho1⟩ := ev_bind hr h ho
    refine eff_next ?_ hd hnext
    simp only [execOp, hop]
    rw [pure_val]
    exact eff_quiet hr h1 (by simp) hx
  case assign x =>
    obtain ⟨d, hx, l1, h1, ho1⟩ := ev_bind hr h ho
    refine eff_next ?_ hd hnext
    simp only [execOp, hop]
    rw [pure_val]
    exact eff_quiet hr h1 (by simp) hx
  case pick c x y =>
    obtain ⟨d, hc, l1, h1, ho1⟩ := ev_bind hr h ho
    cases d <;> first
      | exact (M.fail_eq (s := s) h1).elim
      | skip
    rename_i b
    obtain ⟨d1, hx, l2, h2, ho2⟩ := ev_bind hr h1 ho1
    obtain ⟨d2, hy, l3, h3, ho3⟩ := ev_bind hr h2 ho2
    refine eff_next ?_ hd hnext
    have hb : a.eval c = .bool b := by generalize a.eval c = v at hc; cases hc; rfl
    simp only [execOp, hop, hb]
    have : (do pure (.value (if ← asBool (.bool b) then a.eval x else a.eval y)) : Sem Next) = (do pure (.value (← (pure (if b then a.eval x else a.eval y) : Sem Value)))) := by
      simp [asBool]
    rw [this]
    exact eff_quiet hr h3 (by simp) (pickD_sim hx hy)
  case alloc t =>
    refine eff_next ?_ hd hnext
    simp only [execOp, hop]
    exact alloc_sim ht hr h ho
  case box t x =>
    obtain ⟨d, hx, l1, h1, ho1⟩ := ev_bind hr h ho
    obtain ⟨hv, l2, h2, ho2⟩ := test_bind h1 ho1
    refine eff_next ?_ hd hnext
    simp only [execOp, hop]
    exact box_sim hr h2 ho2 hv hx
  case build t ps =>
    obtain ⟨ds, hps, l1, h1, ho1⟩ := evs_bind hr h ho
    obtain ⟨d, l2, l3, h2, h3, ho2, ho3⟩ := M.bindO h1 ho1
    obtain ⟨v, hrun, hv⟩ := build_sim (P := P) (qs := ps.map fun p => (p.1, a.eval p.2)) ht h2 ho2 (by simpa using hps)
    refine eff_next ?_ hd hnext
    simp only [execOp, hop]
    exact eff_quiet hr h3 hrun hv
  case buildSlice t k ps =>
    refine eff_next ?_ hd hnext
    simp only [execOp, hop]
    exact buildSlice_sim ht hr (by simp) h ho
  case load t x =>
    obtain ⟨d, hx, l1, h1, ho1⟩ := ev_bind hr h ho
    obtain ⟨r, l2, l3, h2, h3, ho2, ho3⟩ := M.bindO h1 ho1
    obtain ⟨v, hrun, hv⟩ := loadD_sim ht hr h2 ho2 hx
    refine eff_next ?_ hd hnext
    simp only [execOp, hop]
    exact eff_quiet hr h3 hrun hv
  case store t x y =>
    obtain ⟨d, hx, l1, h1, ho1⟩ := ev_bind hr h ho
    obtain ⟨d2, hy, l2, h2, ho2⟩ := ev_bind hr h1 ho1
    refine eff_next ?_ hd hnext
    simp only [execOp, hop]
    exact storeD_sim ht hr h2 ho2 hx hy
  case nilCheck x =>
    obtain ⟨d, hx, l1, h1, ho1⟩ := ev_bind hr h ho
    refine eff_next ?_ hd hnext
    cases d <;> first
      | exact (M.fail_eq (s := s) h1).elim
      | skip
    · obtain ⟨ad, had⟩ : ∃ ad, a.eval x = .pointer (some ad) := by generalize a.eval x = v at hx; cases hx; exact ⟨_, rfl⟩
      rw [had] at hx
      simp only [execOp, hop, had]
      rw [pure_val]
      exact eff_quiet hr h1 (v := .pointer (some ad)) (by simp) hx
    · obtain ⟨ad, had⟩ : ∃ ad, a.eval x = .pointer (some ad) := by generalize a.eval x = v at hx; cases hx; exact ⟨_, rfl⟩
      rw [had] at hx
      simp only [execOp, hop, had]
      rw [pure_val]
      exact eff_quiet hr h1 (v := .pointer (some ad)) (by simp) hx
    · rename_i f cs
      obtain ⟨vs, had⟩ : ∃ vs : Array Value, a.eval x = .func (.func f) #[] vs := by generalize a.eval x = v at hx; cases hx; exact ⟨_, rfl⟩
      rw [had] at hx
      simp only [execOp, hop, had]
      rw [pure_val]
      exact eff_quiet hr h1 (v := .func (.func f) #[] vs) (by simp) hx
  case binOp op t x y t' =>
    obtain ⟨d, hx, l1, h1, ho1⟩ := ev_bind hr h ho
    obtain ⟨d2, hy, l2, h2, ho2⟩ := ev_bind hr h1 ho1
    obtain ⟨r, l3, l4, h3, h4, ho3, ho4⟩ := M.bindO h2 ho2
    obtain ⟨v, hg, hrun, hv⟩ := binD_sim (P := P) (ox := x) (oy := y) ht h3 ho3 hx hy
    refine eff_next ?_ hd hnext
    simp only [execOp, hop]
    refine eff_quiet hr h4 ?_ hv
    simp [hg, hrun]
  case unOp op t x =>
    obtain ⟨d, hx, l1, h1, ho1⟩ := ev_bind hr h ho
    obtain ⟨r, l3, l4, h3, h4, ho3, ho4⟩ := M.bindO h1 ho1
    obtain ⟨v, hrun, hv⟩ := unD_sim (P := P) h3 hx
    refine eff_next ?_ hd hnext
    simp only [execOp, hop]
    exact eff_quiet hr h4 hrun hv
  case convert src dst x =>
    obtain ⟨d, hx, l1, h1, ho1⟩ := ev_bind hr h ho
    refine eff_next ?_ hd hnext
    simp only [execOp, hop]
    exact convD_sim ht hr h1 ho1 hx
  case makeFunc fn first caps =>
    cases fn <;> first
      | exact (M.fail_eq (s := s) h).elim
      | skip
    rename_i f
    simp only at h
    cases hf : first.toList with
    | cons _ _ => rw [hf] at h; exact (M.fail_eq (s := s) h).elim
    | nil =>
    rw [hf] at h
    obtain ⟨cs, hcs, l1, h1, ho1⟩ := evl_bind hr h ho
    refine eff_next ?_ hd hnext
    have e1 : first = #[] := by apply Array.ext'; simpa using hf
    simp only [execOp, hop, Instr.makeFunc, e1]
    refine eff_quiet hr h1 (v := .func (.func f) #[] (caps.toList.map a.eval).toArray) ?_ (.fn hcs)
    have e2 : caps.map a.eval = (caps.toList.map a.eval).toArray := by apply Array.ext'; simp
    rw [e2]
    simp
  case makeSlice t x y =>
    obtain ⟨d, hx, l1, h1, ho1⟩ := ev_bind hr h ho
    obtain ⟨d2, hy, l2, h2, ho2⟩ := ev_bind hr h1 ho1
    refine eff_next ?_ hd hnext
    simp only [execOp, hop]
    exact makeD_sim ht hr h2 ho2 hx hy
  case slice t x lo hi mx =>
    obtain ⟨d, hx, l1, h1, ho1⟩ := ev_bind hr h ho
    obtain ⟨dl, bl, l2, h2, ho2⟩ := opt_bind hr h1 ho1
    obtain ⟨dh, bh, l3, h3, ho3⟩ := opt_bind hr h2 ho2
    obtain ⟨dm, bm, l4, h4, ho4⟩ := opt_bind hr h3 ho3
    obtain ⟨r, l5, l6, h5, h6, ho5, ho6⟩ := M.bindO h4 ho4
    obtain ⟨v, hrun, hv⟩ := sliceD_sim ht hr h5 ho5 hx bl bh bm
    refine eff_next ?_ hd hnext
    simp only [execOp, hop]
    exact eff_quiet hr h6 hrun hv
  case fieldAddr t x f =>
    obtain ⟨d, hx, l1, h1, ho1⟩ := ev_bind hr h ho
    obtain ⟨r, l3, l4, h3, h4, ho3, ho4⟩ := M.bindO h1 ho1
    obtain ⟨v, hrun, hv⟩ := fieldAddrD_sim (P := P) ht h3 ho3 hx
    refine eff_next ?_ hd hnext
    simp only [execOp, hop]
    exact eff_quiet hr h4 hrun hv
  case field t x f =>
    obtain ⟨d, hx, l1, h1, ho1⟩ := ev_bind hr h ho
    obtain ⟨r, l3, l4, h3, h4, ho3, ho4⟩ := M.bindO h1 ho1
    obtain ⟨v, hrun, hv⟩ := fieldD_sim (P := P) ht h3 ho3 hx
    refine eff_next ?_ hd hnext
    simp only [execOp, hop]
    exact eff_quiet hr h4 hrun hv
  case indexAddr t x i =>
    obtain ⟨d, hx, l1, h1, ho1⟩ := ev_bind hr h ho
    obtain ⟨d2, hy, l2, h2, ho2⟩ := ev_bind hr h1 ho1
    obtain ⟨r, l3, l4, h3, h4, ho3, ho4⟩ := M.bindO h2 ho2
    obtain ⟨v, hrun, hv⟩ := indexAddrD_sim (P := P) ht h3 ho3 hx hy
    refine eff_next ?_ hd hnext
    simp only [execOp, hop]
    exact eff_quiet hr h4 hrun hv
  case index t x i =>
    obtain ⟨d, hx, l1, h1, ho1⟩ := ev_bind hr h ho
    obtain ⟨d2, hy, l2, h2, ho2⟩ := ev_bind hr h1 ho1
    obtain ⟨r, l3, l4, h3, h4, ho3, ho4⟩ := M.bindO h2 ho2
    obtain ⟨v, hrun, hv⟩ := indexD_sim (P := P) ht h3 ho3 hx hy
    refine eff_next ?_ hd hnext
    simp only [execOp, hop]
    exact eff_quiet hr h4 hrun hv
  case extract x i =>
    obtain ⟨d, hx, l1, h1, ho1⟩ := ev_bind hr h ho
    cases d <;> first
      | exact (M.fail_eq (s := s) h1).elim
      | skip
    rename_i ds
    obtain ⟨r, hr', l2, h2, ho2⟩ := lift_bind h1 ho1
    refine eff_next ?_ hd hnext
    simp only [execOp, hop]
    generalize a.eval x = v at hx
    cases hx with
    | tup hvs =>
      obtain ⟨v, hv, hR⟩ := hvs.get hr'
      exact eff_quiet hr h2 (by simp [Instr.extract, hv]) hR
  case call c =>
    cases hc : c.callee with
    | invoke _ _ => simp only [hc] at h; exact (M.fail_eq (s := s) h).elim
    | value x =>
      simp only [hc] at h
      obtain ⟨r, hr', l1, h1, ho1⟩ := lift_bind h ho
      exact callD_sim hr hop h1 ho1 hd hnext
    | builtin b =>
      cases b <;> simp only [hc] at h <;> first
        | exact (M.fail_eq (s := s) h).elim
        | skip
      case append =>
        obtain ⟨as, has, l1, h1, ho1⟩ := evl_bind hr h ho
        match as, has, h1 with
        | [d1, d2], has, h1 =>
          cases hvs : c.args.toList.map a.eval with
          | nil => rw [hvs] at has; cases has
          | cons v vs =>
          rw [hvs] at has
          cases has with
          | cons k1 k2 =>
          cases k2 with
          | cons k2 k3 =>
          cases k3
          rename_i u
          refine eff_next ?_ hd hnext
          have e : (execOp a.eval o) = (do pure (.value (← Builtin.append_ c.argTypes o.type (c.args.map a.eval))) : Sem Next) := by
            simp [execOp, hop, resolve, hc, invoke, builtin]
          rw [e]
          exact appendD_sim ht hr h1 ho1 k1 k2 (by apply Array.ext'; simpa using hvs)
        | [], has, h1 => exact (M.fail_eq (s := s) h1).elim
        | [_], has, h1 => exact (M.fail_eq (s := s) h1).elim
        | _ :: _ :: _ :: _, has, h1 => exact (M.fail_eq (s := s) h1).elim
      case copy =>
        obtain ⟨as, has, l1, h1, ho1⟩ := evl_bind hr h ho
        match as, has, h1 with
        | [d1, d2], has, h1 =>
          cases hvs : c.args.toList.map a.eval with
          | nil => rw [hvs] at has; cases has
          | cons v vs =>
          rw [hvs] at has
          cases has with
          | cons k1 k2 =>
          cases k2 with
          | cons k2 k3 =>
          cases k3
          rename_i u
          refine eff_next ?_ hd hnext
          have e : (execOp a.eval o) = (do pure (.value (← Builtin.copy_ c.argTypes o.type (c.args.map a.eval))) : Sem Next) := by
            simp [execOp, hop, resolve, hc, invoke, builtin]
          rw [e]
          exact copyD_sim ht hr h1 ho1 k1 k2 (by apply Array.ext'; simpa using hvs)
        | [], has, h1 => exact (M.fail_eq (s := s) h1).elim
        | [_], has, h1 => exact (M.fail_eq (s := s) h1).elim
        | _ :: _ :: _ :: _, has, h1 => exact (M.fail_eq (s := s) h1).elim
      case len =>
        obtain ⟨as, has, l1, h1, ho1⟩ := evl_bind hr h ho
        obtain ⟨d1, hd1, l2, h2, ho2⟩ := lift_bind h1 ho1
        obtain ⟨t, ht1, l3, h3, ho3⟩ := lift_bind h2 ho2
        obtain ⟨r, l4, l5, h4, h5, ho4, ho5⟩ := M.bindO h3 ho3
        obtain ⟨v, hv, hR⟩ := has.get hd1
        obtain ⟨u, hrun, hR2⟩ := lenD_sim (P := P) (ts := c.argTypes) (vs := c.args.map a.eval) (rt := o.type) ht h4 ho4 hR (by simpa using ht1) (by simpa using hv)
        refine eff_next ?_ hd hnext
        have e : (execOp a.eval o) = (do pure (.value (← Builtin.len_ c.argTypes o.type (c.args.map a.eval))) : Sem Next) := by
          simp [execOp, hop, resolve, hc, invoke, builtin]
        rw [e]
        exact eff_quiet hr h5 hrun hR2
      case max =>
        obtain ⟨as, has, l1, h1, ho1⟩ := evl_bind hr h ho
        match as, has, h1 with
        | [], has, h1 => exact (M.fail_eq (s := s) h1).elim
        | d1 :: ds, has, h1 =>
          obtain ⟨r, l2, l3, h2, h3, ho2, ho3⟩ := M.bindO h1 ho1
          cases hvs : c.args.toList.map a.eval with
          | nil => rw [hvs] at has; cases has
          | cons v vs =>
          rw [hvs] at has
          cases has with
          | cons k1 k2 =>
          obtain ⟨u, hrun, hu⟩ := minD_sim (P := P) (w := w) (m2 := Builtin.max2) (fun k x k' y => by simp [Builtin.max2]) h2 k1 k2 (fun _ => trivial)
          refine eff_next ?_ hd hnext
          have e : (execOp a.eval o) = (do pure (.value (← Builtin.max_ c.argTypes o.type (c.args.map a.eval))) : Sem Next) := by
            simp [execOp, hop, resolve, hc, invoke, builtin]
          rw [e]
          refine eff_quiet hr h3 ?_ hu
          have e2 : (c.args.map a.eval).toList = v :: vs := by simpa using hvs
          simp only [Builtin.max_, e2, hrun]
      case min =>
        obtain ⟨as, has, l1, h1, ho1⟩ := evl_bind hr h ho
        match as, has, h1 with
        | [], has, h1 => exact (M.fail_eq (s := s) h1).elim
        | d1 :: ds, has, h1 =>
          obtain ⟨r, l2, l3, h2, h3, ho2, ho3⟩ := M.bindO h1 ho1
          cases hvs : c.args.toList.map a.eval with
          | nil => rw [hvs] at has; cases has
          | cons v vs =>
          rw [hvs] at has
          cases has with
          | cons k1 k2 =>
          obtain ⟨u, hrun, hu⟩ := minD_sim (P := P) (w := w) (m2 := Builtin.min2) (fun k x k' y => by simp [Builtin.min2]) h2 k1 k2 (fun _ => trivial)
          refine eff_next ?_ hd hnext
          have e : (execOp a.eval o) = (do pure (.value (← Builtin.min_ c.argTypes o.type (c.args.map a.eval))) : Sem Next) := by
            simp [execOp, hop, resolve, hc, invoke, builtin]
          rw [e]
          refine eff_quiet hr h3 ?_ hu
          have e2 : (c.args.map a.eval).toList = v :: vs := by simpa using hvs
          simp only [Builtin.min_, e2, hrun]
end
end Go.Proofs.YtmhlgpdoedbedaaGreat.Sv
