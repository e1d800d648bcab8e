/- A call, as a whole. -/
import Derived.Test.YtmhlgpdoedbedaaGreatSvQ
namespace Go.Proofs.YtmhlgpdoedbedaaGreat.Sv
set_option linter.unusedVariables false
set_option linter.unusedSimpArgs false
open Go Go.RowKit
section
variable {P : Program} {ty : Ty} {n : Nat} {w0 : World} {S im0 bo im : Nat → Prop} {φ0 φ : Env} {s : St} {a : Act} {w : World}
/-- The caller's places behind a call. -/
def envN (φ φ'' : Env) (base : Nat) (H' : List (Nat × Option Blk)) : Env := fun nm =>
  if base ≤ nm ∧ nm < base + 8 ∧ (look H' (1000 + (nm - base))).isSome = true then φ'' (1000 + (nm - base)) else φ nm
theorem back_old {ρ : List Nat} {base k nm : Nat} (hk : k < 1000) (h : ρ[k]? = some nm) : back ρ base k = nm := by
  have : Nat.ble 1000 k = false := by
    cases hb : Nat.ble 1000 k with
    | false => rfl
    | true => exact absurd (Nat.le_of_ble_eq_true hb) (by omega)
  simp only [back, this, cond_false, List.getD_eq_getElem?_getD, h, Option.getD_some]
theorem back_new {ρ : List Nat} {base k : Nat} (hk : 1000 ≤ k) : back ρ base k = base + (k - 1000) := by
  simp only [back, Nat.ble_eq_true_of_le hk, cond_true]
theorem keptBlks_mem : ∀ {H : List (Nat × Option Blk)} {b : Nat} {k : Blk}, keptBlks H = true → (b, some k) ∈ H → (k.pure || kepts k.cs) = true
  | [], _, _, _, hm => by simp at hm
  | (j, none) :: H, b, k, hk, hm => keptBlks_mem (H := H) hk ((List.mem_cons.1 hm).resolve_left (by simp))
  | (j, some k') :: H, b, k, hk, hm => by
    simp only [keptBlks, Bool.and_eq_true] at hk
    rcases List.mem_cons.1 hm with e | hm
    · simp only [Prod.mk.injEq, Option.some.injEq] at e
      rw [e.2]
      exact hk.1
    · exact keptBlks_mem hk.2 hm
theorem after_call (hr : Rel n w0 S im0 bo φ0 im φ s a w) {ρ : List Nat} {base : Nat} {q : Bool} {bs : List (Nat × Blk)} {H' : List (Nat × Option Blk)} {r : D} {tu : Bool} {bo' : Nat → Prop} {im' : Nat → Prop} {φ'' : Env} {w' : World} {v : Value}
    (hbo : ∀ B, bo B → bo' B) (hkept : tu = true → r.kept = true ∧ keptBlks H' = true) (hbo2 : tu = false → ∀ B, bo' B → bo B) (hnd : nodupB ρ = true) (hρ : ρ.length < 100)
    (hfr : ∀ k x, (k, x) ∈ H' → (1000 ≤ k ∧ k < 1008 ∧ q = true ∧ s.slot (base + (k - 1000)) = none) ∨ (k < 1000 ∧ k < ρ.length)) (hall : ∀ (i nm : Nat), ρ[i]? = some nm → (look H' i).isSome = true) (hnd2 : nodupB (H'.map fun p => back ρ base p.1) = true)
    (hbs : ∀ B, Held (envOf ρ φ) (live bs) B → ∃ (i nm : Nat) (k : Blk) (b sz lim : Nat), ρ[i]? = some nm ∧ s.slot nm = some (some k) ∧ φ nm = some (.at_ B b sz lim)) (kk : Kept (Held (envOf ρ φ) (live bs)) w w') (i1 : ∀ b, im b → im' b) (i2 : ∀ b, im' b → im b ∨ Held (envOf ρ φ) (live bs) b ∨ w.heap.size ≤ b) (i3 : ∀ b, im' b → b < w'.heap.size)
    (e1 : ∀ b, b < 1000 → φ'' b = envOf ρ φ b) (e2 : ∀ b, 1000 ≤ b → look H' b = none → φ'' b = none) (own' : Own im' bo' φ'' w' (look H')) (hld : ∀ B, Held φ'' (look H') B → Held (envOf ρ φ) (live bs) B ∨ w.heap.size ≤ B) (hR : R im' w' bo' φ'' r v) :
    Rel n w0 S im0 bo φ0 im' (envN φ φ'' base H') (s.setH (H'.map fun p => (back ρ base p.1, p.2.map (Blk.map (back ρ base))))) a w' ∧ R im' w' bo (envN φ φ'' base H') (r.map (back ρ base)) v := by
  have fresh_none : ∀ nm, base ≤ nm ∧ nm < base + 8 ∧ (look H' (1000 + (nm - base))).isSome = true → s.slot nm = none ∧ φ nm = none := by
    rintro nm ⟨h1, h2, h3⟩
    obtain ⟨x, hx⟩ := Option.isSome_iff_exists.1 h3
    rcases hfr _ _ (look_mem hx) with ⟨_, _, _, h4⟩ | ⟨h4, _⟩
    · have e : base + (1000 + (nm - base) - 1000) = nm := by omega
      rw [e] at h4
      exact ⟨h4, hr.dom nm h4⟩
    · omega
  have hext : ∀ b p, φ b = some p → envN φ φ'' base H' b = some p := by
    intro b p h
    unfold envN
    split
    · rename_i hc; rw [(fresh_none b hc).2] at h; simp at h
    · exact h
  have hmap : ∀ b p, φ'' b = some p → envN φ φ'' base H' (back ρ base b) = some p := by
    intro b p h
    rcases Nat.lt_or_ge b 1000 with hb | hb
    · have h' := h
      rw [e1 b hb] at h'
      unfold envOf at h'
      cases hi : ρ[b]? with
      | none => rw [hi] at h'; simp at h'
      | some nm =>
        rw [hi] at h'
        rw [back_old hb hi]
        exact hext nm p h'
    · rw [back_new hb]
      cases hl : look H' b with
      | none => rw [e2 b hb hl] at h; simp at h
      | some x =>
        have h8 : b < 1008 := by
          rcases hfr _ _ (look_mem hl) with ⟨_, h2, _⟩ | ⟨h2, _⟩
          · exact h2
          · omega
        have e : 1000 + (base + (b - 1000) - base) = b := by omega
        unfold envN
        rw [if_pos ⟨by omega, by omega, by rw [e, hl]; rfl⟩, e]
        exact h
  have hold : ∀ b, im b ∨ bo b → w'.heap[b]? = w.heap[b]? := by
    intro b hb
    have hlt : b < w.heap.size := hb.elim (hr.imlt b) fun h => Nat.lt_of_lt_of_le (hr.base.lt b (.inr h)) hr.kept.size
    refine kk.block b hlt ?_
    intro hh
    obtain ⟨i, nm, k, b', sz, lim, _, h2, h3⟩ := hbs b hh
    exact hb.elim (hr.own.out _ _ _ _ _ _ h2 h3).1 (hr.own.out _ _ _ _ _ _ h2 h3).2
  -- blocks
  have hslot : ∀ nm k, (s.setH (H'.map fun p => (back ρ base p.1, p.2.map (Blk.map (back ρ base))))).slot nm = some (some k) →
      (∃ b kb, look H' b = some (some kb) ∧ nm = back ρ base b ∧ k = kb.map (back ρ base)) ∨ (s.slot nm = some (some k) ∧ nm ∉ ρ) := by
    intro nm k h
    rw [St.slot_setH] at h
    cases hl : look (H'.map fun p => (back ρ base p.1, p.2.map (Blk.map (back ρ base)))) nm with
    | some x =>
      rw [hl] at h
      simp only [Option.some_or, Option.some.injEq] at h
      obtain ⟨b, y, h1, rfl, h3⟩ := look_map_some (back ρ base) (Option.map (Blk.map (back ρ base))) hnd2 nm x hl
      rw [h] at h3
      cases y with
      | none => simp at h3
      | some kb => exact .inl ⟨b, kb, h1, rfl, by simpa using h3⟩
    | none =>
      rw [hl] at h
      simp only [Option.none_or] at h
      refine .inr ⟨h, fun hm => ?_⟩
      obtain ⟨i, hi⟩ := List.getElem?_of_mem hm
      have hi1 : i < ρ.length := by
        rcases Nat.lt_or_ge i ρ.length with h' | h'
        · exact h'
        · rw [List.getElem?_eq_none h'] at hi; simp at hi
      obtain ⟨x, hx⟩ := Option.isSome_iff_exists.1 (hall i nm hi)
      have := look_map (back ρ base) (Option.map (Blk.map (back ρ base))) hnd2 i x hx
      rw [back_old (by omega) hi, hl] at this
      simp at this
  have hnone : ∀ nm, (s.setH (H'.map fun p => (back ρ base p.1, p.2.map (Blk.map (back ρ base))))).slot nm = none → s.slot nm = none ∧ ∀ b x, look H' b = some x → nm ≠ back ρ base b := by
    intro nm h
    rw [St.slot_setH] at h
    cases hl : look (H'.map fun p => (back ρ base p.1, p.2.map (Blk.map (back ρ base)))) nm with
    | some x => rw [hl] at h; simp at h
    | none =>
      rw [hl] at h
      refine ⟨by simpa using h, ?_⟩
      rintro b x hx rfl
      have := look_map (back ρ base) (Option.map (Blk.map (back ρ base))) hnd2 b x hx
      rw [hl] at this
      simp at this
  have hplace : ∀ b kb B b0 sz lim, look H' b = some (some kb) → envN φ φ'' base H' (back ρ base b) = some (.at_ B b0 sz lim) → φ'' b = some (.at_ B b0 sz lim) := by
    intro b kb B b0 sz lim hb hp
    obtain ⟨pl, h1, _⟩ := own'.blk b kb hb
    rw [hmap b pl h1] at hp
    rw [h1, hp]
  have hunr : ∀ nm, nm ∉ ρ → ∀ k, s.slot nm = some (some k) → ∀ B b0 sz lim, φ nm = some (.at_ B b0 sz lim) → ¬ Held (envOf ρ φ) (live bs) B := by
    intro nm hn k hs B b0 sz lim hp hh
    obtain ⟨i, nm', k', b', sz', lim', h1, h2, h3⟩ := hbs B hh
    have := hr.own.inj _ _ _ _ _ _ _ _ _ _ _ hs h2 hp h3
    subst this
    exact hn (List.mem_of_getElem? h1)
  have hsame : ∀ nm k, s.slot nm = some (some k) → envN φ φ'' base H' nm = φ nm := by
    intro nm k hs
    unfold envN
    split
    · rename_i hc; rw [(fresh_none nm hc).1] at hs; simp at hs
    · rfl
  refine ⟨{ hr with tmp := ?_, own := ⟨?_, ?_, ?_⟩, kept := ?_, imlt := i3, imo := fun b h => i1 b (hr.imo b h), imn := ?_, owo := ?_, dom := ?_, arg := fun b p h => hext b p (hr.arg b p h) }, ?_⟩
  · exact fun t => (hr.tmp t).mono i1 hold (fun _ h => h) hext
  · intro nm k hs
    rcases hslot nm k hs with ⟨b, kb, h1, rfl, rfl⟩ | ⟨h1, h2⟩
    · obtain ⟨pl, h3, h4⟩ := own'.blk b kb h1
      refine ⟨pl, hmap b pl h3, ?_⟩
      cases pl with
      | nil =>
        have hc : kb.cs = [] := h4
        show (Blk.map (back ρ base) kb).cs = []
        unfold Blk.map
        cases hp : kb.pure <;> simp [hc, mapL]
      | at_ B b0 sz lim =>
        obtain ⟨c, el, fz, k1, k2, k3, k4, k5, k7, k6⟩ := h4
        have hlen : (Blk.map (back ρ base) kb).cs.length = kb.cs.length := by
          unfold Blk.map
          cases hp : kb.pure with
          | true => rfl
          | false =>
            simp only
            induction kb.cs with
            | nil => rfl
            | cons d ds ih => simp [mapL, ih]
        refine ⟨c, el, fz, k1, k2, by rw [hlen]; exact k3, k4, k5, by rw [hlen]; exact k7, ?_⟩
        rw [hlen]
        cases hp : kb.pure with
        | true =>
          simp only [hp, if_true] at k6
          simpa [Blk.map, hp] using k6
        | false =>
          simp only [hp, Bool.false_eq_true, if_false] at k6
          have k8 : Rs im' w' bo φ'' kb.cs ((c.toList.drop b0).take kb.cs.length) := by
            cases htu : tu with
            | false => exact k6.lend (hbo2 htu) (fun _ _ h => h)
            | true =>
              have hk := (hkept htu).2
              have hm := keptBlks_mem hk (look_mem h1)
              exact k6.unlend (by simpa [hp] using hm)
          have := k8.map hmap
          simpa [Blk.map, hp] using this
    · obtain ⟨pl, h3, h4⟩ := hr.own.blk nm k h1
      refine ⟨pl, hext nm pl h3, h4.mono i1 hold (fun _ h => h) hext fun B b0 sz lim e => ?_⟩
      subst e
      exact kk.block B (live_lt hr h1 h3) (hunr nm h2 k h1 B b0 sz lim h3)
  · intro nm k B b0 sz lim hs hp
    rcases hslot nm k hs with ⟨b, kb, h1, rfl, rfl⟩ | ⟨h1, h2⟩
    · obtain ⟨o1, o2⟩ := own'.out b kb B b0 sz lim h1 (hplace b kb B b0 sz lim h1 hp)
      exact ⟨o1, fun h => o2 (hbo B h)⟩
    · rw [hsame nm k h1] at hp
      obtain ⟨o1, o2⟩ := hr.own.out nm k B b0 sz lim h1 hp
      refine ⟨fun h => ?_, o2⟩
      rcases i2 B h with h | h | h
      · exact o1 h
      · exact hunr nm h2 k h1 B b0 sz lim hp h
      · have := live_lt hr h1 hp; omega
  · intro nm nm' k k' B b0 sz lim b0' sz' lim' hs hs' hp hp'
    have hh : ∀ b kb B b0 sz lim, look H' b = some (some kb) → φ'' b = some (.at_ B b0 sz lim) → Held (envOf ρ φ) (live bs) B ∨ w.heap.size ≤ B := fun b kb B b0 sz lim h1 h2 => hld B ⟨b, kb, b0, sz, lim, h1, h2⟩
    rcases hslot nm k hs with ⟨b, kb, h1, rfl, rfl⟩ | ⟨h1, h2⟩ <;> rcases hslot nm' k' hs' with ⟨c, kc, g1, rfl, rfl⟩ | ⟨g1, g2⟩
    · rw [own'.inj b c kb kc B b0 sz lim b0' sz' lim' h1 g1 (hplace b kb B b0 sz lim h1 hp) (hplace c kc B b0' sz' lim' g1 hp')]
    · rw [hsame nm' k' g1] at hp'
      rcases hh b kb B b0 sz lim h1 (hplace b kb B b0 sz lim h1 hp) with h | h
      · exact absurd h (hunr nm' g2 k' g1 B b0' sz' lim' hp')
      · have := live_lt hr g1 hp'; omega
    · rw [hsame nm k h1] at hp
      rcases hh c kc B b0' sz' lim' g1 (hplace c kc B b0' sz' lim' g1 hp') with h | h
      · exact absurd h (hunr nm h2 k h1 B b0 sz lim hp)
      · have := live_lt hr h1 hp; omega
    · rw [hsame nm k h1] at hp
      rw [hsame nm' k' g1] at hp'
      exact hr.own.inj _ _ _ _ _ _ _ _ _ _ _ h1 g1 hp hp'
  · refine ⟨kk.os.trans hr.kept.os, kk.tape.trans hr.kept.tape, kk.output.trans hr.kept.output, Nat.le_trans hr.kept.size kk.size, fun b h1 h2 => (kk.block b (Nat.lt_of_lt_of_le h1 hr.kept.size) ?_).trans (hr.kept.block b h1 h2)⟩
    intro hh
    obtain ⟨i, nm, k, b', sz, lim, _, g2, g3⟩ := hbs b hh
    rcases hr.owo _ _ _ _ _ _ g2 g3 with h | h
    · exact h2 h
    · omega
  · intro b h
    rcases i2 b h with h | h | h
    · exact hr.imn b h
    · obtain ⟨i, nm, k, b', sz, lim, _, g2, g3⟩ := hbs b h
      exact .inr (hr.owo _ _ _ _ _ _ g2 g3)
    · exact .inr (.inr (Nat.le_trans hr.kept.size h))
  · intro nm k B b0 sz lim hs hp
    rcases hslot nm k hs with ⟨b, kb, h1, rfl, rfl⟩ | ⟨h1, h2⟩
    · rcases hld B ⟨b, kb, b0, sz, lim, h1, hplace b kb B b0 sz lim h1 hp⟩ with h | h
      · obtain ⟨i, nm, k, b', sz, lim, _, g2, g3⟩ := hbs B h
        exact hr.owo _ _ _ _ _ _ g2 g3
      · exact .inr (Nat.le_trans hr.kept.size h)
    · rw [hsame nm k h1] at hp
      exact hr.owo _ _ _ _ _ _ h1 hp
  · intro nm hs
    obtain ⟨h1, h2⟩ := hnone nm hs
    unfold envN
    split
    · rename_i hc
      obtain ⟨x, hx⟩ := Option.isSome_iff_exists.1 hc.2.2
      have := h2 _ x hx
      rw [back_new (by omega)] at this
      exact absurd (by omega) this
    · exact hr.dom nm h1
  · refine R.map hmap ?_
    cases htu : tu with
    | false => exact hR.lend (hbo2 htu) (fun _ _ h => h)
    | true => exact hR.unlend (hkept htu).1
set_option maxRecDepth 20000 in
theorem callD_sim (hr : Rel n w0 S im0 bo φ0 im φ s a w) {o : Oper} {c : Call} {res : Out} {e : Eff} {l : Log} (hop : o.op = .call c) (h : callD P o c res s = some (e, l)) (ho : l.ok) (hd : ∀ t, o.dst = some t → t < n) {next : Act → World → Prop} {Q : Exit → Act → World → Prop}
    (hnext : ∀ a' w' im' φ', Rel n w0 S im0 bo φ0 im' φ' ((s.setH e.sets).setO o.dst e.val) a' w' → next a' w') : o.wp P a w next Q := by
  unfold callD at h
  cases hc : c.callee with
  | invoke _ _ => rw [hc] at h; exact (M.fail_eq (s := s) h).elim
  | builtin _ => rw [hc] at h; exact (M.fail_eq (s := s) h).elim
  | value x =>
  rw [hc] at h
  obtain ⟨fd, hfd, l1, h1, ho1⟩ := ev_bind hr h ho
  cases fd <;> first
    | exact (M.fail_eq (s := s) h1).elim
    | skip
  rename_i f caps
  obtain ⟨as, has, l2, h2, ho2⟩ := evl_bind hr h1 ho1
  obtain ⟨⟨bs, u⟩, l3, l4, h3, h4, ho3, ho4⟩ := M.bindO h2 ho2
  obtain ⟨⟨ds, t⟩, l5, l6, h5, h6, ho5, ho6⟩ := M.bindO h4 ho4
  obtain ⟨q1, l7, h7, ho7⟩ := test_bind h6 ho6
  obtain ⟨q2, l8, h8, ho8⟩ := test_bind h7 ho7
  obtain ⟨_, l9, l10, h9, h10, ho9, ho10⟩ := M.bindO h8 ho8
  obtain ⟨q3, l11, h11, ho11⟩ := test_bind h10 ho10
  obtain ⟨q4, l12, h12, ho12⟩ := test_bind h11 ho11
  obtain ⟨hcon, l13, h13, ho13⟩ := need_bind h12 ho12
  have he := pure_ok (s := s) h13
  subst he
  simp only [Bool.and_eq_true] at q2
  obtain ⟨cvs, hcv, hcs⟩ : ∃ cvs : List Value, a.eval x = .func (.func f) #[] cvs.toArray ∧ Rs im w bo φ caps cvs := by
    generalize a.eval x = v at hfd
    cases hfd with | fn k => exact ⟨_, rfl, k⟩
  have hfr := freshD_eq h9 ho9
  have hblk := handBlks_sim hr 60 h3 ho3
  have hargs := (hands_sim hr (fun _ h => h) 60 h5 ho5 (has.append hcs)).lend (boL_or1 (u := u)) (fun _ _ h => h)
  have hown := hand_own (t := t) hr q2.2 hblk
  obtain ⟨hent, hcalls⟩ := hcon
  have hlt : ∀ b, im b ∨ boL bo res.ρ φ s (t || u) b → b < w.heap.size := by
    rintro b (h | h | ⟨_, nm, k, b0, sz, lim, _, g1, g2⟩)
    · exact hr.imlt b h
    · exact Nat.lt_of_lt_of_le (hr.base.lt b (.inr h)) hr.kept.size
    · exact live_lt hr g1 g2
  have hdom : ∀ b, look bs b = none → envOf res.ρ φ b = none := by
    intro b hb
    unfold envOf
    cases hi : res.ρ[b]? with
    | none => rfl
    | some nm =>
      obtain ⟨k, hk⟩ := handBlks_has 60 h3 b nm hi
      rw [Nat.zero_add] at hk
      obtain ⟨x, hx⟩ := mem_look hk
      rw [hx] at hb
      exact absurd hb (Option.some_ne_none _)
  have hcall := hcalls im (boL bo res.ρ φ s (t || u)) (envOf res.ρ φ) w _ hlt hdom hown hargs
  show o.upon P a next Q ((execOp a.eval o).run P w)
  rw [run_call hop hc hcv hent, Oper.upon_enter]
  refine hcall.mono ?_
  rintro e w' ⟨v, im', φ'', rfl, kk, i1, i2, i3, e1, e2, own', hld, hR⟩
  have hbs : ∀ B, Held (envOf res.ρ φ) (live bs) B → ∃ (i nm : Nat) (k : Blk) (b sz lim : Nat), res.ρ[i]? = some nm ∧ s.slot nm = some (some k) ∧ φ nm = some (.at_ B b sz lim) := by
    rintro B ⟨b, k, b0, sz, lim, g1, g2⟩
    obtain ⟨i, nm, e, g3, blk, g4, _⟩ := hblk b k (live_some g1)
    rw [Nat.zero_add] at e
    subst e
    refine ⟨b, nm, blk, b0, sz, lim, g3, g4, ?_⟩
    simpa [envOf, g3] using g2
  have hall : ∀ (i nm : Nat), res.ρ[i]? = some nm → (look res.H i).isSome = true := by
    intro i nm hi
    obtain ⟨b, hb⟩ := handBlks_has 60 h3 i nm hi
    rw [Nat.zero_add] at hb
    exact List.all_eq_true.1 q4 _ hb
  obtain ⟨hrel, hres⟩ := after_call (tu := t || u) hr (fun B h => .inl h) (by
      intro htu
      rw [htu] at q1
      simpa using q1) (by
      intro htu B hB
      rcases hB with hB | ⟨hB, _⟩
      · exact hB
      · rw [htu] at hB; simp at hB) q2.2 (by have := Nat.le_of_ble_eq_true q2.1; omega) hfr hall q3 hbs kk i1 i2 i3 e1 e2 own' hld hR
  exact hnext _ _ _ _ (hrel.setO hres hd)
end
end Go.Proofs.YtmhlgpdoedbedaaGreat.Sv
