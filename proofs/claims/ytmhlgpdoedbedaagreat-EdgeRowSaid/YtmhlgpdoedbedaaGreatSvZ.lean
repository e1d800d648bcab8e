/- What a function is said to do, out of its body. -/
import Derived.Test.YtmhlgpdoedbedaaGreatSvY
namespace Go.Proofs.YtmhlgpdoedbedaaGreat.Sv
set_option linter.unusedVariables false
set_option linter.unusedSimpArgs false
open Go Go.RowKit
mutual
theorem R.unmap {im bo : Nat → Prop} {w : World} {φ φ' : Env} {ρ : Nat → Nat} {ks : List Nat} (hp : ∀ b, b ∈ ks → φ' b = φ (ρ b)) : ∀ (d : D) {v : Value}, R im w bo φ (d.map ρ) v → d.inn ks = true → R im w bo φ' d v
  | .undef, v, _, _ => .undef v
  | .bool b, v, h, _ => by cases h; exact .bool _
  | .int k n, v, h, _ => by cases h; exact .int _ _
  | .str s, v, h, _ => by cases h; exact .str _
  | .agg cs, v, h, k => by cases h with | agg o h' => exact .agg o (Rs.unmap hp cs h' k)
  | .tup cs, v, h, k => by cases h with | tup h' => exact .tup (Rs.unmap hp cs h' k)
  | .nilp, v, h, _ => by cases h; exact .nilp
  | .ptr b off, v, h, k => by cases h with | ptr h' => exact .ptr ((hp _ (mem_iff.1 k)).trans h')
  | .ip g cs, v, h, _ => by cases h with | ip h1 h2 h3 o h4 => exact .ip h1 h2 h3 o h4
  | .nils, v, h, _ => by cases h; exact .nils
  | .z0, v, h, _ => by cases h; exact .z0 _
  | .e0, v, h, _ => by cases h; exact .e0 _ _
  | .sl g cs len cap, v, h, _ => by
    cases h with
    | sl0 a c h => exact .sl0 a c h
    | sl h1 h2 h3 h4 o h5 => exact .sl h1 h2 h3 h4 o h5
  | .ref b off len cap, v, h, k => by
    cases h with
    | ref0 a h' => exact .ref0 a ((hp _ (mem_iff.1 k)).trans h')
    | refz a h' => exact .refz a ((hp _ (mem_iff.1 k)).trans h')
    | ref h1 h2 h3 => exact .ref ((hp _ (mem_iff.1 k)).trans h1) h2 h3
  | .fn f cs, v, h, k => by cases h with | fn h' => exact .fn (Rs.unmap hp cs h' k)
  | .nilf, v, h, _ => by cases h; exact .nilf
theorem Rs.unmap {im bo : Nat → Prop} {w : World} {φ φ' : Env} {ρ : Nat → Nat} {ks : List Nat} (hp : ∀ b, b ∈ ks → φ' b = φ (ρ b)) : ∀ (ds : List D) {vs : List Value}, Rs im w bo φ (mapL ρ ds) vs → inns ks ds = true → Rs im w bo φ' ds vs
  | [], vs, h, _ => by cases h; exact .nil
  | d :: ds, vs, h, k => by
    cases h with
    | cons h1 h2 => exact .cons (R.unmap hp d h1 ((Bool.and_eq_true _ _).mp k).1) (Rs.unmap hp ds h2 ((Bool.and_eq_true _ _).mp k).2)
end
theorem BlkAt.unmap {im bo : Nat → Prop} {φ φ' : Env} {w : World} {blk : Blk} {pl : Pl} {ρ : Nat → Nat} {ks : List Nat} (hp : ∀ b, b ∈ ks → φ' b = φ (ρ b)) (h : BlkAt im bo φ w (blk.map ρ) pl) (hk : (blk.pure || inns ks blk.cs) = true) : BlkAt im bo φ' w blk pl := by
  cases pl with
  | nil =>
    have hc : (blk.map ρ).cs = [] := h
    show blk.cs = []
    exact List.eq_nil_of_length_eq_zero (by rw [← Blk.map_len ρ, hc]; rfl)
  | at_ B base sz lim =>
    obtain ⟨c, el, fz, k1, k2, k3, k4, k5, k7, k6⟩ := h
    rw [Blk.map_len] at k3 k7 k6
    refine ⟨c, el, fz, k1, k2, k3, k4, k5, k7, ?_⟩
    cases hpu : blk.pure with
    | true =>
      simp only [Blk.map, hpu, if_true] at k6
      simpa using k6
    | false =>
      simp only [Blk.map, hpu, Bool.false_eq_true, if_false] at k6
      simpa using Rs.unmap hp _ k6 (by simpa [hpu] using hk)
/-- Names of a result, as the body has them. -/
def ren (l : List (Nat × Nat)) (b : Nat) : Nat := (look l b).getD b
/-- The end fits what was said. -/
structure FinOk (H : List (Nat × Blk)) (r : D) (H' : List (Nat × Option Blk)) (l : List (Nat × Nat)) (s : St) : Prop where
  keys : (H'.all fun p => bif Nat.ble 1000 p.1 then true else (look H p.1).isSome) = true
  lkeys : (l.all fun p => Nat.ble 1000 p.1) = true
  nodup : nodupB (H'.map fun p => ren l p.1) = true
  slots : (H'.map fun p => s.slot (ren l p.1)) = H'.map fun p => some (p.2.map (Blk.map (ren l)))
  names : (r.inn (H'.map (·.1)) && H'.all fun p => match p.2 with | some b => b.pure || inns (H'.map (·.1)) b.cs | none => true) = true
def Cx.Fin (c : Cx) (H : List (Nat × Blk)) (r : D) (H' : List (Nat × Option Blk)) : Prop :=
  ∀ im φ a w s v l, c.Rel im φ s a w → Sv.R im w c.bo φ (r.map (ren l)) v → FinOk H r H' l s → c.R (.returned v) w
def st0 (ds : List D) (H : List (Nat × Blk)) : St := { T := ds.zipIdx.map fun p => (p.2, p.1), H := H.map fun p => (p.1, some p.2) }
theorem st0_tmp : ∀ (ds : List D) (k t : Nat), (look ((ds.zipIdx k).map fun p => (p.2, p.1)) t).getD .undef = if k ≤ t then ds.getD (t - k) .undef else .undef
  | [], k, t => by simp [look]
  | d :: ds, k, t => by
    rw [List.zipIdx_cons, List.map_cons, look_cons]
    by_cases h : k = t
    · subst h; simp
    · rw [if_neg h, st0_tmp ds (k + 1) t]
      by_cases h1 : k + 1 ≤ t
      · rw [if_pos h1, if_pos (by omega), show t - k = (t - (k + 1)) + 1 by omega]
        simp
      · rw [if_neg h1, if_neg (by omega)]
theorem look_some (H : List (Nat × Blk)) (b : Nat) : look (H.map fun p => (p.1, some p.2)) b = live H b := by
  unfold live
  induction H with
  | nil => rfl
  | cons p H ih =>
    obtain ⟨k, x⟩ := p
    rw [List.map_cons, look_cons, look_cons]
    split
    · rfl
    · exact ih
theorem calls_of_goes {c : Cx} {P : Program} {f : FuncId} {fn : Func} {body : Code} (hf : P.funcs[f]? = some fn) (hb : fn.body = some body) {s : St} (h : c.Goes [.code body] s) (hP : c.P = P) (hfc : c.f = f) (im : Nat → Prop) (φ : Env) (w : World) (vs : List Value)
    (hr : c.Rel im φ s { tmps := vs.toArray ++ Array.replicate (fn.ntmps - vs.toArray.size) Go.undef, defers := [] } w) : Calls P f vs.toArray w c.R := by
  subst hP
  subst hfc
  intro cs
  have henter : Frame.enter c.P c.f vs.toArray .normal = ({ (default : Frame) with fn := c.f, kind := .normal } : Frame).at { tmps := vs.toArray ++ Array.replicate (fn.ntmps - vs.toArray.size) Go.undef, defers := [] } [.code body] := by
    simp [Frame.enter, Frame.at, hf, hb]
  obtain ⟨e, w', fr, h1, h2, h3, h4⟩ := h im φ _ w hr { (default : Frame) with fn := c.f, kind := .normal } cs rfl rfl
  rw [henter]
  exact ⟨e, w', fr, h1, h2, h3, h4⟩
theorem con_intro {P : Program} {ty : Ty} {f : FuncId} {fn : Func} {body : Code} {ds : List D} {H : List (Nat × Blk)} {r : D} {H' : List (Nat × Option Blk)} (ok : TyOk P ty) (mix : P.follows .mixedOrders = true) (hf : P.funcs[f]? = some fn) (hb : fn.body = some body)
    (hname : (fn.name == "runtime.NumGoroutine") = false) (hk : (H.all fun p => Nat.ble (p.1 + 1) 100) = true) (hn : ds.length ≤ fn.ntmps)
    (h : ∀ c : Cx, c.P = P → c.ty = ty → c.f = f → c.n = fn.ntmps → c.Fin H r H' → c.Goes [.code body] (st0 ds H)) : Con P f ds H r H' := by
  refine ⟨⟨fn, hf, by rw [hb]; rfl, hname⟩, ?_⟩
  intro im bo φ w vs hlt hdom hown hargs
  have hkeys : ∀ b, (look H b).isSome = true → b < 100 := by
    intro b hs
    obtain ⟨x, hx⟩ := Option.isSome_iff_exists.1 hs
    exact Nat.le_of_ble_eq_true (List.all_eq_true.1 hk _ (look_mem hx))
  have ha0 : ∀ b p, φ b = some p → b < 100 := by
    intro b p hp
    cases hl : look H b with
    | none => rw [hdom b hl] at hp; simp at hp
    | some x => exact hkeys b (by rw [hl]; rfl)
  let c : Cx := Cx.mk P ty f fn.ntmps w (Held φ (live H)) im bo φ (fun e w' => ∃ v im' φ', e = .returned v ∧ Kept (Held φ (live H)) w w' ∧
      (∀ b, im b → im' b) ∧ (∀ b, im' b → im b ∨ Held φ (live H) b ∨ w.heap.size ≤ b) ∧ (∀ b, im' b → b < w'.heap.size) ∧
      (∀ b, b < 1000 → φ' b = φ b) ∧ (∀ b, 1000 ≤ b → look H' b = none → φ' b = none) ∧
      Own im' bo φ' w' (look H') ∧ (∀ B, Held φ' (look H') B → Held φ (live H) B ∨ w.heap.size ≤ B) ∧ R im' w' bo φ' r v) ok mix ha0
  have hfin : c.Fin H r H' := by
    intro im' φe a w' s v l hr hR fo
    have hren : ∀ b, b < 1000 → ren l b = b := by
      intro b hb
      unfold ren
      cases hl : look l b with
      | none => rfl
      | some x =>
        have := Nat.le_of_ble_eq_true (List.all_eq_true.1 fo.lkeys _ (look_mem hl))
        simp only at this
        omega
    have hkey : ∀ b x, look H' b = some x → b < 1000 → (look H b).isSome = true := by
      intro b x hx hb
      have := List.all_eq_true.1 fo.keys _ (look_mem hx)
      simp only at this
      cases hbl : Nat.ble 1000 b with
      | true => exact absurd (Nat.le_of_ble_eq_true hbl) (by omega)
      | false => rw [hbl] at this; exact this
    let φ' : Env := fun b => if b < 1000 then φ b else if (look H' b).isSome then φe (ren l b) else none
    have hφ : ∀ b, b ∈ H'.map (·.1) → φ' b = φe (ren l b) := by
      intro b hb
      obtain ⟨⟨b', x0⟩, hm, rfl⟩ := List.mem_map.1 hb
      obtain ⟨x, hx⟩ := mem_look hm
      simp only
      show (if b' < 1000 then φ b' else if (look H' b').isSome then φe (ren l b') else none) = _
      split
      · rename_i hlt'
        rw [hren b' hlt']
        obtain ⟨y, hy⟩ := Option.isSome_iff_exists.1 (hkey b' x hx hlt')
        obtain ⟨pl, hpl, _⟩ := hown.blk b' y (by simp [live, hy])
        rw [hpl]
        exact (hr.arg b' pl hpl).symm
      · rw [hx]; rfl
    have hsl : ∀ b x, look H' b = some x → s.slot (ren l b) = some (x.map (Blk.map (ren l))) := by
      intro b x hx
      obtain ⟨i, hi⟩ := List.getElem?_of_mem (look_mem hx)
      have := congrArg (·[i]?) fo.slots
      simp only [List.getElem?_map, hi, Option.map_some, Option.some.injEq] at this
      exact this
    have hnm := fo.names
    simp only [Bool.and_eq_true] at hnm
    have hinj : ∀ b b' x x', look H' b = some x → look H' b' = some x' → ren l b = ren l b' → b = b' := by
      intro b b' x x' hx hx' e
      have hnd := fo.nodup
      obtain ⟨i, hi⟩ := List.getElem?_of_mem (look_mem hx)
      obtain ⟨j, hj⟩ := List.getElem?_of_mem (look_mem hx')
      have := nodupB_get hnd (i := i) (j := j) (n := ren l b) (by rw [List.getElem?_map, hi]; rfl) (by rw [List.getElem?_map, hj, e]; rfl)
      subst this
      rw [hi] at hj
      simp only [Option.some.injEq, Prod.mk.injEq] at hj
      exact hj.1
    have hmem : ∀ b x, look H' b = some x → b ∈ H'.map (·.1) := fun b x hx => List.mem_map.2 ⟨_, look_mem hx, rfl⟩
    refine ⟨v, im', φ', rfl, hr.kept, hr.imo, hr.imn, hr.imlt, ?_, ?_, ⟨?_, ?_, ?_⟩, ?_, ?_⟩
    · intro b hb
      show (if b < 1000 then φ b else _) = _
      rw [if_pos hb]
    · intro b hb hl
      show (if b < 1000 then φ b else if (look H' b).isSome then φe (ren l b) else none) = none
      rw [if_neg (by omega), hl]
      rfl
    · intro b k hb
      obtain ⟨pl, h1, h2⟩ := hr.own.blk _ _ (hsl b _ hb)
      refine ⟨pl, (hφ b (hmem b _ hb)).trans h1, h2.unmap hφ ?_⟩
      have := List.all_eq_true.1 hnm.2 _ (look_mem hb)
      exact this
    · intro b k B base sz lim hb hp
      rw [hφ b (hmem b _ hb)] at hp
      exact hr.own.out _ _ _ _ _ _ (hsl b _ hb) hp
    · intro b b' k k' B b1 s1 l1 b2 s2 l2 hb hb' hp hp'
      rw [hφ b (hmem b _ hb)] at hp
      rw [hφ b' (hmem b' _ hb')] at hp'
      exact hinj b b' _ _ hb hb' (hr.own.inj _ _ _ _ _ _ _ _ _ _ _ (hsl b _ hb) (hsl b' _ hb') hp hp')
    · rintro B ⟨b, k, base, sz, lim, hb, hp⟩
      rw [hφ b (hmem b _ hb)] at hp
      exact hr.owo _ _ _ _ _ _ (hsl b _ hb) hp
    · exact R.unmap hφ r hR hnm.1
  refine calls_of_goes hf hb (h c rfl rfl rfl rfl hfin) rfl rfl im φ w vs ?_
  have hlen := hargs.length
  have hsize : (vs.toArray ++ Array.replicate (fn.ntmps - vs.toArray.size) Go.undef).size = fn.ntmps := by
    simp
    omega
  refine { base := ⟨hlt, ?_⟩, size := hsize, defers := rfl, tmp := ?_, own := ?_, kept := ⟨rfl, rfl, rfl, Nat.le_refl _, fun _ _ _ => rfl⟩, imlt := fun b h => hlt b (.inl h), imo := fun _ h => h, imn := fun _ h => .inl h, owo := ?_, dom := ?_, arg := fun _ _ h => h }
  · rintro b hb ⟨b', k, base, sz, lim, h1, h2⟩
    have := hown.out _ _ _ _ _ _ h1 h2
    exact hb.elim this.1 this.2
  · intro t
    unfold St.tmp st0
    rw [st0_tmp ds 0 t, if_pos (Nat.zero_le _), Nat.sub_zero]
    rw [List.getD_eq_getElem?_getD]
    cases hd : ds[t]? with
    | none => exact .undef _
    | some d =>
      obtain ⟨v, hv, hR⟩ := hargs.get hd
      have hlt' : t < vs.length := by
        rcases Nat.lt_or_ge t vs.length with h' | h'
        · exact h'
        · rw [List.getElem?_eq_none h'] at hv; simp at hv
      have e : (vs.toArray ++ Array.replicate (fn.ntmps - vs.toArray.size) Go.undef).getD t Go.undef = v := by
        rw [Array.getD_eq_getD_getElem?, Array.getElem?_append_left (by simpa using hlt')]
        simp [hv]
      show R im w bo φ d _
      rw [e]
      exact hR
  · have e : (st0 ds H).slot = live H := by
      funext b
      exact look_some H b
    rw [e]
    exact hown
  · intro b k B base sz lim hb hp
    have e : (st0 ds H).slot b = live H b := look_some H b
    rw [e] at hb
    exact .inl ⟨b, k, base, sz, lim, hb, hp⟩
  · intro b hb
    have e : (st0 ds H).slot b = live H b := look_some H b
    rw [e] at hb
    apply hdom
    unfold live at hb
    cases hl : look H b with
    | none => rfl
    | some x => rw [hl] at hb; simp at hb
/-- The end. -/
theorem Cx.Goes.ret {c : Cx} {K : List Item} {s : St} {fn : Func} {H : List (Nat × Blk)} {r : D} {H' : List (Nat × Option Blk)} (hfin : c.Fin H r H') (l : List (Nat × Nat)) (hf : c.P.funcs[c.f]? = some fn) (hK : K = [] ∨ ∃ k, K = .code .ret :: k) {ds : List D} {lg : Log}
    (h : resD c.ty fn.results.toList s = some (ds, lg)) (ho : allP lg.o) (e : oneD ds = r.map (ren l)) (fo : FinOk H r H' l s) : c.Goes K s :=
  Cx.Goes.ret0 hf hK h (fun p hp => allP_mem ho p hp) fun im φ a w v hr hR => hfin im φ a w s v l hr (e ▸ hR) fo
end Go.Proofs.YtmhlgpdoedbedaaGreat.Sv
