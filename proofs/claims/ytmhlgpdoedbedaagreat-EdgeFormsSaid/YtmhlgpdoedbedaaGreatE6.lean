/- Plain laws: the same edge; what was put is found. -/
import Derived.Test.YtmhlgpdoedbedaaGreatE4
import Derived.Test.YtmhlgpdoedbedaaGreatBd
namespace Go.Proofs.YtmhlgpdoedbedaaGreat.Pu
set_option linter.unusedSimpArgs false
set_option linter.unusedVariables false
open Go Go.RowKit Go.Proofs.YtmhlgpdoedbedaaGreat.Sv Go.Proofs.YtmhlgpdoedbedaaGreat.Lf
set_option maxRecDepth 100000 in
theorem awake19 : L_law19_awake 281474976710656 = some true := by decide +kernel
theorem bdE {e : GEdge} (h : Bd_GEdge e) : BdE e := ⟨⟨h.1.1, fun y hy => (h.1.2 y hy).1⟩, h.2.1, h.2.2.2.1⟩
theorem tlB (a : ByteArray) : (a.toList == a.toList) = true := by rw [beq_iff_eq]
theorem beqI (a : Int) : (a == a) = true := by rw [beq_iff_eq]
theorem beqB (a : Bool) : (a == a) = true := by cases a <;> rfl
theorem SameBacks_loop (N : Nat) (T : List GBack) (hT : T.length ≤ 100) : ∀ (d fuel i : Nat), T.length = i + d → d < fuel → L_law0_SameBacks_1 N fuel T T (i : Int) = some true := by
  intro d
  induction d with
  | zero =>
    intro fuel i hi hf
    obtain ⟨fuel, rfl⟩ : ∃ f, fuel = f + 1 := ⟨fuel - 1, by omega⟩
    rw [L_law0_SameBacks_1]
    exact stDF (by omega) rfl
  | succ d ih =>
    intro fuel i hi hf
    obtain ⟨fuel, rfl⟩ : ∃ f, fuel = f + 1 := ⟨fuel - 1, by omega⟩
    rw [L_law0_SameBacks_1, w64 (n := (i : Int) + 1) (by omega) (by omega)]
    refine stDT (by omega) (stIf (by omega) (stIf (by omega) ?_))
    simp only [beqI, beqB, Bool.and_true, Bool.not_true, cond_false]
    exact ih fuel (i + 1) (by omega) (by omega)
theorem SameBacks_eq {N : Nat} (hN : 1000 ≤ N) {T : List GBack} (hT : T.length ≤ 100) : L_law0_SameBacks N T T = some true := by
  unfold L_law0_SameBacks
  exact stNT rfl (SameBacks_loop N T hT T.length N 0 (by omega) (by omega))
theorem SameHealths_loop (N : Nat) (T : List GHealth) (hT : T.length ≤ 100) : ∀ (d fuel i : Nat), T.length = i + d → d < fuel → L_law0_SameHealths_1 N fuel T T (i : Int) = some true := by
  intro d
  induction d with
  | zero =>
    intro fuel i hi hf
    obtain ⟨fuel, rfl⟩ : ∃ f, fuel = f + 1 := ⟨fuel - 1, by omega⟩
    rw [L_law0_SameHealths_1]
    exact stDF (by omega) rfl
  | succ d ih =>
    intro fuel i hi hf
    obtain ⟨fuel, rfl⟩ : ∃ f, fuel = f + 1 := ⟨fuel - 1, by omega⟩
    rw [L_law0_SameHealths_1, w64 (n := (i : Int) + 1) (by omega) (by omega)]
    refine stDT (by omega) (stIf (by omega) (stIf (by omega) ?_))
    simp only [beqI, beqB, Bool.and_true, Bool.not_true, cond_false]
    exact ih fuel (i + 1) (by omega) (by omega)
theorem SameEntrys_loop (N : Nat) (T : List GEntry) (hT : T.length ≤ 100) : ∀ (d fuel i : Nat), T.length = i + d → d < fuel → L_law0_SameEntrys_1 N fuel T T (i : Int) = some true := by
  intro d
  induction d with
  | zero =>
    intro fuel i hi hf
    obtain ⟨fuel, rfl⟩ : ∃ f, fuel = f + 1 := ⟨fuel - 1, by omega⟩
    rw [L_law0_SameEntrys_1]
    exact stDF (by omega) rfl
  | succ d ih =>
    intro fuel i hi hf
    obtain ⟨fuel, rfl⟩ : ∃ f, fuel = f + 1 := ⟨fuel - 1, by omega⟩
    rw [L_law0_SameEntrys_1, w64 (n := (i : Int) + 1) (by omega) (by omega)]
    refine stDT (by omega) (stIf (by omega) (stIf (by omega) ?_))
    simp only [beqI, beqB, Bool.and_true, Bool.not_true, cond_false]
    exact ih fuel (i + 1) (by omega) (by omega)
theorem SameSites_loop {N : Nat} (hN : 1000 ≤ N) (v : Int) (T : List GSite) (hT : T.length ≤ 100) (hb : ∀ y ∈ T, y.Backs.length ≤ 100) : ∀ (d fuel i : Nat), T.length = i + d → d < fuel → L_law0_SameConfig_2 N fuel v T v T (i : Int) = some true := by
  intro d
  induction d with
  | zero =>
    intro fuel i hi hf
    obtain ⟨fuel, rfl⟩ : ∃ f, fuel = f + 1 := ⟨fuel - 1, by omega⟩
    rw [L_law0_SameConfig_2]
    exact stDF (by omega) rfl
  | succ d ih =>
    intro fuel i hi hf
    obtain ⟨fuel, rfl⟩ : ∃ f, fuel = f + 1 := ⟨fuel - 1, by omega⟩
    have hil : i < T.length := by omega
    rw [L_law0_SameConfig_2, Int.toNat_natCast]
    unfold L_law0_SameConfig_3
    rw [w64 (n := (i : Int) + 1) (by omega) (by omega)]
    refine stDT (by omega) (stIf (by omega) (stIf (by omega) (stNT rfl ?_)))
    rw [beqB]
    refine stNTT (stNT rfl (stB (SameBacks_eq hN (hb _ (getD_mem hil))) (stNTT ?_)))
    exact ih fuel (i + 1) (by omega) (by omega)
theorem SameEdge_eq {N : Nat} (hN : 1000 ≤ N) {e : GEdge} (h : EdgeOk e) : L_law0_SameEdge N e e = some true := by
  obtain ⟨s1, s2⟩ := confOk_small h.conf
  have s3 := hsOk_len h.hs
  have s4 := ((cacheOk_iff _).1 h.cache).2.2
  have c1 : L_law0_SameConfig N e.Config e.Config = some true := by
    unfold L_law0_SameConfig L_law0_SameConfig_1
    refine stNT rfl ?_
    rw [show ((e.Config.Sites.length : Int) != (e.Config.Sites.length : Int)) = false by simp]
    exact stFF (SameSites_loop hN _ _ (by omega) (fun y hy => by have := (s2 y hy).2; omega) e.Config.Sites.length N 0 (by omega) (by omega))
  have c2 : L_law0_SameHealths N e.Health e.Health = some true := by
    unfold L_law0_SameHealths
    exact stNT rfl (SameHealths_loop N _ (by omega) e.Health.length N 0 (by omega) (by omega))
  have c3 : L_law0_SameEntrys N e.Flows e.Flows = some true := by
    unfold L_law0_SameEntrys
    exact stNT rfl (SameEntrys_loop N _ (by omega) e.Flows.length N 0 (by omega) (by omega))
  unfold L_law0_SameEdge L_law0_SameEdge_1
  exact stET rfl (stB c1 (stTT (stB c2 (stTT (stB c3 rfl)))))
theorem put_mem {es : List GEntry} {x y : GEntry} (h : y ∈ (putE es x).1) : y ∈ es ∨ y = x := by
  have hs : y ∈ rest es x.Flow ++ [x] := by
    unfold putE at h
    split at h
    · exact List.mem_of_mem_drop h
    · exact h
  rcases List.mem_append.1 hs with h | h
  · exact .inl (List.mem_filter.1 h).1
  · exact .inr (List.mem_singleton.1 h)
theorem put_last {es : List GEntry} {x : GEntry} : x ∈ (putE es x).1 := by
  unfold putE
  split
  · rename_i c
    show x ∈ List.drop 1 (rest es x.Flow ++ [x])
    rw [List.drop_append_of_le_length (by omega)]
    exact List.mem_append.2 (.inr (List.mem_singleton.2 rfl))
  · exact List.mem_append.2 (.inr (List.mem_singleton.2 rfl))
theorem find_of_mem {es : List GEntry} (h : cacheOk es = true) {x : GEntry} (hx : x ∈ es) {now : Int} (hr : ranE x now = false) : findE es x.Flow now = (x, true) := by
  obtain ⟨h1, h2, h3⟩ := (cacheOk_iff es).1 h
  obtain ⟨i, hi, rfl⟩ := List.getElem_of_mem hx
  have ha : at_ es[i].Flow es 0 = ((0 + i : Nat) : Int) := at_is _ es 0 i hi (by rw [getD_el hi]; exact eqF_rfl _) (fun j hj => by
    rw [← Bool.not_eq_true, eqF_iff, getD_el (show j < es.length by omega)]
    exact List.pairwise_iff_getElem.1 h2 j i (by omega) hi hj)
  unfold findE
  rw [ha, if_neg (by omega), show (((0 + i : Nat) : Int)).toNat = i by omega, getD_el hi, hr, if_neg (by decide)]
theorem rest_one {es : List GEntry} (h : Apart es) {x : GEntry} (hx : x ∈ es) : (rest es x.Flow).length + 1 = es.length := by
  unfold rest
  induction es with
  | nil => simp at hx
  | cons e es ih =>
    have hp := List.pairwise_cons.1 h
    rcases List.mem_cons.1 hx with rfl | hx
    · have hall : (es.filter fun y => !eqF y.Flow x.Flow) = es := by
        rw [List.filter_eq_self]
        intro y hy
        have := hp.1 y hy
        rw [Bool.not_eq_true', ← Bool.not_eq_true, eqF_iff]
        exact fun e => this e.symm
      rw [List.filter_cons_of_neg (by rw [eqF_rfl]; decide), hall, List.length_cons]
    · have hne := hp.1 x hx
      have : eqF e.Flow x.Flow = false := by rw [← Bool.not_eq_true, eqF_iff]; exact hne
      rw [List.filter_cons_of_pos (by rw [this]; rfl), List.length_cons, List.length_cons, ih hp.2 hx]
theorem pin_up {e : GEdge} (h : EdgeOk e) {f : GFlow} {now : Int} {x : GEntry} (hp : Pin e f now x true) : (0 ≤ x.To ∧ x.To < (e.Config.Sites.length : Int)) ∧ (e.Health.getD x.To.toNat default).Up = true := by
  cases hp with
  | old hh =>
    unfold holds at hh
    simp only [Bool.and_eq_true, decide_eq_true_eq] at hh
    exact hh.2
  | new hh hc =>
    obtain ⟨j, h1, h2, h3⟩ := cand_mem _ _ _ _ hc
    rw [h2]
    unfold candIs at h3
    simp only [Bool.and_eq_true] at h3
    refine ⟨⟨by show (0:Int) ≤ ((0 + j : Nat) : Int); omega, by show ((0 + j : Nat) : Int) < _; omega⟩, ?_⟩
    show (e.Health.getD (((0 + j : Nat) : Int)).toNat default).Up = true
    rw [Int.toNat_natCast]
    exact h3.1
def usedE (f : GFlow) (x : GEntry) (p now : Int) : GEntry := ⟨f, x.To, false, p, now⟩
def thenE (e : GEdge) (u : GEntry) : GEdge := ⟨e.Id, e.Config, e.Health, (putE e.Flows u).1⟩
theorem then_ok {e : GEdge} (h : EdgeOk e) {f : GFlow} {x : GEntry} (hx : Fits e f x) {p now : Int} (hp : 0 ≤ p ∧ p ≤ 2) (hn : timeOk now = true) : EdgeOk (thenE e (usedE f x p now)) := by
  refine ⟨fun y hy => ?_, h.id, h.conf, h.hs, put_ok h.cache (used_ok hx hp hn)⟩
  rcases put_mem hy with hy | rfl
  · exact h.pin y hy
  · exact ⟨rfl, hx.to_⟩
theorem ok_bd {e : GEdge} (h : EdgeOk e) : BdE e := by
  obtain ⟨s1, s2⟩ := confOk_small h.conf
  have s3 := hsOk_len h.hs
  have s4 := ((cacheOk_iff _).1 h.cache).2.2
  exact ⟨⟨by omega, fun y hy => by have := (s2 y hy).2; omega⟩, by omega, by omega⟩
end Go.Proofs.YtmhlgpdoedbedaaGreat.Pu
