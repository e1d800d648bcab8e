/- Plain laws: what an edge does. -/
import Derived.Test.YtmhlgpdoedbedaaGreatE3
namespace Go.Proofs.YtmhlgpdoedbedaaGreat.Pu
set_option linter.unusedSimpArgs false
set_option linter.unusedVariables false
open Go Go.RowKit Go.Proofs.YtmhlgpdoedbedaaGreat.Sv Go.Proofs.YtmhlgpdoedbedaaGreat.Lf
theorem getI_src (s : ByteArray) : (0 ≤ (getI s).1.Src ∧ (getI s).1.Src < 4294967296) ∧ (0 ≤ (getI s).1.Dst ∧ (getI s).1.Dst < 4294967296) := by
  have a := N4_range s 12
  have b := N4_range s 16
  unfold getI badI
  repeat' split
  all_goals first
    | exact ⟨a, b⟩
    | exact ⟨by decide, by decide⟩
theorem getS_may (p : Int) (b : ByteArray) (src dst : Int) (h : (getS p b src dst).2 = 0) : mayS (getS p b src dst).1 = true := by
  have ho : ∀ proto s un g, (okS proto s src dst true un g).2 = 0 → mayS (okS proto s src dst true un g).1 = true := by
    intro proto s un g
    unfold okS badS
    split
    · rename_i q; exact fun _ => q.2.1
    · intro h; simp at h
  unfold getS at h ⊢
  split at h
  · rename_i e
    rw [if_pos e]
    split at h
    · unfold badS at h; simp at h
    · rename_i e2
      rw [if_neg e2]; exact ho _ _ _ _ h
  · rename_i e
    rw [if_neg e]
    split at h
    · rename_i e1
      rw [if_pos e1]
      split at h
      · unfold badS at h; simp at h
      · rename_i e2
        rw [if_neg e2]; exact ho _ _ _ _ h
    · unfold badS at h; simp at h
theorem ofF_ok {s : ByteArray} (h : (ofF s).2.2 = 0) : mayF (ofF s).1 = true ∧ 0 ≤ (ofF s).2.1.Flags ∧ (ofF s).2.1.Flags < 64 := by
  have hr := getI_src s
  unfold ofF at h ⊢
  split at h
  · rename_i e; exact absurd h e
  rename_i e; rw [if_neg e]
  split at h
  · simp [noF] at h
  rename_i e2; rw [if_neg e2]
  split at h
  · simp [noF] at h
  rename_i e3; rw [if_neg e3]
  have hm := getS_may _ _ _ _ (Decidable.not_not.1 e3)
  generalize (getS (getI s).1.Proto (getI s).1.Body (getI s).1.Src (getI s).1.Dst).1 = g at *
  unfold mayS kindS at hm
  have hp := of_decide_eq_true hm
  dsimp only
  refine ⟨?_, ?_⟩
  · unfold mayF
    refine decide_eq_true ⟨hr.1, hr.2, ?_, hp.1.1, hp.1.2.1⟩
    show (getI s).1.Proto = 6 ∨ (getI s).1.Proto = 17
    omega
  · rcases hp.2 with q | q <;> omega
def holds (e : GEdge) (f : GFlow) (now : Int) : Bool :=
  (findE e.Flows f now).2 && (decide (0 ≤ (findE e.Flows f now).1.To ∧ (findE e.Flows f now).1.To < (e.Config.Sites.length : Int)) && (e.Health.getD (findE e.Flows f now).1.To.toNat default).Up)
theorem HasS_eq {N : Nat} (hN : 140737488355328 < N) {c : GConfig} (hc : confOk c = true) (i : Int) : L_conf_Has N c i (-1) = some (decide (0 ≤ i ∧ i < (c.Sites.length : Int))) := by
  obtain ⟨s1, s2⟩ := confOk_small hc
  have hs : ∃ r, L_conf_Site N c i = some r ∧ r.2 = decide (0 ≤ i ∧ i < (c.Sites.length : Int)) := by
    unfold L_conf_Site L_conf_Site_1
    by_cases a : i < 0
    · exact ⟨_, stDT a rfl, by rw [decide_eq_false (show ¬ (0 ≤ i ∧ i < (c.Sites.length : Int)) by omega)]⟩
    · by_cases b : i ≥ (c.Sites.length : Int)
      · refine ⟨(⟨0, false, 0, []⟩, false), stDF a ?_, ?_⟩
        · rw [decide_eq_true b]; rfl
        · rw [decide_eq_false (show ¬ (0 ≤ i ∧ i < (c.Sites.length : Int)) by omega)]
      · refine ⟨(c.Sites.getD i.toNat default, true), stDF a ?_, ?_⟩
        · rw [decide_eq_false b]
          exact stFF (stIf (by omega) rfl)
        · rw [decide_eq_true (show 0 ≤ i ∧ i < (c.Sites.length : Int) by omega)]
  obtain ⟨r, r1, r2⟩ := hs
  unfold L_conf_Has L_conf_Has_1
  refine stB r1 (stB (ConfMay_eq hN c ⟨by omega, fun y hy => by have := (s2 y hy).2; omega⟩) ?_)
  rw [hc, r2]
  cases decide (0 ≤ i ∧ i < (c.Sites.length : Int)) <;> rfl
theorem find_mem {es : List GEntry} {f : GFlow} {now : Int} (h : (findE es f now).2 = true) : (findE es f now).1 ∈ es ∧ (findE es f now).1.Flow = f ∧ ranE (findE es f now).1 now = false ∧ findE es f now = (es.getD (at_ f es 0).toNat default, true) := by
  unfold findE at h ⊢
  split at h
  · cases h
  rename_i e; rw [if_neg e]
  split at h
  · cases h
  rename_i e2; rw [if_neg e2]
  rcases at_cases f es 0 with ⟨q, _⟩ | ⟨i, q1, q2, q3⟩
  · omega
  · rw [q2, show (((0 + i : Nat) : Int)).toNat = i by omega] at e2 ⊢
    exact ⟨getD_mem q1, eqF_iff.1 q3, by simpa using e2, rfl⟩
/-- Who has a flow. -/
inductive Pin (e : GEdge) (f : GFlow) (now : Int) : GEntry → Bool → Prop
  | old : holds e f now = true → Pin e f now (findE e.Flows f now).1 true
  | new {c : GCandidate} : holds e f now = false → c ∈ candE e.Config e.Health → Pin e f now ⟨f, c.Id, false, 0, 0⟩ true
  | none {id : Int} : holds e f now = false → candE e.Config e.Health = [] → Pin e f now ⟨f, id, false, 0, 0⟩ false
theorem Pinned_eq {e : GEdge} (h : EdgeOk e) {f : GFlow} (hf : mayF f = true) (now : Int) : ∃ x b, L_edge_pinned 281474976710656 e now f = some (x, b) ∧ Pin e f now x b := by
  have hlen := hsOk_len h.hs
  obtain ⟨s1, s2⟩ := confOk_small h.conf
  obtain ⟨id, is, c1, c2, c3⟩ := Choose_eq (candE_may (hs := e.Health) h.conf) hf 0 (by decide)
  have hnew : ∀ a1 a2 a3 a4 a5 a6 a7 a8 a9, ∃ x b, L_edge_pinned_1 281474976710656 e f.Src f.Dst f.Proto f.Sport f.Dport 0 0 0 0 0 0 false 0 0 a1 a2 a3 a4 a5 a6 a7 a8 a9 false = some (x, b) ∧ (holds e f now = false → Pin e f now x b) := by
    intro a1 a2 a3 a4 a5 a6 a7 a8 a9
    unfold L_edge_pinned_1
    refine ⟨⟨f, id, false, 0, 0⟩, is, stFF (stB (Sites_eq (by decide) h.conf h.hs) (stB c1 rfl)), fun hh => ?_⟩
    cases is with
    | true =>
      obtain ⟨c, k1, k2⟩ := c2 rfl
      rw [← k2]
      exact .new hh k1
    | false => exact .none hh (c3 rfl)
  unfold L_edge_pinned
  have hff := Find_eq (N := 281474976710656) (by decide) e.Flows f now h.cache
  cases hq : (findE e.Flows f now).2 with
  | false =>
    obtain ⟨x, b, x1, x2⟩ := hnew (findE e.Flows f now).1.Flow.Src (findE e.Flows f now).1.Flow.Dst (findE e.Flows f now).1.Flow.Proto (findE e.Flows f now).1.Flow.Sport (findE e.Flows f now).1.Flow.Dport (findE e.Flows f now).1.To (findE e.Flows f now).1.Away (findE e.Flows f now).1.Phase (findE e.Flows f now).1.Used
    refine ⟨x, b, stB hff ?_, x2 (by unfold holds; rw [hq]; rfl)⟩
    rw [hq]
    exact x1
  | true =>
    have hh := HasS_eq (N := 281474976710656) (by decide) h.conf (findE e.Flows f now).1.To
    by_cases c : 0 ≤ (findE e.Flows f now).1.To ∧ (findE e.Flows f now).1.To < (e.Config.Sites.length : Int)
    · rw [decide_eq_true c] at hh
      cases hu : (e.Health.getD (findE e.Flows f now).1.To.toNat default).Up with
      | true =>
        refine ⟨(findE e.Flows f now).1, true, stB hff ?_, .old (by unfold holds; rw [hq, decide_eq_true c, hu]; rfl)⟩
        rw [hq]
        refine stTT (stB hh (stTT (stIf (by omega) ?_)))
        rw [hu]
        rfl
      | false =>
        obtain ⟨x, b, x1, x2⟩ := hnew (findE e.Flows f now).1.Flow.Src (findE e.Flows f now).1.Flow.Dst (findE e.Flows f now).1.Flow.Proto (findE e.Flows f now).1.Flow.Sport (findE e.Flows f now).1.Flow.Dport (findE e.Flows f now).1.To (findE e.Flows f now).1.Away (findE e.Flows f now).1.Phase (findE e.Flows f now).1.Used
        refine ⟨x, b, stB hff ?_, x2 (by unfold holds; rw [hu, Bool.and_false, Bool.and_false])⟩
        rw [hq]
        refine stTT (stB hh (stTT (stIf (by omega) ?_)))
        rw [hu]
        exact x1
    · rw [decide_eq_false c] at hh
      obtain ⟨x, b, x1, x2⟩ := hnew (findE e.Flows f now).1.Flow.Src (findE e.Flows f now).1.Flow.Dst (findE e.Flows f now).1.Flow.Proto (findE e.Flows f now).1.Flow.Sport (findE e.Flows f now).1.Flow.Dport (findE e.Flows f now).1.To (findE e.Flows f now).1.Away (findE e.Flows f now).1.Phase (findE e.Flows f now).1.Used
      refine ⟨x, b, stB hff ?_, x2 (by unfold holds; rw [decide_eq_false c, Bool.false_and, Bool.and_false])⟩
      rw [hq]
      exact stTT (stB hh (stFF x1))
/-- Such an entry may be. -/
structure Fits (e : GEdge) (f : GFlow) (x : GEntry) : Prop where
  flow : x.Flow = f
  away : x.Away = false
  to_ : 0 ≤ x.To ∧ x.To < 3
  ok : entOk x = true
theorem pin_fits {e : GEdge} (h : EdgeOk e) {f : GFlow} (hf : mayF f = true) {now : Int} {x : GEntry} (hp : Pin e f now x true) : Fits e f x := by
  obtain ⟨s1, s2⟩ := confOk_small h.conf
  cases hp with
  | old hh =>
    unfold holds at hh
    simp only [Bool.and_eq_true] at hh
    obtain ⟨m1, m2, m3, _⟩ := find_mem hh.1
    have p := h.pin _ m1
    exact ⟨m2, p.1, p.2, ((cacheOk_iff _).1 h.cache).1 _ m1⟩
  | new hh hc =>
    obtain ⟨j, h1, h2, h3⟩ := cand_mem _ _ _ _ hc
    have hj : (0 + j : Nat) < 3 := by omega
    rw [h2]
    refine ⟨rfl, rfl, ⟨by show (0:Int) ≤ ((0 + j : Nat) : Int); omega, by show ((0 + j : Nat) : Int) < 3; omega⟩, ?_⟩
    unfold entOk timeOk
    rw [hf, decide_eq_true (show (0:Int) ≤ ((0 + j : Nat) : Int) ∧ ((0 + j : Nat) : Int) < 256 by omega)]
    rfl
def outO (e : GEdge) (x : GEntry) (s : ByteArray) : GOuter := ⟨167837696 + e.Id, 167903232 + x.To, 1, 0, 0, s⟩
def evE (kind : Int) (e : GEdge) (to : Int) (f : GFlow) : GEvent := ⟨kind, 0, 0, e.Id, to, f⟩
abbrev EdgeR := GEdge × GOut × Int
def zEdge : GEdge := ⟨0, ⟨0, []⟩, [], []⟩
def putEv (e : GEdge) (u : GEntry) : List GEvent :=
  bif (putE e.Flows u).2.2.1 then [evE 11 e (putE e.Flows u).2.1.To (putE e.Flows u).2.1.Flow, evE 0 e u.To u.Flow] else [evE 0 e u.To u.Flow]
/-- What comes of a packet at an edge. -/
inductive Takes (e : GEdge) (now : Int) (s : ByteArray) : EdgeR → Prop
  | bad : ¬ (EdgeOk e ∧ timeOk now = true) → Takes e now s (zEdge, ⟨[], []⟩, 1900)
  | odd : EdgeOk e → timeOk now = true → (ofF s).2.2 ≠ 0 → Takes e now s (e, ⟨[], [evE (evOf (ofF s).2.2) e 0 (ofF s).1]⟩, 0)
  | none : EdgeOk e → timeOk now = true → (ofF s).2.2 = 0 → holds e (ofF s).1 now = false → candE e.Config e.Health = [] → Takes e now s (e, ⟨[], [evE 5 e 0 (ofF s).1]⟩, 0)
  | big {x : GEntry} : EdgeOk e → timeOk now = true → (ofF s).2.2 = 0 → Pin e (ofF s).1 now x true → Fits e (ofF s).1 x → 324 < s.size → Takes e now s (e, ⟨[], [evE 6 e 0 (ofF s).1]⟩, 0)
  | sent {x : GEntry} {p : Int} : EdgeOk e → timeOk now = true → (ofF s).2.2 = 0 → Pin e (ofF s).1 now x true → Fits e (ofF s).1 x → s.size ≤ 324 → (0 ≤ p ∧ p ≤ 2) →
      Takes e now s (⟨e.Id, e.Config, e.Health, (putE e.Flows ⟨(ofF s).1, x.To, false, p, now⟩).1⟩, ⟨[pushI (outO e x s)], putEv e ⟨(ofF s).1, x.To, false, p, now⟩⟩, 0)
theorem used_ok {f : GFlow} {x : GEntry} {p now : Int} {e : GEdge} (hx : Fits e f x) (hp : 0 ≤ p ∧ p ≤ 2) (hn : timeOk now = true) : entOk ⟨f, x.To, false, p, now⟩ = true := by
  have h := hx.ok
  unfold entOk at h ⊢
  rw [hx.flow] at h
  simp only [Bool.and_eq_true, decide_eq_true_eq] at h ⊢
  exact ⟨h.1, h.2.1, hp, hn⟩
theorem outO_may {e : GEdge} (h : EdgeOk e) {f : GFlow} {x : GEntry} (hx : Fits e f x) {s : ByteArray} (hs : s.size ≤ 512) : mayG (outO e x s) = true := by
  have a := h.id; have b := hx.to_
  unfold mayG Known outO
  dsimp only
  exact decide_eq_true ⟨by omega, by omega, by omega, by omega, by omega, by omega, hs⟩
theorem ofF_size {s : ByteArray} (h : (ofF s).2.2 = 0) : s.size ≤ 512 := by
  rcases Nat.lt_or_ge 512 s.size with c | c
  · exfalso
    have hz : getI s = badI := by unfold getI; rw [if_pos (.inr c)]
    unfold ofF at h
    rw [hz] at h
    simp [badI, noF] at h
  · exact c
theorem Sent_eq {e : GEdge} (h : EdgeOk e) {s : ByteArray} (hs : (ofF s).2.2 = 0) {x : GEntry} (hx : Fits e (ofF s).1 x) {now : Int} (hn : timeOk now = true) :
    (324 < s.size ∧ L_edge_Sent 281474976710656 ⟨0, 0, e.Id⟩ (outO e x s) e.Flows x (ofF s).2.1.Flags now = some (e.Flows, ⟨[], [evE 6 e 0 (ofF s).1]⟩)) ∨
    (s.size ≤ 324 ∧ ∃ p, (0 ≤ p ∧ p ≤ 2) ∧ L_edge_Sent 281474976710656 ⟨0, 0, e.Id⟩ (outO e x s) e.Flows x (ofF s).2.1.Flags now = some ((putE e.Flows ⟨(ofF s).1, x.To, false, p, now⟩).1, ⟨[pushI (outO e x s)], putEv e ⟨(ofF s).1, x.To, false, p, now⟩⟩)) := by
  have hsz := ofF_size hs
  have hid := h.id; have hto := hx.to_
  have hm := outO_may h hx hsz
  have hpush := Push_eq (N := 281474976710656) (by decide) (outO e x s) (by unfold RA outO; dsimp only; omega) (by unfold RA outO; dsimp only; omega)
  unfold pushR at hpush
  rw [if_pos hm] at hpush
  unfold L_edge_Sent
  by_cases c : 324 < s.size
  · rw [if_pos (show 324 < (outO e x s).Body.size from c)] at hpush
    refine .inl ⟨c, stB hpush (stNF (by decide) (stB (x := ⟨[], [evE 6 e 0 x.Flow]⟩) rfl ?_))⟩
    rw [hx.flow]
  · rw [if_neg (show ¬ 324 < (outO e x s).Body.size from c)] at hpush
    have hfl := (ofF_ok hs).2
    obtain ⟨p, hp, hu⟩ := Use_eq 281474976710656 x (ofF s).2.1.Flags now hx.ok hfl hn
    rw [hx.flow, hx.away] at hu
    have hput := CPut_eq (N := 281474976710656) (by decide) e.Flows ⟨(ofF s).1, x.To, false, p, now⟩ h.cache (used_ok hx hp hn)
    refine .inr ⟨by omega, p, hp, stB hpush (stNT rfl (stB hu (stB hput ?_)))⟩
    unfold putEv L_edge_Sent_1 L_event_Teller_Tell
    have g1 : growOk 80 (([] : List GEvent).length + 1) := growOk_small (by decide) (by decide)
    cases (putE e.Flows ⟨(ofF s).1, x.To, false, p, now⟩).2.2.1 with
    | true => exact stTT (stB rfl (stB rfl (stIf (growOk_small (b := 80) (n := 2) (by decide) (by decide)) rfl)))
    | false => exact stFF (stB rfl (stIf g1 rfl))
theorem Take_eq {e : GEdge} (hb : BdE e) (now : Int) (s : ByteArray) : ∃ r, L_edge_Take 281474976710656 e now s = some r ∧ Takes e now s r := by
  have hm := EdgeMay_eq (N := 281474976710656) (by decide) e hb
  unfold L_edge_Take L_edge_Take_1
  cases hk : edgeOk e with
  | false =>
    rw [hk] at hm
    refine ⟨_, stB hm (stNFF rfl), .bad fun q => ?_⟩
    have := (edgeOk_iff e).2 q.1
    rw [hk] at this
    cases this
  | true =>
    rw [hk] at hm
    have h := (edgeOk_iff e).1 hk
    have ht := Time_eq 281474976710656 now
    cases hn : timeOk now with
    | false =>
      rw [hn] at ht
      exact ⟨_, stB hm (stNTT (stB ht (stTT rfl))), .bad fun q => by rw [hn] at q; cases q.2⟩
    | true =>
      rw [hn] at ht
      have hcopy := CopyE_eq (N := 281474976710656) (by decide) h
      have hof := Of_eq (N := 281474976710656) (by decide) s
      by_cases hc : (ofF s).2.2 = 0
      · have hf := (ofF_ok hc).1
        obtain ⟨x, b, x1, x2⟩ := Pinned_eq h hf now
        cases b with
        | false =>
          refine ⟨_, stB hm (stNTT (stB ht (stFF (stB hcopy (stB hof (stNT hc (stB x1 (stNFF (stB (x := ⟨[], [evE 5 e 0 (ofF s).1]⟩) rfl rfl))))))))), ?_⟩
          cases x2 with
          | none q1 q2 => exact .none h hn hc q1 q2
        | true =>
          have hx := pin_fits h hf x2
          have a1 : addrA 0 0 e.Id = (167837696 + e.Id, 0) := by unfold addrA; rw [if_pos ⟨rfl, rfl, h.id⟩]
          have a2 : addrA 1 x.To 0 = (167903232 + x.To, 0) := by unfold addrA; rw [if_neg (by omega), if_pos ⟨rfl, rfl, hx.to_⟩]
          have e1 := Address_eq 281474976710656 0 0 e.Id
          have e2 := Address_eq 281474976710656 1 x.To 0
          rw [a1] at e1; rw [a2] at e2
          rcases Sent_eq h hc hx hn with ⟨q1, q2⟩ | ⟨q1, p, hp, q2⟩
          · exact ⟨_, stB hm (stNTT (stB ht (stFF (stB hcopy (stB hof (stNT hc (stB x1 (stNTT (stB e1 (stB e2 (stB q2 rfl))))))))))), .big h hn hc x2 hx q1⟩
          · exact ⟨_, stB hm (stNTT (stB ht (stFF (stB hcopy (stB hof (stNT hc (stB x1 (stNTT (stB e1 (stB e2 (stB q2 rfl))))))))))), .sent h hn hc x2 hx q1 hp⟩
      · exact ⟨_, stB hm (stNTT (stB ht (stFF (stB hcopy (stB hof (stNF hc (stB (EventOf_eq _ _) (stB (x := ⟨[], [evE (evOf (ofF s).2.2) e 0 (ofF s).1]⟩) rfl rfl)))))))), .odd h hn hc⟩
end Go.Proofs.YtmhlgpdoedbedaaGreat.Pu
