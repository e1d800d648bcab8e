import Derived.Test.YtmhlgpdoedbedaaGreatS1
set_option linter.unusedVariables false
set_option linter.unusedSimpArgs false
namespace Go.Proofs.YtmhlgpdoedbedaaGreat.Pu
open Go Go.RowKit Go.Proofs.YtmhlgpdoedbedaaGreat.Sv Go.Proofs.YtmhlgpdoedbedaaGreat.Lf
def chosen (cs : List GCandidate) (key : Int) (f : GFlow) : Int × Bool := (L_edge_Choose 281474976710656 cs key f).getD (0, false)
theorem chosen_spec {cs : List GCandidate} (hc : mayC cs = true) {f : GFlow} (hf : mayF f = true) (key : Int) (hk : 0 ≤ key ∧ key < 4294967296) :
    L_edge_Choose 281474976710656 cs key f = some (chosen cs key f) ∧ ((chosen cs key f).2 = true → ∃ c ∈ cs, c.Id = (chosen cs key f).1) ∧ ((chosen cs key f).2 = false → cs = []) := by
  obtain ⟨id, is, h1, h2, h3⟩ := Choose_eq hc hf key hk
  have e : chosen cs key f = (id, is) := by unfold chosen; rw [h1]; rfl
  rw [e]
  exact ⟨h1, h2, h3⟩
def stepP (p flags : Int) : Int :=
  bif bAnd .i64 flags 4 != 0 then 2 else bif (bAnd .i64 flags 2 != 0) && !(bAnd .i64 flags 16 != 0) then 0 else bif bAnd .i64 flags 1 != 0 then (if 2 < p + 1 then 2 else p + 1) else p
theorem stepP_range {p flags : Int} (hp : 0 ≤ p ∧ p ≤ 2) : 0 ≤ stepP p flags ∧ stepP p flags ≤ 2 := by
  unfold stepP
  cases (bAnd .i64 flags 4 != 0) with
  | true => rw [cond_true]; omega
  | false =>
    cases ((bAnd .i64 flags 2 != 0) && !(bAnd .i64 flags 16 != 0)) with
    | true => rw [cond_false, cond_true]; omega
    | false =>
      cases (bAnd .i64 flags 1 != 0) with
      | true => rw [cond_false, cond_false, cond_true]; split <;> omega
      | false => exact hp
theorem StepP_eq (N : Nat) (p flags : Int) (hp : 0 ≤ p ∧ p ≤ 2) (hf : 0 ≤ flags ∧ flags < 64) : L_track_Step N p flags = some (stepP p flags, 0) := by
  have hflags : L_track_Flags N flags = some true := by
    refine stB (in_eq N flags 6 (by decide)) ?_
    rw [decide_eq_true (show 0 ≤ flags ∧ flags < 2 ^ 6 from hf)]
  have h2 : L_track_Step_2 N p flags false = some (bif bAnd .i64 flags 1 != 0 then (if 2 < p + 1 then 2 else p + 1) else p, 0) := by
    unfold L_track_Step_2 L_track_Step_f1
    rw [Option.bind_some, w64 (n := p + 1) (by omega) (by omega)]
    cases (bAnd .i64 flags 1 != 0) with
    | true =>
      refine stFF (stTT (stVia ?_))
      by_cases k : 2 < p + 1
      · rw [if_pos (decide_eq_true k), cond_true, if_pos k]
      · rw [if_neg (by rw [decide_eq_true_eq]; exact k), cond_true, if_neg k]
    | false => rfl
  unfold L_track_Step L_track_Step_1 L_track_Step_f1 stepP
  rw [phase_eq, decide_eq_true hp, hflags, Option.bind_some, Option.bind_some, Option.bind_some, Option.bind_some, Option.bind_some]
  refine stNTT (stNTT ?_)
  cases (bAnd .i64 flags 4 != 0) with
  | true => rfl
  | false =>
    refine stFF ?_
    cases (bAnd .i64 flags 2 != 0) with
    | true =>
      refine stTT ?_
      cases (bAnd .i64 flags 16 != 0) with
      | true => exact h2
      | false => rfl
    | false => exact h2
def useE (x : GEntry) (flags now : Int) : GEntry := ⟨x.Flow, x.To, x.Away, if x.Flow.Proto = 6 then stepP x.Phase flags else x.Phase, now⟩
theorem UseE_eq (N : Nat) (x : GEntry) (flags now : Int) (hx : entOk x = true) (hf : 0 ≤ flags ∧ flags < 64) (hn : timeOk now = true) : L_entry_Use N x flags now = some (useE x flags now, 0) := by
  have hp := (entOk_parts hx).2.2.1
  unfold L_entry_Use L_entry_Use_1 L_entry_Use_2 useE
  rw [StepP_eq N x.Phase flags hp hf, EMay_eq, hx, Time_eq, hn]
  by_cases a : x.Flow.Proto = 6
  · rw [if_pos a]; exact stB rfl (stNT rfl (stB rfl (stNTT (stB rfl (stNTT (stET a rfl))))))
  · rw [if_neg a]; exact stB rfl (stNT rfl (stB rfl (stNTT (stB rfl (stNTT (stEF a rfl))))))
theorem useE_ok {x : GEntry} {flags now : Int} (hx : entOk x = true) (hn : timeOk now = true) : entOk (useE x flags now) = true := by
  have hp := (entOk_parts hx).2.2.1
  have hs := stepP_range (flags := flags) hp
  unfold entOk at hx ⊢
  simp only [Bool.and_eq_true, decide_eq_true_eq] at hx ⊢
  refine ⟨hx.1, hx.2.1, ?_, hn⟩
  unfold useE
  dsimp only
  split <;> omega
def evT (t : Gevent_Teller) (kind to : Int) (f : GFlow) : GEvent := ⟨kind, t.Role, t.Site, t.Node, to, f⟩
def zF : GFlow := ⟨0, 0, 0, 0, 0⟩
def sentF (t : Gevent_Teller) (o : GOuter) (fl : List GEntry) (x : GEntry) (flags now : Int) : List GEntry × GOut :=
  if 324 < o.Body.size then (fl, ⟨[], [evT t 6 0 x.Flow]⟩)
  else ((putE fl (useE x flags now)).1, ⟨[pushI o], (bif (putE fl (useE x flags now)).2.2.1 then [evT t 11 (putE fl (useE x flags now)).2.1.To (putE fl (useE x flags now)).2.1.Flow] else []) ++ [evT t 0 x.To x.Flow]⟩)
theorem mayG_RA {o : GOuter} (h : mayG o = true) : RA o.Src ∧ RA o.Dst := by
  obtain ⟨h1, h2, _⟩ := mayG_parts h
  have a := known_range h1; have b := known_range h2
  unfold RA
  omega
theorem SentF_eq (t : Gevent_Teller) {o : GOuter} (ho : mayG o = true) {fl : List GEntry} (hfl : cacheOk fl = true) {x : GEntry} (hx : entOk x = true) {flags now : Int} (hf : 0 ≤ flags ∧ flags < 64) (hn : timeOk now = true) :
    L_edge_Sent 281474976710656 t o fl x flags now = some (sentF t o fl x flags now) := by
  have hr := mayG_RA ho
  have hpush := Push_eq (N := 281474976710656) (by decide) o hr.1 hr.2
  unfold pushR at hpush
  rw [if_pos ho] at hpush
  unfold L_edge_Sent sentF
  by_cases c : 324 < o.Body.size
  · rw [if_pos c] at hpush ⊢
    exact stB hpush (stNF (by decide) (stB (x := ⟨[], [evT t 6 0 x.Flow]⟩) rfl rfl))
  · rw [if_neg c] at hpush ⊢
    have hput := CPut_eq (N := 281474976710656) (by decide) fl (useE x flags now) hfl (useE_ok hx hn)
    refine stB hpush (stNT rfl (stB (UseE_eq _ x flags now hx hf hn) (stB hput ?_)))
    unfold L_edge_Sent_1 L_event_Teller_Tell
    cases (putE fl (useE x flags now)).2.2.1 with
    | true => exact stTT (stB rfl (stB rfl (stIf (growOk_small (b := 80) (n := 2) (by decide) (by decide)) rfl)))
    | false => exact stFF (stB rfl (stIf (growOk_small (b := 80) (n := 1) (by decide) (by decide)) rfl))
def plainO (o : GOuter) : Bool := (o.Tier == 1) && ((o.Marker == 0) && ((o.Origin == 0) && ((whoA o.Src).2.2.2 && ((whoA o.Src).1 == 0))))
theorem plain_eq (N : Nat) (o : GOuter) (h : RA o.Src) : L_site_plain N o = some (plainO o) := by
  unfold L_site_plain L_site_plain_1 plainO
  refine stB (Whose_eq N o.Src h) ?_
  cases (o.Tier == 1) with
  | false => rfl
  | true =>
    cases (o.Marker == 0) with
    | false => rfl
    | true =>
      cases (o.Origin == 0) with
      | false => rfl
      | true => cases (whoA o.Src).2.2.2 <;> rfl
theorem popI_RA (s : ByteArray) : RA (popI s).1.Src ∧ RA (popI s).1.Dst := by
  unfold popI badG outS
  split
  · exact ⟨by unfold RA; decide, by unfold RA; decide⟩
  · split
    · exact ⟨N4_RA _ _, N4_RA _ _⟩
    · exact ⟨by unfold RA; decide, by unfold RA; decide⟩
theorem popI_may {s : ByteArray} (h : (popI s).2 = 0) : mayG (popI s).1 = true ∧ s = pushI (popI s).1 ∧ s.size ≤ 360 := by
  unfold popI at h ⊢
  split at h
  · simp [badG] at h
  rename_i c; rw [if_neg c]
  split at h
  · rename_i c2; rw [if_pos c2]; exact ⟨c2.1, c2.2.2.symm, c2.2.1⟩
  · simp [badG] at h
def spillOk (id : Int) (o : GOuter) : Bool := (whoA o.Src).2.2.2 && (((whoA o.Src).1 == 1) && (!((whoA o.Src).2.1 == id) && ((o.Marker == 1) && (o.Origin == (whoA o.Src).2.1 + 1))))
def insideN (id : Int) (o : GOuter) : ByteArray × Bool :=
  bif o.Tier != 2 then (o.Body, plainO o)
  else bif spillOk id o then ((popI o.Body).1.Body, ((popI o.Body).2 == 0) && (plainO (popI o.Body).1 && ((popI o.Body).1.Dst == o.Src)))
  else (ByteArray.empty, false)
theorem whoA_small (a : Int) : 0 ≤ (whoA a).2.1 ∧ (whoA a).2.1 < 3 := by
  unfold whoA
  split
  · dsimp only; omega
  split
  · dsimp only; omega
  split
  · dsimp only; omega
  · exact ⟨by decide, by decide⟩
theorem inside_eq {N : Nat} (hN : 1000 ≤ N) (x : Gsite_node) (o : GOuter) (h : RA o.Src) : L_site_node_inside N x o = some (insideN x.Node.Id o) := by
  unfold L_site_node_inside L_site_node_inside_1 L_site_node_inside_2 insideN spillOk
  have hw := whoA_small o.Src
  cases (o.Tier != 2) with
  | true => exact stTT (stB (plain_eq N o h) rfl)
  | false =>
    refine stFF (stB (Whose_eq N o.Src h) ?_)
    rw [w64 (n := (whoA o.Src).2.1 + 1) (by omega) (by omega)]
    have hpop := Pop_eq (N := N) hN o.Body
    have hpl := plain_eq N (popI o.Body).1 (popI_RA o.Body).1
    generalize popI o.Body = p at *
    cases (whoA o.Src).2.2.2 with
    | false => rfl
    | true =>
      refine stNTT ?_
      unfold bne
      cases ((whoA o.Src).1 == 1) with
      | false => rfl
      | true =>
        refine stNTT ?_
        cases ((whoA o.Src).2.1 == x.Node.Id) with
        | true => rfl
        | false =>
          refine stFF ?_
          cases (o.Marker == 1) with
          | false => rfl
          | true =>
            refine stNTT ?_
            cases (o.Origin == (whoA o.Src).2.1 + 1) with
            | false => rfl
            | true =>
              refine stNTT (stB hpop ?_)
              cases (p.2 == 0) with
              | false => rfl
              | true =>
                refine stTT (stB hpl ?_)
                cases plainO p.1 <;> rfl
def holdsN (n : GNode) (x : GEntry) (spill : Bool) : Bool :=
  bif x.Away then !spill && hasS n.Config x.To
  else hasS n.Config n.Id && (decide (x.To < ((siteOf n.Config n.Id).Backs.length : Int)) && (n.Health.getD x.To.toNat default).Up)
theorem HasB_eq {N : Nat} (hN : 140737488355328 < N) {c : GConfig} (hc : confOk c = true) (i b : Int) (hb : 0 ≤ b) : L_conf_Has N c i b = some (hasS c i && decide (b < ((siteOf c i).Backs.length : Int))) := by
  obtain ⟨s1, s2⟩ := confOk_small hc
  unfold L_conf_Has L_conf_Has_1
  refine stB (CSite_eq N c i) (stB (ConfMay_eq hN c ⟨by omega, fun y hy => by have := (s2 y hy).2; omega⟩) ?_)
  rw [hc]
  refine stTT ?_
  dsimp only
  cases hasS c i with
  | false => rfl
  | true => exact stTT (stEF (by omega) (stDT hb rfl))
theorem holds_eq {N : Nat} (hN : 140737488355328 < N) (x : Gsite_node) (h : NodeOk x.Node) (e : GEntry) (he : 0 ≤ e.To) (spill : Bool) : L_site_node_holds N x e spill = some (holdsN x.Node e spill) := by
  have hl := hsOk_len h.hs
  have s4 := (siteOf_small h.conf x.Node.Id).1
  unfold L_site_node_holds L_site_node_holds_1 L_site_node_holds_2 holdsN
  cases e.Away with
  | true =>
    refine stTT ?_
    cases spill with
    | true => rfl
    | false => exact stNFF (stB (HasS_eq hN h.conf e.To) rfl)
  | false =>
    refine stFF (stB (HasB_eq hN h.conf _ _ he) ?_)
    cases hasS x.Node.Config x.Node.Id with
    | false => rfl
    | true =>
      by_cases c : e.To < ((siteOf x.Node.Config x.Node.Id).Backs.length : Int)
      · rw [decide_eq_true c]
        exact stTT (stIf (by omega) rfl)
      · rw [decide_eq_false c]; rfl
def awayN (n : GNode) (now : Int) (f : GFlow) : Int × Bool := bif fullN n then chosen (targN n now) 2 f else (0, false)
theorem away_eq (x : Gsite_node) (h : NodeOk x.Node) (hn : timeOk x.now_ = true) {f : GFlow} (hf : mayF f = true) : L_site_node_away 281474976710656 x f = some (awayN x.Node x.now_ f) := by
  unfold L_site_node_away awayN
  refine stB (Full_eq (by decide) h) ?_
  dsimp only
  cases fullN x.Node with
  | false => rfl
  | true => exact stNTT (stB (Targets_eq (by decide) h hn) (stB (chosen_spec (targN_may h _) hf 2 (by decide)).1 rfl))
def newN (n : GNode) (now : Int) (f : GFlow) (spill : Bool) : GEntry × Bool :=
  bif !spill && (awayN n now f).2 then (⟨f, (awayN n now f).1, true, 0, 0⟩, true) else (⟨f, (chosen (backs n.Config n.Id n.Health) 1 f).1, false, 0, 0⟩, (chosen (backs n.Config n.Id n.Health) 1 f).2)
def pinN (n : GNode) (now : Int) (f : GFlow) (spill : Bool) : GEntry × Bool :=
  bif (findE n.Flows f now).2 && holdsN n (findE n.Flows f now).1 spill then ((findE n.Flows f now).1, true) else newN n now f spill
theorem find_ok {n : GNode} (h : NodeOk n) {f : GFlow} {now : Int} (hq : (findE n.Flows f now).2 = true) : entOk (findE n.Flows f now).1 = true :=
  ((cacheOk_iff _).1 h.cache).1 _ (find_mem hq).1
theorem pinned_eq (x : Gsite_node) (h : NodeOk x.Node) (hn : timeOk x.now_ = true) {f : GFlow} (hf : mayF f = true) (spill : Bool) : L_site_node_pinned 281474976710656 x f spill = some (pinN x.Node x.now_ f spill) := by
  have h1 : ∀ a0 a1 a2 a3 a4 a5 a6 a7 a8, L_site_node_pinned_1 281474976710656 x spill f.Src f.Dst f.Proto f.Sport f.Dport 0 0 0 0 0 0 false 0 0 a0 a1 a2 a3 a4 a5 a6 a7 a8 false = some (newN x.Node x.now_ f spill) := by
    intro a0 a1 a2 a3 a4 a5 a6 a7 a8
    obtain ⟨e, hb⟩ := Backs_eq (N := 281474976710656) (by decide) h.conf h.hs x.Node.Id
    have hc := (chosen_spec (backs_may (hs := x.Node.Health) h.conf x.Node.Id) hf 1 (by decide)).1
    unfold L_site_node_pinned_1 L_site_node_pinned_2 newN
    refine stFF ?_
    cases spill with
    | true => exact stNTT (stB hb (stB hc rfl))
    | false =>
      refine stNFF (stB (away_eq x h hn hf) ?_)
      rw [Bool.not_false, Bool.true_and]
      cases (awayN x.Node x.now_ f).2 with
      | true => rfl
      | false => exact stFF (stB hb (stB hc rfl))
  unfold L_site_node_pinned pinN
  refine stB (Find_eq (by decide) x.Node.Flows f x.now_ h.cache) ?_
  cases hq : (findE x.Node.Flows f x.now_).2 with
  | false => exact stFF (h1 ..)
  | true =>
    have hto := (entOk_parts (find_ok h hq)).2.1
    refine stTT (stB (holds_eq (by decide) x h _ hto.1 spill) ?_)
    rw [Bool.true_and]
    cases holdsN x.Node (findE x.Node.Flows f x.now_).1 spill with
    | true => rfl
    | false => exact h1 ..
structure FitsN (n : GNode) (f : GFlow) (x : GEntry) : Prop where
  flow : x.Flow = f
  ok : entOk x = true
  away : x.Away = true → (0 ≤ x.To ∧ x.To < 3) ∧ x.To ≠ n.Id
  here : x.Away = false → x.To < 4
theorem ent_new {f : GFlow} (hf : mayF f = true) {to : Int} (ht : 0 ≤ to ∧ to < 256) (a : Bool) : entOk ⟨f, to, a, 0, 0⟩ = true := by
  unfold entOk timeOk
  rw [hf, decide_eq_true ht]; rfl
theorem pin_fitsN {n : GNode} (h : NodeOk n) {f : GFlow} (hf : mayF f = true) {now : Int} {spill : Bool} (hp : (pinN n now f spill).2 = true) : FitsN n f (pinN n now f spill).1 := by
  obtain ⟨s1, s2⟩ := confOk_small h.conf
  unfold pinN at hp ⊢
  cases hq : (findE n.Flows f now).2 && holdsN n (findE n.Flows f now).1 spill with
  | true =>
    rw [Bool.and_eq_true] at hq
    obtain ⟨m1, m2, _, _⟩ := find_mem hq.1
    exact ⟨m2, find_ok h hq.1, h.away _ m1, h.here _ m1⟩
  | false =>
    rw [hq, cond_false] at hp
    rw [cond_false]
    unfold newN at hp ⊢
    cases ha : !spill && (awayN n now f).2 with
    | true =>
      rw [cond_true]
      rw [Bool.and_eq_true] at ha
      have ha2 := ha.2
      unfold awayN at ha2 ⊢
      cases hfu : fullN n with
      | false => rw [hfu] at ha2; cases ha2
      | true =>
        rw [hfu, cond_true] at ha2
        rw [cond_true]
        obtain ⟨c, c1, c2⟩ := (chosen_spec (targN_may h now) hf 2 (by decide)).2.1 ha2
        obtain ⟨j, j1, j2, j3⟩ := targ_mem n now _ 0 c c1
        unfold targIs at j3
        simp only [Bool.and_eq_true, bne_iff_ne] at j3
        have hj : (chosen (targN n now) 2 f).1 = ((0 + j : Nat) : Int) := by rw [← c2, j2]
        have hne := j3.1
        refine ⟨rfl, ent_new hf (by rw [hj]; omega) _, fun _ => ⟨?_, ?_⟩, fun q => (by cases q)⟩
        · show 0 ≤ (chosen (targN n now) 2 f).1 ∧ (chosen (targN n now) 2 f).1 < 3
          rw [hj]; omega
        · show (chosen (targN n now) 2 f).1 ≠ n.Id
          rw [hj]; exact hne
    | false =>
      rw [ha, cond_false] at hp
      rw [cond_false]
      obtain ⟨c, c1, c2⟩ := (chosen_spec (backs_may (hs := n.Health) h.conf n.Id) hf 1 (by decide)).2.1 hp
      obtain ⟨j, j1, j2, j3⟩ := candB_mem n.Health _ 0 c c1
      have s4 := (siteOf_small h.conf n.Id).1
      have hj : (chosen (backs n.Config n.Id n.Health) 1 f).1 = ((0 + j : Nat) : Int) := by rw [← c2, j2]
      refine ⟨rfl, ent_new hf (by rw [hj]; omega) _, fun q => (by cases q), fun _ => ?_⟩
      show (chosen (backs n.Config n.Id n.Health) 1 f).1 < 4
      rw [hj]; omega
def headN (id : Int) (x : GEntry) (all inner : ByteArray) : GOuter :=
  bif x.Away then ⟨167903232 + id, 167903232 + x.To, 2, 1, id + 1, all⟩ else ⟨167903232 + id, 167968768 + 256 * id + x.To, 3, 0, 0, inner⟩
theorem addr_site {id : Int} (h : 0 ≤ id ∧ id < 3) : addrA 1 id 0 = (167903232 + id, 0) := by
  unfold addrA
  rw [if_neg (by omega), if_pos (by omega)]
theorem addr_back {id b : Int} (h : 0 ≤ id ∧ id < 3) (hb : 0 ≤ b ∧ b < 4) : addrA 2 id b = (167968768 + 256 * id + b, 0) := by
  unfold addrA
  rw [if_neg (by omega), if_neg (by omega), if_pos (by omega)]
theorem headN_eq (N : Nat) (x : Gsite_node) (h : NodeOk x.Node) {f : GFlow} {e : GEntry} (he : FitsN x.Node f e) (all inner : ByteArray) : L_site_node_head N x e all inner = some (headN x.Node.Id e all inner) := by
  have hid := h.id
  have hto := (entOk_parts he.ok).2.1
  unfold L_site_node_head headN
  refine stB (Address_eq ..) ?_
  rw [addr_site hid]
  cases ha : e.Away with
  | true =>
    refine stTT (stB (Address_eq ..) ?_)
    rw [addr_site (he.away ha).1, w64 (n := x.Node.Id + 1) (by omega) (by omega)]
    rfl
  | false =>
    refine stFF (stB (Address_eq ..) ?_)
    rw [addr_back hid ⟨hto.1, he.here ha⟩]
    rfl
theorem headN_may {n : GNode} (h : NodeOk n) {f : GFlow} {e : GEntry} (he : FitsN n f e) {all inner : ByteArray} (ha : all.size ≤ 512) (hi : inner.size ≤ 512) : mayG (headN n.Id e all inner) = true := by
  have hid := h.id
  have hto := (entOk_parts he.ok).2.1
  unfold mayG Known headN
  cases hq : e.Away with
  | true =>
    have := (he.away hq).1
    exact decide_eq_true (by dsimp only [cond_true]; omega)
  | false =>
    have := he.here hq
    exact decide_eq_true (by dsimp only [cond_false]; omega)
end Go.Proofs.YtmhlgpdoedbedaaGreat.Pu
