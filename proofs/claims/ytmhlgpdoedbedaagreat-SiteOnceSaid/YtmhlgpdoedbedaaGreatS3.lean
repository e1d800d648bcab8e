import Derived.Test.YtmhlgpdoedbedaaGreatS2
set_option linter.unusedVariables false
set_option linter.unusedSimpArgs false
namespace Go.Proofs.YtmhlgpdoedbedaaGreat.Pu
open Go Go.RowKit Go.Proofs.YtmhlgpdoedbedaaGreat.Sv Go.Proofs.YtmhlgpdoedbedaaGreat.Lf
def repL (r : GReport) : ByteArray := B1 r.Site ++ B2 r.Serial ++ B1 r.Load ++ B1 r.Cap
def repT (r : GReport) : ByteArray := repL r ++ mkS [bXor .u8 255 (IntKind.u8.wrap (sumB (repL r)))]
theorem repL_size (r : GReport) : (repL r).size = 5 := by simp only [repL, ByteArray.size_append, B1_size, B2_size]
theorem RepPut_eq {N : Nat} (hN : 1000 ≤ N) (r : GReport) : L_report_Put N r = some (if repOk r = true then (repT r, 0) else (ByteArray.empty, 700)) := by
  unfold L_report_Put
  refine stB (RepMay_eq N r) ?_
  cases repOk r with
  | false => rfl
  | true =>
    have hl := repL_size r
    have hs := psum_eq hN (repL r) (by omega) (by omega)
    refine stNTT (stB (bytes1 hN _) (stB (bytes2 hN _) (stIf (by rw [B1_size, B2_size]; decide) (stB (bytes1 hN _) (stIf (by rw [ByteArray.size_append, B1_size, B2_size, B1_size]; decide) (stB (bytes1 hN _) (stIf (by rw [ByteArray.size_append, ByteArray.size_append, B1_size, B2_size, B1_size, B1_size]; decide) (stB hs (stIf ?_ (stVia ?_))))))))))
    · show (((repL r).size + (mkS [bXor .u8 255 (IntKind.u8.wrap (sumB (repL r)))]).size : Nat) : Int) ≤ 9223372036854775807
      rw [hl, mkS_size, List.length_singleton]; decide
    · rw [if_pos rfl]; rfl
def getR (s : ByteArray) : GReport × Int :=
  if s.size = 6 ∧ repOk ⟨bt s 0, N2 s 1, bt s 3, bt s 4⟩ = true ∧ repT ⟨bt s 0, N2 s 1, bt s 3, bt s 4⟩ = s then (⟨bt s 0, N2 s 1, bt s 3, bt s 4⟩, 0) else (zR, 700)
theorem N2_cut (s : ByteArray) (h : s.size = 6) : N2 (s.extract 1 3) 0 = N2 s 1 := by
  unfold N2
  have h0 : bt (s.extract 1 3) (0 : Nat) = bt s (1 : Nat) := bt_extract s 1 3 0 (by omega) (by omega)
  have h1 : bt (s.extract 1 3) (1 : Nat) = bt s (2 : Nat) := bt_extract s 1 3 1 (by omega) (by omega)
  show bt (s.extract 1 3) (0 : Nat) * 256 + bt (s.extract 1 3) (1 : Nat) = _
  rw [h0, h1]
theorem RepGet_eq {N : Nat} (hN : 1000 ≤ N) (s : ByteArray) : L_report_Get N s = some (getR s) := by
  unfold L_report_Get L_report_Get_1
  by_cases c : s.size = 6
  · have hn := number2 hN (s.extract 1 3) (by rw [ByteArray.size_extract]; omega)
    rw [N2_cut s c] at hn
    have b0 := bt_range s (0 : Nat); have b3 := bt_range s (3 : Nat); have b4 := bt_range s (4 : Nat)
    have e0 : bt s 0 = bt s (0 : Nat) := rfl
    have e3 : bt s 3 = bt s (3 : Nat) := rfl
    have e4 : bt s 4 = bt s (4 : Nat) := rfl
    refine stNT (by omega) (stIf (by omega) (stIf (by omega) (stB hn (stIf (by omega) (stIf (by omega) ?_)))))
    rw [w64 (n := bt s 0) (by omega) (by omega), w64 (n := bt s 3) (by omega) (by omega), w64 (n := bt s 4) (by omega) (by omega)]
    refine stB (RepPut_eq hN _) ?_
    by_cases k : repOk ⟨bt s 0, N2 s 1, bt s 3, bt s 4⟩ = true
    · rw [if_pos k]
      refine stNT rfl ?_
      dsimp only
      by_cases e : repT ⟨bt s 0, N2 s 1, bt s 3, bt s 4⟩ = s
      · rw [show getR s = _ from if_pos ⟨c, k, e⟩, e, tlB]; rfl
      · rw [show getR s = _ from if_neg (fun h => e h.2.2)]
        have : ((repT ⟨bt s 0, N2 s 1, bt s 3, bt s 4⟩).toList == s.toList) = false := by
          rw [beq_eq_false_iff_ne]; exact fun h => e ((toList_iff _ _).1 h)
        rw [this]; rfl
    · rw [if_neg k, show getR s = _ from if_neg (fun h => k h.2.1)]
      exact stNF (by decide) rfl
  · rw [show getR s = _ from if_neg (fun h => c h.1)]
    exact stNF (by omega) rfl
theorem getR_ok {s : ByteArray} (h : (getR s).2 = 0) : repOk (getR s).1 = true := by
  unfold getR at h ⊢
  split at h
  · rename_i c; rw [if_pos c]; exact c.2.1
  · simp at h
def newerP (a b : Int) : Bool := decide ((a - b + 65536).tmod 65536 ≥ 1) && decide ((a - b + 65536).tmod 65536 < 32768)
theorem Newer_eq (N : Nat) (a b : Int) (ha : 0 ≤ a ∧ a < 65536) (hb : 0 ≤ b ∧ b < 65536) : L_report_Newer N a b = some (newerP a b, 0) := by
  unfold L_report_Newer L_report_Newer_1 L_report_Newer_2 newerP
  rw [serial_eq, serial_eq, decide_eq_true ha, decide_eq_true hb]
  refine stB rfl (stNTT (stB rfl (stNTT (stVia ?_))))
  rw [w64 (n := a - b) (by omega) (by omega), w64 (n := a - b + 65536) (by omega) (by omega)]
  cases decide ((a - b + 65536).tmod 65536 ≥ 1) <;> rfl
def takeV (vs : List GSeen) (r : GReport) (now : Int) : List GSeen × Bool :=
  bif ((vs.getD r.Site.toNat default).At != -1) && !newerP r.Serial (vs.getD r.Site.toNat default).Report.Serial then (vs, false) else (vs.set r.Site.toNat ⟨r, now⟩, true)
theorem seen_serial {i : Int} {v : GSeen} (h : seenOk i v = true) : 0 ≤ v.Report.Serial ∧ v.Report.Serial < 65536 := by
  unfold seenOk at h
  rw [Bool.or_eq_true] at h
  rcases h with h | h
  · rw [Bool.and_eq_true] at h
    rw [eqR_iff.1 h.2]
    exact ⟨by decide, by decide⟩
  · simp only [Bool.and_eq_true] at h
    have := h.2.1
    unfold repOk at this
    simp only [Bool.and_eq_true, decide_eq_true_eq] at this
    exact this.2.1
theorem repOk_parts {r : GReport} (h : repOk r = true) : (0 ≤ r.Site ∧ r.Site < 3) ∧ (0 ≤ r.Serial ∧ r.Serial < 65536) ∧ (0 ≤ r.Load ∧ r.Load < 256) ∧ (0 ≤ r.Cap ∧ r.Cap < 256) := by
  unfold repOk at h
  simpa only [Bool.and_eq_true, decide_eq_true_eq] using h
theorem ViewTake_eq {N : Nat} (hN : 140737488355328 < N) {vs : List GSeen} (hv : viewOk vs = true) {r : GReport} (hr : repOk r = true) {now : Int} (hn : timeOk now = true) : L_view_Take N vs r now = some ((takeV vs r now).1, (takeV vs r now).2, 0) := by
  have hl := viewOk_len hv
  obtain ⟨p1, p2, _, _⟩ := repOk_parts hr
  have hs := seen_serial (viewOk_at hv (i := r.Site.toNat) (by omega))
  unfold L_view_Take L_view_Take_1 L_view_Take_2 takeV
  rw [ViewMay_eq hN vs (by omega), hv, RepMay_eq, hr, Time_eq, hn]
  refine stB rfl (stNTT (stB rfl (stNTT (stB rfl (stNTT (stB (CloneS_eq N vs (by omega)) (stIf (by omega) (stB (Newer_eq N _ _ p2 hs) ?_))))))))
  dsimp only
  cases ((vs.getD r.Site.toNat default).At != -1) with
  | true =>
    refine stTT (stIf (by omega) ?_)
    rw [Bool.true_and]
    cases newerP r.Serial (vs.getD r.Site.toNat default).Report.Serial <;> rfl
  | false => exact stFF (stIf (by omega) rfl)
def tN (n : GNode) : Gevent_Teller := ⟨1, n.Id, 0⟩
def alone (t : Gevent_Teller) (kind : Int) (f : GFlow) : GOut := ⟨[], [evT t kind 0 f]⟩
def toldN (n : GNode) (o : GOuter) (now : Int) : GNode × GOut :=
  bif ((getR o.Body).2 != 0) || (!(o.Src == 167903232 + (getR o.Body).1.Site) || ((getR o.Body).1.Site == n.Id)) then (n, alone (tN n) 8 zF)
  else bif (takeV n.Seen (getR o.Body).1 now).2 then (⟨n.Id, n.Config, n.Health, (takeV n.Seen (getR o.Body).1 now).1, n.Flows, n.Serial⟩, ⟨[], [evT (tN n) 13 (getR o.Body).1.Site zF]⟩) else (n, ⟨[], []⟩)
theorem told_eq (n : GNode) (h : NodeOk n) {now : Int} (hn : timeOk now = true) (o : GOuter) : L_site_node_told 281474976710656 ⟨n, tN n, now⟩ o = some ((toldN n o now).2, ⟨(toldN n o now).1, tN n, now⟩) := by
  unfold L_site_node_told toldN
  refine stB (RepGet_eq (by decide) o.Body) (stB (Address_eq ..) ?_)
  have hk := @getR_ok o.Body
  generalize getR o.Body = g at *
  have h1 : L_site_node_told_1 281474976710656 n.Id n.Config.Version n.Config.Sites n.Health n.Seen n.Flows n.Serial (tN n).Role (tN n).Site (tN n).Node now g.1.Site g.1.Serial g.1.Load g.1.Cap true = some (alone (tN n) 8 zF, ⟨n, tN n, now⟩) := rfl
  by_cases c : g.2 = 0
  · have hr := hk c
    obtain ⟨p1, _⟩ := repOk_parts hr
    rw [addr_site p1]
    refine stNT c ?_
    rw [show (g.2 != 0) = false by rw [c]; rfl, Bool.false_or]
    by_cases e : o.Src = 167903232 + g.1.Site
    · rw [show (o.Src == 167903232 + g.1.Site) = true from beq_iff_eq.2 e]
      refine stNT e ?_
      dsimp only
      cases (g.1.Site == n.Id) with
      | true => exact h1
      | false =>
        unfold L_site_node_told_1
        refine stFF (stB (ViewTake_eq (by decide) h.view hr hn) ?_)
        dsimp only
        cases (takeV n.Seen g.1 now).2 with
        | true => exact stNTT (stB rfl rfl)
        | false => rfl
    · rw [show (o.Src == 167903232 + g.1.Site) = false from beq_eq_false_iff_ne.2 e]
      exact stNF e h1
  · rw [show (g.2 != 0) = true from bne_iff_ne.2 c]
    exact stTT h1
def takeN (n : GNode) (now : Int) (s : ByteArray) : GNode × GOut :=
  bif ((popI s).2 != 0) || ((popI s).1.Dst != 167903232 + n.Id) then (n, alone (tN n) 8 zF)
  else bif (popI s).1.Tier == 4 then toldN n (popI s).1 now
  else bif !(insideN n.Id (popI s).1).2 then (n, alone (tN n) 7 zF)
  else bif (ofF (insideN n.Id (popI s).1).1).2.2 != 0 then (n, alone (tN n) (evOf (ofF (insideN n.Id (popI s).1).1).2.2) (ofF (insideN n.Id (popI s).1).1).1)
  else bif !(pinN n now (ofF (insideN n.Id (popI s).1).1).1 ((popI s).1.Tier == 2)).2 then (n, alone (tN n) 5 (ofF (insideN n.Id (popI s).1).1).1)
  else (⟨n.Id, n.Config, n.Health, n.Seen, (sentF (tN n) (headN n.Id (pinN n now (ofF (insideN n.Id (popI s).1).1).1 ((popI s).1.Tier == 2)).1 s (insideN n.Id (popI s).1).1) n.Flows (pinN n now (ofF (insideN n.Id (popI s).1).1).1 ((popI s).1.Tier == 2)).1 (ofF (insideN n.Id (popI s).1).1).2.1.Flags now).1, n.Serial⟩,
    (sentF (tN n) (headN n.Id (pinN n now (ofF (insideN n.Id (popI s).1).1).1 ((popI s).1.Tier == 2)).1 s (insideN n.Id (popI s).1).1) n.Flows (pinN n now (ofF (insideN n.Id (popI s).1).1).1 ((popI s).1.Tier == 2)).1 (ofF (insideN n.Id (popI s).1).1).2.1.Flags now).2)
theorem inside_size {id : Int} {o : GOuter} (ho : o.Body.size ≤ 512) : (insideN id o).1.size ≤ 512 := by
  unfold insideN
  cases (o.Tier != 2) with
  | true => exact ho
  | false =>
    cases spillOk id o with
    | true =>
      show (popI o.Body).1.Body.size ≤ 512
      unfold popI badG outS
      split
      · decide
      · split
        · dsimp only; rw [ByteArray.size_extract]; omega
        · decide
    | false => exact by show ByteArray.empty.size ≤ 512; decide
theorem siteT_eq (n : GNode) (h : NodeOk n) {now : Int} (hn : timeOk now = true) (s : ByteArray) : L_site_node_take 281474976710656 ⟨n, tN n, now⟩ s = some ((takeN n now s).2, ⟨(takeN n now s).1, tN n, now⟩) := by
  have hid := h.id
  have hpm := @popI_may s
  have hra := popI_RA s
  unfold L_site_node_take takeN
  refine stB (Pop_eq (by decide) s) (stB (Address_eq ..) ?_)
  dsimp only
  rw [addr_site hid]
  generalize popI s = p at *
  have h1 : L_site_node_take_1 281474976710656 n.Id n.Config.Version n.Config.Sites n.Health n.Seen n.Flows n.Serial (tN n).Role (tN n).Site (tN n).Node now s p.1.Src p.1.Dst p.1.Tier p.1.Marker p.1.Origin p.1.Body true = some (alone (tN n) 8 zF, ⟨n, tN n, now⟩) := rfl
  by_cases c : p.2 = 0
  case neg =>
    rw [show (p.2 != 0) = true from bne_iff_ne.2 c]
    exact stTT h1
  obtain ⟨hm, hs, hz⟩ := hpm c
  refine stNT c ?_
  rw [show (p.2 != 0) = false by rw [c]; rfl, Bool.false_or]
  dsimp only
  cases hd : (p.1.Dst != 167903232 + n.Id) with
  | true => exact h1
  | false =>
  unfold L_site_node_take_1
  refine stFF ?_
  cases ht : (p.1.Tier == 4) with
  | true =>
    rw [cond_true, cond_false, cond_true]
    exact stB (told_eq n h hn p.1) rfl
  | false =>
  refine stFF (stB (inside_eq (N := 281474976710656) (by decide) ⟨n, tN n, now⟩ p.1 hra.1) ?_)
  rw [cond_false, cond_false]
  have hiz := inside_size (id := n.Id) (mayG_parts hm).2.2.2.2.2.2
  show (bif !(insideN n.Id p.1).2 then _ else _) = _
  generalize insideN n.Id p.1 = g at *
  cases hg : g.2 with
  | false => rfl
  | true =>
  refine stNTT (stB (Of_eq (by decide) g.1) ?_)
  rw [Bool.not_true, cond_false]
  have hof := @ofF_ok g.1
  have hcl := (ofF_class g.1).1
  generalize ofF g.1 = w at *
  by_cases k : w.2.2 = 0
  case neg =>
    rw [show (w.2.2 != 0) = true from bne_iff_ne.2 k]
    exact stTT (stB (EventOf_eq _ _) (stB rfl rfl))
  obtain ⟨f1, f2⟩ := hof k
  refine stNT k ?_
  rw [show (w.2.2 != 0) = false by rw [k]; rfl, cond_false]
  refine stB (pinned_eq ⟨n, tN n, now⟩ h hn f1 (p.1.Tier == 2)) ?_
  have hfit := fun q => pin_fitsN (now := now) (spill := (p.1.Tier == 2)) h f1 q
  show (bif !(pinN n now w.1 (p.1.Tier == 2)).2 then _ else _) = _
  generalize pinN n now w.1 (p.1.Tier == 2) = e at *
  cases he : e.2 with
  | false => exact stNFF (stB rfl rfl)
  | true =>
  have hx := hfit he
  refine stNTT (stB (headN_eq _ ⟨n, tN n, now⟩ h hx s g.1) ?_)
  rw [Bool.not_true, cond_false]
  exact stB (SentF_eq (tN n) (headN_may h hx (by omega) hiz) h.cache hx.ok ⟨f2.1, f2.2⟩ hn) rfl
def zN : GNode := ⟨0, ⟨0, []⟩, [], [], [], 0⟩
theorem SiteTake_eq {n : GNode} (hb : BdN n) (now : Int) (s : ByteArray) : L_site_Take 281474976710656 n now s = some (if nodeOk n = true ∧ timeOk now = true then ((takeN n now s).1, (takeN n now s).2, 0) else (zN, ⟨[], []⟩, 2000)) := by
  unfold L_site_Take L_site_Take_1
  refine stB (NodeMay_eq (by decide) n hb) ?_
  cases hk : nodeOk n with
  | false => rw [if_neg (fun h => by cases h.1)]; rfl
  | true =>
    have h := (nodeOk_iff n).1 hk
    refine stNTT (stB (Time_eq _ now) ?_)
    cases hn : timeOk now with
    | false => rw [if_neg (fun h => by cases h.2)]; rfl
    | true =>
      rw [if_pos ⟨rfl, rfl⟩]
      exact stNTT (stB (CopyN_eq (by decide) h) (stB (siteT_eq n h hn s) rfl))
end Go.Proofs.YtmhlgpdoedbedaaGreat.Pu
