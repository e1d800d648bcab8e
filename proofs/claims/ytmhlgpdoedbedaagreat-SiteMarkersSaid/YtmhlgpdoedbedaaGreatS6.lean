/- Plain laws: SiteMarkers. -/
import Derived.Test.YtmhlgpdoedbedaaGreatS5
namespace Go.Proofs.YtmhlgpdoedbedaaGreat.Pu
set_option linter.unusedSimpArgs false
set_option linter.unusedVariables false
open Go Go.RowKit Go.Proofs.YtmhlgpdoedbedaaGreat.Sv Go.Proofs.YtmhlgpdoedbedaaGreat.Lf
/-- The first packet at a new site that has room. -/
theorem take_first {n : GNode} (hn0 : NodeOk n) (hfl : n.Flows = []) (hfu : fullN n = false) (hbk : backs n.Config n.Id n.Health ≠ []) {now : Int} (hn : timeOk now = true) {src : Int} {body : ByteArray} {o : GOuter} (ho : mayG o = true) (hob : o.Body.size ≤ 324) (hd : o.Dst = 167903232 + n.Id) (ht : o.Tier ≠ 4) (hi : insideN n.Id o = (sayS src 0 body, true)) :
    ∃ to fl h, takeN n now (pushI o) = (⟨n.Id, n.Config, n.Health, n.Seen, fl, n.Serial⟩, ⟨[pushI h], [evT (tN n) 0 to (flowI src)]⟩) ∧ fl = [useE ⟨flowI src, to, false, 0, 0⟩ 0 now] := by
  have hof := say_of src 0 body
  have hsz := say_size src 0 body
  have hmay : mayF (flowI src) = true := (say_ok src 0 body).1
  generalize sayS src 0 body = s at *
  have hpin := pin_new hn0 hmay (now := now) (o.Tier == 2) hfl hfu hbk
  generalize (chosen (backs n.Config n.Id n.Health) 1 (flowI src)).1 = to at *
  have htk := takeN_sent (n := n) (now := now) (pop_push ho hob) hd ht hi hof rfl hpin
  have hbs : (headN n.Id ⟨flowI src, to, false, 0, 0⟩ (pushI o) s).Body = s := rfl
  rw [sentF_small (by rw [hbs]; omega), hfl] at htk
  exact ⟨to, _, _, htk, rfl⟩
def o3 : ByteArray := sayS 3 0 (ByteArray.mk #[107])
def p3 : ByteArray := pushI ⟨167837697, 167903233, 1, 0, 0, o3⟩
theorem o3_size : o3.size ≤ 100 := by unfold o3; exact say_size _ _ _
theorem p3_size : p3.size ≤ 324 := by have := o3_size; unfold p3; rw [pushI_size]; show 36 + o3.size ≤ 324; omega
theorem sameN : L_law0_SameNode 281474976710656 nG nG = some true := by kernel_rfl
theorem mark_odd {o : GOuter} (ho : mayG o = true) (hob : o.Body.size ≤ 324) {k : Int} (hk : k = 7 ∨ k = 8) {f : GFlow} (h : takeN nG 4 (pushI o) = (nG, alone (tN nG) k f)) :
    L_law20_SiteMarkers_1 281474976710656 nG.Id nG.Config.Version nG.Config.Sites nG.Health nG.Seen nG.Flows nG.Serial 0 o.Src o.Dst o.Tier o.Marker o.Origin o.Body k = some true := by
  have hT := SiteTake_eq (okN_bd nG_ok) 4 (pushI o)
  rw [if_pos ⟨(nodeOk_iff _).2 nG_ok, by decide⟩, h] at hT
  unfold L_law20_SiteMarkers_1 L_law20_SiteMarkers_2
  refine stB (RPush_ok ho hob) (stB hT (stB (x := 0) rfl (stET rfl (stET rfl (stB (x := 0) rfl (stET rfl ?_))))))
  have hkd : L_law20_kindOf 281474976710656 (alone (tN nG) k f) = some k := rfl
  refine stB hkd (stET rfl ?_)
  rcases hk with rfl | rfl
  · exact stTT (stFF (stB sameN rfl))
  · exact stTT (stFF (stB sameN rfl))
theorem mark_in {o : GOuter} (ho : mayG o = true) (hob : o.Body.size ≤ 324) (hd : o.Dst = 167903232) (ht : o.Tier ≠ 4) (hi : (insideN 0 o).2 = false) : takeN nG 4 (pushI o) = (nG, alone (tN nG) 7 zF) := by
  unfold takeN
  rw [pop_push ho hob]
  dsimp only
  rw [show (insideN nG.Id o).2 = false from hi, show (o.Dst != 167903232 + nG.Id) = false by rw [hd]; rfl, show (o.Tier == 4) = false from beq_eq_false_iff_ne.2 ht]
  rfl
theorem mark_drop {o : GOuter} (ho : mayG o = true) (hob : o.Body.size ≤ 324) (hd : o.Dst = 167903232) (ht : o.Tier ≠ 4) (hi : (insideN 0 o).2 = false) :
    L_law20_SiteMarkers_1 281474976710656 nG.Id nG.Config.Version nG.Config.Sites nG.Health nG.Seen nG.Flows nG.Serial 0 o.Src o.Dst o.Tier o.Marker o.Origin o.Body 7 = some true := mark_odd ho hob (.inl rfl) (mark_in ho hob hd ht hi)
theorem mark_sent {o : GOuter} (ho : mayG o = true) (hob : o.Body.size ≤ 324) (hd : o.Dst = 167903232) (ht : o.Tier ≠ 4) (hi : insideN 0 o = (o3, true)) :
    L_law20_SiteMarkers_1 281474976710656 nG.Id nG.Config.Version nG.Config.Sites nG.Health nG.Seen nG.Flows nG.Serial 0 o.Src o.Dst o.Tier o.Marker o.Origin o.Body 0 = some true := by
  obtain ⟨to, fl, g, h, _⟩ := take_first nG_ok (now := 4) rfl (by kernel_rfl) (by decide +kernel) (by decide) ho hob hd ht hi
  have hT := SiteTake_eq (okN_bd nG_ok) 4 (pushI o)
  rw [if_pos ⟨(nodeOk_iff _).2 nG_ok, by decide⟩, h] at hT
  unfold L_law20_SiteMarkers_1 L_law20_SiteMarkers_2
  refine stB (RPush_ok ho hob) (stB hT (stB (x := 0) rfl (stET rfl (stET rfl (stB (x := 0) rfl (stET rfl ?_))))))
  have hkd : L_law20_kindOf 281474976710656 ⟨[pushI g], [evT (tN nG) 0 to (flowI 3)]⟩ = some 0 := rfl
  exact stB hkd (stET rfl (stTT (stTT rfl)))
theorem plain_no {o : GOuter} (ht : o.Tier ≠ 2) (h : plainO o = false) : (insideN 0 o).2 = false := by
  unfold insideN
  rw [show (o.Tier != 2) = true from bne_iff_ne.2 ht]
  exact h
theorem spill_no {o : GOuter} (ht : o.Tier = 2) (h : spillOk 0 o = false) : (insideN 0 o).2 = false := by
  unfold insideN
  rw [show (o.Tier != 2) = false by rw [ht]; rfl, h]
  rfl
theorem SiteMarkers (which x : Int) : L_law20_SiteMarkers 281474976710656 which x = some true := by
  have hd : 1 ≤ 1 + x % 128 ∧ 1 + x % 128 ≤ 128 := by omega
  have h3 := o3_size
  have hp := p3_size
  unfold L_law20_SiteMarkers
  rw [show bAnd .i64 x 127 = x % 128 from and_mask 7 (by decide) x, w64 (n := (1 : Int) + x % 128) (by omega) (by omega)]
  generalize 1 + x % 128 = d at *
  have hpush : L_ref1_Push 281474976710656 ⟨167837697, 167903233, 1, 0, 0, o3⟩ = some (p3, 0) := RPush_ok (by unfold mayG Known; exact decide_eq_true (by dsimp only; omega)) (by show o3.size ≤ 324; omega)
  refine stB awake20 (stNTT (stVia (stB (x := givenC) rfl (stB newG (stB (Said20_eq 3 0 (ByteArray.mk #[107])) (stB hpush ?_))))))
  rw [w64 (n := (1 : Int) + d) (by omega) (by omega), w64 (n := (2 : Int) + d) (by omega) (by omega)]
  have mg : ∀ {a b t m g : Int} {s : ByteArray}, Known a → Known b → 1 ≤ t → t ≤ 4 → 0 ≤ m ∧ m < 256 → 0 ≤ g ∧ g < 256 → s.size ≤ 324 → mayG ⟨a, b, t, m, g, s⟩ = true := fun h1 h2 h3 h4 h5 h6 h7 => decide_eq_true ⟨h1, h2, h3, h4, h5, h6, by dsimp only; omega⟩
  have k0 : Known 167837696 := by decide
  have k1 : Known 167903232 := by decide
  have k2 : Known 167903233 := by decide
  have k3 : Known 167903234 := by decide
  have s3 : o3.size ≤ 324 := by omega
  have t1 : ∀ {a b m g : Int} {s : ByteArray}, (⟨a, b, 1, m, g, s⟩ : GOuter).Tier ≠ 4 := by intro a b m g s; show (1 : Int) ≠ 4; decide
  have t2 : ∀ {a b m g : Int} {s : ByteArray}, (⟨a, b, 2, m, g, s⟩ : GOuter).Tier ≠ 4 := by intro a b m g s; show (2 : Int) ≠ 4; decide
  have t3 : ∀ {a b m g : Int} {s : ByteArray}, (⟨a, b, 3, m, g, s⟩ : GOuter).Tier ≠ 4 := by intro a b m g s; show (3 : Int) ≠ 4; decide
  have u1 : ∀ {a b m g : Int} {s : ByteArray}, (⟨a, b, 1, m, g, s⟩ : GOuter).Tier ≠ 2 := by intro a b m g s; show (1 : Int) ≠ 2; decide
  have u3 : ∀ {a b m g : Int} {s : ByteArray}, (⟨a, b, 3, m, g, s⟩ : GOuter).Tier ≠ 2 := by intro a b m g s; show (3 : Int) ≠ 2; decide
  by_cases c0 : (IntKind.u64.wrap which).tmod 14 = 0
  · exact stET c0 (mark_drop (o := ⟨167837696, 167903232, 1, d, 0, o3⟩) (mg k0 k1 (by decide) (by decide) (by omega) (by decide) s3) s3 rfl t1 (plain_no u1 (by unfold plainO; dsimp only; rw [show (d == 0) = false from beq_eq_false_iff_ne.2 (by omega)]; rfl)))
  refine stEF c0 ?_
  by_cases c1 : (IntKind.u64.wrap which).tmod 14 = 1
  · exact stET c1 (mark_drop (o := ⟨167837696, 167903232, 1, 0, d, o3⟩) (mg k0 k1 (by decide) (by decide) (by decide) (by omega) s3) s3 rfl t1 (plain_no u1 (by unfold plainO; dsimp only; rw [show (d == 0) = false from beq_eq_false_iff_ne.2 (by omega)]; rfl)))
  refine stEF c1 ?_
  by_cases c2 : (IntKind.u64.wrap which).tmod 14 = 2
  · exact stET c2 (mark_drop (o := ⟨167903234, 167903232, 1, 0, 0, o3⟩) (mg k3 k1 (by decide) (by decide) (by decide) (by decide) s3) s3 rfl t1 (plain_no u1 (by unfold plainO; dsimp only; rfl)))
  refine stEF c2 ?_
  by_cases c3 : (IntKind.u64.wrap which).tmod 14 = 3
  · exact stET c3 (mark_drop (o := ⟨167837696, 167903232, 3, 0, 0, o3⟩) (mg k0 k1 (by decide) (by decide) (by decide) (by decide) s3) s3 rfl t3 (plain_no u3 (by unfold plainO; dsimp only; rfl)))
  refine stEF c3 ?_
  by_cases c4 : (IntKind.u64.wrap which).tmod 14 = 4
  · exact stET c4 (mark_drop (o := ⟨167903233, 167903232, 2, 1 + d, 2, p3⟩) (mg k2 k1 (by decide) (by decide) (by omega) (by decide) hp) hp rfl t2 (spill_no rfl (by unfold spillOk; dsimp only; rw [show (1 + d == 1) = false from beq_eq_false_iff_ne.2 (by omega)]; rfl)))
  refine stEF c4 ?_
  by_cases c5 : (IntKind.u64.wrap which).tmod 14 = 5
  · exact stET c5 (mark_drop (o := ⟨167903233, 167903232, 2, 0, 2, p3⟩) (mg k2 k1 (by decide) (by decide) (by decide) (by decide) hp) hp rfl t2 (spill_no rfl (by unfold spillOk; dsimp only; rfl)))
  refine stEF c5 ?_
  by_cases c6 : (IntKind.u64.wrap which).tmod 14 = 6
  · exact stET c6 (mark_drop (o := ⟨167903233, 167903232, 2, 1, 2 + d, p3⟩) (mg k2 k1 (by decide) (by decide) (by decide) (by omega) hp) hp rfl t2 (spill_no rfl (by unfold spillOk; dsimp only; rw [show whoA 167903233 = (1, 1, 0, true) from rfl]; dsimp only; rw [show (2 + d == 1 + 1) = false from beq_eq_false_iff_ne.2 (by omega)]; rfl)))
  refine stEF c6 ?_
  by_cases c7 : (IntKind.u64.wrap which).tmod 14 = 7
  · exact stET c7 (mark_drop (o := ⟨167903232, 167903232, 2, 1, 1, p3⟩) (mg k1 k1 (by decide) (by decide) (by decide) (by decide) hp) hp rfl t2 (spill_no rfl (by unfold spillOk; dsimp only; rfl)))
  refine stEF c7 ?_
  by_cases c8 : (IntKind.u64.wrap which).tmod 14 = 8
  · exact stET c8 (mark_drop (o := ⟨167903233, 167903232, 2, 1, 2, o3⟩) (mg k2 k1 (by decide) (by decide) (by decide) (by decide) s3) s3 rfl t2 (by decide +kernel))
  refine stEF c8 ?_
  by_cases c9 : (IntKind.u64.wrap which).tmod 14 = 9
  · exact stET c9 (mark_drop (o := ⟨167903234, 167903232, 2, 1, 3, p3⟩) (mg k3 k1 (by decide) (by decide) (by decide) (by decide) hp) hp rfl t2 (by decide +kernel))
  refine stEF c9 ?_
  by_cases c10 : (IntKind.u64.wrap which).tmod 14 = 10
  · refine stET c10 ?_
    have ho : mayG ⟨167837696, 167903233, 1, 0, 0, o3⟩ = true := mg k0 k2 (by decide) (by decide) (by decide) (by decide) s3
    exact mark_odd (o := ⟨167837696, 167903233, 1, 0, 0, o3⟩) ho s3 (.inr rfl) (f := zF) (by unfold takeN; rw [pop_push ho s3]; rfl)
  refine stEF c10 ?_
  by_cases c11 : (IntKind.u64.wrap which).tmod 14 = 11
  · refine stET c11 ?_
    have ho : mayG ⟨167837696, 167903232, 4, 0, 0, o3⟩ = true := mg k0 k1 (by decide) (by decide) (by decide) (by decide) s3
    exact mark_odd (o := ⟨167837696, 167903232, 4, 0, 0, o3⟩) ho s3 (.inr rfl) (f := zF) (by
      unfold takeN
      rw [pop_push ho s3]
      show toldN nG ⟨167837696, 167903232, 4, 0, 0, o3⟩ 4 = _
      unfold toldN
      dsimp only
      rw [show ((getR o3).2 != 0) = true by decide +kernel]
      rfl)
  refine stEF c11 ?_
  by_cases c12 : (IntKind.u64.wrap which).tmod 14 = 12
  · exact stET c12 (mark_sent (o := ⟨167837696, 167903232, 1, 0, 0, o3⟩) (mg k0 k1 (by decide) (by decide) (by decide) (by decide) s3) s3 rfl t1 (inside_to 0 0 o3))
  · refine stEF c12 (mark_sent (o := ⟨167903233, 167903232, 2, 1, 2, p3⟩) (mg k2 k1 (by decide) (by decide) (by decide) (by decide) hp) hp rfl t2 ?_)
    decide +kernel
end Go.Proofs.YtmhlgpdoedbedaaGreat.Pu
