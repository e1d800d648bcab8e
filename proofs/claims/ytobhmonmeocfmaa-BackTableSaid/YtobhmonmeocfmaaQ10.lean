/- Plain laws: backends. -/
import Derived.Test.YtobhmonmeocfmaaQ9
namespace Go.Proofs.Ytobhmonmeocfmaa.Pu
set_option linter.unusedSimpArgs false
set_option linter.unusedVariables false
open Go Go.RowKit Go.Proofs.Ytobhmonmeocfmaa.Sv Go.Proofs.Ytobhmonmeocfmaa.Lf
attribute [local irreducible] L_ref1_Num L_ip_Bytes L_ip_Number L_ref1_Of L_sum_Sum L_ref1_Sum
abbrev TakeR := ByteArray × GOut × Int
def stray (site id : Int) : TakeR := (ByteArray.empty, ⟨[], [⟨8, 2, site, id, 0, ⟨0, 0, 0, 0, 0⟩⟩]⟩, 0)
def evOf (c : Int) : Int := if c = 1 then 2 else if c = 2 then 3 else 4
def passed (site id : Int) (body : ByteArray) : TakeR :=
  if (ofF body).2.2 = 0 then (body, ⟨[], [⟨1, 2, site, id, id, (ofF body).1⟩]⟩, 0)
  else (ByteArray.empty, ⟨[], [⟨evOf (ofF body).2.2, 2, site, id, 0, ⟨0, 0, 0, 0, 0⟩⟩]⟩, 0)
def okB (site id : Int) (p : OutR) : Prop := p.2 = 0 ∧ p.1.Dst = 167968768 + 256 * site + id ∧ p.1.Src = 167903232 + site ∧ p.1.Tier = 3 ∧ p.1.Marker = 0 ∧ p.1.Origin = 0
instance (site id : Int) (p : OutR) : Decidable (okB site id p) := by unfold okB; infer_instance
def takeB (site id : Int) (s : ByteArray) : TakeR :=
  if 0 ≤ site ∧ site < 3 ∧ 0 ≤ id ∧ id < 4 then (if okB site id (popI s) then passed site id (popI s).1.Body else stray site id)
  else (ByteArray.empty, ⟨[], []⟩, 2100)
theorem getI_class (s : ByteArray) : (getI s).2.1 = 0 ∨ (getI s).2.1 = 1 ∨ (getI s).2.1 = 2 ∨ (getI s).2.1 = 3 := by
  unfold getI badI
  repeat' split
  all_goals simp
theorem ofF_class (s : ByteArray) : ((ofF s).2.2 = 0 ∨ (ofF s).2.2 = 1 ∨ (ofF s).2.2 = 2 ∨ (ofF s).2.2 = 3) ∧ ((ofF s).2.2 ≠ 0 → (ofF s).1 = ⟨0, 0, 0, 0, 0⟩) := by
  have h := getI_class s
  unfold ofF noF
  split
  · exact ⟨h, fun _ => rfl⟩
  · split
    · exact ⟨.inr (.inr (.inr rfl)), fun _ => rfl⟩
    · split
      · exact ⟨.inr (.inl rfl), fun _ => rfl⟩
      · exact ⟨.inl rfl, fun h => absurd rfl h⟩
theorem EventOf_eq (N : Nat) (c : Int) : L_event_Of N c = some (evOf c) := by
  unfold L_event_Of evOf
  simp only [ceq]
  by_cases a : c = 1
  · rw [if_pos a, if_pos a]
  · rw [if_neg a, if_neg a]
    by_cases b : c = 2
    · rw [if_pos b, if_pos b]
    · rw [if_neg b, if_neg b]
theorem Take_1_bad (N : Nat) (site id a b c d e : Int) (body : ByteArray) : L_backend_Take_1 N id 2 site id a b c d e body true = some (stray site id) := rfl
theorem Take_1_ok {N : Nat} (hN : 1000 ≤ N) (site id a b c d e : Int) (body : ByteArray) : L_backend_Take_1 N id 2 site id a b c d e body false = some (passed site id body) := by
  unfold L_backend_Take_1 passed
  refine stFF (stB (Of_eq hN body) ?_)
  have hz := (ofF_class body).2
  by_cases q : (ofF body).2.2 = 0
  · rw [if_pos q]
    exact stNT q rfl
  · rw [if_neg q]
    refine stNF q (stB (EventOf_eq N _) ?_)
    rw [hz q]
    rfl
theorem Take_eq {N : Nat} (hN : 1000 ≤ N) (site id : Int) (s : ByteArray) : L_backend_Take N site id s = some (takeB site id s) := by
  unfold L_backend_Take takeB
  refine stB (Address_eq N 2 site id) ?_
  by_cases h : 0 ≤ site ∧ site < 3 ∧ 0 ≤ id ∧ id < 4
  · rw [if_pos h]
    have ea : addrA 2 site id = (167968768 + 256 * site + id, 0) := by
      unfold addrA; rw [if_neg (by omega), if_neg (by omega), if_pos (by omega)]
    have eb : addrA 1 site 0 = (167903232 + site, 0) := by
      unfold addrA; rw [if_neg (by omega), if_pos (by omega)]
    rw [ea]
    refine stNT rfl (stB (Address_eq N 1 site 0) (stB (Pop_eq hN s) ?_))
    rw [eb]
    generalize popI s = p
    simp only [Take_1_bad]
    by_cases ok : okB site id p
    · rw [if_pos ok]
      obtain ⟨k1, k2, k3, k4, k5, k6⟩ := ok
      refine stNT k1 (stNT k2 (stNT k3 (stNT k4 (stNT k5 ?_))))
      rw [show (p.1.Origin != 0) = false by rw [k6]; rfl]
      exact Take_1_ok hN ..
    · rw [if_neg ok]
      by_cases k1 : p.2 = 0
      · refine stNT k1 ?_
        by_cases k2 : p.1.Dst = 167968768 + 256 * site + id
        · refine stNT k2 ?_
          by_cases k3 : p.1.Src = 167903232 + site
          · refine stNT k3 ?_
            by_cases k4 : p.1.Tier = 3
            · refine stNT k4 ?_
              by_cases k5 : p.1.Marker = 0
              · refine stNT k5 ?_
                rw [show (p.1.Origin != 0) = true by rw [bne_iff_ne]; exact fun k6 => ok ⟨k1, k2, k3, k4, k5, k6⟩]
                rfl
              · exact stNF k5 rfl
            · exact stNF k4 rfl
          · exact stNF k3 rfl
        · exact stNF k2 rfl
      · exact stNF k1 rfl
  · rw [if_neg h]
    have ea : addrA 2 site id = (0, 500) := by
      unfold addrA; rw [if_neg (by omega), if_neg (by omega), if_neg (by omega)]
    rw [ea]
    rfl
theorem RTake_1_bad (N : Nat) (site id a b c d e : Int) (body : ByteArray) : L_ref19_TakeBack_1 N id 0 2 site id 0 0 0 0 0 0 a b c d e body true = some (stray site id) := rfl
theorem classed_eq (N : Nat) (at_ : GEvent) (c : Int) (hc : c = 1 ∨ c = 2 ∨ c = 3) : L_ref19_classed N at_ c = some ⟨[], [⟨evOf c, at_.Role, at_.Site, at_.Node, at_.To, at_.Flow⟩]⟩ := by
  unfold L_ref19_classed evOf
  rcases hc with rfl | rfl | rfl <;> rfl
theorem RTake_1_ok {N : Nat} (hN : 1000 ≤ N) (site id a b c d e : Int) (body : ByteArray) : L_ref19_TakeBack_1 N id 0 2 site id 0 0 0 0 0 0 a b c d e body false = some (passed site id body) := by
  unfold L_ref19_TakeBack_1 passed
  refine stFF (stB (ROf_eq hN body) ?_)
  have hz := (ofF_class body).1
  by_cases q : (ofF body).2.2 = 0
  · rw [if_pos q]
    exact stNT q rfl
  · rw [if_neg q]
    exact stNF q (stB (classed_eq N _ _ (by omega)) rfl)
theorem RTake_eq {N : Nat} (hN : 1000 ≤ N) (site id : Int) (s : ByteArray) : L_ref19_TakeBack N site id s = some (takeB site id s) := by
  unfold L_ref19_TakeBack takeB
  refine stB (RAddress_eq N 2 site id) ?_
  by_cases h : 0 ≤ site ∧ site < 3 ∧ 0 ≤ id ∧ id < 4
  · rw [if_pos h]
    have ea : addrA 2 site id = (167968768 + 256 * site + id, 0) := by
      unfold addrA; rw [if_neg (by omega), if_neg (by omega), if_pos (by omega)]
    rw [ea, w64 (n := 167903232 + site) (by omega) (by omega)]
    refine stNT rfl (stB (RPop_eq hN s) ?_)
    generalize popI s = p
    simp only [RTake_1_bad]
    by_cases ok : okB site id p
    · rw [if_pos ok]
      obtain ⟨k1, k2, k3, k4, k5, k6⟩ := ok
      refine stNT k1 (stNT k2 (stNT k4 (stNT k5 (stNT k6 ?_))))
      rw [show (p.1.Src != 167903232 + site) = false by rw [k3]; simp]
      exact RTake_1_ok hN ..
    · rw [if_neg ok]
      by_cases k1 : p.2 = 0
      · refine stNT k1 ?_
        by_cases k2 : p.1.Dst = 167968768 + 256 * site + id
        · refine stNT k2 ?_
          by_cases k4 : p.1.Tier = 3
          · refine stNT k4 ?_
            by_cases k5 : p.1.Marker = 0
            · refine stNT k5 ?_
              by_cases k6 : p.1.Origin = 0
              · refine stNT k6 ?_
                rw [show (p.1.Src != 167903232 + site) = true by rw [bne_iff_ne]; exact fun k3 => ok ⟨k1, k2, k3, k4, k5, k6⟩]
                rfl
              · exact stNF k6 rfl
            · exact stNF k5 rfl
          · exact stNF k4 rfl
        · exact stNF k2 rfl
      · exact stNF k1 rfl
  · rw [if_neg h]
    have ea : addrA 2 site id = (0, 500) := by
      unfold addrA; rw [if_neg (by omega), if_neg (by omega), if_neg (by omega)]
    rw [ea]
    rfl
theorem takeB_out (site id : Int) (s : ByteArray) : (takeB site id s).2.1.Sent = [] ∧ (takeB site id s).2.1.Events.length ≤ 1 := by
  unfold takeB passed stray
  repeat' split
  all_goals exact ⟨rfl, by simp⟩
theorem same_ev (e : GEvent) : ((e.Kind == e.Kind) && ((e.Role == e.Role) && ((e.Site == e.Site) && ((e.Node == e.Node) && ((e.To == e.To) && ((e.Flow.Src == e.Flow.Src) && ((e.Flow.Dst == e.Flow.Dst) && ((e.Flow.Proto == e.Flow.Proto) && ((e.Flow.Sport == e.Flow.Sport) && ((e.Flow.Dport == e.Flow.Dport) && true)))))))))) = true := by
  simp
theorem SameEvents_loop (N : Nat) (T : List GEvent) (hT : T.length ≤ 140737488355328) : ∀ (d fuel i : Nat), T.length = i + d → d < fuel → L_law0_SameEvents_1 N fuel T T (i : Int) = some true := by
  intro d
  induction d with
  | zero =>
    intro fuel i hi hf
    obtain ⟨fuel, rfl⟩ : ∃ f, fuel = f + 1 := ⟨fuel - 1, by omega⟩
    rw [L_law0_SameEvents_1]
    exact stDF (by omega) rfl
  | succ d ih =>
    intro fuel i hi hf
    obtain ⟨fuel, rfl⟩ : ∃ f, fuel = f + 1 := ⟨fuel - 1, by omega⟩
    rw [L_law0_SameEvents_1, w64 (n := (i : Int) + 1) (by omega) (by omega)]
    refine stDT (by omega) (stIf (by omega) (stIf (by omega) ?_))
    simp only [viaE, same_ev, Bool.not_true, cond_false]
    exact ih fuel (i + 1) (by omega) (by omega)
theorem SameEvents_eq {N : Nat} {T : List GEvent} (hT : T.length ≤ 140737488355328) (hN : T.length < N) : L_law0_SameEvents N T T = some true := by
  unfold L_law0_SameEvents
  exact stNT rfl (SameEvents_loop N T hT T.length N 0 (by omega) hN)
theorem SpoilEvents_loop (N : Nat) : ∀ (d fuel i : Nat) (T : List GEvent), T.length ≤ 140737488355328 → T.length = i + d → d < fuel → ∃ U, L_law0_SpoilEvents_1 N fuel T (i : Int) = some U ∧ U.length = T.length := by
  intro d
  induction d with
  | zero =>
    intro fuel i T hT hi hf
    obtain ⟨fuel, rfl⟩ : ∃ f, fuel = f + 1 := ⟨fuel - 1, by omega⟩
    rw [L_law0_SpoilEvents_1]
    exact ⟨T, stDF (by omega) rfl, rfl⟩
  | succ d ih =>
    intro fuel i T hT hi hf
    obtain ⟨fuel, rfl⟩ : ∃ f, fuel = f + 1 := ⟨fuel - 1, by omega⟩
    rw [L_law0_SpoilEvents_1, w64 (n := (i : Int) + 1) (by omega) (by omega), Int.toNat_natCast]
    obtain ⟨U, u1, u2⟩ := ih fuel (i + 1) (T.set i ⟨(T.getD i default).Kind, (T.getD i default).Role, (T.getD i default).Site, (T.getD i default).Node, bXor .i64 (T.getD i default).To 90, (T.getD i default).Flow⟩) (by rw [List.length_set]; exact hT) (by rw [List.length_set]; omega) (by omega)
    exact ⟨U, stDT (by omega) (stIf (by omega) (stVia (stIf (by omega) u1))), u2.trans (by rw [List.length_set])⟩
set_option maxRecDepth 100000 in
theorem awake21 : L_law21_awake 281474976710656 = some true := by decide +kernel
theorem Take_v1 : L_backend_Take_v1 = L_backend_Take := by kernel_rfl
theorem Backends (site id : Int) (s : ByteArray) (_ : s.size ≤ 140737488351232) : L_law21_Backends 281474976710656 site id s = some true := by
  have hN : 1000 ≤ 281474976710656 := by decide
  unfold L_law21_Backends L_law21_Backends_1
  rw [Take_v1]
  refine stB (Take_eq hN site id s) (stB (RTake_eq hN site id s) ?_)
  obtain ⟨o1, o2⟩ := takeB_out site id s
  generalize takeB site id s = r at *
  obtain ⟨a, o, e⟩ := r
  obtain ⟨S, E⟩ := o
  dsimp only at *
  subst o1
  rw [tl]
  have hs : L_law0_SameOut 281474976710656 ⟨[], E⟩ ⟨[], E⟩ = some true := by
    unfold L_law0_SameOut L_law0_SameOut_1
    refine stB (x := true) rfl (stTT (stB (SameEvents_eq (by dsimp only; omega) (by dsimp only; omega)) rfl))
  obtain ⟨U, u1, u2⟩ := SpoilEvents_loop 281474976710656 E.length 281474976710656 0 E (by omega) (by omega) (by omega)
  have hsp : L_law0_SpoilOut 281474976710656 ⟨[], E⟩ = some ([], U) := by
    unfold L_law0_SpoilOut
    refine stB (x := []) rfl ?_
    refine stIf rfl ?_
    refine stB (x := U) u1 ?_
    exact stIf u2 rfl
  refine stNTT (stB hs (stNTT (stB rfl ?_)))
  rw [show (e != e) = false by simp]
  refine stFF (stB hsp (stIf rfl (stIf u2 (stB awake21 rfl))))
end Go.Proofs.Ytobhmonmeocfmaa.Pu
