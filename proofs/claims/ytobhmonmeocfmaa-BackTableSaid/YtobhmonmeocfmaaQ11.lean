/- Plain laws: BackTable. -/
import Derived.Test.YtobhmonmeocfmaaQ10
namespace Go.Proofs.Ytobhmonmeocfmaa.Pu
set_option linter.unusedSimpArgs false
set_option linter.unusedVariables false
open Go Go.RowKit Go.Proofs.Ytobhmonmeocfmaa.Sv Go.Proofs.Ytobhmonmeocfmaa.Lf
attribute [local irreducible] L_ref1_Num L_ip_Bytes L_ip_Number L_ref1_Of L_sum_Sum L_ref1_Sum
def V3 : ByteArray := packF ⟨3, 167772161, 6, 7, 80⟩ 0 ⟨#[107]⟩
theorem okV3 : okP ⟨3, 167772161, 6, 7, 80⟩ 0 ⟨#[107]⟩ := by decide +kernel
theorem said3 : L_law21_said 281474976710656 3 0 ⟨#[107]⟩ = some V3 := by
  have hN : 1000 ≤ 281474976710656 := by decide
  have h := PacketOf_eq hN ⟨3, 167772161, 6, 7, 80⟩ 0 ⟨#[107]⟩
  rw [if_pos okV3] at h
  unfold L_law21_said
  refine stVia (stIf (by decide +kernel) ?_)
  have e1 : bAnd .i64 3 65535 = 3 := by decide +kernel
  have e2 : bAnd .i64 0 63 = 0 := by decide +kernel
  have e3 : (ByteArray.mk #[107]).extract 0 (if decide (60 < ((ByteArray.mk #[107]).size : Int)) = true then 60 else ((ByteArray.mk #[107]).size : Int)).toNat = ByteArray.mk #[107] := by decide +kernel
  rw [e1, e2, e3]
  exact stB h rfl
theorem V3_size : V3.size = 41 := by decide +kernel
theorem V3_of : (ofF V3).2.2 = 0 := by decide +kernel
theorem V3_ne : (V3.toList == ByteArray.empty.toList) = false := by decide +kernel
theorem V3_ne' : (ByteArray.empty.toList == V3.toList) = false := by decide +kernel
theorem junk_of : (ofF ⟨#[106, 117, 110, 107]⟩).2.2 = 1 := by decide +kernel
def V6 : ByteArray := putI ⟨0, 167772161, 1, 0, 0, ByteArray.empty⟩
theorem put6 : L_ref1_PutIp 281474976710656 ⟨0, 167772161, 1, 0, 0, ByteArray.empty⟩ = some (V6, 0) := by
  rw [PutIp_eq (by decide), if_pos (by decide +kernel)]
  rfl
theorem V6_size : V6.size = 20 := by decide +kernel
theorem V6_of : (ofF V6).2.2 = 3 := by decide +kernel
/-- What is pushed and does not fit is stray. -/
theorem table_stray (o : GOuter) (h : mayG o = true) (hz : o.Body.size ≤ 324) (hn : ¬ okB 2 1 (o, 0)) : L_law21_BackTable_1 281474976710656 V3 o.Src o.Dst o.Tier o.Marker o.Origin o.Body 8 = some true := by
  have hN : 1000 ≤ 281474976710656 := by decide
  have hp := RPush_eq hN o
  unfold pushR at hp
  rw [if_pos h, if_neg (by omega)] at hp
  have ht := Take_eq hN 2 1 (pushI o)
  unfold takeB at ht
  rw [if_pos (by decide), pop_push h hz, if_neg hn] at ht
  unfold L_law21_BackTable_1 L_law21_BackTable_2
  refine stB hp (stB ht (stET rfl (stB rfl (stET rfl (stET rfl (stET rfl (stIf (by decide) (stVia (stET rfl ?_)))))))))
  rw [show (stray 2 1).1 = ByteArray.empty from rfl, V3_ne']
  exact congrArg some (tl _)
theorem table_class (o : GOuter) (h : mayG o = true) (hz : o.Body.size ≤ 324) (hn : okB 2 1 (o, 0)) (k : Int) (hk : k = 2 ∨ k = 4) (hc : (ofF o.Body).2.2 ≠ 0) (he : evOf (ofF o.Body).2.2 = k) : L_law21_BackTable_1 281474976710656 V3 o.Src o.Dst o.Tier o.Marker o.Origin o.Body k = some true := by
  have hN : 1000 ≤ 281474976710656 := by decide
  have hp := RPush_eq hN o
  unfold pushR at hp
  rw [if_pos h, if_neg (by omega)] at hp
  have ht := Take_eq hN 2 1 (pushI o)
  unfold takeB at ht
  rw [if_pos (by decide), pop_push h hz, if_pos hn] at ht
  unfold passed at ht
  rw [if_neg hc, he] at ht
  unfold L_law21_BackTable_1 L_law21_BackTable_2
  refine stB hp (stB ht (stET rfl (stB rfl (stET rfl (stET rfl (stET rfl (stIf (by dsimp only [List.length]; decide) (stVia (stET rfl ?_)))))))))
  rw [V3_ne', show (k == 1) = false by rcases hk with rfl | rfl <;> rfl]
  exact congrArg some (tl _)
theorem table_ok (o : GOuter) (h : mayG o = true) (hb : o.Body = V3) (hn : okB 2 1 (o, 0)) : L_law21_BackTable_1 281474976710656 V3 o.Src o.Dst o.Tier o.Marker o.Origin o.Body 1 = some true := by
  have hN : 1000 ≤ 281474976710656 := by decide
  have hz : o.Body.size ≤ 324 := by rw [hb, V3_size]; decide
  have hp := RPush_eq hN o
  unfold pushR at hp
  rw [if_pos h, if_neg (by omega)] at hp
  have ht := Take_eq hN 2 1 (pushI o)
  unfold takeB at ht
  rw [if_pos (by decide), pop_push h hz, if_pos hn] at ht
  unfold passed at ht
  rw [hb, if_pos V3_of] at ht
  unfold L_law21_BackTable_1 L_law21_BackTable_2
  refine stB hp (stB ht (stET rfl (stB rfl (stET rfl (stET rfl (stET rfl (stIf (by decide) (stVia (stET rfl ?_)))))))))
  rw [tl]
  rfl
theorem may_of (o : GOuter) (h1 : Known o.Src) (h2 : Known o.Dst) (h3 : 1 ≤ o.Tier ∧ o.Tier ≤ 4) (h4 : 0 ≤ o.Marker ∧ o.Marker < 256) (h5 : 0 ≤ o.Origin ∧ o.Origin < 256) (h6 : o.Body.size ≤ 512) : mayG o = true :=
  decide_eq_true ⟨h1, h2, h3.1, h3.2, h4, h5, h6⟩
theorem BackTable (which x : Int) : L_law21_BackTable 281474976710656 which x = some true := by
  have hN : 1000 ≤ 281474976710656 := by decide
  unfold L_law21_BackTable
  rw [awake21, and_127, w64 (n := 1 + x % 128) (by omega) (by omega)]
  refine stB rfl (stNTT (stVia (stB said3 ?_)))
  obtain ⟨d0, d1⟩ : 1 ≤ 1 + x % 128 ∧ 1 + x % 128 ≤ 128 := by omega
  generalize 1 + x % 128 = d at *
  generalize (IntKind.u64.wrap which).tmod 9 = q
  have vz : V3.size ≤ 324 := by rw [V3_size]; decide
  by_cases q0 : q = 0
  · exact stET q0 (table_stray ⟨167903233, 167969281, 3, 0, 0, V3⟩ (may_of _ (by decide) (by decide) (by decide) (by decide) (by decide) (by dsimp only; omega)) vz (fun h => absurd h.2.2.1 (by decide)))
  refine stEF q0 ?_
  by_cases q1 : q = 1
  · exact stET q1 (table_stray ⟨167903234, 167969280, 3, 0, 0, V3⟩ (may_of _ (by decide) (by decide) (by decide) (by decide) (by decide) (by dsimp only; omega)) vz (fun h => absurd h.2.1 (by decide)))
  refine stEF q1 ?_
  by_cases q2 : q = 2
  · exact stET q2 (table_stray ⟨167903234, 167969281, 1, 0, 0, V3⟩ (may_of _ (by decide) (by decide) (by decide) (by decide) (by decide) (by dsimp only; omega)) vz (fun h => absurd h.2.2.2.1 (by decide)))
  refine stEF q2 ?_
  by_cases q3 : q = 3
  · exact stET q3 (table_stray ⟨167903234, 167969281, 3, d, 0, V3⟩ (may_of _ (by dsimp only; decide) (by dsimp only; decide) (by dsimp only; decide) (by dsimp only; omega) (by dsimp only; decide) (by dsimp only; omega)) vz (fun h => by have := h.2.2.2.2.1; dsimp only at this; omega))
  refine stEF q3 ?_
  by_cases q4 : q = 4
  · exact stET q4 (table_stray ⟨167903234, 167969281, 3, 0, d, V3⟩ (may_of _ (by dsimp only; decide) (by dsimp only; decide) (by dsimp only; decide) (by dsimp only; decide) (by dsimp only; omega) (by dsimp only; omega)) vz (fun h => by have := h.2.2.2.2.2; dsimp only at this; omega))
  refine stEF q4 ?_
  by_cases q5 : q = 5
  · exact stET q5 (table_class ⟨167903234, 167969281, 3, 0, 0, ⟨#[106, 117, 110, 107]⟩⟩ (may_of _ (by decide) (by decide) (by decide) (by decide) (by decide) (by decide)) (by decide) ⟨rfl, rfl, rfl, rfl, rfl, rfl⟩ 2 (.inl rfl) (by dsimp only; rw [junk_of]; decide) (by dsimp only; rw [junk_of]; rfl))
  refine stEF q5 ?_
  by_cases q6 : q = 6
  · exact stET q6 (stB put6 (table_class ⟨167903234, 167969281, 3, 0, 0, V6⟩ (may_of _ (by decide) (by decide) (by decide) (by decide) (by decide) (by dsimp only; rw [V6_size]; decide)) (by dsimp only; rw [V6_size]; decide) ⟨rfl, rfl, rfl, rfl, rfl, rfl⟩ 4 (.inr rfl) (by dsimp only; rw [V6_of]; decide) (by dsimp only; rw [V6_of]; rfl)))
  refine stEF q6 ?_
  by_cases q7 : q = 7
  · exact stET q7 (table_stray ⟨167837696, 167969281, 3, 0, 0, V3⟩ (may_of _ (by decide) (by decide) (by decide) (by decide) (by decide) (by dsimp only; omega)) vz (fun h => absurd h.2.2.1 (by decide)))
  refine stEF q7 ?_
  exact table_ok ⟨167903234, 167969281, 3, 0, 0, V3⟩ (may_of _ (by decide) (by decide) (by decide) (by decide) (by decide) (by dsimp only; omega)) rfl ⟨rfl, rfl, rfl, rfl, rfl, rfl⟩
end Go.Proofs.Ytobhmonmeocfmaa.Pu
