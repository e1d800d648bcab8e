import Derived.Test.YtobhmonmeocfmaaTurnSum
import Derived.Test.YtobhmonmeocfmaaGueI
namespace Go.Proofs.Ytobhmonmeocfmaa.Pure
set_option linter.unusedSimpArgs false
set_option linter.unusedVariables false
open Go Go.RowKit Go.Proofs.Ytobhmonmeocfmaa.PA Go.Proofs.YtobhmonmeocfmaaW.PrintWords Go.Proofs.YtobhmonmeocfmaaW.PrintLast Go.Proofs.YtobhmonmeocfmaaW.PrintMore Go.Proofs.Ytobhmonmeocfmaa.Wh
theorem sumB_take' (s : ByteArray) (n : Nat) : sumB (s.extract 0 n) = foldS (rawL ((bytesOf s).take n)) := by
  unfold sumB
  rw [bytesOf_ex, List.drop_zero, Nat.sub_zero]
theorem push_list (src dst tier marker origin : Int) (body : ByteArray) (i : Nat) (h20 : 20 ≤ i) (h36 : i < 36) : bt (pushI src dst tier marker origin body) i = [240, 0, 23, 192, (16 + (body.size : Int)) / 256 % 256, (16 + (body.size : Int)) % 256, 0, 0, 0, tier % 256, marker % 256, origin % 256, (body.size : Int) / 256 % 256, (body.size : Int) % 256, 0, 0].getD (i - 20) 0 := by
  rw [bt_get]
  unfold pushI
  rw [bytesOf_put, gueB_list, List.getD_eq_getElem?_getD, List.getElem?_append_right (by simp [headL]; omega), List.getElem?_append_left (by simp [headL]; omega), ← List.getD_eq_getElem?_getD]
  rfl
theorem nests_pure {a0 a1 a2 a3 a4 : Int} {a5 : ByteArray} (h : mayG a0 a1 a2 a3 a4 a5 = true) (hz : a5.size ≤ 324) (i : Nat) (hi : i < 36) (x : UInt8) (hx : (x.toNat : Int) ≠ bt (pushI a0 a1 a2 a3 a4 a5) i) :
    popI (turnS (pushI a0 a1 a2 a3 a4 a5) i x) = badG ∨
      (i = 29 ∧ (x.toNat : Int) ≠ a2 ∧ popI (turnS (pushI a0 a1 a2 a3 a4 a5) i x) = (a0, a1, (x.toNat : Int), a3, a4, a5, 0)) ∨
      (i = 30 ∧ (x.toNat : Int) ≠ a3 ∧ popI (turnS (pushI a0 a1 a2 a3 a4 a5) i x) = (a0, a1, a2, (x.toNat : Int), a4, a5, 0)) ∨
      (i = 31 ∧ (x.toNat : Int) ≠ a4 ∧ popI (turnS (pushI a0 a1 a2 a3 a4 a5) i x) = (a0, a1, a2, a3, (x.toNat : Int), a5, 0)) := by
  have hp := pop_push h hz
  have hsz := pushI_size a0 a1 a2 a3 a4 a5
  have hL := push_list a0 a1 a2 a3 a4 a5
  have hsum : sumB ((pushI a0 a1 a2 a3 a4 a5).extract 0 20) = 65535 := by unfold pushI; rw [put_take, sum_put]
  have hdrop := push_drop a0 a1 a2 a3 a4 a5
  generalize pushI a0 a1 a2 a3 a4 a5 = s at *
  have ht := turnS_size s i x
  have hpar : ¬ s.size < 36 := by omega
  unfold popI at hp
  rw [if_neg hpar] at hp
  have hcond : mayG (N4 s 12) (N4 s 16) (bt s 29) (bt s 30) (bt s 31) (s.extract 36 s.size) = true ∧ s.size ≤ 360 ∧ pushI (N4 s 12) (N4 s 16) (bt s 29) (bt s 30) (bt s 31) (s.extract 36 s.size) = s := by
    by_cases c : mayG (N4 s 12) (N4 s 16) (bt s 29) (bt s 30) (bt s 31) (s.extract 36 s.size) = true ∧ s.size ≤ 360 ∧ pushI (N4 s 12) (N4 s 16) (bt s 29) (bt s 30) (bt s 31) (s.extract 36 s.size) = s
    · exact c
    · rw [if_neg c] at hp
      have : (600 : Int) = 0 := congrArg (fun q : OutR => q.2.2.2.2.2.2) hp
      exact absurd this (by decide)
  rw [if_pos hcond] at hp
  simp only [Prod.mk.injEq, and_true] at hp
  obtain ⟨e12, e16, e29, e30, e31, _⟩ := hp
  by_cases bad : popI (turnS s i x) = badG
  · exact .inl bad
  refine .inr ?_
  have hg : mayG (N4 (turnS s i x) 12) (N4 (turnS s i x) 16) (bt (turnS s i x) 29) (bt (turnS s i x) 30) (bt (turnS s i x) 31) ((turnS s i x).extract 36 (turnS s i x).size) = true ∧ (turnS s i x).size ≤ 360 ∧ pushI (N4 (turnS s i x) 12) (N4 (turnS s i x) 16) (bt (turnS s i x) 29) (bt (turnS s i x) 30) (bt (turnS s i x) 31) ((turnS s i x).extract 36 (turnS s i x).size) = turnS s i x := by
    by_cases c : mayG (N4 (turnS s i x) 12) (N4 (turnS s i x) 16) (bt (turnS s i x) 29) (bt (turnS s i x) 30) (bt (turnS s i x) 31) ((turnS s i x).extract 36 (turnS s i x).size) = true ∧ (turnS s i x).size ≤ 360 ∧ pushI (N4 (turnS s i x) 12) (N4 (turnS s i x) 16) (bt (turnS s i x) 29) (bt (turnS s i x) 30) (bt (turnS s i x) 31) ((turnS s i x).extract 36 (turnS s i x).size) = turnS s i x
    · exact c
    · exact absurd (by unfold popI; rw [ht, if_neg hpar]; rw [ht] at c; rw [if_neg c]) bad
  have hpop : popI (turnS s i x) = (N4 (turnS s i x) 12, N4 (turnS s i x) 16, bt (turnS s i x) 29, bt (turnS s i x) 30, bt (turnS s i x) 31, (turnS s i x).extract 36 (turnS s i x).size, 0) := by
    unfold popI; rw [if_neg (by rw [ht]; exact hpar), if_pos hg]
  have hb : ((turnS s i x).extract 36 (turnS s i x).size).size = a5.size := by rw [ByteArray.size_extract, ht]; omega
  have htl : 20 ≤ i → bt (turnS s i x) i = _ := fun h20 => (congrArg (fun q => bt q (i : Int)) hg.2.2.symm).trans (push_list _ _ _ _ _ _ i h20 hi)
  have hti := bt_turn_eq s i x (by omega)
  have h20 : 20 ≤ i := by
    apply Decidable.byContradiction
    intro c
    have hst : sumB ((turnS s i x).extract 0 20) = 65535 := by
      rw [← hg.2.2]; unfold pushI; rw [put_take, sum_put]
    rw [sumB_take'] at hsum hst
    have hl : ((bytesOf s).take 20).length = 20 := by rw [List.length_take, bytesOf_length]; omega
    have hgd : ((bytesOf s).take 20).getD i 0 = bt s i := by
      rw [bt_get, List.getD_eq_getElem?_getD, List.getD_eq_getElem?_getD, List.getElem?_take_of_lt (by omega)]
    rw [turnS_list, List.take_set, raw_set _ 20 _ (by omega) i (by omega), hgd] at hst
    obtain ⟨q1, q2, q3⟩ := byte_move (x.toNat : Int) (bt s i) i (byte_range x) (bt_range s i) hx
    exact fold_move hsum q1 q2 q3 hst
  have htl := htl h20
  rw [hti, hb] at htl
  have hsl := hL i h20 hi
  have h293031 : i = 29 ∨ i = 30 ∨ i = 31 := by
    apply Decidable.byContradiction
    intro c
    apply hx
    rw [htl, hsl]
    obtain rfl | rfl | rfl | rfl | rfl | rfl | rfl | rfl | rfl | rfl | rfl | rfl | rfl : i = 20 ∨ i = 21 ∨ i = 22 ∨ i = 23 ∨ i = 24 ∨ i = 25 ∨ i = 26 ∨ i = 27 ∨ i = 28 ∨ i = 32 ∨ i = 33 ∨ i = 34 ∨ i = 35 := by omega
    all_goals rfl
  have n12 : N4 (turnS s i x) 12 = N4 s 12 := by unfold N4; rw [bt_turn_ne _ _ _ _ (by omega), bt_turn_ne _ _ _ _ (by omega), bt_turn_ne _ _ _ _ (by omega), bt_turn_ne _ _ _ _ (by omega)]
  have n16 : N4 (turnS s i x) 16 = N4 s 16 := by unfold N4; rw [bt_turn_ne _ _ _ _ (by omega), bt_turn_ne _ _ _ _ (by omega), bt_turn_ne _ _ _ _ (by omega), bt_turn_ne _ _ _ _ (by omega)]
  have nb : (turnS s i x).extract 36 (turnS s i x).size = a5 := by
    rw [← hdrop]
    apply bytesOf_inj
    rw [bytesOf_ex, bytesOf_ex, ht, turnS_list, List.drop_set_of_lt (by omega)]
  rw [hpop, n12, n16, nb, e12, e16]
  rcases h293031 with rfl | rfl | rfl
  · have q : bt (turnS s 29 x) 29 = x.toNat := hti
    have q1 : bt (turnS s 29 x) 30 = bt s 30 := bt_turn_ne s 29 30 x (by decide)
    have q2 : bt (turnS s 29 x) 31 = bt s 31 := bt_turn_ne s 29 31 x (by decide)
    rw [q, q1, q2, e30, e31]
    exact .inl ⟨rfl, fun e => hx (e.trans e29.symm), rfl⟩
  · have q : bt (turnS s 30 x) 30 = x.toNat := hti
    have q1 : bt (turnS s 30 x) 29 = bt s 29 := bt_turn_ne s 30 29 x (by decide)
    have q2 : bt (turnS s 30 x) 31 = bt s 31 := bt_turn_ne s 30 31 x (by decide)
    rw [q, q1, q2, e29, e31]
    exact .inr (.inl ⟨rfl, fun e => hx (e.trans e30.symm), rfl⟩)
  · have q : bt (turnS s 31 x) 31 = x.toNat := hti
    have q1 : bt (turnS s 31 x) 29 = bt s 29 := bt_turn_ne s 31 29 x (by decide)
    have q2 : bt (turnS s 31 x) 30 = bt s 30 := bt_turn_ne s 31 30 x (by decide)
    rw [q, q1, q2, e29, e30]
    exact .inr (.inr ⟨rfl, fun e => hx (e.trans e31.symm), rfl⟩)
end Go.Proofs.Ytobhmonmeocfmaa.Pure
