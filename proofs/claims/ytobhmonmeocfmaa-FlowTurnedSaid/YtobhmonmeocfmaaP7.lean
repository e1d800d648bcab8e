/- Plain laws: FlowTurned. -/
import Derived.Test.YtobhmonmeocfmaaP6
namespace Go.Proofs.Ytobhmonmeocfmaa.Pu
set_option linter.unusedSimpArgs false
set_option linter.unusedVariables false
open Go Go.RowKit Go.Proofs.Ytobhmonmeocfmaa.Sv Go.Proofs.Ytobhmonmeocfmaa.Lf
attribute [local irreducible] L_ref1_Num L_ip_Bytes L_ip_Number L_ref1_Of L_sum_Sum L_ref1_Sum
theorem getI_ok {t : ByteArray} (h : (getI t).2.1 = 0) : 20 ≤ t.size ∧ bt t 0 = 69 ∧ sumB (t.extract 0 20) = 65535 ∧ (getI t).1 = ⟨N4 t 12, N4 t 16, bt t 9, bt t 8, N2 t 4, t.extract 20 t.size⟩ := by
  have hb := bt_range t 0
  unfold getI at h ⊢
  unfold badI at h ⊢
  split at h
  · simp at h
  split at h
  · simp at h
  split at h
  · simp at h
  split at h
  · simp at h
  split at h
  · simp at h
  split at h
  · simp at h
  rename_i c1 c2 c3 c4 c5 c6
  have e5 : bt t 0 % 16 = 5 := by omega
  rw [if_neg c1, if_neg c2, if_neg c3, if_neg c4, if_neg c5, if_neg c6]
  rw [e5] at c4
  refine ⟨by omega, by omega, ?_, rfl⟩
  exact Decidable.not_not.1 c4
theorem turn_take (s : ByteArray) (i : Nat) {y : Int} (hy : 0 ≤ y ∧ y ≤ 255) (n : Nat) : bytesL ((turnS s i y).extract 0 n) = (bytesL (s.extract 0 n)).set i y := by
  rw [bytesL_ex, bytesL_ex, turn_list s i hy]
  simp only [List.drop_zero, Nat.sub_zero]
  rw [List.take_set]
theorem turn_drop (s : ByteArray) (i : Nat) {y : Int} (hy : 0 ≤ y ∧ y ≤ 255) (n : Nat) (h : n ≤ i) : (turnS s i y).extract n (turnS s i y).size = turnS (s.extract n s.size) (i - n) y := by
  apply bytesL_inj
  have hl := bytesL_len s
  rw [turn_list _ _ hy, bytesL_ex, bytesL_ex, turn_list s i hy, turn_size, List.drop_set, if_neg (by omega), List.take_set]
theorem head_turned (p : GIp) (i : Nat) (hi : i < 20) {y : Int} (hy : 0 ≤ y ∧ y ≤ 255) (hne : y ≠ bt (putI p) i) : (getI (turnS (putI p) i y)).2.1 ≠ 0 := by
  intro h
  obtain ⟨_, _, hs, _⟩ := getI_ok h
  have hp := sum_put p
  unfold sumB at hs hp
  rw [turn_take _ _ hy, put_take, raw_set _ _ _ (Nat.le_refl _) i (by rw [bytesL_len, headI_size]; exact hi)] at hs
  have hb : (bytesL (headI p (sumI p))).getD i 0 = bt (putI p) i := by rw [bytesL_head, bt_put _ i hi]
  rw [hb] at hs
  obtain ⟨q1, q2, q3⟩ := byte_move y (bt (putI p) i) i hy (bt_range _ i) hne
  exact fold_move hp q1 q2 q3 hs
theorem body_turned {p : GIp} (hp : mayI p = true) (i : Nat) (hi : 20 ≤ i) {y : Int} (hy : 0 ≤ y ∧ y ≤ 255) (h : (getI (turnS (putI p) i y)).2.1 = 0) : (getI (turnS (putI p) i y)).1 = ⟨p.Src, p.Dst, p.Proto, p.Ttl, p.Id, turnS p.Body (i - 20) y⟩ := by
  obtain ⟨_, _, _, e⟩ := getI_ok h
  have g := get_put hp
  have e2 := (getI_ok (t := putI p) (by rw [g])).2.2.2
  rw [g] at e2
  dsimp only at e2
  rw [e, turn_drop _ _ hy 20 hi, put_drop]
  have b : ∀ j : Nat, j < 20 → bt (turnS (putI p) i y) j = bt (putI p) j := fun j hj => bt_turn_ne _ _ _ hy (by omega)
  have n4 : ∀ j : Nat, j + 3 < 20 → N4 (turnS (putI p) i y) j = N4 (putI p) j := fun j hj => by
    unfold N4; rw [b j (by omega), b (j + 1) (by omega), b (j + 2) (by omega), b (j + 3) (by omega)]
  have n2 : N2 (turnS (putI p) i y) 4 = N2 (putI p) 4 := by unfold N2; rw [b 4 (by omega), b (4 + 1) (by omega)]
  have b9 : bt (turnS (putI p) i y) 9 = bt (putI p) 9 := b 9 (by omega)
  have b8 : bt (turnS (putI p) i y) 8 = bt (putI p) 8 := b 8 (by omega)
  rw [n4 12 (by omega), n4 16 (by omega), n2, b9, b8]
  obtain ⟨a1, a2, a3, a4, a5, a6⟩ := p
  simp only [GIp.mk.injEq] at e2 ⊢
  exact ⟨e2.1.symm, e2.2.1.symm, e2.2.2.1.symm, e2.2.2.2.1.symm, e2.2.2.2.2.1.symm, trivial⟩
theorem put_text {g : GSeg} (h : mayS g = true) (src dst : Int) : N2 (putS g src dst) 0 = g.Sport ∧ N2 (putS g src dst) 2 = g.Dport ∧ (g.Proto = 17 → N2 (putS g src dst) 6 = chkS g src dst) := by
  obtain ⟨p1, p2, p3, p4⟩ := mayS_parts h
  obtain ⟨c0, c1, _⟩ := chk_range g src dst
  unfold putS
  generalize chkS g src dst = c at *
  unfold textS
  by_cases e : g.Proto = 6
  · rw [if_pos e]
    have hL := tcp_list g c
    refine ⟨?_, ?_, fun e2 => by omega⟩
    · unfold N2; rw [bt_at hL, bt_at hL]; show g.Sport / 256 % 256 * 256 + g.Sport % 256 = _; omega
    · unfold N2; rw [bt_at hL, bt_at hL]; show g.Dport / 256 % 256 * 256 + g.Dport % 256 = _; omega
  · rw [if_neg e]
    have hL := udp_list g c
    refine ⟨?_, ?_, fun e2 => ?_⟩
    · unfold N2; rw [bt_at hL, bt_at hL]; show g.Sport / 256 % 256 * 256 + g.Sport % 256 = _; omega
    · unfold N2; rw [bt_at hL, bt_at hL]; show g.Dport / 256 % 256 * 256 + g.Dport % 256 = _; omega
    · unfold N2; rw [bt_at hL, bt_at hL]; show c / 256 % 256 * 256 + c % 256 = _; omega
theorem of_turned {f : GFlow} {flags : Int} {body : ByteArray} (h : okP f flags body) (i : Nat) (hi : i < (packF f flags body).size) {y : Int} (hy : 0 ≤ y ∧ y ≤ 255) (hne : y ≠ bt (packF f flags body) i) :
    (∃ g c, ofF (turnS (packF f flags body) i y) = (⟨0, 0, 0, 0, 0⟩, g, c) ∧ c ≠ 0) ∨ (f.Proto = 17 ∧ 26 ≤ i ∧ i ≤ 27 ∧ ∃ g, ofF (turnS (packF f flags body) i y) = (f, g, 0)) := by
  have hm := pack_may h
  have hS := h.2
  unfold packF at *
  have hz := putI_size ⟨f.Src, f.Dst, f.Proto, 64, 0, putS (segOf f flags body) f.Src f.Dst⟩
  have hbt : ∀ j : Nat, bt (putI ⟨f.Src, f.Dst, f.Proto, 64, 0, putS (segOf f flags body) f.Src f.Dst⟩) (20 + j : Nat) = bt (putS (segOf f flags body) f.Src f.Dst) j := by
    intro j
    rw [bt_get, bytesL_put, bt_get, List.getD_eq_getElem?_getD, List.getElem?_append_right (by simp [headL]), List.getD_eq_getElem?_getD]
    simp [headL]
  have hht := head_turned ⟨f.Src, f.Dst, f.Proto, 64, 0, putS (segOf f flags body) f.Src f.Dst⟩ i
  have hbd := body_turned hm i
  dsimp only at hz hbd
  generalize hP : putI ⟨f.Src, f.Dst, f.Proto, 64, 0, putS (segOf f flags body) f.Src f.Dst⟩ = P at *
  unfold ofF
  by_cases c0 : (getI (turnS P i y)).2.1 = 0
  · have h20 : 20 ≤ i := by
      rcases Nat.lt_or_ge i 20 with hl | hl
      · exact absurd c0 (hht hl hy hne)
      · exact hl
    rw [if_neg (not_not_intro c0), hbd h20 hy c0]
    dsimp only
    have hne' : y ≠ bt (putS (segOf f flags body) f.Src f.Dst) (i - 20 : Nat) := by
      rw [← hbt (i - 20), show 20 + (i - 20) = i by omega]; exact hne
    by_cases c1 : ¬(f.Proto = 6 ∨ f.Proto = 17) ∨ f.Dst ≠ 167772161
    · rw [if_pos c1]; exact .inl ⟨_, 3, rfl, by decide⟩
    rw [if_neg c1]
    have hst := seg_turned hS f.Src f.Dst (i - 20) (by omega) hy hne'
    obtain ⟨t0, t2, t6⟩ := put_text hS f.Src f.Dst
    obtain ⟨_, _, k2⟩ := chk_range (segOf f flags body) f.Src f.Dst
    rw [show (segOf f flags body).Proto = f.Proto from rfl] at hst t6 k2
    by_cases c2 : (getS f.Proto (turnS (putS (segOf f flags body) f.Src f.Dst) (i - 20) y) f.Src f.Dst).2 = 0
    · rw [if_neg (not_not_intro c2)]
      obtain ⟨e17, z6, z7, sp, dp⟩ := hst c2
      have hij : i - 20 = 6 ∨ i - 20 = 7 := by
        apply Decidable.byContradiction
        intro hn
        rw [bt_turn_ne _ _ _ hy (show 6 ≠ i - 20 by omega)] at z6
        rw [bt_turn_ne _ _ _ hy (show 7 ≠ i - 20 by omega)] at z7
        have t := t6 e17
        unfold N2 at t
        rw [z6, show ((6 + 1 : Nat) : Int) = ((7 : Nat) : Int) from rfl, z7] at t
        exact k2 e17 t.symm
      refine .inr ⟨e17, by omega, by omega, (getS f.Proto (turnS (putS (segOf f flags body) f.Src f.Dst) (i - 20) y) f.Src f.Dst).1, ?_⟩
      · rw [sp, dp]
        have a0 : N2 (turnS (putS (segOf f flags body) f.Src f.Dst) (i - 20) y) 0 = N2 (putS (segOf f flags body) f.Src f.Dst) 0 := by
          unfold N2; rw [bt_turn_ne _ _ 0 hy (by omega), bt_turn_ne _ _ (0 + 1) hy (by omega)]
        have a2 : N2 (turnS (putS (segOf f flags body) f.Src f.Dst) (i - 20) y) 2 = N2 (putS (segOf f flags body) f.Src f.Dst) 2 := by
          unfold N2; rw [bt_turn_ne _ _ 2 hy (by omega), bt_turn_ne _ _ (2 + 1) hy (by omega)]
        rw [a0, a2, t0, t2]
        rfl
    · rw [if_pos c2]; exact .inl ⟨_, 1, rfl, by decide⟩
  · rw [if_pos c0]; exact .inl ⟨_, _, rfl, c0⟩
theorem FlowTurned (f : GFlow) (flags : Int) (body : ByteArray) (at_ by_ : Int) (_ : body.size ≤ 140737488351232) : L_law4_FlowTurned 281474976710656 f flags body at_ by_ = some true := by
  have hN : 1000 ≤ 281474976710656 := by decide
  unfold L_law4_FlowTurned L_law4_FlowTurned_1 L_law4_FlowTurned_2
  rw [awake4]
  refine stB rfl (stNTT (stB (Packet_eq hN f flags body) ?_))
  by_cases h : okP f flags body
  · rw [if_pos h]
    have hz : (packF f flags body).size ≤ 512 ∧ 20 ≤ (packF f flags body).size := by
      have h1 := mayI_parts (pack_may h)
      unfold packF
      rw [putI_size]
      dsimp only at *
      omega
    have w1 : IntKind.u64.wrap ((packF f flags body).size : Int) = ((packF f flags body).size : Int) := by rw [wu64]; omega
    have hl := bytesL_len (packF f flags body)
    obtain ⟨m0, m1⟩ := tmodw at_ ((packF f flags body).size : Int) (by omega) (by omega)
    have w2 : IntKind.i64.wrap (1 + bAnd .i64 by_ 127) = 1 + by_ % 128 := by rw [and_127, w64 (by omega) (by omega)]
    have w3 : IntKind.u8.wrap (1 + by_ % 128) = 1 + by_ % 128 := by rw [wu8]; omega
    refine stB rfl (stNT rfl ?_)
    simp only [viaE, w1, w2, w3]
    rw [decide_eq_false (show ¬ (((packF f flags body).size : Int) < 1) by omega)]
    refine stFF ?_
    generalize hi : IntKind.i64.wrap ((IntKind.u64.wrap at_).tmod ((packF f flags body).size : Int)) = j at *
    obtain ⟨i, rfl⟩ := Int.eq_ofNat_of_zero_le m0
    rw [Int.toNat_natCast]
    have hbt : (bytesL (packF f flags body)).getD i default = bt (packF f flags body) i := (bt_get _ _).symm
    obtain ⟨x1, x2⟩ := bxor_byte (bt (packF f flags body) i) (1 + by_ % 128) (bt_range _ i) (by omega)
    rw [hbt]
    refine stIf (by omega) (stIf (by omega) (stIf (by omega) (stB (Of_eq hN (turnS (packF f flags body) i _)) ?_)))
    rcases of_turned h i (by omega) x1 x2 with ⟨g, c, e, hc⟩ | ⟨e17, h26, h27, g, e⟩
    · rw [e]
      refine stEF hc ?_
      rfl
    · rw [e]
      refine stET rfl (stET e17 ?_)
      simp only [beq_self_eq_true, Bool.and_self, cond_true]
      rw [decide_eq_true (show (i : Int) ≥ 26 by omega), decide_eq_true (show (i : Int) ≤ 27 by omega)]
      rfl
  · rw [if_neg h]
    refine stB rfl (stNF (by decide) (stTT ?_))
    exact congrArg some (tl _)
end Go.Proofs.Ytobhmonmeocfmaa.Pu
