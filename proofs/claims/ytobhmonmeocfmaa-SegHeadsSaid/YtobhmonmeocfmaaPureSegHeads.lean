import Derived.Test.YtobhmonmeocfmaaSegI
import Derived.Test.YtobhmonmeocfmaaFAWharfagelaw3SegHeads
namespace Go.Proofs.Ytobhmonmeocfmaa.Pure
set_option linter.unusedSimpArgs false
set_option linter.unusedVariables false
open Go Go.RowKit Go.Proofs.Ytobhmonmeocfmaa.PA Go.Proofs.YtobhmonmeocfmaaW.PrintWords Go.Proofs.YtobhmonmeocfmaaW.PrintLast Go.Proofs.YtobhmonmeocfmaaW.PrintMore Go.Proofs.Ytobhmonmeocfmaa.Wh
theorem awake3H : wharfagelaw3_awake.f 700 = some true := by decide +kernel
theorem SegHeads (a0 a1 a2 a3 a4 a5 : Int) (a6 : ByteArray) (src dst : Int) (_ : (Lit.int .i64 a0).wf = true) (_ : (Lit.int .i64 a1).wf = true) (_ : (Lit.int .i64 a2).wf = true) (_ : (Lit.int .i64 a3).wf = true) (_ : (Lit.int .i64 a4).wf = true) (_ : (Lit.int .i64 a5).wf = true)
    (_ : (Lit.int .i64 src).wf = true) (_ : (Lit.int .i64 dst).wf = true) : ∃ k, wharfagelaw3_SegHeads.f k a0 a1 a2 a3 a4 a5 a6 src dst = some true := by
  refine ⟨700, ?_⟩
  unfold wharfagelaw3_SegHeads.f
  rw [awake3H, Option.bind_some, if_pos rfl, and_65535, and_65535]
  obtain ⟨a, ha, ha0, ha1⟩ : ∃ a, src % 65536 = a ∧ 0 ≤ a ∧ a < 65536 := ⟨_, rfl, by omega, by omega⟩
  obtain ⟨b, hb, hb0, hb1⟩ : ∃ b, dst % 65536 = b ∧ 0 ≤ b ∧ b < 65536 := ⟨_, rfl, by omega, by omega⟩
  rw [ha, hb]
  by_cases h : mayS a0 a1 a2 a3 a4 a5 a6 = true
  · have he : mayE a b = true := by simp [mayE]; omega
    rw [SegPut_ok 700 (by decide) h he, Option.bind_some, num0, Option.bind_some, if_pos rfl]
    dsimp only
    unfold putS
    generalize chkS a0 a1 a2 a3 a4 a5 a6 a b = c
    obtain ⟨p1, p2, p3, p4⟩ := mayS_parts h
    rcases p4 with ⟨rfl, p5, p6, p7⟩ | ⟨rfl, rfl, rfl, rfl⟩
    · have ht : textS 6 a1 a2 a3 a4 a5 c a6 = tcpT a1 a2 a3 a4 a5 c a6 := by unfold textS; rw [if_pos rfl]
      have hL := tcp_list a1 a2 a3 a4 a5 c a6
      have hz := tcpT_size a1 a2 a3 a4 a5 c a6
      have hd : (tcpT a1 a2 a3 a4 a5 c a6).extract 20 (tcpT a1 a2 a3 a4 a5 c a6).size = a6 := by
        apply ByteArray.extract_append_eq_right
        · simp only [ByteArray.size_append, B1_size, B2_size, B4_size]
        · rw [hz]; simp only [ByteArray.size_append, B1_size, B2_size, B4_size]
      rw [ht]
      generalize tcpT a1 a2 a3 a4 a5 c a6 = t at *
      have b12 : bt t 12 = 80 := bt_at hL 12
      have b13 : bt t 13 = a5 := (bt_at hL 13).trans (show a5 % 256 = a5 by omega)
      have n0 : bt t 0 * 256 + bt t 1 = a1 := by
        have e0 : bt t 0 = _ := bt_at hL 0; have e1 : bt t 1 = _ := bt_at hL 1
        rw [e0, e1]; show a1 / 256 % 256 * 256 + a1 % 256 = _; omega
      have n2 : bt t 2 * 256 + bt t 3 = a2 := by
        have e0 : bt t 2 = _ := bt_at hL 2; have e1 : bt t 3 = _ := bt_at hL 3
        rw [e0, e1]; show a2 / 256 % 256 * 256 + a2 % 256 = _; omega
      have n4 : ((bt t 4 * 256 + bt t 5) * 256 + bt t 6) * 256 + bt t 7 = a3 := by
        have e0 : bt t 4 = _ := bt_at hL 4; have e1 : bt t 5 = _ := bt_at hL 5; have e2 : bt t 6 = _ := bt_at hL 6; have e3 : bt t 7 = _ := bt_at hL 7
        rw [e0, e1, e2, e3]; show ((a3 / 16777216 % 256 * 256 + a3 / 65536 % 256) * 256 + a3 / 256 % 256) * 256 + a3 % 256 = _; omega
      have n8 : ((bt t 8 * 256 + bt t 9) * 256 + bt t 10) * 256 + bt t 11 = a4 := by
        have e0 : bt t 8 = _ := bt_at hL 8; have e1 : bt t 9 = _ := bt_at hL 9; have e2 : bt t 10 = _ := bt_at hL 10; have e3 : bt t 11 = _ := bt_at hL 11
        rw [e0, e1, e2, e3]; show ((a4 / 16777216 % 256 * 256 + a4 / 65536 % 256) * 256 + a4 / 256 % 256) * 256 + a4 % 256 = _; omega
      have l1 : (t.extract 14 16).toList = [4, 0] := cut_eq t 14 16 [4, 0] [4, 0] (by rw [hL]; rfl) rfl
      have l2 : (t.extract 18 20).toList = [0, 0] := cut_eq t 18 20 [0, 0] [0, 0] (by rw [hL]; rfl) rfl
      rw [decide_eq_false (by omega)]
      show wharfagelaw3_SegHeads.j0 (698 + 1 + 1) t false 6 a1 a2 a3 a4 a5 a6 = some true
      rw [wharfagelaw3_SegHeads.j0, if_neg (by decide), if_pos (by omega), if_pos (by omega), or2, n0, if_pos rfl, if_pos (by omega), if_pos (by omega), or2, n2, bne_self_eq_false, wharfagelaw3_SegHeads.j1, if_neg (by decide), if_neg (by decide), if_pos (by omega), if_pos (by omega), if_pos (by omega), if_pos (by omega), if_pos (by omega), or4, n4, if_pos rfl, if_pos (by omega), if_pos (by omega), if_pos (by omega), if_pos (by omega), or4, n8, if_pos rfl, if_pos (by omega), if_pos b12, if_pos (by omega), b13, wrap64_id (by omega) (by omega), if_pos rfl, if_pos (by decide), if_pos (by omega), if_pos l1, if_pos (by decide), if_pos (by omega), if_pos l2, hd, beq_refl']
    · have ht : textS 17 a1 a2 0 0 0 c a6 = udpT a1 a2 c a6 := by unfold textS; rw [if_neg (by decide)]
      have hL := udp_list a1 a2 c a6
      have hz := udpT_size a1 a2 c a6
      have hd : (udpT a1 a2 c a6).extract 8 (udpT a1 a2 c a6).size = a6 := by
        apply ByteArray.extract_append_eq_right
        · simp only [ByteArray.size_append, B1_size, B2_size, B4_size]
        · rw [hz]; simp only [ByteArray.size_append, B1_size, B2_size, B4_size]
      rw [ht]
      generalize udpT a1 a2 c a6 = t at *
      have n0 : bt t 0 * 256 + bt t 1 = a1 := by
        have e0 : bt t 0 = _ := bt_at hL 0; have e1 : bt t 1 = _ := bt_at hL 1
        rw [e0, e1]; show a1 / 256 % 256 * 256 + a1 % 256 = _; omega
      have n2 : bt t 2 * 256 + bt t 3 = a2 := by
        have e0 : bt t 2 = _ := bt_at hL 2; have e1 : bt t 3 = _ := bt_at hL 3
        rw [e0, e1]; show a2 / 256 % 256 * 256 + a2 % 256 = _; omega
      have n4 : bt t 4 * 256 + bt t 5 = t.size := by
        have e0 : bt t 4 = _ := bt_at hL 4; have e1 : bt t 5 = _ := bt_at hL 5
        rw [e0, e1, hz]; show (8 + (a6.size : Int)) / 256 % 256 * 256 + (8 + (a6.size : Int)) % 256 = _; omega
      rw [decide_eq_false (by omega)]
      show wharfagelaw3_SegHeads.j0 (698 + 1 + 1) t false 17 a1 a2 0 0 0 a6 = some true
      rw [wharfagelaw3_SegHeads.j0, if_neg (by decide), if_pos (by omega), if_pos (by omega), or2, n0, if_pos rfl, if_pos (by omega), if_pos (by omega), or2, n2, bne_self_eq_false, wharfagelaw3_SegHeads.j1, if_neg (by decide), if_pos rfl, if_pos (by omega), if_pos (by omega), or2, n4, if_pos rfl, if_pos (by omega), hd, beq_refl']
  · rw [SegPut_bad 700 (by decide) (.inl (by simpa using h)), Option.bind_some, num0, Option.bind_some, if_neg (by decide)]
    show wharfagelaw3_SegHeads.j0 (699 + 1) _ true _ _ _ _ _ _ _ = some true
    rw [wharfagelaw3_SegHeads.j0, if_pos rfl, empty_toList]; rfl
end Go.Proofs.Ytobhmonmeocfmaa.Pure
