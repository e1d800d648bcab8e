import Derived.Test.YtobhmonmeocfmaaSegI
import Derived.Test.YtobhmonmeocfmaaFAWharfagelaw3SegNone
namespace Go.Proofs.Ytobhmonmeocfmaa.Pure
set_option linter.unusedSimpArgs false
set_option linter.unusedVariables false
open Go Go.RowKit Go.Proofs.Ytobhmonmeocfmaa.PA Go.Proofs.YtobhmonmeocfmaaW.PrintWords Go.Proofs.YtobhmonmeocfmaaW.PrintLast Go.Proofs.YtobhmonmeocfmaaW.PrintMore Go.Proofs.Ytobhmonmeocfmaa.Wh
theorem awake3N : wharfagelaw3_awake.f 700 = some true := by decide +kernel
theorem SegNone (a0 a1 a2 a3 a4 a5 : Int) (a6 : ByteArray) (src dst : Int) (_ : (Lit.int .i64 a0).wf = true) (_ : (Lit.int .i64 a1).wf = true) (_ : (Lit.int .i64 a2).wf = true) (_ : (Lit.int .i64 a3).wf = true) (_ : (Lit.int .i64 a4).wf = true) (_ : (Lit.int .i64 a5).wf = true)
    (_ : (Lit.int .i64 src).wf = true) (_ : (Lit.int .i64 dst).wf = true) : ∃ k, wharfagelaw3_SegNone.f k a0 a1 a2 a3 a4 a5 a6 src dst = some true := by
  refine ⟨700, ?_⟩
  unfold wharfagelaw3_SegNone.f
  rw [awake3N, Option.bind_some, if_pos rfl, and_65535, and_65535]
  obtain ⟨a, ha, ha0, ha1⟩ : ∃ a, src % 65536 = a ∧ 0 ≤ a ∧ a < 65536 := ⟨_, rfl, by omega, by omega⟩
  obtain ⟨b, hb, hb0, hb1⟩ : ∃ b, dst % 65536 = b ∧ 0 ≤ b ∧ b < 65536 := ⟨_, rfl, by omega, by omega⟩
  rw [ha, hb]
  by_cases h : mayS 17 a1 a2 0 0 0 a6 = true
  · have he : mayE a b = true := by simp [mayE]; omega
    have he2 : mayE b (a + 9) = true := by simp [mayE]; omega
    rw [SegPut_ok 700 (by decide) h he, Option.bind_some, num0, Option.bind_some, if_pos rfl]
    dsimp only
    obtain ⟨c0, c1, c2⟩ := chk_range 17 a1 a2 0 0 0 a6 a b (.inr rfl)
    have c2 := c2 rfl
    unfold putS
    generalize chkS 17 a1 a2 0 0 0 a6 a b = c at *
    have g := get_text h b (a + 9) 0 (by decide) (by decide)
    rw [if_pos ⟨he2, .inl ⟨rfl, rfl⟩⟩] at g
    have tx : ∀ c, textS 17 a1 a2 0 0 0 c a6 = udpT a1 a2 c a6 := by intro c; unfold textS; rw [if_neg (by decide)]
    obtain ⟨p1, p2, p3, p4⟩ := mayS_parts h
    rw [tx] at g ⊢
    have hL := udp_list a1 a2 c a6
    have hz := udpT_size a1 a2 c a6
    have e6 : (udpT a1 a2 c a6).extract 0 6 = B2 a1 ++ B2 a2 ++ B2 (8 + (a6.size : Int)) := by
      unfold udpT
      rw [ByteArray.append_assoc]
      apply ByteArray.extract_append_eq_left
      simp only [ByteArray.size_append, B2_size]
    have e8 : (udpT a1 a2 c a6).extract 8 (udpT a1 a2 c a6).size = a6 := by
      apply ByteArray.extract_append_eq_right
      · simp only [ByteArray.size_append, B1_size, B2_size, B4_size]
      · rw [hz]; simp only [ByteArray.size_append, B1_size, B2_size, B4_size]
    have et : (udpT a1 a2 c a6).extract 0 6 ++ (⟨#[0, 0]⟩ : ByteArray) ++ (udpT a1 a2 c a6).extract 8 (udpT a1 a2 c a6).size = udpT a1 a2 0 a6 := by
      rw [e6, e8, B2_lit0]; rfl
    have s6 : ((udpT a1 a2 c a6).extract 0 6).size = 6 := by rw [e6]; simp only [ByteArray.size_append, B2_size]
    have b6 : bt (udpT a1 a2 c a6) 6 = c / 256 % 256 := bt_at hL 6
    have b7 : bt (udpT a1 a2 c a6) 7 = c % 256 := bt_at hL 7
    have sg := SegGet_eq 699 (by decide) 17 (udpT a1 a2 0 a6) b (a + 9)
    rw [g] at sg
    rw [decide_eq_false (by omega)]
    show wharfagelaw3_SegNone.j0 (699 + 1) a b (udpT a1 a2 c a6) false 17 a1 a2 0 0 0 a6 = some true
    rw [wharfagelaw3_SegNone.j0, if_neg (by decide), if_pos (by decide), if_pos (by omega), s6, if_pos (by decide), if_pos (by omega), ByteArray.size_append, s6, e8, if_pos (by show 6 + 2 + a6.size ≤ _; omega)]
    rw [e8] at et
    rw [et, wrap64_id (n := a + 9) (by omega) (by omega), sg, Option.bind_some, num0, Option.bind_some, if_pos rfl, if_pos (by simp), if_pos (by omega), b6, b7]
    by_cases z : c / 256 % 256 = 0
    · rw [if_pos z, if_pos (by omega)]
      congr 1
      rw [bne_iff_ne]; omega
    · rw [if_neg z]
  · rw [SegPut_bad 700 (by decide) (.inl (by simpa using h)), Option.bind_some, num0, Option.bind_some, if_neg (by decide)]
    show wharfagelaw3_SegNone.j0 (699 + 1) _ _ _ true _ _ _ _ _ _ _ = some true
    rw [wharfagelaw3_SegNone.j0, if_pos rfl, empty_toList]; rfl
end Go.Proofs.Ytobhmonmeocfmaa.Pure
