import Derived.Test.YtnhbieicjlnakaaIpTexts
import Derived.Test.YtnhbieicjlnakaaFAWharfagelaw2IpClasses
namespace Go.Proofs.Ytnhbieicjlnakaa.Pure
set_option linter.unusedSimpArgs false
set_option linter.unusedVariables false
open Go Go.RowKit Go.Proofs.Ytnhbieicjlnakaa.PA Go.Proofs.YtnhbieicjlnakaaW.PrintWords Go.Proofs.YtnhbieicjlnakaaW.PrintLast Go.Proofs.YtnhbieicjlnakaaW.PrintMore Go.Proofs.Ytnhbieicjlnakaa.Wh
theorem classes_fin (g : IpR) (w : Int) (h : okG g w) :
    (if g.2.2.2.2.2.2.1 = w then ((wharfagelaw0_Num.f g.2.2.2.2.2.2.2).bind fun t295 => (if ((t295 == 200) == (g.2.2.2.2.2.2.1 == 1)) = true then (some ((g.2.2.2.2.2.2.1 == 0) == (!(g.1 == 0) || (!(g.2.1 == 0) || (!(g.2.2.1 == 0) || (!(g.2.2.2.1 == 0) || (!(g.2.2.2.2.1 == 0) || (!(g.2.2.2.2.2.1.toList == ([] : List UInt8)))))))))) else (none))) else (none)) = some true := by
  rcases h with ⟨rfl, rfl⟩ | ⟨rfl, rfl⟩ | ⟨rfl, rfl⟩ | ⟨rfl, b, c, d, e, x, rfl⟩
  · decide +kernel
  · decide +kernel
  · decide +kernel
  · rw [num0, if_pos rfl]; rfl
theorem cls13 (j : Int) (h0 : 0 ≤ j) (h1 : j < 13) (x0 x1 x2 x3 x4 x5 x6 x7 x8 x9 x10 x11 x12 : ByteArray)
    (p0 : okG (getI x0) 1) (p1 : okG (getI x1) 1) (p2 : okG (getI x2) 1) (p3 : okG (getI x3) 1) (p4 : okG (getI x4) 1) (p5 : okG (getI x5) 1) (p6 : okG (getI x6) 1) (p7 : okG (getI x7) 3) (p8 : okG (getI x8) 2) (p9 : okG (getI x9) 2) (p10 : okG (getI x10) 2) (p11 : okG (getI x11) 0) (p12 : okG (getI x12) 0) :
    okG (getI (rdOf ByteArray.empty [x0, x1, x2, x3, x4, x5, x6, x7, x8, x9, x10, x11, x12] j)) (rd ([1, 1, 1, 1, 1, 1, 1, 3, 2, 2, 2, 0, 0] : List Int) j) := by
  obtain rfl | rfl | rfl | rfl | rfl | rfl | rfl | rfl | rfl | rfl | rfl | rfl | rfl : j = 0 ∨ j = 1 ∨ j = 2 ∨ j = 3 ∨ j = 4 ∨ j = 5 ∨ j = 6 ∨ j = 7 ∨ j = 8 ∨ j = 9 ∨ j = 10 ∨ j = 11 ∨ j = 12 := by omega
  · exact p0
  · exact p1
  · exact p2
  · exact p3
  · exact p4
  · exact p5
  · exact p6
  · exact p7
  · exact p8
  · exact p9
  · exact p10
  · exact p11
  · exact p12
theorem sz1 (c : UInt8) : (⟨#[c]⟩ : ByteArray).size = 1 := rfl
theorem sz2 (c d : UInt8) : (⟨#[c, d]⟩ : ByteArray).size = 2 := rfl
theorem classes_j (a0 : Int) (body : ByteArray) (hb : 8 ≤ body.size) (hb' : body.size ≤ 48) : wharfagelaw2_IpClasses.j0 (699 + 1) a0 (S0 body) false = some true := by
  have p1 := tx1 body hb hb'
  have p2 := tx2 body hb hb' (19 + body.size) rfl
  have p3 := tx3 body hb hb' 120
  have p4 := tx4 body hb hb' 101 (by decide)
  have p5 := tx4 body hb hb' 68 (by decide)
  have p6 := tx6 body hb hb'
  have p7 := tx7 body hb hb'
  have p8 := tx8 body hb hb' 32 0 (by decide)
  have p9 := tx8 body hb hb' 0 1 (by decide)
  have p10 := tx8 body hb hb' 128 0 (by decide)
  have p11 := tx11 body hb hb'
  have p12 := tx12 body hb hb'
  have hz := S0_size body
  generalize S0 body = s at *
  rw [wharfagelaw2_IpClasses.j0, if_neg (by decide)]
  rw [wrap64_id (n := (s.size : Int) - 1) (by omega) (by omega)]
  have hj : ((s.size : Int) - 1).toNat = 19 + body.size := by omega
  rw [hj]
  obtain ⟨j, hj, j0, j1⟩ : ∃ j, wrap64 (Int.tmod (IntKind.u64.wrap a0) 13) = j ∧ 0 ≤ j ∧ j < 13 := by
    refine ⟨_, rfl, ?_⟩
    rw [u64_wrap]
    have h1 : 0 ≤ a0 % 18446744073709551616 := Int.emod_nonneg _ (by decide)
    rw [Int.tmod_eq_emod_of_nonneg h1, wrap64_id (by omega) (by omega)]; omega
  rw [hj]
  have z1 : (s.extract 1 s.size).size = s.size - 1 := by rw [ByteArray.size_extract]; omega
  have z2 : (s.extract 0 8).size = 8 := by rw [ByteArray.size_extract]; omega
  have z3 : (s.extract 9 s.size).size = s.size - 9 := by rw [ByteArray.size_extract]; omega
  have z4 : (s.extract 0 6).size = 6 := by rw [ByteArray.size_extract]; omega
  have z5 : (s.extract 8 s.size).size = s.size - 8 := by rw [ByteArray.size_extract]; omega
  have z6 : (s.extract 0 1).size = 1 := by rw [ByteArray.size_extract]; omega
  have z7 : (s.extract 2 s.size).size = s.size - 2 := by rw [ByteArray.size_extract]; omega
  have w7 : wharfagelaw2_whole.f 699 ((⟨#[70]⟩ : ByteArray) ++ (s.extract 1 s.size)) = some (wholeI ((⟨#[70]⟩ : ByteArray) ++ (s.extract 1 s.size))) := whole_eq _ (by decide) _ (by rw [ByteArray.size_append, z1, sz1]; omega)
  have w8 : ∀ c d : UInt8, wharfagelaw2_whole.f 699 (((s.extract 0 6) ++ (⟨#[c, d]⟩ : ByteArray)) ++ (s.extract 8 s.size)) = some (wholeI (((s.extract 0 6) ++ (⟨#[c, d]⟩ : ByteArray)) ++ (s.extract 8 s.size))) := fun c d => whole_eq _ (by decide) _ (by rw [ByteArray.size_append, ByteArray.size_append, z4, z5, sz2]; omega)
  have w12 : wharfagelaw2_whole.f 699 (((s.extract 0 1) ++ (⟨#[255]⟩ : ByteArray)) ++ (s.extract 2 s.size)) = some (wholeI (((s.extract 0 1) ++ (⟨#[255]⟩ : ByteArray)) ++ (s.extract 2 s.size))) := whole_eq _ (by decide) _ (by rw [ByteArray.size_append, ByteArray.size_append, z6, z7, sz1]; omega)
  rw [if_pos (by decide), if_pos (by omega), if_pos (by omega), if_pos (by omega), if_pos (by omega), if_pos (by omega), if_pos (by rw [z1]; omega), if_pos (by decide), if_pos (by omega), if_pos (by rw [z2]; omega), if_pos (by omega), if_pos (by rw [ByteArray.size_append, z2, z3, sz1]; omega), w7, Option.bind_some]
  rw [if_pos (by decide), if_pos (by omega), if_pos (by rw [z4]; omega), if_pos (by rw [ByteArray.size_append, z4, z5, sz2]; omega), w8, Option.bind_some]
  rw [if_pos (by rw [ByteArray.size_append, z4, z5, sz2]; omega), w8, Option.bind_some]
  rw [if_pos (by rw [ByteArray.size_append, z4, z5, sz2]; omega), w8, Option.bind_some]
  rw [if_pos (by rw [ByteArray.size_append, z4, z5, sz2]; omega), w8, Option.bind_some]
  rw [if_pos (by decide), if_pos (by rw [z6]; omega), if_pos (by omega), if_pos (by rw [ByteArray.size_append, z6, z7, sz1]; omega), w12, Option.bind_some]
  have key := cls13 j j0 j1 (⟨#[]⟩ : ByteArray) _ _ _ _ _ _ _ _ _ _ _ _ (.inl ⟨rfl, get_bad_size _ (.inl (by decide))⟩) p1 p2 p3 p4 p5 p6 p7 p8 p9 p10 p11 p12
  rw [Option.bind_some, Option.bind_some, if_pos j0, if_pos (by simpa using j1), Get_eq 699 (by decide), Option.bind_some, if_pos (by simpa using j1)]
  exact classes_fin _ _ key
theorem may_body (body : ByteArray) (hb : body.size ≤ 48) : mayI 1 2 17 9 0 body = true := by
  unfold mayI
  simp
  omega
theorem IpClasses : wharfagelaw2_IpClasses.Pure := by
  intro a0 a1 _ w1
  refine ⟨700, ?_⟩
  unfold wharfagelaw2_IpClasses.f
  obtain ⟨m, hm, m0, m1, m2⟩ : ∃ m, mn (a1.size : Int) 40 = m ∧ 0 ≤ m ∧ m ≤ 40 ∧ m ≤ a1.size := by
    refine ⟨_, rfl, ?_⟩
    unfold mn; omega
  have hx : (a1.extract 0 m.toNat).size = m.toNat := by rw [ByteArray.size_extract]; omega
  rw [hm, awakeI, Option.bind_some, if_pos rfl, if_pos m0, if_pos m2, hx, if_pos (by omega)]
  have hz : ((⟨#[97, 98, 99, 100, 101, 102, 103, 104]⟩ : ByteArray) ++ (a1.extract 0 m.toNat)).size = 8 + m.toNat := by rw [ByteArray.size_append, hx]; rfl
  generalize (⟨#[97, 98, 99, 100, 101, 102, 103, 104]⟩ : ByteArray) ++ (a1.extract 0 m.toNat) = body at *
  rw [Put_ok 700 (by decide) (may_body body (by omega)), Option.bind_some, num0, Option.bind_some, if_pos rfl]
  have h28 : decide (((putI 1 2 17 9 0 body).size : Int) < 28) = false := by
    rw [putI_size]; simp; omega
  rw [h28]
  exact classes_j a0 body (by omega) (by omega)
end Go.Proofs.Ytnhbieicjlnakaa.Pure
