import Derived.Test.YtobhmonmeocfmaaSegIS
import Derived.Test.YtobhmonmeocfmaaFAWharfageref1PutSeg
import Derived.Test.YtobhmonmeocfmaaFAWharfageref1GetSeg
namespace Go.Proofs.Ytobhmonmeocfmaa.Pure
set_option linter.unusedSimpArgs false
set_option linter.unusedVariables false
open Go Go.RowKit Go.Proofs.Ytobhmonmeocfmaa.PA Go.Proofs.YtobhmonmeocfmaaW.PrintWords Go.Proofs.YtobhmonmeocfmaaW.PrintLast Go.Proofs.YtobhmonmeocfmaaW.PrintMore Go.Proofs.Ytobhmonmeocfmaa.Wh
theorem within6 (a : Int) : wharfageref1_within.f a 6 = some (decide (0 ≤ a ∧ a < 64)) := by
  unfold wharfageref1_within.f
  by_cases h : a ≥ 0
  · rw [if_pos h, if_pos (by decide), show shl .i64 1 6 = 64 by decide]; congr 1; rw [Bool.eq_iff_iff]; simp; omega
  · rw [if_neg h]; congr 1; symm; simp; omega
theorem refmay_j (k : Nat) (c : Bool) (proto sport dport seq ack flags : Int) (body : ByteArray) : wharfageref1_SegMay.j0 (k + 1) c proto sport dport seq ack flags body = some (!c && decide (kindS proto seq ack flags)) := by
  rw [wharfageref1_SegMay.j0, within32, within32, within6]
  simp only [Option.bind_some]
  cases c
  · rw [if_neg (by decide)]
    by_cases h17 : proto = 17
    · rw [if_pos h17, Bool.not_false, Bool.true_and]
      by_cases a : seq = 0
      · rw [if_pos a]
        by_cases b : ack = 0
        · rw [if_pos b]
          congr 1
          rw [Bool.eq_iff_iff]
          simp only [beq_iff_eq, decide_eq_true_eq]
          unfold kindS
          omega
        · rw [if_neg b]; congr 1; symm; rw [decide_eq_false_iff_not]; unfold kindS; omega
      · rw [if_neg a]; congr 1; symm; rw [decide_eq_false_iff_not]; unfold kindS; omega
    · rw [if_neg h17, Bool.not_false, Bool.true_and]
      by_cases h6 : proto = 6
      · rw [if_pos h6, if_and, if_and]
        congr 1
        rw [Bool.eq_iff_iff]
        simp only [Bool.and_eq_true, decide_eq_true_eq]
        unfold kindS
        omega
      · rw [if_neg h6]; congr 1; symm; rw [decide_eq_false_iff_not]; unfold kindS; omega
  · rw [if_pos rfl]; rfl
theorem RSegMay_eq (k : Nat) (hk : 1 ≤ k) (proto sport dport seq ack flags : Int) (body : ByteArray) : wharfageref1_SegMay.f k proto sport dport seq ack flags body = some (mayS proto sport dport seq ack flags body) := by
  obtain ⟨k, rfl⟩ : ∃ m, k = m + 1 := ⟨k - 1, by omega⟩
  unfold wharfageref1_SegMay.f
  rw [within16, within16, Option.bind_some, Option.bind_some, refmay_j, refmay_j]
  by_cases a : 0 ≤ sport ∧ sport < 65536
  · rw [if_pos (decide_eq_true a)]
    by_cases b : 0 ≤ dport ∧ dport < 65536
    · rw [if_pos (decide_eq_true b)]
      congr 1
      rw [Bool.eq_iff_iff]
      simp only [mayS, Bool.and_eq_true, decide_eq_true_eq, a, b, true_and, Bool.not_eq_true', decide_eq_false_iff_not]
      constructor
      · intro hh; exact ⟨by omega, hh.2⟩
      · intro hh; exact ⟨by omega, hh.2⟩
    · rw [if_neg (by simpa using b)]; congr 1; rw [Bool.eq_iff_iff]; simp only [mayS, Bool.and_eq_true, decide_eq_true_eq, a, b]; simp
  · rw [if_neg (by simpa using a)]; congr 1; rw [Bool.eq_iff_iff]; simp only [mayS, Bool.and_eq_true, decide_eq_true_eq, a]; simp
theorem Pseudo_eq (src dst proto : Int) (s : ByteArray) (hs : s.size ≤ 140737488351232) (k : Nat) (hk : s.size + 30 ≤ k) : wharfageref1_pseudo.f k proto s src dst = some (sumS src dst proto s) := by
  have hz := psL_size src dst proto s.size
  have hsum := rsum_eq (psL src dst proto s.size ++ s) (by rw [ByteArray.size_append, hz]; omega) k (by rw [ByteArray.size_append, hz]; omega)
  have he : B4 src ++ B4 dst ++ B2 proto ++ B2 (s.size : Int) = psL src dst proto s.size := rfl
  obtain ⟨k, rfl⟩ : ∃ m, k = m + 10 := ⟨k - 10, by omega⟩
  have n1 : ∀ x, wharfageref1_Num.f (k + 10) x 2 = some (B2 x) := fun x => num2 (k + 7) x
  have n2 : ∀ x, wharfageref1_Num.f (k + 10) x 4 = some (B4 x) := fun x => num4 (k + 5) x
  unfold wharfageref1_pseudo.f
  rw [n2, Option.bind_some, n2, Option.bind_some, if_pos (by simp only [B4_size]; omega), n1, Option.bind_some, if_pos (by simp only [ByteArray.size_append, B2_size, B4_size]; omega), n1, Option.bind_some, if_pos (by simp only [ByteArray.size_append, B2_size, B4_size]; omega)]
  rw [he, if_pos (by rw [hz]; omega), hsum, Option.bind_some]
  rfl
theorem RPutSeg_bad (k : Nat) (hk : 2 ≤ k) {proto sport dport seq ack flags : Int} {body : ByteArray} {src dst : Int} (h : mayS proto sport dport seq ack flags body = false ∨ mayE src dst = false) :
    wharfageref1_PutSeg.f k proto sport dport seq ack flags body src dst = some ((⟨#[]⟩ : ByteArray), 300) := by
  obtain ⟨k, rfl⟩ : ∃ m, k = m + 1 := ⟨k - 1, by omega⟩
  unfold wharfageref1_PutSeg.f
  rw [RSegMay_eq _ (by omega), Option.bind_some, within32, within32, Option.bind_some, Option.bind_some]
  by_cases a : mayS proto sport dport seq ack flags body = true
  · have he := h.resolve_left (by rw [a]; decide)
    rw [if_pos a]
    by_cases b : 0 ≤ src ∧ src < 4294967296
    · rw [if_pos (decide_eq_true b)]
      have hd : decide (0 ≤ dst ∧ dst < 4294967296) = false := by simpa [mayE, b] using he
      rw [hd, wharfageref1_PutSeg.j0, Bool.not_false, if_pos rfl]
    · rw [if_neg (by simpa using b), wharfageref1_PutSeg.j0, if_pos rfl]
  · rw [if_neg a, wharfageref1_PutSeg.j0, if_pos rfl]
theorem RPutSeg_ok (k : Nat) (hk : 600 ≤ k) {proto sport dport seq ack flags : Int} {body : ByteArray} {src dst : Int} (h : mayS proto sport dport seq ack flags body = true) (he : mayE src dst = true) :
    wharfageref1_PutSeg.f k proto sport dport seq ack flags body src dst = some (putS proto sport dport seq ack flags body src dst, 0) := by
  obtain ⟨_, _, hb, hkind⟩ := mayS_parts h
  obtain ⟨h1, h2⟩ := mayE_parts he
  obtain ⟨k, rfl⟩ : ∃ m, k = m + 11 := ⟨k - 11, by omega⟩
  have n0 : ∀ x, wharfageref1_Num.f (k + 10) x 1 = some (B1 x) := fun x => num1 (k + 8) x
  have n1 : ∀ x, wharfageref1_Num.f (k + 10) x 2 = some (B2 x) := fun x => num2 (k + 7) x
  have n2 : ∀ x, wharfageref1_Num.f (k + 10) x 4 = some (B4 x) := fun x => num4 (k + 5) x
  have hr := sumS_range src dst proto (textS proto sport dport seq ack flags 0 body)
  have hps := Pseudo_eq src dst proto (textS proto sport dport seq ack flags 0 body) (by rw [textS_size]; by_cases e : proto = 6 <;> simp [e] <;> omega) (k + 10) (by rw [textS_size]; by_cases e : proto = 6 <;> simp [e] <;> omega)
  unfold wharfageref1_PutSeg.f
  rw [RSegMay_eq _ (by omega), h, Option.bind_some, if_pos rfl, within32, Option.bind_some, if_pos (decide_eq_true h1), within32, Option.bind_some, decide_eq_true h2, Bool.not_true]
  show wharfageref1_PutSeg.j0 ((k + 10) + 1) _ _ _ _ _ _ _ _ _ _ = _
  rw [wharfageref1_PutSeg.j0, if_neg (by decide), n1, Option.bind_some, n1, Option.bind_some, if_pos (by simp only [B2_size]; omega)]
  unfold putS
  by_cases e : proto = 6
  · have hc : chkS proto sport dport seq ack flags body src dst = 65535 - sumS src dst proto (textS proto sport dport seq ack flags 0 body) := by
      unfold chkS; rw [if_neg (by omega)]
    rw [if_pos e, hc]
    have ht : textS proto sport dport seq ack flags 0 body = tcpT sport dport seq ack flags 0 body := by unfold textS; rw [if_pos e]
    have ht2 : ∀ c, textS proto sport dport seq ack flags c body = tcpT sport dport seq ack flags c body := by intro c; unfold textS; rw [if_pos e]
    rw [ht] at hps hr ⊢
    rw [ht2]
    generalize hS : sumS src dst proto (tcpT sport dport seq ack flags 0 body) = S at *
    have g1 : B2 sport ++ B2 dport ++ B4 seq ++ B4 ack ++ B1 80 ++ B1 flags ++ B2 1024 ++ B2 0 ++ (B2 0 ++ body) = tcpT sport dport seq ack flags 0 body := by
      simp only [tcpT, ByteArray.append_assoc]
    have g2 : B2 sport ++ B2 dport ++ B4 seq ++ B4 ack ++ B1 80 ++ B1 flags ++ B2 1024 ++ B2 (65535 - S) ++ (B2 0 ++ body) = tcpT sport dport seq ack flags (65535 - S) body := by
      simp only [tcpT, ByteArray.append_assoc]
    rw [B1_80, B2_lit0]
    rw [n2, Option.bind_some, if_pos (by simp only [ByteArray.size_append, B1_size, B2_size, B4_size]; omega), n2, Option.bind_some, if_pos (by simp only [ByteArray.size_append, B1_size, B2_size, B4_size]; omega), if_pos (by simp only [ByteArray.size_append, B1_size, B2_size, B4_size]; omega)]
    rw [n0, Option.bind_some, if_pos (by simp only [ByteArray.size_append, B1_size, B2_size, B4_size]; omega), n1, Option.bind_some, if_pos (by simp only [ByteArray.size_append, B1_size, B2_size, B4_size]; omega), if_pos (by omega), if_pos (by simp only [ByteArray.size_append, B1_size, B2_size, B4_size]; omega), if_pos (by simp only [ByteArray.size_append, B1_size, B2_size, B4_size]; omega)]
    rw [g1, hps, Option.bind_some, wrap64_id (n := 65535 - S) (by omega) (by omega), n1, Option.bind_some, if_pos (by simp only [ByteArray.size_append, B1_size, B2_size, B4_size]; omega), if_pos (by simp only [ByteArray.size_append, B1_size, B2_size, B4_size]; omega), g2]
  · have e17 : proto = 17 := by unfold kindS at hkind; omega
    rw [if_neg e]
    have ht2 : ∀ c, textS proto sport dport seq ack flags c body = udpT sport dport c body := by intro c; unfold textS; rw [if_neg e]
    unfold chkS
    rw [ht2] at hps hr ⊢
    rw [ht2]
    generalize hS : sumS src dst proto (udpT sport dport 0 body) = S at *
    have g1 : ∀ c, B2 sport ++ B2 dport ++ B2 (8 + (body.size : Int)) ++ B2 c ++ body = udpT sport dport c body := fun c => rfl
    rw [B2_lit0, wrap64_id (n := 8 + (body.size : Int)) (by omega) (by omega)]
    rw [n1, Option.bind_some, if_pos (by simp only [ByteArray.size_append, B1_size, B2_size, B4_size]; omega), if_pos (by simp only [ByteArray.size_append, B1_size, B2_size, B4_size]; omega), if_pos (by simp only [ByteArray.size_append, B1_size, B2_size, B4_size]; omega)]
    rw [g1, hps, Option.bind_some, wrap64_id (n := 65535 - S) (by omega) (by omega)]
    by_cases z : 65535 - S = 0
    · rw [if_pos z, if_pos ⟨e17, z⟩, n1, Option.bind_some, if_pos (by simp only [ByteArray.size_append, B1_size, B2_size, B4_size]; omega), if_pos (by simp only [ByteArray.size_append, B1_size, B2_size, B4_size]; omega), g1]
    · rw [if_neg z, if_neg (fun hh => z hh.2), n1, Option.bind_some, if_pos (by simp only [ByteArray.size_append, B1_size, B2_size, B4_size]; omega), if_pos (by simp only [ByteArray.size_append, B1_size, B2_size, B4_size]; omega), g1]
end Go.Proofs.Ytobhmonmeocfmaa.Pure
namespace Go.Proofs.Ytobhmonmeocfmaa.Pure
set_option linter.unusedSimpArgs false
set_option linter.unusedVariables false
open Go Go.RowKit Go.Proofs.Ytobhmonmeocfmaa.PA Go.Proofs.YtobhmonmeocfmaaW.PrintWords Go.Proofs.YtobhmonmeocfmaaW.PrintLast Go.Proofs.YtobhmonmeocfmaaW.PrintMore Go.Proofs.Ytobhmonmeocfmaa.Wh
theorem RGet_eq (proto : Int) (s : ByteArray) (src dst : Int) (hs : s.size ≤ 140737488351232) (k : Nat) (hk : s.size + 700 ≤ k) : wharfageref1_GetSeg.f k proto s src dst = some (getS proto s src dst) := by
  obtain ⟨k, rfl⟩ : ∃ m, k = m + 10 + 2 := ⟨k - 12, by omega⟩
  have hE : ∀ p un sp dp sq ak fl body, mayE src dst = false → okS p s src dst true un sp dp sq ak fl body = okS p s src dst true un sp dp sq ak fl body := fun _ _ _ _ _ _ _ _ _ => rfl
  have hbad : mayE src dst = false → getS proto s src dst = badS := by
    intro h
    have hn : ∀ is un p sp dp sq ak fl body q, okS q s src dst is un p sp dp sq ak fl body = badS := by
      intro is un p sp dp sq ak fl body q
      unfold okS; rw [if_neg (fun hh => by rw [h] at hh; cases hh.2.2.1)]
    unfold getS
    rw [hn, hn]
    by_cases a : proto = 6
    · rw [if_pos a]; exact ite_self _
    · rw [if_neg a]
      by_cases b : proto = 17
      · rw [if_pos b]; exact ite_self _
      · rw [if_neg b]
  unfold wharfageref1_GetSeg.f
  rw [within32, within32, Option.bind_some, Option.bind_some]
  by_cases a : 0 ≤ src ∧ src < 4294967296
  rotate_left
  · rw [if_neg (by simpa using a), wharfageref1_GetSeg.j0, if_pos rfl, hbad (by simp [mayE]; omega)]; rfl
  by_cases b : 0 ≤ dst ∧ dst < 4294967296
  rotate_left
  · rw [if_pos (decide_eq_true a), if_neg (by simpa using b), wharfageref1_GetSeg.j0, if_pos rfl, hbad (by simp [mayE]; omega)]; rfl
  have hE : mayE src dst = true := by simp [mayE]; omega
  rw [if_pos (decide_eq_true a), if_pos (decide_eq_true b), wharfageref1_GetSeg.j0]
  by_cases c8 : s.size < 8
  · rw [if_pos (decide_eq_true (by omega))]
    unfold getS
    by_cases e : proto = 6
    · rw [if_pos e, if_pos (by omega)]; rfl
    · rw [if_neg e]
      by_cases e2 : proto = 17
      · rw [if_pos e2, if_pos (by omega)]; rfl
      · rw [if_neg e2]; rfl
  rw [if_neg (by simp; omega), if_pos (by decide), if_pos (by omega), of2 (k + 8) _ (by simp [ByteArray.size_extract]; omega), N2_extract s 0 (by omega), Option.bind_some, if_pos (by decide), if_pos (by omega), of2 (k + 8) _ (by simp [ByteArray.size_extract]; omega), N2_extract s 2 (by omega), Option.bind_some]
  unfold getS
  by_cases e : proto = 6
  · subst e
    rw [if_pos rfl, if_pos rfl, wharfageref1_GetSeg.j1]
    by_cases c : s.size < 20
    · rw [decide_eq_false (by omega), if_neg (by decide), if_neg (by decide), if_neg (by decide), if_pos (.inl c)]; rfl
    rw [decide_eq_true (by omega), if_pos rfl, if_pos (by decide), if_pos (by omega), of4 (k + 5) _ (by simp [ByteArray.size_extract]; omega), N4_extract s 4 (by omega), Option.bind_some, if_pos (by decide), if_pos (by omega), of4 (k + 5) _ (by simp [ByteArray.size_extract]; omega), N4_extract s 8 (by omega), Option.bind_some, if_pos (by omega), if_pos (by omega), if_pos (by omega)]
    by_cases c2 : bt s 12 = 80
    rotate_left
    · rw [if_neg c2, if_pos (.inr c2)]; rfl
    have hb := bt_range s 13
    rw [if_pos c2, if_neg (by omega), Pseudo_eq _ _ _ _ hs _ (by omega), Option.bind_some, RSegMay_eq _ (by omega), wrap64_id (by omega) (by omega)]
    unfold okS
    by_cases d : sumS src dst 6 s = 65535
    · rw [if_pos d, Option.bind_some]
      by_cases m : mayS 6 (N2 s 0) (N2 s 2) (N4 s 4) (N4 s 8) (bt s 13) (s.extract 20 s.size) = true
      · rw [if_pos m, if_pos ⟨rfl, m, hE, .inr d⟩]
      · rw [if_neg m, if_neg (fun hh => m hh.2.1)]; rfl
    · rw [if_neg d, if_neg (fun hh => by rcases hh.2.2.2 with q | q; cases q; exact d q)]; rfl
  · rw [if_neg e, if_neg e, wharfageref1_GetSeg.j1, if_neg (by decide)]
    by_cases e2 : proto = 17
    rotate_left
    · rw [if_neg e2, if_neg e2, if_neg (by decide)]; rfl
    subst e2
    rw [if_pos rfl, if_pos rfl, if_pos (by omega), if_pos (by decide), if_pos (by omega), of2 (k + 7) _ (by simp [ByteArray.size_extract]; omega), N2_extract s 4 (by omega), Option.bind_some]
    by_cases c2 : N2 s 4 = s.size
    rotate_left
    · rw [if_neg c2, if_pos (.inr c2)]; rfl
    rw [if_pos c2, if_neg (show ¬ (s.size < 8 ∨ N2 s 4 ≠ s.size) by omega), if_pos (by decide), of2 (k + 7) _ (by simp [ByteArray.size_extract]; omega), N2_extract s 6 (by omega), Option.bind_some, RSegMay_eq _ (by omega), Pseudo_eq _ _ _ _ hs _ (by omega)]
    unfold okS
    by_cases z : N2 s 6 = 0
    · rw [if_pos z, Option.bind_some]
      by_cases m : mayS 17 (N2 s 0) (N2 s 2) 0 0 0 (s.extract 8 s.size) = true
      · rw [if_pos m, if_pos ⟨rfl, m, hE, .inl (decide_eq_true z)⟩]
      · rw [if_neg m, if_neg (fun hh => m hh.2.1)]; rfl
    · rw [if_neg z, Option.bind_some]
      by_cases d : sumS src dst 17 s = 65535
      · rw [if_pos d, Option.bind_some]
        by_cases m : mayS 17 (N2 s 0) (N2 s 2) 0 0 0 (s.extract 8 s.size) = true
        · rw [if_pos m, if_pos ⟨rfl, m, hE, .inr d⟩]
        · rw [if_neg m, if_neg (fun hh => m hh.2.1)]; rfl
      · rw [if_neg d, if_neg (fun hh => by rcases hh.2.2.2 with q | q; exact z (by simpa using q); exact d q)]; rfl
end Go.Proofs.Ytobhmonmeocfmaa.Pure
