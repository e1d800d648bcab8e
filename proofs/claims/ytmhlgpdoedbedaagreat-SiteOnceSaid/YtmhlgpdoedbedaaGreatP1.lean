import Derived.Test.YtmhlgpdoedbedaaGreatP0
set_option linter.unusedVariables false
set_option linter.unusedSimpArgs false
namespace Go.Proofs.YtmhlgpdoedbedaaGreat.Pu
open Go Go.RowKit Go.Proofs.YtmhlgpdoedbedaaGreat.Sv Go.Proofs.YtmhlgpdoedbedaaGreat.Lf
attribute [local irreducible] L_ref1_Num L_ip_Bytes L_ip_Number L_ref1_Of L_sum_Sum L_ref1_Sum
theorem bifAnd (p q : Bool) : (bif p then some q else some false) = some (p && q) := by cases p <;> rfl
def mayI (p : GIp) : Bool :=
  decide (0 ≤ p.Src ∧ p.Src < 4294967296) && (decide (0 ≤ p.Dst ∧ p.Dst < 4294967296) && (decide (0 ≤ p.Proto ∧ p.Proto < 256) && (decide (0 ≤ p.Ttl ∧ p.Ttl < 256) && (decide (0 ≤ p.Id ∧ p.Id < 65536) && decide ((p.Body.size : Int) ≤ 492)))))
theorem mayI_parts {p : GIp} (h : mayI p = true) :
    (0 ≤ p.Src ∧ p.Src < 4294967296) ∧ (0 ≤ p.Dst ∧ p.Dst < 4294967296) ∧ (0 ≤ p.Proto ∧ p.Proto < 256) ∧ (0 ≤ p.Ttl ∧ p.Ttl < 256) ∧ (0 ≤ p.Id ∧ p.Id < 65536) ∧ p.Body.size ≤ 492 := by
  simp [mayI] at h; omega
theorem mayI_iff (p : GIp) : mayI p = true ↔ (0 ≤ p.Src ∧ p.Src < 4294967296) ∧ (0 ≤ p.Dst ∧ p.Dst < 4294967296) ∧ (0 ≤ p.Proto ∧ p.Proto < 256) ∧ (0 ≤ p.Ttl ∧ p.Ttl < 256) ∧ (0 ≤ p.Id ∧ p.Id < 65536) ∧ p.Body.size ≤ 492 := by
  constructor
  · exact mayI_parts
  · intro h; simp [mayI]; omega
theorem May_eq (N : Nat) (p : GIp) : L_ip_May N p = some (mayI p) := by
  unfold L_ip_May mayI L_ip_May_1
  simp only [in32, in8, in16, Option.bind_some, bifAnd]
theorem IpMay_eq (N : Nat) (p : GIp) : L_ref1_IpMay N p = some (mayI p) := by
  unfold L_ref1_IpMay mayI L_ref1_IpMay_1
  simp only [within32, within8, within16, Option.bind_some, bifAnd]
def headI (p : GIp) (chk : Int) : ByteArray :=
  B1 69 ++ B1 0 ++ B2 (20 + (p.Body.size : Int)) ++ B2 p.Id ++ B1 64 ++ B1 0 ++ B1 p.Ttl ++ B1 p.Proto ++ B2 chk ++ B4 p.Src ++ B4 p.Dst
theorem headI_size (p : GIp) (chk : Int) : (headI p chk).size = 20 := by
  simp [headI, ByteArray.size_append, B1_size, B2_size, B4_size]
theorem head_eq {N : Nat} (hN : 1000 ≤ N) (p : GIp) (hb : p.Body.size ≤ 1000) (chk : Int) : L_ip_head N p chk = some (headI p chk) := by
  unfold L_ip_head headI
  repeat (first | with_reducible refine stB rfl ?_ | with_reducible refine stVia ?_ | (with_reducible refine stIf ?_ ?_; · first | omega | (simp only [ByteArray.size_append, ByteArray.size_extract, B1_size, B2_size, B4_size]; omega)) | (with_reducible refine stDT ?_ ?_; · omega) | (with_reducible refine stDF ?_ ?_; · omega) | (with_reducible refine stET ?_ ?_; · omega) | (with_reducible refine stEF ?_ ?_; · omega) | (with_reducible refine stNT ?_ ?_; · omega) | (with_reducible refine stNF ?_ ?_; · omega) | with_reducible refine stTT ?_ | with_reducible refine stFF ?_ | with_reducible refine stNTT ?_ | with_reducible refine stNFF ?_ | with_reducible refine stB (bytes1 hN _) ?_ | with_reducible refine stB (bytes2 hN _) ?_ | with_reducible refine stB (bytes4 hN _) ?_)
  rw [w64 (by omega) (by omega)]
def sumI (p : GIp) : Int := 65535 - sumB (headI p 0)
def putI (p : GIp) : ByteArray := headI p (sumI p) ++ p.Body
theorem putI_size (p : GIp) : (putI p).size = 20 + p.Body.size := by
  simp [putI, ByteArray.size_append, headI_size]
theorem sumI_range (p : GIp) : 0 ≤ sumI p ∧ sumI p < 65536 := by
  have := sumB_range (headI p 0)
  unfold sumI; omega
theorem Put_eq {N : Nat} (hN : 1000 ≤ N) (p : GIp) : L_ip_Put N p = some (if mayI p then (putI p, 0) else (ByteArray.empty, 200)) := by
  unfold L_ip_Put
  rw [May_eq, Option.bind_some, cnot]
  by_cases h : mayI p = true
  · obtain ⟨_, _, _, _, _, hb⟩ := mayI_parts h
    have hs := sumB_range (headI p 0)
    have z := headI_size p 0; have z1 := headI_size p (IntKind.i64.wrap (65535 - sumB (headI p 0)))
    rw [h, if_pos rfl, cond_true]
    repeat (first | with_reducible refine stB rfl ?_ | with_reducible refine stVia ?_ | (with_reducible refine stIf ?_ ?_; · first | omega | (simp only [ByteArray.size_append, ByteArray.size_extract, B1_size, B2_size, B4_size]; omega)) | (with_reducible refine stDT ?_ ?_; · omega) | (with_reducible refine stDF ?_ ?_; · omega) | (with_reducible refine stET ?_ ?_; · omega) | (with_reducible refine stEF ?_ ?_; · omega) | (with_reducible refine stNT ?_ ?_; · omega) | (with_reducible refine stNF ?_ ?_; · omega) | with_reducible refine stTT ?_ | with_reducible refine stFF ?_ | with_reducible refine stNTT ?_ | with_reducible refine stNFF ?_ | with_reducible refine stB (head_eq hN p (by omega) _) ?_ | with_reducible refine stB (psum_eq hN (headI p 0) (by omega) (by omega)) ?_)
    rw [w64 (by omega) (by omega)]
    rfl
  · rw [Bool.not_eq_true] at h
    rw [h]; rfl
theorem B1_lit69 : (⟨#[69, 0]⟩ : ByteArray) = B1 69 ++ B1 0 := by decide +kernel
theorem B1_lit64 : (⟨#[64, 0]⟩ : ByteArray) = B1 64 ++ B1 0 := by decide +kernel
theorem B2_lit0 : (⟨#[0, 0]⟩ : ByteArray) = B2 0 := by decide +kernel
theorem PutIp_eq {N : Nat} (hN : 1000 ≤ N) (p : GIp) : L_ref1_PutIp N p = some (if mayI p then (putI p, 0) else (ByteArray.empty, 200)) := by
  unfold L_ref1_PutIp
  rw [IpMay_eq, Option.bind_some, cnot]
  by_cases h : mayI p = true
  · obtain ⟨_, _, _, _, _, hb⟩ := mayI_parts h
    have hs := sumB_range (headI p 0)
    rw [h, if_pos rfl, cond_true, B1_lit69, B1_lit64, B2_lit0]
    have e : B1 69 ++ B1 0 ++ B2 (20 + (p.Body.size : Int)) ++ B2 p.Id ++ (B1 64 ++ B1 0) ++ B1 p.Ttl ++ B1 p.Proto ++ B2 0 ++ (B4 p.Src ++ B4 p.Dst) = headI p 0 := by
      simp only [headI, ByteArray.append_assoc]
    have s1 : L_ref1_Sum N (headI p 0) = some (sumB (headI p 0)) := rsum_eq hN _ (by rw [headI_size]; omega) (by rw [headI_size]; omega)
    repeat (first | with_reducible refine stB rfl ?_ | with_reducible refine stVia ?_ | (with_reducible refine stIf ?_ ?_; · first | omega | (simp only [ByteArray.size_append, ByteArray.size_extract, B1_size, B2_size, B4_size]; omega)) | (with_reducible refine stDT ?_ ?_; · omega) | (with_reducible refine stDF ?_ ?_; · omega) | (with_reducible refine stET ?_ ?_; · omega) | (with_reducible refine stEF ?_ ?_; · omega) | (with_reducible refine stNT ?_ ?_; · omega) | (with_reducible refine stNF ?_ ?_; · omega) | with_reducible refine stTT ?_ | with_reducible refine stFF ?_ | with_reducible refine stNTT ?_ | with_reducible refine stNFF ?_ | with_reducible refine stB (num1 hN _) ?_ | with_reducible refine stB (num2 hN _) ?_ | with_reducible refine stB (num4 hN _) ?_ | with_reducible refine stB ((congrArg (L_ref1_Sum N) (by rw [w64 (by omega) (by omega), e])).trans s1) ?_)
    rw [w64 (by omega) (by omega), w64 (by omega) (by omega)]
    simp only [putI, headI, ByteArray.append_assoc, sumI]
  · rw [Bool.not_eq_true] at h
    rw [h]; rfl
abbrev IpR := GIp × Int × Int
def badI : IpR := (⟨0, 0, 0, 0, 0, ByteArray.empty⟩, 1, 200)
def getI (s : ByteArray) : IpR :=
  if s.size < 20 ∨ 512 < s.size then badI
  else if bt s 0 / 16 ≠ 4 ∨ bt s 0 % 16 < 5 ∨ (s.size : Int) < 4 * (bt s 0 % 16) then badI
  else if N2 s 2 ≠ s.size then badI
  else if sumB (s.extract 0 (4 * (bt s 0 % 16)).toNat) ≠ 65535 then badI
  else if 5 < bt s 0 % 16 then (⟨0, 0, 0, 0, 0, ByteArray.empty⟩, 3, 0)
  else if bAnd .i64 (N2 s 6) 49151 ≠ 0 then (⟨0, 0, 0, 0, 0, ByteArray.empty⟩, 2, 0)
  else (⟨N4 s 12, N4 s 16, bt s 9, bt s 8, N2 s 4, s.extract 20 s.size⟩, 0, 0)
theorem andNot_eq (x : Int) (h0 : 0 ≤ x) (h1 : x < 65536) : bAndNot .i64 x 16384 = bAnd .i64 x 49151 := by
  obtain ⟨n, rfl⟩ := Int.eq_ofNat_of_zero_le h0
  show IntKind.i64.wrap ((BitVec.ofInt 64 (n : Int) &&& ~~~ (BitVec.ofInt 64 16384)).toNat : Int) = IntKind.i64.wrap ((BitVec.ofInt 64 (n : Int) &&& BitVec.ofInt 64 49151).toNat : Int)
  congr 2
  have e : BitVec.ofInt 64 (n : Int) &&& ~~~ (BitVec.ofInt 64 16384) = BitVec.ofInt 64 (n : Int) &&& BitVec.ofInt 64 49151 := by
    apply BitVec.eq_of_getLsbD_eq
    intro i hi
    simp only [BitVec.getLsbD_and, BitVec.getLsbD_not]
    by_cases c : i < 16
    · have : (decide (i < 64) && !(BitVec.ofInt 64 16384).getLsbD i) = (BitVec.ofInt 64 49151).getLsbD i := by
        have key : ∀ j : Fin 16, (decide (j.val < 64) && !(BitVec.ofInt 64 16384).getLsbD j.val) = (BitVec.ofInt 64 49151).getLsbD j.val := by decide
        exact key ⟨i, c⟩
      rw [this]
    · have z : (BitVec.ofInt 64 (n : Int)).getLsbD i = false := by
        rw [BitVec.ofInt_natCast, BitVec.getLsbD_ofNat]
        have : n.testBit i = false := Nat.testBit_lt_two_pow (Nat.lt_of_lt_of_le (show n < 2 ^ 16 by omega) (Nat.pow_le_pow_right (by decide) (by omega)))
        simp [this]
      rw [z]; simp
  rw [e]
theorem words_eq {N : Nat} (hN : 1000 ≤ N) (s : ByteArray) : L_ip_words N s =
    some (if s.size < 20 ∨ 512 < s.size then (0, false) else if bt s 0 / 16 ≠ 4 ∨ bt s 0 % 16 < 5 ∨ (s.size : Int) < 4 * (bt s 0 % 16) then (0, false)
      else (bt s 0 % 16, decide (N2 s 2 = s.size) && decide (sumB (s.extract 0 (4 * (bt s 0 % 16)).toNat) = 65535))) := by
  have hb := bt_range s 0
  have hf : (bt s 0).fdiv (2 ^ 4) = bt s 0 / 16 := fd _ (by decide)
  have hl : bAnd .u8 (bt s 0) 15 = bt s 0 % 16 := low4 _ hb.1 (by omega)
  have w1 : IntKind.i64.wrap (bt s 0 % 16) = bt s 0 % 16 := w64 (by omega) (by omega)
  have w2 : IntKind.i64.wrap (4 * (bt s 0 % 16)) = 4 * (bt s 0 % 16) := w64 (by omega) (by omega)
  unfold L_ip_words L_ip_words_1 L_ip_words_2 L_ip_words_3
  simp only [hf, hl, w1, w2]
  by_cases c : s.size < 20
  · rw [if_pos (show s.size < 20 ∨ 512 < s.size from .inl c)]
    repeat (first | with_reducible refine stB rfl ?_ | with_reducible refine stVia ?_ | (with_reducible refine stIf ?_ ?_; · first | omega | (simp only [ByteArray.size_append, ByteArray.size_extract, B1_size, B2_size, B4_size]; omega)) | (with_reducible refine stDT ?_ ?_; · omega) | (with_reducible refine stDF ?_ ?_; · omega) | (with_reducible refine stET ?_ ?_; · omega) | (with_reducible refine stEF ?_ ?_; · omega) | (with_reducible refine stNT ?_ ?_; · omega) | (with_reducible refine stNF ?_ ?_; · omega) | with_reducible refine stTT ?_ | with_reducible refine stFF ?_ | with_reducible refine stNTT ?_ | with_reducible refine stNFF ?_)
    rfl
  by_cases c1 : 512 < s.size
  · rw [if_pos (show s.size < 20 ∨ 512 < s.size from .inr c1), decide_eq_true (show ((s.size : Int) > 512) by omega)]
    repeat (first | with_reducible refine stB rfl ?_ | with_reducible refine stVia ?_ | (with_reducible refine stIf ?_ ?_; · first | omega | (simp only [ByteArray.size_append, ByteArray.size_extract, B1_size, B2_size, B4_size]; omega)) | (with_reducible refine stDT ?_ ?_; · omega) | (with_reducible refine stDF ?_ ?_; · omega) | (with_reducible refine stET ?_ ?_; · omega) | (with_reducible refine stEF ?_ ?_; · omega) | (with_reducible refine stNT ?_ ?_; · omega) | (with_reducible refine stNF ?_ ?_; · omega) | with_reducible refine stTT ?_ | with_reducible refine stFF ?_ | with_reducible refine stNTT ?_ | with_reducible refine stNFF ?_)
    rfl
  rw [if_neg (show ¬ (s.size < 20 ∨ 512 < s.size) by omega), decide_eq_false (show ¬ ((s.size : Int) > 512) by omega)]
  by_cases c2 : bt s 0 / 16 = 4
  · by_cases c3 : bt s 0 % 16 < 5
    · rw [if_pos (show bt s 0 / 16 ≠ 4 ∨ bt s 0 % 16 < 5 ∨ (s.size : Int) < 4 * (bt s 0 % 16) from .inr (.inl c3))]
      repeat (first | with_reducible refine stB rfl ?_ | with_reducible refine stVia ?_ | (with_reducible refine stIf ?_ ?_; · first | omega | (simp only [ByteArray.size_append, ByteArray.size_extract, B1_size, B2_size, B4_size]; omega)) | (with_reducible refine stDT ?_ ?_; · omega) | (with_reducible refine stDF ?_ ?_; · omega) | (with_reducible refine stET ?_ ?_; · omega) | (with_reducible refine stEF ?_ ?_; · omega) | (with_reducible refine stNT ?_ ?_; · omega) | (with_reducible refine stNF ?_ ?_; · omega) | with_reducible refine stTT ?_ | with_reducible refine stFF ?_ | with_reducible refine stNTT ?_ | with_reducible refine stNFF ?_)
      rfl
    · by_cases c4 : (s.size : Int) < 4 * (bt s 0 % 16)
      · rw [if_pos (show bt s 0 / 16 ≠ 4 ∨ bt s 0 % 16 < 5 ∨ (s.size : Int) < 4 * (bt s 0 % 16) from .inr (.inr c4))]
        repeat (first | with_reducible refine stB rfl ?_ | with_reducible refine stVia ?_ | (with_reducible refine stIf ?_ ?_; · first | omega | (simp only [ByteArray.size_append, ByteArray.size_extract, B1_size, B2_size, B4_size]; omega)) | (with_reducible refine stDT ?_ ?_; · omega) | (with_reducible refine stDF ?_ ?_; · omega) | (with_reducible refine stET ?_ ?_; · omega) | (with_reducible refine stEF ?_ ?_; · omega) | (with_reducible refine stNT ?_ ?_; · omega) | (with_reducible refine stNF ?_ ?_; · omega) | with_reducible refine stTT ?_ | with_reducible refine stFF ?_ | with_reducible refine stNTT ?_ | with_reducible refine stNFF ?_)
        rfl
      · have z1 : (s.extract 0 (4 * (bt s 0 % 16)).toNat).size ≤ 512 := by simp [ByteArray.size_extract]; omega
        rw [if_neg (show ¬ (bt s 0 / 16 ≠ 4 ∨ bt s 0 % 16 < 5 ∨ (s.size : Int) < 4 * (bt s 0 % 16)) by omega)]
        by_cases c5 : N2 s 2 = s.size
        · repeat (first | with_reducible refine stB rfl ?_ | with_reducible refine stVia ?_ | (with_reducible refine stIf ?_ ?_; · first | omega | (simp only [ByteArray.size_append, ByteArray.size_extract, B1_size, B2_size, B4_size]; omega)) | (with_reducible refine stDT ?_ ?_; · omega) | (with_reducible refine stDF ?_ ?_; · omega) | (with_reducible refine stET ?_ ?_; · omega) | (with_reducible refine stEF ?_ ?_; · omega) | (with_reducible refine stNT ?_ ?_; · omega) | (with_reducible refine stNF ?_ ?_; · omega) | with_reducible refine stTT ?_ | with_reducible refine stFF ?_ | with_reducible refine stNTT ?_ | with_reducible refine stNFF ?_ | with_reducible refine stB (numAt2 hN s 2 4 rfl (by omega)) ?_ | with_reducible refine stB (psum_eq hN (s.extract 0 (4 * (bt s 0 % 16)).toNat) (by omega) (by omega)) ?_)
          rw [decide_eq_true c5, Bool.true_and]
          rfl
        · repeat (first | with_reducible refine stB rfl ?_ | with_reducible refine stVia ?_ | (with_reducible refine stIf ?_ ?_; · first | omega | (simp only [ByteArray.size_append, ByteArray.size_extract, B1_size, B2_size, B4_size]; omega)) | (with_reducible refine stDT ?_ ?_; · omega) | (with_reducible refine stDF ?_ ?_; · omega) | (with_reducible refine stET ?_ ?_; · omega) | (with_reducible refine stEF ?_ ?_; · omega) | (with_reducible refine stNT ?_ ?_; · omega) | (with_reducible refine stNF ?_ ?_; · omega) | with_reducible refine stTT ?_ | with_reducible refine stFF ?_ | with_reducible refine stNTT ?_ | with_reducible refine stNFF ?_ | with_reducible refine stB (numAt2 hN s 2 4 rfl (by omega)) ?_)
          rw [decide_eq_false c5, Bool.false_and]
  · rw [if_pos (show bt s 0 / 16 ≠ 4 ∨ bt s 0 % 16 < 5 ∨ (s.size : Int) < 4 * (bt s 0 % 16) from .inl c2)]
    repeat (first | with_reducible refine stB rfl ?_ | with_reducible refine stVia ?_ | (with_reducible refine stIf ?_ ?_; · first | omega | (simp only [ByteArray.size_append, ByteArray.size_extract, B1_size, B2_size, B4_size]; omega)) | (with_reducible refine stDT ?_ ?_; · omega) | (with_reducible refine stDF ?_ ?_; · omega) | (with_reducible refine stET ?_ ?_; · omega) | (with_reducible refine stEF ?_ ?_; · omega) | (with_reducible refine stNT ?_ ?_; · omega) | (with_reducible refine stNF ?_ ?_; · omega) | with_reducible refine stTT ?_ | with_reducible refine stFF ?_ | with_reducible refine stNTT ?_ | with_reducible refine stNFF ?_)
    rfl
theorem Get_eq {N : Nat} (hN : 1000 ≤ N) (s : ByteArray) : L_ip_Get N s = some (getI s) := by
  have hb := bt_range s 0
  have hn := N2_range s 6
  unfold L_ip_Get getI
  rw [words_eq hN s, Option.bind_some]
  by_cases c : s.size < 20 ∨ 512 < s.size
  · rw [if_pos c, if_pos c]; rfl
  rw [if_neg c, if_neg c]
  by_cases c1 : bt s 0 / 16 ≠ 4 ∨ bt s 0 % 16 < 5 ∨ (s.size : Int) < 4 * (bt s 0 % 16)
  · rw [if_pos c1, if_pos c1]; rfl
  rw [if_neg c1, if_neg c1]
  by_cases c2 : N2 s 2 = s.size
  · by_cases c3 : sumB (s.extract 0 (4 * (bt s 0 % 16)).toNat) = 65535
    · have h8 := bt_range s 8; have h9 := bt_range s 9
      rw [if_neg (show ¬ (N2 s 2 ≠ s.size) by omega), if_neg (show ¬ (sumB (s.extract 0 (4 * (bt s 0 % 16)).toNat) ≠ 65535) by omega), decide_eq_true c2, decide_eq_true c3]
      simp only [Bool.and_self]
      by_cases c4 : 5 < bt s 0 % 16
      · rw [if_pos c4]
        repeat (first | with_reducible refine stB rfl ?_ | with_reducible refine stVia ?_ | (with_reducible refine stIf ?_ ?_; · first | omega | (simp only [ByteArray.size_append, ByteArray.size_extract, B1_size, B2_size, B4_size]; omega)) | (with_reducible refine stDT ?_ ?_; · omega) | (with_reducible refine stDF ?_ ?_; · omega) | (with_reducible refine stET ?_ ?_; · omega) | (with_reducible refine stEF ?_ ?_; · omega) | (with_reducible refine stNT ?_ ?_; · omega) | (with_reducible refine stNF ?_ ?_; · omega) | with_reducible refine stTT ?_ | with_reducible refine stFF ?_ | with_reducible refine stNTT ?_ | with_reducible refine stNFF ?_)
        rfl
      · rw [if_neg c4]
        by_cases c5 : bAnd .i64 (N2 s 6) 49151 = 0
        · rw [if_neg (show ¬ (bAnd .i64 (N2 s 6) 49151 ≠ 0) by omega)]
          rw [← andNot_eq _ hn.1 hn.2] at c5
          repeat (first | with_reducible refine stB rfl ?_ | with_reducible refine stVia ?_ | (with_reducible refine stIf ?_ ?_; · first | omega | (simp only [ByteArray.size_append, ByteArray.size_extract, B1_size, B2_size, B4_size]; omega)) | (with_reducible refine stDT ?_ ?_; · omega) | (with_reducible refine stDF ?_ ?_; · omega) | (with_reducible refine stET ?_ ?_; · omega) | (with_reducible refine stEF ?_ ?_; · omega) | (with_reducible refine stNT ?_ ?_; · omega) | (with_reducible refine stNF ?_ ?_; · omega) | with_reducible refine stTT ?_ | with_reducible refine stFF ?_ | with_reducible refine stNTT ?_ | with_reducible refine stNFF ?_ | with_reducible refine stB (numAt2 hN s 6 8 rfl (by omega)) ?_ | with_reducible refine stB (numAt4 hN s 12 16 rfl (by omega)) ?_ | with_reducible refine stB (numAt4 hN s 16 20 rfl (by omega)) ?_ | with_reducible refine stB (numAt2 hN s 4 6 rfl (by omega)) ?_)
          rw [w64 (by omega) (by omega), w64 (by omega) (by omega)]
        · rw [if_pos (show bAnd .i64 (N2 s 6) 49151 ≠ 0 from c5)]
          rw [← andNot_eq _ hn.1 hn.2] at c5
          repeat (first | with_reducible refine stB rfl ?_ | with_reducible refine stVia ?_ | (with_reducible refine stIf ?_ ?_; · first | omega | (simp only [ByteArray.size_append, ByteArray.size_extract, B1_size, B2_size, B4_size]; omega)) | (with_reducible refine stDT ?_ ?_; · omega) | (with_reducible refine stDF ?_ ?_; · omega) | (with_reducible refine stET ?_ ?_; · omega) | (with_reducible refine stEF ?_ ?_; · omega) | (with_reducible refine stNT ?_ ?_; · omega) | (with_reducible refine stNF ?_ ?_; · omega) | with_reducible refine stTT ?_ | with_reducible refine stFF ?_ | with_reducible refine stNTT ?_ | with_reducible refine stNFF ?_ | with_reducible refine stB (numAt2 hN s 6 8 rfl (by omega)) ?_)
          rfl
    · rw [if_neg (show ¬ (N2 s 2 ≠ s.size) by omega), if_pos (show sumB (s.extract 0 (4 * (bt s 0 % 16)).toNat) ≠ 65535 from c3), decide_eq_false c3, Bool.and_false]
      repeat (first | with_reducible refine stB rfl ?_ | with_reducible refine stVia ?_ | (with_reducible refine stIf ?_ ?_; · first | omega | (simp only [ByteArray.size_append, ByteArray.size_extract, B1_size, B2_size, B4_size]; omega)) | (with_reducible refine stDT ?_ ?_; · omega) | (with_reducible refine stDF ?_ ?_; · omega) | (with_reducible refine stET ?_ ?_; · omega) | (with_reducible refine stEF ?_ ?_; · omega) | (with_reducible refine stNT ?_ ?_; · omega) | (with_reducible refine stNF ?_ ?_; · omega) | with_reducible refine stTT ?_ | with_reducible refine stFF ?_ | with_reducible refine stNTT ?_ | with_reducible refine stNFF ?_)
      rfl
  · rw [if_pos (show N2 s 2 ≠ s.size from c2), decide_eq_false c2, Bool.false_and]
    repeat (first | with_reducible refine stB rfl ?_ | with_reducible refine stVia ?_ | (with_reducible refine stIf ?_ ?_; · first | omega | (simp only [ByteArray.size_append, ByteArray.size_extract, B1_size, B2_size, B4_size]; omega)) | (with_reducible refine stDT ?_ ?_; · omega) | (with_reducible refine stDF ?_ ?_; · omega) | (with_reducible refine stET ?_ ?_; · omega) | (with_reducible refine stEF ?_ ?_; · omega) | (with_reducible refine stNT ?_ ?_; · omega) | (with_reducible refine stNF ?_ ?_; · omega) | with_reducible refine stTT ?_ | with_reducible refine stFF ?_ | with_reducible refine stNTT ?_ | with_reducible refine stNFF ?_)
    rfl
theorem GetIp_eq {N : Nat} (hN : 1000 ≤ N) (s : ByteArray) : L_ref1_GetIp N s = some (getI s) := by
  have hb := bt_range s 0
  have hn := N2_range s 6
  have hf : (bt s 0).fdiv (2 ^ 4) = bt s 0 / 16 := fd _ (by decide)
  have hl : bAnd .u8 (bt s 0) 15 = bt s 0 % 16 := low4 _ hb.1 (by omega)
  have w1 : IntKind.i64.wrap (bt s 0 % 16) = bt s 0 % 16 := w64 (by omega) (by omega)
  have w2 : IntKind.i64.wrap (4 * (bt s 0 % 16)) = 4 * (bt s 0 % 16) := w64 (by omega) (by omega)
  unfold L_ref1_GetIp L_ref1_GetIp_1 L_ref1_GetIp_2 getI
  simp only [hf, hl, w1, w2]
  by_cases c : s.size < 20
  · rw [if_pos (show s.size < 20 ∨ 512 < s.size from .inl c)]
    repeat (first | with_reducible refine stB rfl ?_ | with_reducible refine stVia ?_ | (with_reducible refine stIf ?_ ?_; · first | omega | (simp only [ByteArray.size_append, ByteArray.size_extract, B1_size, B2_size, B4_size]; omega)) | (with_reducible refine stDT ?_ ?_; · omega) | (with_reducible refine stDF ?_ ?_; · omega) | (with_reducible refine stET ?_ ?_; · omega) | (with_reducible refine stEF ?_ ?_; · omega) | (with_reducible refine stNT ?_ ?_; · omega) | (with_reducible refine stNF ?_ ?_; · omega) | with_reducible refine stTT ?_ | with_reducible refine stFF ?_ | with_reducible refine stNTT ?_ | with_reducible refine stNFF ?_)
    rfl
  by_cases c' : 512 < s.size
  · rw [if_pos (show s.size < 20 ∨ 512 < s.size from .inr c')]
    repeat (first | with_reducible refine stB rfl ?_ | with_reducible refine stVia ?_ | (with_reducible refine stIf ?_ ?_; · first | omega | (simp only [ByteArray.size_append, ByteArray.size_extract, B1_size, B2_size, B4_size]; omega)) | (with_reducible refine stDT ?_ ?_; · omega) | (with_reducible refine stDF ?_ ?_; · omega) | (with_reducible refine stET ?_ ?_; · omega) | (with_reducible refine stEF ?_ ?_; · omega) | (with_reducible refine stNT ?_ ?_; · omega) | (with_reducible refine stNF ?_ ?_; · omega) | with_reducible refine stTT ?_ | with_reducible refine stFF ?_ | with_reducible refine stNTT ?_ | with_reducible refine stNFF ?_)
    rfl
  rw [if_neg (show ¬ (s.size < 20 ∨ 512 < s.size) by omega)]
  by_cases c2 : bt s 0 / 16 = 4
  · rw [show (bt s 0 / 16 != 4) = false by rw [c2]; rfl]
    by_cases c3 : bt s 0 % 16 < 5
    · rw [if_pos (show bt s 0 / 16 ≠ 4 ∨ bt s 0 % 16 < 5 ∨ (s.size : Int) < 4 * (bt s 0 % 16) from .inr (.inl c3))]
      repeat (first | with_reducible refine stB rfl ?_ | with_reducible refine stVia ?_ | (with_reducible refine stIf ?_ ?_; · first | omega | (simp only [ByteArray.size_append, ByteArray.size_extract, B1_size, B2_size, B4_size]; omega)) | (with_reducible refine stDT ?_ ?_; · omega) | (with_reducible refine stDF ?_ ?_; · omega) | (with_reducible refine stET ?_ ?_; · omega) | (with_reducible refine stEF ?_ ?_; · omega) | (with_reducible refine stNT ?_ ?_; · omega) | (with_reducible refine stNF ?_ ?_; · omega) | with_reducible refine stTT ?_ | with_reducible refine stFF ?_ | with_reducible refine stNTT ?_ | with_reducible refine stNFF ?_)
      rfl
    · by_cases c4 : (s.size : Int) < 4 * (bt s 0 % 16)
      · rw [if_pos (show bt s 0 / 16 ≠ 4 ∨ bt s 0 % 16 < 5 ∨ (s.size : Int) < 4 * (bt s 0 % 16) from .inr (.inr c4))]
        repeat (first | with_reducible refine stB rfl ?_ | with_reducible refine stVia ?_ | (with_reducible refine stIf ?_ ?_; · first | omega | (simp only [ByteArray.size_append, ByteArray.size_extract, B1_size, B2_size, B4_size]; omega)) | (with_reducible refine stDT ?_ ?_; · omega) | (with_reducible refine stDF ?_ ?_; · omega) | (with_reducible refine stET ?_ ?_; · omega) | (with_reducible refine stEF ?_ ?_; · omega) | (with_reducible refine stNT ?_ ?_; · omega) | (with_reducible refine stNF ?_ ?_; · omega) | with_reducible refine stTT ?_ | with_reducible refine stFF ?_ | with_reducible refine stNTT ?_ | with_reducible refine stNFF ?_)
        rfl
      · have z1 : (s.extract 0 (4 * (bt s 0 % 16)).toNat).size ≤ 512 := by simp [ByteArray.size_extract]; omega
        rw [if_neg (show ¬ (bt s 0 / 16 ≠ 4 ∨ bt s 0 % 16 < 5 ∨ (s.size : Int) < 4 * (bt s 0 % 16)) by omega)]
        by_cases c5 : N2 s 2 = s.size
        · rw [if_neg (show ¬ (N2 s 2 ≠ s.size) by omega)]
          by_cases c6 : sumB (s.extract 0 (4 * (bt s 0 % 16)).toNat) = 65535
          · have c6' : (sumB (s.extract 0 (4 * (bt s 0 % 16)).toNat) != 65535) = false := by rw [c6]; rfl
            rw [if_neg (show ¬ (sumB (s.extract 0 (4 * (bt s 0 % 16)).toNat) ≠ 65535) by omega)]
            repeat (first | with_reducible refine stB rfl ?_ | with_reducible refine stVia ?_ | (with_reducible refine stIf ?_ ?_; · first | omega | (simp only [ByteArray.size_append, ByteArray.size_extract, B1_size, B2_size, B4_size]; omega)) | (with_reducible refine stDT ?_ ?_; · omega) | (with_reducible refine stDF ?_ ?_; · omega) | (with_reducible refine stET ?_ ?_; · omega) | (with_reducible refine stEF ?_ ?_; · omega) | (with_reducible refine stNT ?_ ?_; · omega) | (with_reducible refine stNF ?_ ?_; · omega) | with_reducible refine stTT ?_ | with_reducible refine stFF ?_ | with_reducible refine stNTT ?_ | with_reducible refine stNFF ?_ | with_reducible refine stB (ofAt2 hN s 2 4 rfl (by omega)) ?_ | with_reducible refine stB (rsum_eq hN (s.extract 0 (4 * (bt s 0 % 16)).toNat) (by omega) (by omega)) ?_)
            have h8 := bt_range s 8; have h9 := bt_range s 9
            by_cases c7 : 5 < bt s 0 % 16
            · rw [if_pos c7]
              repeat (first | with_reducible refine stB rfl ?_ | with_reducible refine stVia ?_ | (with_reducible refine stIf ?_ ?_; · first | omega | (simp only [ByteArray.size_append, ByteArray.size_extract, B1_size, B2_size, B4_size]; omega)) | (with_reducible refine stDT ?_ ?_; · omega) | (with_reducible refine stDF ?_ ?_; · omega) | (with_reducible refine stET ?_ ?_; · omega) | (with_reducible refine stEF ?_ ?_; · omega) | (with_reducible refine stNT ?_ ?_; · omega) | (with_reducible refine stNF ?_ ?_; · omega) | with_reducible refine stTT ?_ | with_reducible refine stFF ?_ | with_reducible refine stNTT ?_ | with_reducible refine stNFF ?_)
              rfl
            · rw [if_neg c7]
              by_cases c8 : bAnd .i64 (N2 s 6) 49151 = 0
              · rw [if_neg (show ¬ (bAnd .i64 (N2 s 6) 49151 ≠ 0) by omega)]
                repeat (first | with_reducible refine stB rfl ?_ | with_reducible refine stVia ?_ | (with_reducible refine stIf ?_ ?_; · first | omega | (simp only [ByteArray.size_append, ByteArray.size_extract, B1_size, B2_size, B4_size]; omega)) | (with_reducible refine stDT ?_ ?_; · omega) | (with_reducible refine stDF ?_ ?_; · omega) | (with_reducible refine stET ?_ ?_; · omega) | (with_reducible refine stEF ?_ ?_; · omega) | (with_reducible refine stNT ?_ ?_; · omega) | (with_reducible refine stNF ?_ ?_; · omega) | with_reducible refine stTT ?_ | with_reducible refine stFF ?_ | with_reducible refine stNTT ?_ | with_reducible refine stNFF ?_ | with_reducible refine stB (ofAt2 hN s 6 8 rfl (by omega)) ?_ | with_reducible refine stB (ofAt4 hN s 12 16 rfl (by omega)) ?_ | with_reducible refine stB (ofAt4 hN s 16 20 rfl (by omega)) ?_ | with_reducible refine stB (ofAt2 hN s 4 6 rfl (by omega)) ?_)
                rw [w64 (by omega) (by omega), w64 (by omega) (by omega)]
              · rw [if_pos (show bAnd .i64 (N2 s 6) 49151 ≠ 0 from c8)]
                repeat (first | with_reducible refine stB rfl ?_ | with_reducible refine stVia ?_ | (with_reducible refine stIf ?_ ?_; · first | omega | (simp only [ByteArray.size_append, ByteArray.size_extract, B1_size, B2_size, B4_size]; omega)) | (with_reducible refine stDT ?_ ?_; · omega) | (with_reducible refine stDF ?_ ?_; · omega) | (with_reducible refine stET ?_ ?_; · omega) | (with_reducible refine stEF ?_ ?_; · omega) | (with_reducible refine stNT ?_ ?_; · omega) | (with_reducible refine stNF ?_ ?_; · omega) | with_reducible refine stTT ?_ | with_reducible refine stFF ?_ | with_reducible refine stNTT ?_ | with_reducible refine stNFF ?_ | with_reducible refine stB (ofAt2 hN s 6 8 rfl (by omega)) ?_)
                rfl
          · rw [if_pos (show sumB (s.extract 0 (4 * (bt s 0 % 16)).toNat) ≠ 65535 from c6)]
            repeat (first | with_reducible refine stB rfl ?_ | with_reducible refine stVia ?_ | (with_reducible refine stIf ?_ ?_; · first | omega | (simp only [ByteArray.size_append, ByteArray.size_extract, B1_size, B2_size, B4_size]; omega)) | (with_reducible refine stDT ?_ ?_; · omega) | (with_reducible refine stDF ?_ ?_; · omega) | (with_reducible refine stET ?_ ?_; · omega) | (with_reducible refine stEF ?_ ?_; · omega) | (with_reducible refine stNT ?_ ?_; · omega) | (with_reducible refine stNF ?_ ?_; · omega) | with_reducible refine stTT ?_ | with_reducible refine stFF ?_ | with_reducible refine stNTT ?_ | with_reducible refine stNFF ?_ | with_reducible refine stB (ofAt2 hN s 2 4 rfl (by omega)) ?_ | with_reducible refine stB (rsum_eq hN (s.extract 0 (4 * (bt s 0 % 16)).toNat) (by omega) (by omega)) ?_)
            rfl
        · rw [if_pos (show N2 s 2 ≠ s.size from c5)]
          repeat (first | with_reducible refine stB rfl ?_ | with_reducible refine stVia ?_ | (with_reducible refine stIf ?_ ?_; · first | omega | (simp only [ByteArray.size_append, ByteArray.size_extract, B1_size, B2_size, B4_size]; omega)) | (with_reducible refine stDT ?_ ?_; · omega) | (with_reducible refine stDF ?_ ?_; · omega) | (with_reducible refine stET ?_ ?_; · omega) | (with_reducible refine stEF ?_ ?_; · omega) | (with_reducible refine stNT ?_ ?_; · omega) | (with_reducible refine stNF ?_ ?_; · omega) | with_reducible refine stTT ?_ | with_reducible refine stFF ?_ | with_reducible refine stNTT ?_ | with_reducible refine stNFF ?_ | with_reducible refine stB (ofAt2 hN s 2 4 rfl (by omega)) ?_)
          rfl
  · rw [if_pos (show bt s 0 / 16 ≠ 4 ∨ bt s 0 % 16 < 5 ∨ (s.size : Int) < 4 * (bt s 0 % 16) from .inl c2), show (bt s 0 / 16 != 4) = true by rw [bne_iff_ne]; exact c2]
    repeat (first | with_reducible refine stB rfl ?_ | with_reducible refine stVia ?_ | (with_reducible refine stIf ?_ ?_; · first | omega | (simp only [ByteArray.size_append, ByteArray.size_extract, B1_size, B2_size, B4_size]; omega)) | (with_reducible refine stDT ?_ ?_; · omega) | (with_reducible refine stDF ?_ ?_; · omega) | (with_reducible refine stET ?_ ?_; · omega) | (with_reducible refine stEF ?_ ?_; · omega) | (with_reducible refine stNT ?_ ?_; · omega) | (with_reducible refine stNF ?_ ?_; · omega) | with_reducible refine stTT ?_ | with_reducible refine stFF ?_ | with_reducible refine stNTT ?_ | with_reducible refine stNFF ?_)
    rfl
end Go.Proofs.YtmhlgpdoedbedaaGreat.Pu
