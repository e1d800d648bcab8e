/- What the printed functions on packets' heads compute: plain lists and numbers alone. -/
import Derived.Test.YtnhbieicjlnakaaNet1
import Derived.Test.YtnhbieicjlnakaaFAIpPut
import Derived.Test.YtnhbieicjlnakaaFAIpGet
import Derived.Test.YtnhbieicjlnakaaFAWharfageref1PutIp
import Derived.Test.YtnhbieicjlnakaaFAWharfageref1GetIp
namespace Go.Proofs.Ytnhbieicjlnakaa.Pure
set_option linter.unusedSimpArgs false
set_option linter.unusedVariables false
open Go Go.RowKit Go.Proofs.Ytnhbieicjlnakaa.PA Go.Proofs.YtnhbieicjlnakaaW.PrintWords Go.Proofs.YtnhbieicjlnakaaW.PrintLast Go.Proofs.YtnhbieicjlnakaaW.PrintMore Go.Proofs.Ytnhbieicjlnakaa.Wh

attribute [local irreducible] wharfageref1_Num.f ip_Bytes.f ip_Number.f wharfageref1_Of.f sum_Sum.f wharfageref1_Sum.f

theorem shr_lit (a : Int) (n : Nat) (h : n ≤ 64) : shr .i64 a (n : Int) = a / 2 ^ n := by
  unfold shr
  rw [show min (n : Int).toNat IntKind.i64.bits = n from Nat.min_eq_left h]
theorem in_eq (a : Int) (n : Nat) (h : n ≤ 62) : ip_In.f a (n : Int) = some (decide (0 ≤ a ∧ a < 2 ^ n)) := by
  unfold ip_In.f
  rw [shr_lit a n (by omega)]
  have hp : (0 : Int) < 2 ^ n := Int.pow_pos (by decide)
  by_cases h0 : a ≥ 0
  · rw [if_pos h0, if_pos (by omega)]
    congr 1
    rw [Bool.eq_iff_iff]
    simp only [beq_iff_eq, decide_eq_true_eq]
    constructor
    · intro h; exact ⟨h0, by have := Int.lt_ediv_add_one_mul_self a hp; rw [h] at this; omega⟩
    · intro h; exact Int.ediv_eq_zero_of_lt h.1 h.2
  · rw [if_neg h0]; congr 1; symm; simp; omega
theorem in32 (a : Int) : ip_In.f a 32 = some (decide (0 ≤ a ∧ a < 4294967296)) := in_eq a 32 (by decide)
theorem in16 (a : Int) : ip_In.f a 16 = some (decide (0 ≤ a ∧ a < 65536)) := in_eq a 16 (by decide)
theorem in8 (a : Int) : ip_In.f a 8 = some (decide (0 ≤ a ∧ a < 256)) := in_eq a 8 (by decide)
theorem within32 (a : Int) : wharfageref1_within.f a 32 = some (decide (0 ≤ a ∧ a < 4294967296)) := by
  unfold wharfageref1_within.f
  by_cases h : a ≥ 0
  · rw [if_pos h, if_pos (by decide), show shl .i64 1 32 = 4294967296 by decide]; congr 1; rw [Bool.eq_iff_iff]; simp; omega
  · rw [if_neg h]; congr 1; symm; simp; omega
theorem within16 (a : Int) : wharfageref1_within.f a 16 = some (decide (0 ≤ a ∧ a < 65536)) := by
  unfold wharfageref1_within.f
  by_cases h : a ≥ 0
  · rw [if_pos h, if_pos (by decide), show shl .i64 1 16 = 65536 by decide]; congr 1; rw [Bool.eq_iff_iff]; simp; omega
  · rw [if_neg h]; congr 1; symm; simp; omega
theorem within8 (a : Int) : wharfageref1_within.f a 8 = some (decide (0 ≤ a ∧ a < 256)) := by
  unfold wharfageref1_within.f
  by_cases h : a ≥ 0
  · rw [if_pos h, if_pos (by decide), show shl .i64 1 8 = 256 by decide]; congr 1; rw [Bool.eq_iff_iff]; simp; omega
  · rw [if_neg h]; congr 1; symm; simp; omega
theorem if_and (p q : Bool) : (if p = true then some q else some false) = some (p && q) := by cases p <;> rfl
def mayI (src dst proto ttl id : Int) (body : ByteArray) : Bool :=
  decide (0 ≤ src ∧ src < 4294967296) && (decide (0 ≤ dst ∧ dst < 4294967296) && (decide (0 ≤ proto ∧ proto < 256) && (decide (0 ≤ ttl ∧ ttl < 256) && (decide (0 ≤ id ∧ id < 65536) && decide ((body.size : Int) ≤ 492)))))
theorem mayI_parts {src dst proto ttl id : Int} {body : ByteArray} (h : mayI src dst proto ttl id body = true) :
    (0 ≤ src ∧ src < 4294967296) ∧ (0 ≤ dst ∧ dst < 4294967296) ∧ (0 ≤ proto ∧ proto < 256) ∧ (0 ≤ ttl ∧ ttl < 256) ∧ (0 ≤ id ∧ id < 65536) ∧ body.size ≤ 492 := by
  simp [mayI] at h; omega
theorem May_eq (src dst proto ttl id : Int) (body : ByteArray) : ip_May.f src dst proto ttl id body = some (mayI src dst proto ttl id body) := by
  unfold ip_May.f mayI
  rw [in32, in32, in8, in8, in16]
  simp only [Option.bind_some, if_and]
theorem IpMay_eq (src dst proto ttl id : Int) (body : ByteArray) : wharfageref1_IpMay.f src dst proto ttl id body = some (mayI src dst proto ttl id body) := by
  unfold wharfageref1_IpMay.f mayI
  rw [within32, within32, within8, within8, within16]
  simp only [Option.bind_some, if_and]
/-- A packet's head with a sum; n: how many bytes the body has. -/
def headI (src dst proto ttl id : Int) (n : Nat) (chk : Int) : ByteArray :=
  B1 69 ++ B1 0 ++ B2 (20 + n) ++ B2 id ++ B1 64 ++ B1 0 ++ B1 ttl ++ B1 proto ++ B2 chk ++ B4 src ++ B4 dst
theorem headI_size (src dst proto ttl id : Int) (n : Nat) (chk : Int) : (headI src dst proto ttl id n chk).size = 20 := by
  simp [headI, ByteArray.size_append, B1_size, B2_size, B4_size]
theorem head_eq (k : Nat) (hk : 10 ≤ k) (src dst proto ttl id : Int) (body : ByteArray) (hb : body.size ≤ 1000) (chk : Int) :
    ip_head.f k src dst proto ttl id body chk = some (headI src dst proto ttl id body.size chk, src, dst, proto, ttl, id, body) := by
  obtain ⟨k, rfl⟩ : ∃ m, k = m + 10 := ⟨k - 10, by omega⟩
  unfold ip_head.f headI
  rw [wrap64_id (n := 20 + (body.size : Int)) (by omega) (by omega)]
  rw [bytes1 (k + 8), bytes1 (k + 8)]
  simp only [Option.bind_some]
  rw [bytes2 (k + 7), bytes2 (k + 7), bytes1 (k + 8), bytes1 (k + 8), bytes1 (k + 8), bytes2 (k + 7), bytes4 (k + 5), bytes4 (k + 5)]
  simp only [Option.bind_some, ByteArray.size_append, B1_size, B2_size, B4_size, Nat.reduceAdd, Nat.reduceLeDiff, if_true]
def sumI (src dst proto ttl id : Int) (n : Nat) : Int := 65535 - sumB (headI src dst proto ttl id n 0)
def putI (src dst proto ttl id : Int) (body : ByteArray) : ByteArray := headI src dst proto ttl id body.size (sumI src dst proto ttl id body.size) ++ body
theorem putI_size (src dst proto ttl id : Int) (body : ByteArray) : (putI src dst proto ttl id body).size = 20 + body.size := by
  simp [putI, ByteArray.size_append, headI_size]
theorem sumI_range (src dst proto ttl id : Int) (n : Nat) : 0 ≤ sumI src dst proto ttl id n ∧ sumI src dst proto ttl id n < 65536 := by
  have := sumB_range (headI src dst proto ttl id n 0)
  unfold sumI; omega
theorem Put_ok (k : Nat) (hk : 40 ≤ k) {src dst proto ttl id : Int} {body : ByteArray} (h : mayI src dst proto ttl id body = true) :
    ip_Put.f k src dst proto ttl id body = some (putI src dst proto ttl id body, 0) := by
  obtain ⟨_, _, _, _, _, hb⟩ := mayI_parts h
  have hs := sumB_range (headI src dst proto ttl id body.size 0)
  unfold ip_Put.f
  rw [May_eq, h]
  simp only [Option.bind_some, if_true]
  rw [head_eq k (by omega) _ _ _ _ _ _ (by omega)]
  simp only [Option.bind_some]
  rw [psum_eq _ (by rw [headI_size]; omega) k (by rw [headI_size]; omega)]
  simp only [Option.bind_some]
  rw [wrap64_id (by omega) (by omega), head_eq k (by omega) _ _ _ _ _ _ (by omega)]
  simp only [Option.bind_some]
  rw [if_pos (by rw [headI_size]; omega)]
  rfl
theorem Put_bad (k : Nat) {src dst proto ttl id : Int} {body : ByteArray} (h : mayI src dst proto ttl id body = false) :
    ip_Put.f k src dst proto ttl id body = some ((⟨#[]⟩ : ByteArray), 200) := by
  unfold ip_Put.f
  rw [May_eq, h]
  simp
theorem B1_lit69 : (⟨#[69, 0]⟩ : ByteArray) = B1 69 ++ B1 0 := by decide +kernel
theorem B1_lit64 : (⟨#[64, 0]⟩ : ByteArray) = B1 64 ++ B1 0 := by decide +kernel
theorem B2_lit0 : (⟨#[0, 0]⟩ : ByteArray) = B2 0 := by decide +kernel
theorem PutIp_ok (k : Nat) (hk : 40 ≤ k) {src dst proto ttl id : Int} {body : ByteArray} (h : mayI src dst proto ttl id body = true) :
    wharfageref1_PutIp.f k src dst proto ttl id body = some (putI src dst proto ttl id body, 0) := by
  obtain ⟨_, _, _, _, _, hb⟩ := mayI_parts h
  have hs := sumB_range (headI src dst proto ttl id body.size 0)
  obtain ⟨k, rfl⟩ : ∃ m, k = m + 40 := ⟨k - 40, by omega⟩
  unfold wharfageref1_PutIp.f
  rw [IpMay_eq, h, Option.bind_some, if_pos rfl]
  have n1 : wharfageref1_Num.f (k + 40) (20 + (body.size : Int)) 2 = some (B2 (20 + (body.size : Int))) := num2 (k + 37) _
  have n2 : wharfageref1_Num.f (k + 40) id 2 = some (B2 id) := num2 (k + 37) _
  have n3 : wharfageref1_Num.f (k + 40) ttl 1 = some (B1 ttl) := num1 (k + 38) _
  have n4 : wharfageref1_Num.f (k + 40) proto 1 = some (B1 proto) := num1 (k + 38) _
  have n5 : wharfageref1_Num.f (k + 40) src 4 = some (B4 src) := num4 (k + 35) _
  have n6 : wharfageref1_Num.f (k + 40) dst 4 = some (B4 dst) := num4 (k + 35) _
  have e : B1 69 ++ B1 0 ++ B2 (20 + (body.size : Int)) ++ B2 id ++ (B1 64 ++ B1 0) ++ B1 ttl ++ B1 proto ++ B2 0 ++ (B4 src ++ B4 dst) = headI src dst proto ttl id body.size 0 := by
    simp only [headI, ByteArray.append_assoc]
  have s1 : wharfageref1_Sum.f (k + 40) (headI src dst proto ttl id body.size 0) = some (sumB (headI src dst proto ttl id body.size 0)) := rsum_eq _ (by rw [headI_size]; omega) (k + 40) (by rw [headI_size]; omega)
  have n7 : wharfageref1_Num.f (k + 40) (sumI src dst proto ttl id body.size) 2 = some (B2 (sumI src dst proto ttl id body.size)) := num2 (k + 37) _
  have w1 : wrap64 (65535 - sumB (headI src dst proto ttl id body.size 0)) = sumI src dst proto ttl id body.size := wrap64_id (by omega) (by omega)
  have e2 : putI src dst proto ttl id body = B1 69 ++ B1 0 ++ B2 (20 + (body.size : Int)) ++ B2 id ++ (B1 64 ++ B1 0) ++ B1 ttl ++ B1 proto ++ B2 (sumI src dst proto ttl id body.size) ++ (B4 src ++ B4 dst) ++ body := by
    simp only [putI, headI, ByteArray.append_assoc]
  rw [wrap64_id (n := 20 + (body.size : Int)) (by omega) (by omega), n1, n2, n3, n4, n5, n6, B1_lit69, B1_lit64, B2_lit0, e2]
  generalize hS : sumI src dst proto ttl id body.size = S at *
  generalize headI src dst proto ttl id body.size 0 = HH at *
  generalize hb20 : B2 (20 + (body.size : Int)) = b20 at *
  have z20 : b20.size = 2 := by rw [← hb20]; exact B2_size _
  repeat (first | rw [Option.bind_some] | rw [if_pos (by simp only [ByteArray.size_append, B1_size, B2_size, B4_size, z20]; omega)] | rw [e, s1] | rw [w1, n7])
theorem PutIp_bad (k : Nat) {src dst proto ttl id : Int} {body : ByteArray} (h : mayI src dst proto ttl id body = false) :
    wharfageref1_PutIp.f k src dst proto ttl id body = some ((⟨#[]⟩ : ByteArray), 200) := by
  unfold wharfageref1_PutIp.f
  rw [IpMay_eq, h]
  simp

abbrev IpR := Int × Int × Int × Int × Int × ByteArray × Int × Int
def badI : IpR := (0, 0, 0, 0, 0, (⟨#[]⟩ : ByteArray), 1, 200)
def getI (s : ByteArray) : IpR :=
  if s.size < 20 ∨ 512 < s.size then badI
  else if bt s 0 / 16 ≠ 4 ∨ bt s 0 % 16 < 5 ∨ (s.size : Int) < 4 * (bt s 0 % 16) then badI
  else if N2 s 2 ≠ s.size then badI
  else if sumB (s.extract 0 (4 * (bt s 0 % 16)).toNat) ≠ 65535 then badI
  else if 5 < bt s 0 % 16 then (0, 0, 0, 0, 0, (⟨#[]⟩ : ByteArray), 3, 0)
  else if Go.bits .and .i64 (N2 s 6) 49151 ≠ 0 then (0, 0, 0, 0, 0, (⟨#[]⟩ : ByteArray), 2, 0)
  else (N4 s 12, N4 s 16, bt s 9, bt s 8, N2 s 4, s.extract 20 s.size, 0, 0)
theorem andNot_eq (x : Int) (h0 : 0 ≤ x) (h1 : x < 65536) : Go.bits .andNot .i64 x 16384 = Go.bits .and .i64 x 49151 := by
  obtain ⟨n, rfl⟩ := Int.eq_ofNat_of_zero_le h0
  show IntKind.i64.wrap ((BitVec.ofInt 64 (n : Int) &&& ~~~ (BitVec.ofInt 64 16384)).toNat : Int) = IntKind.i64.wrap ((BitVec.ofInt 64 (n : Int) &&& BitVec.ofInt 64 49151).toNat : Int)
  congr 2
  have e : BitVec.ofInt 64 (n : Int) &&& ~~~ (BitVec.ofInt 64 16384) = BitVec.ofInt 64 (n : Int) &&& BitVec.ofInt 64 49151 := by
    apply BitVec.eq_of_getLsbD_eq
    intro i hi
    simp only [BitVec.getLsbD_and, BitVec.getLsbD_not]
    by_cases c : i < 16
    · have : (decide (i < 64) && !(BitVec.ofInt 64 16384).getLsbD i) = (BitVec.ofInt 64 49151).getLsbD i := by
        have key : ∀ j : Fin 16, (decide (j.val < 64) && !(BitVec.ofInt 64 16384).getLsbD j.val) = (BitVec.ofInt 64 49151).getLsbD j.val := by decide
        exact key ⟨i, c⟩
      rw [this]
    · have z : (BitVec.ofInt 64 (n : Int)).getLsbD i = false := by
        rw [BitVec.ofInt_natCast, BitVec.getLsbD_ofNat]
        have : n.testBit i = false := Nat.testBit_lt_two_pow (Nat.lt_of_lt_of_le (show n < 2 ^ 16 by omega) (Nat.pow_le_pow_right (by decide) (by omega)))
        simp [this]
      rw [z]; simp
  rw [e]
theorem low4 (b : Int) (h0 : 0 ≤ b) (h1 : b ≤ 255) : Go.bits .and .u8 b 15 = b % 16 := u8_and15 b h0 (by omega)
theorem words_eq (k : Nat) (hk : 600 ≤ k) (s : ByteArray) : ip_words.f k s =
    some (if s.size < 20 ∨ 512 < s.size then (0, false) else if bt s 0 / 16 ≠ 4 ∨ bt s 0 % 16 < 5 ∨ (s.size : Int) < 4 * (bt s 0 % 16) then (0, false)
      else (bt s 0 % 16, decide (N2 s 2 = s.size) && decide (sumB (s.extract 0 (4 * (bt s 0 % 16)).toNat) = 65535))) := by
  obtain ⟨k, rfl⟩ : ∃ m, k = m + 600 := ⟨k - 600, by omega⟩
  have hb := bt_range s 0
  unfold ip_words.f
  by_cases c : s.size < 20
  · rw [if_pos (by omega), if_pos (by omega)]
    simp [ip_words.j0]
  rw [if_neg (by omega)]
  by_cases c1 : 512 < s.size
  · rw [decide_eq_true (by omega), if_pos (by omega)]
    simp [ip_words.j0]
  rw [decide_eq_false (by omega), if_neg (by omega)]
  simp only [ip_words.j0]
  rw [if_neg (by decide), if_pos (by omega), low4 _ hb.1 hb.2, wrap64_id (n := bt s 0 % 16) (by omega) (by omega), wrap64_id (n := 4 * (bt s 0 % 16)) (by omega) (by omega)]
  by_cases c2 : bt s 0 / 16 = 4
  · rw [if_pos c2]
    by_cases c3 : bt s 0 % 16 < 5
    · rw [if_pos c3, if_pos (by omega)]
      simp [ip_words.j1]
    · rw [if_neg c3]
      by_cases c4 : (s.size : Int) < 4 * (bt s 0 % 16)
      · rw [decide_eq_true (by omega), if_pos (by omega)]
        simp [ip_words.j1]
      · rw [decide_eq_false (by omega), if_neg (by omega)]
        simp only [ip_words.j1]
        rw [if_neg (by decide), if_pos (by decide), if_pos (by omega), wrap64_id (n := 4 * (bt s 0 % 16)) (by omega) (by omega), number2 (k + 595) _ (by simp [ByteArray.size_extract]; omega), N2_extract s 2 (by omega)]
        simp only [Option.bind_some]
        by_cases c5 : N2 s 2 = s.size
        · rw [if_pos c5, if_pos (by omega), if_pos (by omega), psum_eq _ (by simp [ByteArray.size_extract]; omega) _ (by simp [ByteArray.size_extract]; omega)]
          simp only [Option.bind_some, c5, decide_true, Bool.true_and]
          congr 2
        · rw [if_neg c5]; simp [c5]
  · rw [if_neg c2, if_pos (by omega)]
    simp [ip_words.j1]
theorem Get_eq (k : Nat) (hk : 600 ≤ k) (s : ByteArray) : ip_Get.f k s = some (getI s) := by
  have hb := bt_range s 0
  have hn := N2_range s 6
  unfold ip_Get.f getI
  rw [words_eq k hk s]
  simp only [Option.bind_some]
  obtain ⟨k, rfl⟩ : ∃ m, k = m + 600 := ⟨k - 600, by omega⟩
  by_cases c : s.size < 20 ∨ 512 < s.size
  · simp [c, badI]
  by_cases c1 : bt s 0 / 16 ≠ 4 ∨ bt s 0 % 16 < 5 ∨ (s.size : Int) < 4 * (bt s 0 % 16)
  · simp only [if_neg c, if_pos c1]; rfl
  simp only [if_neg c, if_neg c1]
  by_cases c2 : N2 s 2 = s.size
  · by_cases c3 : sumB (s.extract 0 (4 * (bt s 0 % 16)).toNat) = 65535
    · simp only [c2, c3, decide_true, Bool.and_self, if_true, ne_eq, not_true, if_false]
      by_cases c4 : 5 < bt s 0 % 16
      · rw [if_pos (by omega), if_pos c4]
      · rw [if_neg (by omega), if_neg c4, if_pos (by decide), if_pos (by omega), number2 (k + 597) _ (by simp [ByteArray.size_extract]; omega), N2_extract s 6 (by omega)]
        simp only [Option.bind_some]
        rw [andNot_eq _ hn.1 hn.2]
        by_cases c5 : Go.bits .and .i64 (N2 s 6) 49151 = 0
        · have h8 := bt_range s 8; have h9 := bt_range s 9
          rw [if_pos c5, if_neg (not_not_intro c5), if_pos (by decide), if_pos (by omega), number4 (k + 595) _ (by simp [ByteArray.size_extract]; omega), N4_extract s 12 (by omega)]
          simp only [Option.bind_some]
          rw [if_pos (by decide), if_pos (by omega), number4 (k + 595) _ (by simp [ByteArray.size_extract]; omega), N4_extract s 16 (by omega)]
          simp only [Option.bind_some]
          rw [if_pos (by omega), if_pos (by omega), if_pos (by decide), if_pos (by omega), number2 (k + 597) _ (by simp [ByteArray.size_extract]; omega), N2_extract s 4 (by omega)]
          simp only [Option.bind_some]
          rw [wrap64_id (by omega) (by omega), wrap64_id (by omega) (by omega)]
        · rw [if_neg c5, if_pos c5]
    · simp [c2, c3, badI]
  · simp [c2, badI]
theorem GetIp_eq (k : Nat) (hk : 600 ≤ k) (s : ByteArray) : wharfageref1_GetIp.f k s = some (getI s) := by
  have hb := bt_range s 0
  have hn := N2_range s 6
  unfold wharfageref1_GetIp.f getI
  rw [low4 _ hb.1 hb.2, wrap64_id (n := bt s 0 % 16) (by omega) (by omega), wrap64_id (n := 4 * (bt s 0 % 16)) (by omega) (by omega)]
  obtain ⟨k, rfl⟩ : ∃ m, k = m + 600 := ⟨k - 600, by omega⟩
  by_cases c : s.size < 20
  · rw [if_pos (by omega), if_pos (by omega)]; rfl
  by_cases c' : 512 < s.size
  · rw [if_neg (by omega), if_pos (by omega), if_pos (by omega)]; rfl
  rw [if_neg (by omega), if_neg (by omega), if_pos (by omega), if_neg (show ¬ (s.size < 20 ∨ 512 < s.size) by omega)]
  by_cases d1 : bt s 0 / 16 = 4
  rotate_left
  · rw [if_neg d1, if_pos (by omega)]; rfl
  by_cases d2 : 4 * (bt s 0 % 16) < 20
  · rw [if_pos d1, if_pos d2, if_pos (by omega)]; rfl
  by_cases d3 : 4 * (bt s 0 % 16) > (s.size : Int)
  · rw [if_pos d1, if_neg d2, if_pos d3, if_pos (by omega)]; rfl
  rw [if_pos d1, if_neg d2, if_neg d3, if_neg (show ¬ (bt s 0 / 16 ≠ 4 ∨ bt s 0 % 16 < 5 ∨ (s.size : Int) < 4 * (bt s 0 % 16)) by omega), if_pos (by decide), if_pos (by omega), of2 (k + 597) _ (by simp [ByteArray.size_extract]; omega), N2_extract s 2 (by omega)]
  simp only [Option.bind_some]
  by_cases c2 : N2 s 2 = s.size
  rotate_left
  · rw [if_neg c2, if_pos c2]; rfl
  rw [if_pos c2, if_neg (not_not_intro c2), if_pos (by omega), if_pos (by omega), rsum_eq _ (by simp [ByteArray.size_extract]; omega) _ (by simp [ByteArray.size_extract]; omega)]
  simp only [Option.bind_some]
  by_cases c3 : sumB (s.extract 0 (4 * (bt s 0 % 16)).toNat) = 65535
  rotate_left
  · rw [if_neg c3, if_pos c3]; rfl
  rw [if_pos c3, if_neg (not_not_intro c3)]
  by_cases c4 : 5 < bt s 0 % 16
  · rw [if_pos (by omega), if_pos c4]
  rw [if_neg (by omega), if_neg c4, if_pos (by decide), if_pos (by omega), of2 (k + 597) _ (by simp [ByteArray.size_extract]; omega), N2_extract s 6 (by omega)]
  simp only [Option.bind_some]
  by_cases c5 : Go.bits .and .i64 (N2 s 6) 49151 = 0
  rotate_left
  · rw [if_neg c5, if_pos c5]
  have h8 := bt_range s 8; have h9 := bt_range s 9
  rw [if_pos c5, if_neg (not_not_intro c5), if_pos (by decide), if_pos (by omega), of4 (k + 595) _ (by simp [ByteArray.size_extract]; omega), N4_extract s 12 (by omega)]
  simp only [Option.bind_some]
  rw [if_pos (by decide), if_pos (by omega), of4 (k + 595) _ (by simp [ByteArray.size_extract]; omega), N4_extract s 16 (by omega)]
  simp only [Option.bind_some]
  rw [if_pos (by omega), if_pos (by omega), if_pos (by decide), if_pos (by omega), of2 (k + 597) _ (by simp [ByteArray.size_extract]; omega), N2_extract s 4 (by omega)]
  simp only [Option.bind_some]
  rw [wrap64_id (by omega) (by omega), wrap64_id (by omega) (by omega)]
end Go.Proofs.Ytnhbieicjlnakaa.Pure
