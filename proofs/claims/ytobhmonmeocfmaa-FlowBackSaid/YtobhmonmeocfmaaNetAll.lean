import Derived.Laws.BitsLemmas
import Derived.RowKit
import Derived.Test.YtobhmonmeocfmaaFAM0
namespace Go.Proofs.Ytobhmonmeocfmaa.Wh
set_option linter.unusedSimpArgs false
set_option linter.unusedVariables false
open Go Go.RowKit
theorem i64_wrap (n : Int) : IntKind.i64.wrap n = wrap64 n := by rw [IntKind.wrap_i64]; unfold wrap64; rfl
theorem wrap64_id {n : Int} (h0 : -9223372036854775808 ≤ n) (h1 : n ≤ 9223372036854775807) : wrap64 n = n := by unfold wrap64; omega
theorem ofInt_toNat64 (x : Int) : (BitVec.ofInt 64 x).toNat = (x % 18446744073709551616).toNat := by
  rw [BitVec.toNat_ofInt]; rfl
theorem and_mask_i64 (i : Nat) (hi : i ≤ 62) (x : Int) : bits .and .i64 x (2 ^ i - 1) = x % 2 ^ i := by
  have hp : (2:Nat) ^ i ≤ 2 ^ 62 := Nat.pow_le_pow_right (by decide) hi
  have hpos : 0 < 2 ^ i := Nat.two_pow_pos i
  have hc : ((2 : Int) ^ i - 1) = ((2 ^ i - 1 : Nat) : Int) := by
    rw [Int.natCast_sub hpos]; simp
  have hlt : 2 ^ i - 1 < 2 ^ 64 := by omega
  have e1 : (BitVec.ofInt 64 x &&& BitVec.ofInt 64 ((2 ^ i - 1 : Nat) : Int)).toNat = (x % 18446744073709551616).toNat % 2 ^ i := by
    rw [BitVec.toNat_and, ofInt_toNat64, BitVec.ofInt_natCast, BitVec.toNat_ofNat, Nat.mod_eq_of_lt hlt, Nat.and_two_pow_sub_one_eq_mod]
  have e2 : (((x % 18446744073709551616).toNat % 2 ^ i : Nat) : Int) = x % 2 ^ i := by
    rw [Int.natCast_emod, Int.toNat_of_nonneg (Int.emod_nonneg _ (by decide))]
    have hd : ((2 ^ i : Nat) : Int) ∣ 18446744073709551616 := by
      have h64 : (2:Nat) ^ i ∣ 2 ^ 64 := Nat.pow_dvd_pow 2 (by omega)
      exact Int.natCast_dvd_natCast.mpr h64
    rw [Int.emod_emod_of_dvd _ hd]; simp
  have e3 : 0 ≤ x % 2 ^ i ∧ x % 2 ^ i < 2 ^ 62 := by
    have hpi : (0:Int) < 2 ^ i := by exact_mod_cast hpos
    refine ⟨Int.emod_nonneg _ (by omega), ?_⟩
    have := Int.emod_lt_of_pos x hpi
    have hp' : (2:Int) ^ i ≤ 2 ^ 62 := by exact_mod_cast hp
    omega
  show IntKind.i64.wrap ((BitVec.ofInt 64 x &&& BitVec.ofInt 64 (2 ^ i - 1)).toNat : Int) = _
  rw [hc, e1, e2, i64_wrap, wrap64_id (by omega) (by omega)]
theorem and_1023 (x : Int) : bits .and .i64 x 1023 = x % 1024 := and_mask_i64 10 (by decide) x
theorem and_255 (x : Int) : bits .and .i64 x 255 = x % 256 := and_mask_i64 8 (by decide) x
theorem and_127 (x : Int) : bits .and .i64 x 127 = x % 128 := and_mask_i64 7 (by decide) x
theorem and_65535 (x : Int) : bits .and .i64 x 65535 = x % 65536 := and_mask_i64 16 (by decide) x
theorem and_63 (x : Int) : bits .and .i64 x 63 = x % 64 := and_mask_i64 6 (by decide) x
theorem and_1 (x : Int) : bits .and .i64 x 1 = x % 2 := and_mask_i64 1 (by decide) x
theorem u64_wrap (n : Int) : IntKind.u64.wrap n = n % 18446744073709551616 := by simp [IntKind.wrap, IntKind.bits, IntKind.signed]
theorem wf_i64 {n : Int} (h : (Lit.int .i64 n).wf = true) : -9223372036854775808 ≤ n ∧ n ≤ 9223372036854775807 := by
  simpa [Lit.wf, IntKind.min, IntKind.max, IntKind.bits, IntKind.signed] using h
theorem ite_to {α : Type} {c : Prop} [Decidable c] {a b r : α} (h : c → a = r) (k : ¬ c → b = r) : (if c then a else b) = r := by
  by_cases e : c
  · rw [if_pos e]; exact h e
  · rw [if_neg e]; exact k e
theorem or_byte (x b : Int) (h0 : 0 ≤ x) (h1 : x < 9007199254740992) (b0 : 0 ≤ b) (b1 : b ≤ 255) : bits .or .i64 (x * 256) b = x * 256 + b :=
  bits_join .i64 62 (by decide) (fun n h0 h1 => by rw [i64_wrap, wrap64_id (by omega) (by omega)]) 8 _ _ (by omega) (by omega) (by omega) (by omega) (by omega) (by omega)
end Go.Proofs.Ytobhmonmeocfmaa.Wh
namespace Go.Proofs.Ytobhmonmeocfmaa.Pure
set_option linter.unusedSimpArgs false
set_option linter.unusedVariables false
open Go Go.RowKit Go.Proofs.Ytobhmonmeocfmaa.PA Go.Proofs.YtobhmonmeocfmaaW.PrintWords Go.Proofs.YtobhmonmeocfmaaW.PrintLast Go.Proofs.YtobhmonmeocfmaaW.PrintMore Go.Proofs.Ytobhmonmeocfmaa.Wh
def B1 (x : Int) : ByteArray := strOfNums [x % 256]
def B2 (x : Int) : ByteArray := strOfNums [x / 256 % 256, x % 256]
def B4 (x : Int) : ByteArray := strOfNums [x / 16777216 % 256, x / 65536 % 256, x / 256 % 256, x % 256]
theorem B1_size (x : Int) : (B1 x).size = 1 := strOfNums_size _
theorem B2_size (x : Int) : (B2 x).size = 2 := strOfNums_size _
theorem B4_size (x : Int) : (B4 x).size = 4 := strOfNums_size _
theorem by_step (k : Nat) (x i : Int) (L : List Int) (h0 : 0 ≤ i) (h1 : i < (L.length : Int)) (hi : i ≤ 100) : ip_Bytes.l0 (k + 1) x L i = ip_Bytes.l0 k (x / 256) (L.set i.toNat (x % 256)) (i - 1) := by
  simp only [ip_Bytes.l0]
  rw [if_pos h0, if_pos h0, if_pos h1, wrap64_id (by omega) (by omega)]
theorem by_end (k : Nat) (x i : Int) (L : List Int) (h : i < 0) : ip_Bytes.l0 (k + 1) x L i = some (strOfNums L) := by
  simp only [ip_Bytes.l0]
  rw [if_neg (by omega)]
theorem bytes1 (k : Nat) (x : Int) : ip_Bytes.f (k + 2) x 1 = some (B1 x) := by
  unfold ip_Bytes.f
  rw [if_pos (by decide), if_pos (by decide), wrap64_id (by decide) (by decide)]
  rw [by_step (k + 1) x _ _ (by decide) (by decide) (by decide), by_end k _ _ _ (by decide)]
  rfl
theorem bytes2 (k : Nat) (x : Int) : ip_Bytes.f (k + 3) x 2 = some (B2 x) := by
  unfold ip_Bytes.f
  rw [if_pos (by decide), if_pos (by decide), wrap64_id (by decide) (by decide)]
  rw [by_step (k + 2) x _ _ (by decide) (by decide) (by decide), by_step (k + 1) _ _ _ (by decide) (by simp) (by decide), by_end k _ _ _ (by decide)]
  rfl
theorem bytes4 (k : Nat) (x : Int) : ip_Bytes.f (k + 5) x 4 = some (B4 x) := by
  unfold ip_Bytes.f
  rw [if_pos (by decide), if_pos (by decide), wrap64_id (by decide) (by decide)]
  rw [by_step (k + 4) x _ _ (by decide) (by decide) (by decide), by_step (k + 3) _ _ _ (by decide) (by simp) (by decide), by_step (k + 2) _ _ _ (by decide) (by simp) (by decide), by_step (k + 1) _ _ _ (by decide) (by simp) (by decide), by_end k _ _ _ (by decide)]
  unfold B4
  rw [show x / 16777216 = x / 256 / 256 / 256 by omega, show x / 65536 = x / 256 / 256 by omega]
  rfl
theorem num_step (k : Nat) (x i e : Int) (L : List Int) (h0 : 0 ≤ i) (hi : i ≤ 7) (h1 : L.length < 100) (he : x / 2 ^ (8 * i).toNat % 256 = e) : wharfageref1_Num.l0 (k + 1) x L i = wharfageref1_Num.l0 k x (L ++ [e]) (i - 1) := by
  simp only [wharfageref1_Num.l0]
  rw [if_pos h0, wrap64_id (n := 8 * i) (by omega) (by omega), if_pos (by omega), if_pos (by omega), wrap64_id (n := i - 1) (by omega) (by omega)]
  have : shr .i64 x (8 * i) = x / 2 ^ (8 * i).toNat := by
    unfold shr
    rw [Nat.min_eq_left (by show (8 * i).toNat ≤ 64; omega)]
  rw [this, he]
theorem num_end (k : Nat) (x i : Int) (L : List Int) (h : i < 0) : wharfageref1_Num.l0 (k + 1) x L i = some (strOfNums L) := by
  simp only [wharfageref1_Num.l0]
  rw [if_neg (by omega)]
theorem num1 (k : Nat) (x : Int) : wharfageref1_Num.f (k + 2) x 1 = some (B1 x) := by
  unfold wharfageref1_Num.f
  rw [wrap64_id (by decide) (by decide), num_step (k + 1) x _ (x % 256) _ (by decide) (by decide) (by simp) (by show x / 1 % 256 = _; omega), num_end k _ _ _ (by decide)]
  rfl
theorem num2 (k : Nat) (x : Int) : wharfageref1_Num.f (k + 3) x 2 = some (B2 x) := by
  unfold wharfageref1_Num.f
  rw [wrap64_id (by decide) (by decide), num_step (k + 2) x _ (x / 256 % 256) _ (by decide) (by decide) (by simp) (by show x / 256 % 256 = _; omega), num_step (k + 1) x _ (x % 256) _ (by decide) (by decide) (by simp) (by show x / 1 % 256 = _; omega), num_end k _ _ _ (by decide)]
  rfl
theorem num4 (k : Nat) (x : Int) : wharfageref1_Num.f (k + 5) x 4 = some (B4 x) := by
  unfold wharfageref1_Num.f
  rw [wrap64_id (by decide) (by decide), num_step (k + 4) x _ (x / 16777216 % 256) _ (by decide) (by decide) (by simp) (by show x / 16777216 % 256 = _; omega), num_step (k + 3) x _ (x / 65536 % 256) _ (by decide) (by decide) (by simp) (by show x / 65536 % 256 = _; omega), num_step (k + 2) x _ (x / 256 % 256) _ (by decide) (by decide) (by simp) (by show x / 256 % 256 = _; omega), num_step (k + 1) x _ (x % 256) _ (by decide) (by decide) (by simp) (by show x / 1 % 256 = _; omega), num_end k _ _ _ (by decide)]
  rfl
/-- The number of two bytes, of four, from place i on. -/
def N2 (s : ByteArray) (i : Nat) : Int := bt s i * 256 + bt s (i + 1 : Nat)
def N4 (s : ByteArray) (i : Nat) : Int := ((bt s i * 256 + bt s (i + 1 : Nat)) * 256 + bt s (i + 2 : Nat)) * 256 + bt s (i + 3 : Nat)
theorem N2_range (s : ByteArray) (i : Nat) : 0 ≤ N2 s i ∧ N2 s i < 65536 := by
  have a := bt_range s i; have b := bt_range s (i + 1 : Nat); unfold N2; omega
theorem N4_range (s : ByteArray) (i : Nat) : 0 ≤ N4 s i ∧ N4 s i < 4294967296 := by
  have a := bt_range s i; have b := bt_range s (i + 1 : Nat); have c := bt_range s (i + 2 : Nat); have d := bt_range s (i + 3 : Nat); unfold N4; omega
theorem bt_extract (s : ByteArray) (a b : Nat) (i : Nat) (h : a + i < b) (hb : b ≤ s.size) : bt (s.extract a b) i = bt s (a + i : Nat) := by
  unfold bt
  have h1 : (i : Int).toNat < (s.extract a b).size := by simp [ByteArray.size_extract]; omega
  have h2 : ((a + i : Nat) : Int).toNat < s.size := by simp; omega
  rw [dif_pos h1, dif_pos h2]
  have e : ((a : Int) + (i : Int)).toNat = a + i := by omega
  simp [ByteArray.getElem_extract, e]
theorem nb_step (k : Nat) (s : ByteArray) (x i n : Int) (h0 : 0 ≤ i) (hn : n = s.size) (h1 : i < n) (hi : i ≤ 100) (x0 : 0 ≤ x) (x1 : x < 4294967296) : ip_Number.l0 (k + 1) s x n i = ip_Number.l0 k s (x * 256 + bt s i) n (i + 1) := by
  have hb := bt_range s i
  simp only [ip_Number.l0]
  rw [if_pos h1, if_pos h0, if_pos (by omega), wrap64_id (n := x * 256) (by omega) (by omega), wrap64_id (n := bt s i) (by omega) (by omega), wrap64_id (n := i + 1) (by omega) (by omega), or_byte x _ x0 (by omega) hb.1 hb.2]
theorem nb_end (k : Nat) (s : ByteArray) (x i n : Int) (h : ¬ i < n) : ip_Number.l0 (k + 1) s x n i = some x := by
  simp only [ip_Number.l0]
  rw [if_neg h]
theorem of_step (k : Nat) (s : ByteArray) (x i : Int) (h0 : 0 ≤ i) (h1 : i < (s.size : Int)) (hi : i ≤ 100) (x0 : 0 ≤ x) (x1 : x < 4294967296) : wharfageref1_Of.l0 (k + 1) s x i = wharfageref1_Of.l0 k s (x * 256 + bt s i) (i + 1) := by
  have hb := bt_range s i
  simp only [wharfageref1_Of.l0]
  rw [if_pos h1, if_pos h0, wrap64_id (n := x * 256) (by omega) (by omega), wrap64_id (n := bt s i) (by omega) (by omega), wrap64_id (n := i + 1) (by omega) (by omega), or_byte x _ x0 (by omega) hb.1 hb.2]
theorem of_end (k : Nat) (s : ByteArray) (x i : Int) (h : ¬ i < (s.size : Int)) : wharfageref1_Of.l0 (k + 1) s x i = some x := by
  simp only [wharfageref1_Of.l0]
  rw [if_neg h]
theorem number2 (k : Nat) (s : ByteArray) (hs : s.size = 2) : ip_Number.f (k + 3) s = some (N2 s 0) := by
  have b0 := bt_range s 0; have b1 := bt_range s 1
  unfold ip_Number.f
  rw [nb_step (k + 2) s 0 0 _ (by decide) rfl (by omega) (by decide) (by decide) (by decide), nb_step (k + 1) s _ _ _ (by omega) rfl (by omega) (by omega) (by omega) (by omega), nb_end k s _ _ _ (by omega)]
  simp [N2]
theorem number4 (k : Nat) (s : ByteArray) (hs : s.size = 4) : ip_Number.f (k + 5) s = some (N4 s 0) := by
  have b0 := bt_range s 0; have b1 := bt_range s 1; have b2 := bt_range s 2; have b3 := bt_range s 3
  unfold ip_Number.f
  rw [nb_step (k + 4) s 0 0 _ (by decide) rfl (by omega) (by decide) (by decide) (by decide), nb_step (k + 3) s _ _ _ (by omega) rfl (by omega) (by omega) (by omega) (by omega), nb_step (k + 2) s _ _ _ (by omega) rfl (by omega) (by omega) (by simp only [Int.reduceAdd]; omega) (by simp only [Int.reduceAdd]; omega), nb_step (k + 1) s _ _ _ (by omega) rfl (by omega) (by omega) (by simp only [Int.reduceAdd]; omega) (by simp only [Int.reduceAdd]; omega), nb_end k s _ _ _ (by omega)]
  simp [N4]
theorem of2 (k : Nat) (s : ByteArray) (hs : s.size = 2) : wharfageref1_Of.f (k + 3) s = some (N2 s 0) := by
  have b0 := bt_range s 0; have b1 := bt_range s 1
  unfold wharfageref1_Of.f
  rw [of_step (k + 2) s 0 0 (by decide) (by omega) (by decide) (by decide) (by decide), of_step (k + 1) s _ _ (by omega) (by omega) (by omega) (by omega) (by omega), of_end k s _ _ (by omega)]
  simp [N2]
theorem of4 (k : Nat) (s : ByteArray) (hs : s.size = 4) : wharfageref1_Of.f (k + 5) s = some (N4 s 0) := by
  have b0 := bt_range s 0; have b1 := bt_range s 1; have b2 := bt_range s 2; have b3 := bt_range s 3
  unfold wharfageref1_Of.f
  rw [of_step (k + 4) s 0 0 (by decide) (by omega) (by decide) (by decide) (by decide), of_step (k + 3) s _ _ (by omega) (by omega) (by omega) (by omega) (by omega), of_step (k + 2) s _ _ (by omega) (by omega) (by omega) (by simp only [Int.reduceAdd]; omega) (by simp only [Int.reduceAdd]; omega), of_step (k + 1) s _ _ (by omega) (by omega) (by omega) (by simp only [Int.reduceAdd]; omega) (by simp only [Int.reduceAdd]; omega), of_end k s _ _ (by omega)]
  simp [N4]
theorem N2_extract (s : ByteArray) (a : Nat) (h : a + 2 ≤ s.size) : N2 (s.extract a (a + 2)) 0 = N2 s a := by
  unfold N2
  rw [bt_extract s a (a + 2) 0 (by omega) h, bt_extract s a (a + 2) (0 + 1) (by omega) h]
  simp
theorem N4_extract (s : ByteArray) (a : Nat) (h : a + 4 ≤ s.size) : N4 (s.extract a (a + 4)) 0 = N4 s a := by
  unfold N4
  rw [bt_extract s a (a + 4) 0 (by omega) h, bt_extract s a (a + 4) (0 + 1) (by omega) h, bt_extract s a (a + 4) (0 + 2) (by omega) h, bt_extract s a (a + 4) (0 + 3) (by omega) h]
  simp

/-- What goes beyond 16 bits, added again. -/
def foldS (x : Int) : Int := if x = 0 then 0 else (x - 1) % 65535 + 1
theorem foldS_small {x : Int} (h0 : 0 ≤ x) (h1 : x < 65536) : foldS x = x := by unfold foldS; split <;> omega
theorem foldS_range {x : Int} (_h0 : 0 ≤ x) : 0 ≤ foldS x ∧ foldS x < 65536 := by unfold foldS; split <;> omega
theorem foldS_step {x : Int} (h : 65536 ≤ x) : foldS (x % 65536 + x / 65536) = foldS x := by
  unfold foldS
  rw [if_neg (by omega), if_neg (by omega)]
  omega
theorem pfold_step (k : Nat) (x : Int) (h : 65536 ≤ x) (h1 : x < 9223372036854775808) : sum_fold_uint64.l0 (k + 1) x = sum_fold_uint64.l0 k (x % 65536 + x / 65536) := by
  simp only [sum_fold_uint64.l0]
  rw [if_pos h, Int.tmod_eq_emod_of_nonneg (by omega), Int.tdiv_eq_ediv_of_nonneg (by omega), u64_wrap, u64_wrap]
  congr 1
  omega
theorem pfold_end (k : Nat) (x : Int) (h0 : 0 ≤ x) (h : x < 65536) : sum_fold_uint64.l0 (k + 1) x = some x := by
  simp only [sum_fold_uint64.l0]
  rw [if_neg (by omega), wrap64_id (by omega) (by omega)]
theorem rfold_step (k : Nat) (x : Int) (h : 65536 ≤ x) (h1 : x < 9223372036854775808) : wharfageref1_fold.l0 (k + 1) x = wharfageref1_fold.l0 k (x % 65536 + x / 65536) := by
  simp only [wharfageref1_fold.l0]
  rw [if_pos (by omega), and_65535, wrap64_id (by omega) (by omega)]
theorem rfold_end (k : Nat) (x : Int) (h : x < 65536) : wharfageref1_fold.l0 (k + 1) x = some x := by
  simp only [wharfageref1_fold.l0]
  rw [if_neg (by omega)]
theorem pfold_eq (k : Nat) (x : Int) (h0 : 0 ≤ x) (h1 : x < 9223372036854775808) : sum_fold_uint64.f (k + 6) x = some (foldS x) := by
  unfold sum_fold_uint64.f
  by_cases c1 : x < 65536
  · rw [pfold_end _ x h0 c1, foldS_small h0 c1]
  rw [pfold_step _ x (by omega) h1, ← foldS_step (by omega : 65536 ≤ x)]
  have d : x % 65536 + x / 65536 < 140737488421000 ∧ 0 ≤ x % 65536 + x / 65536 := by omega
  generalize x % 65536 + x / 65536 = x at *
  by_cases c1 : x < 65536
  · rw [pfold_end _ x d.2 c1, foldS_small d.2 c1]
  rw [pfold_step _ x (by omega) (by omega), ← foldS_step (by omega : 65536 ≤ x)]
  have d : x % 65536 + x / 65536 < 2147600000 ∧ 0 ≤ x % 65536 + x / 65536 := by omega
  generalize x % 65536 + x / 65536 = x at *
  by_cases c1 : x < 65536
  · rw [pfold_end _ x d.2 c1, foldS_small d.2 c1]
  rw [pfold_step _ x (by omega) (by omega), ← foldS_step (by omega : 65536 ≤ x)]
  have d : x % 65536 + x / 65536 < 131072 ∧ 0 ≤ x % 65536 + x / 65536 := by omega
  generalize x % 65536 + x / 65536 = x at *
  by_cases c1 : x < 65536
  · rw [pfold_end _ x d.2 c1, foldS_small d.2 c1]
  rw [pfold_step _ x (by omega) (by omega), ← foldS_step (by omega : 65536 ≤ x)]
  have d : x % 65536 + x / 65536 < 65537 ∧ 0 ≤ x % 65536 + x / 65536 := by omega
  generalize x % 65536 + x / 65536 = x at *
  by_cases c1 : x < 65536
  · rw [pfold_end _ x d.2 c1, foldS_small d.2 c1]
  rw [pfold_step _ x (by omega) (by omega), ← foldS_step (by omega : 65536 ≤ x), pfold_end _ _ (by omega) (by omega), foldS_small (by omega) (by omega)]
theorem rfold_eq (k : Nat) (x : Int) (h0 : 0 ≤ x) (h1 : x < 20000000) : wharfageref1_fold.f (k + 3) x = some (foldS x) := by
  unfold wharfageref1_fold.f
  by_cases c1 : x < 65536
  · rw [rfold_end _ x c1, foldS_small h0 c1]
  rw [rfold_step _ x (by omega) (by omega), ← foldS_step (by omega : 65536 ≤ x)]
  have d : x % 65536 + x / 65536 < 65842 ∧ 0 ≤ x % 65536 + x / 65536 := by omega
  generalize x % 65536 + x / 65536 = x at *
  by_cases c1 : x < 65536
  · rw [rfold_end _ x c1, foldS_small d.2 c1]
  rw [rfold_step _ x (by omega) (by omega), ← foldS_step (by omega : 65536 ≤ x), rfold_end _ _ (by omega), foldS_small (by omega) (by omega)]
/-- The sum of the numbers that two bytes each make. -/
def rawL : List Int → Int
  | [] => 0
  | [a] => a * 256
  | a :: b :: t => a * 256 + b + rawL t
def sumB (s : ByteArray) : Int := foldS (rawL (bytesOf s))
theorem bytesOf_range (s : ByteArray) : ∀ x ∈ bytesOf s, 0 ≤ x ∧ x ≤ 255 := by
  intro x hx
  simp only [bytesOf, List.mem_map] at hx
  obtain ⟨b, _, rfl⟩ := hx
  have := b.toNat_lt
  omega
theorem drop_step (s : ByteArray) (i : Nat) (h : i < s.size) : (bytesOf s).drop i = bt s i :: (bytesOf s).drop (i + 1) := by
  have hl : i < (bytesOf s).length := by rw [bytesOf_length]; exact h
  rw [List.drop_eq_getElem_cons hl]
  congr 1
  have := rd_bytesOf s (i : Int)
  rw [← this]
  unfold rd
  simp [List.getElem?_eq_getElem hl]
theorem drop_all (s : ByteArray) (i : Nat) (h : s.size ≤ i) : (bytesOf s).drop i = [] := List.drop_eq_nil_of_le (by rw [bytesOf_length]; exact h)
theorem rawL_range : ∀ (n : Nat) (L : List Int), L.length ≤ n → (∀ x ∈ L, 0 ≤ x ∧ x ≤ 255) → 0 ≤ rawL L ∧ rawL L ≤ 65535 * L.length
  | 0, L, hn, h => by
    have : L = [] := List.length_eq_zero_iff.mp (by omega)
    subst this; simp [rawL]
  | n + 1, [], hn, h => by simp [rawL]
  | n + 1, [a], hn, h => by
    have := h a (by simp)
    simp [rawL]; omega
  | n + 1, a :: b :: t, hn, h => by
    have h1 := h a (by simp); have h2 := h b (by simp)
    have ih := rawL_range n t (by simp at hn; omega) (fun x hx => h x (by simp [hx]))
    simp only [rawL, List.length_cons]
    omega
theorem raw_range (s : ByteArray) : 0 ≤ rawL (bytesOf s) ∧ rawL (bytesOf s) ≤ 65535 * s.size := by
  have := rawL_range _ (bytesOf s) (Nat.le_refl _) (bytesOf_range s)
  rw [bytesOf_length] at this
  exact this
theorem sumB_range (s : ByteArray) : 0 ≤ sumB s ∧ sumB s < 65536 := foldS_range (raw_range s).1
theorem psum_loop (s : ByteArray) (hs : s.size ≤ 140737488351300) : ∀ (d k i : Nat) (acc : Int), s.size ≤ i + d → d + 7 ≤ k → i ≤ s.size + 2 → 0 ≤ acc → acc ≤ 65535 * i →
    sum_Sum.l0 k s acc i = some (foldS (acc + rawL ((bytesOf s).drop i))) := by
  intro d
  induction d using Nat.strongRecOn with
  | _ d ih =>
  intro k i acc hd hk hi h0 h1
  obtain ⟨k, rfl⟩ : ∃ m, k = m + 1 := ⟨k - 1, by omega⟩
  have hb0 := bt_range s i
  have hb1 := bt_range s ((i + 1 : Nat) : Int)
  simp only [sum_Sum.l0]
  by_cases c : i < s.size
  · rw [if_pos (by omega), if_pos (by omega), wrap64_id (n := (i : Int) + 1) (by omega) (by omega), wrap64_id (n := (i : Int) + 2) (by omega) (by omega)]
    by_cases c2 : i + 1 < s.size
    · rw [if_pos (by omega), if_pos (by omega), show (i : Int) + 1 = ((i + 1 : Nat) : Int) by omega, show (i : Int) + 2 = ((i + 2 : Nat) : Int) by omega]
      simp only [u64_wrap]
      rw [show (((acc + bt s ↑i % 18446744073709551616 * 256 % 18446744073709551616) % 18446744073709551616 + bt s ((i + 1 : Nat) : Int) % 18446744073709551616) % 18446744073709551616) = acc + (bt s i * 256 + bt s ((i + 1 : Nat) : Int)) by omega]
      rw [ih (d - 2) (by omega) k (i + 2) _ (by omega) (by omega) (by omega) (by omega) (by omega), drop_step s i c, drop_step s (i + 1) c2, show i + 1 + 1 = i + 2 from rfl]
      simp only [rawL]
      congr 2
      omega
    · rw [if_neg (by omega), show (i : Int) + 2 = ((i + 2 : Nat) : Int) by omega]
      simp only [u64_wrap]
      rw [show ((acc + bt s ↑i % 18446744073709551616 * 256 % 18446744073709551616) % 18446744073709551616) = acc + bt s i * 256 by omega]
      rw [ih (d - 1) (by omega) k (i + 2) _ (by omega) (by omega) (by omega) (by omega) (by omega), drop_step s i c, drop_all s (i + 1) (by omega), drop_all s (i + 2) (by omega)]
      simp only [rawL]
      congr 2
      omega
  · rw [if_neg (by omega), drop_all s i (by omega)]
    obtain ⟨k, rfl⟩ : ∃ m, k = m + 6 := ⟨k - 6, by omega⟩
    rw [pfold_eq k acc h0 (by omega)]
    simp [rawL]
theorem psum_eq (s : ByteArray) (hs : s.size ≤ 140737488351300) (k : Nat) (hk : s.size + 7 ≤ k) : sum_Sum.f k s = some (sumB s) := by
  have := psum_loop s hs s.size k 0 0 (by omega) hk (by omega) (by omega) (by omega)
  simpa [sum_Sum.f, sumB] using this
theorem foldS_add (a b : Int) (h0 : 0 ≤ a) (h1 : 0 ≤ b) : foldS (foldS a + b) = foldS (a + b) := by
  unfold foldS
  split
  · rename_i e; subst e; simp
  · rw [if_neg (by omega), if_neg (by omega)]; omega
theorem rsum_loop (s : ByteArray) (hs : s.size ≤ 140737488351300) : ∀ (d k i : Nat) (acc : Int), s.size ≤ i + d → d + 4 ≤ k → i ≤ s.size + 2 → 0 ≤ acc → acc < 65536 →
    wharfageref1_Sum.l0 k s acc i = some (foldS (acc + rawL ((bytesOf s).drop i))) := by
  intro d
  induction d using Nat.strongRecOn with
  | _ d ih =>
  intro k i acc hd hk hi h0 h1
  obtain ⟨k, rfl⟩ : ∃ m, k = m + 1 := ⟨k - 1, by omega⟩
  have hb0 := bt_range s i
  have hb1 := bt_range s ((i + 1 : Nat) : Int)
  have hr := rawL_range _ ((bytesOf s).drop (i + 2)) (Nat.le_refl _) (fun x hx => bytesOf_range s x (List.mem_of_mem_drop hx))
  simp only [wharfageref1_Sum.l0]
  by_cases c : i < s.size
  · rw [if_pos (by omega), if_pos (by omega), wrap64_id (n := (i : Int) + 1) (by omega) (by omega), wrap64_id (n := (i : Int) + 2) (by omega) (by omega), wrap64_id (n := bt s i) (by omega) (by omega), wrap64_id (n := bt s i * 256) (by omega) (by omega), wrap64_id (n := acc + bt s i * 256) (by omega) (by omega)]
    obtain ⟨k, rfl⟩ : ∃ m, k = m + 3 := ⟨k - 3, by omega⟩
    by_cases c2 : i + 1 < s.size
    · rw [if_pos (by omega), if_pos (by omega), show (i : Int) + 1 = ((i + 1 : Nat) : Int) by omega, show (i : Int) + 2 = ((i + 2 : Nat) : Int) by omega, wrap64_id (n := bt s ((i + 1 : Nat) : Int)) (by omega) (by omega), wrap64_id (by omega) (by omega), rfold_eq k _ (by omega) (by omega)]
      simp only [Option.bind_some]
      have hf := foldS_range (x := acc + bt s i * 256 + bt s ((i + 1 : Nat) : Int)) (by omega)
      rw [ih (d - 2) (by omega) (k + 3) (i + 2) _ (by omega) (by omega) (by omega) hf.1 hf.2, foldS_add _ _ (by omega) hr.1, drop_step s i c, drop_step s (i + 1) c2, show i + 1 + 1 = i + 2 from rfl]
      simp only [rawL]
      congr 2
      omega
    · rw [if_neg (by omega), show (i : Int) + 2 = ((i + 2 : Nat) : Int) by omega, rfold_eq k _ (by omega) (by omega)]
      simp only [Option.bind_some]
      have hf := foldS_range (x := acc + bt s i * 256) (by omega)
      rw [ih (d - 1) (by omega) (k + 3) (i + 2) _ (by omega) (by omega) (by omega) hf.1 hf.2, foldS_add _ _ (by omega) hr.1, drop_step s i c, drop_all s (i + 1) (by omega), drop_all s (i + 2) (by omega)]
      simp only [rawL]
      congr 2
      omega
  · rw [if_neg (by omega), drop_all s i (by omega)]
    simp [rawL, foldS_small h0 h1]
theorem rsum_eq (s : ByteArray) (hs : s.size ≤ 140737488351300) (k : Nat) (hk : s.size + 4 ≤ k) : wharfageref1_Sum.f k s = some (sumB s) := by
  have := rsum_loop s hs s.size k 0 0 (by omega) hk (by omega) (by omega) (by omega)
  simpa [wharfageref1_Sum.f, sumB] using this
end Go.Proofs.Ytobhmonmeocfmaa.Pure
namespace Go.Proofs.Ytobhmonmeocfmaa.Pure
set_option linter.unusedSimpArgs false
set_option linter.unusedVariables false
open Go Go.RowKit Go.Proofs.Ytobhmonmeocfmaa.PA Go.Proofs.YtobhmonmeocfmaaW.PrintWords Go.Proofs.YtobhmonmeocfmaaW.PrintLast Go.Proofs.YtobhmonmeocfmaaW.PrintMore Go.Proofs.Ytobhmonmeocfmaa.Wh
attribute [local irreducible] wharfageref1_Num.f ip_Bytes.f ip_Number.f wharfageref1_Of.f sum_Sum.f wharfageref1_Sum.f

theorem shr_lit (a : Int) (n : Nat) (h : n ≤ 64) : shr .i64 a (n : Int) = a / 2 ^ n := by
  unfold shr
  rw [show min (n : Int).toNat IntKind.i64.bits = n from Nat.min_eq_left h]
theorem in_eq (a : Int) (n : Nat) (h : n ≤ 62) : ip_In.f a (n : Int) = some (decide (0 ≤ a ∧ a < 2 ^ n)) := by
  unfold ip_In.f
  rw [shr_lit a n (by omega)]
  have hp : (0 : Int) < 2 ^ n := Int.pow_pos (by decide)
  by_cases h0 : a ≥ 0
  · rw [if_pos h0, if_pos (by omega)]
    congr 1
    rw [Bool.eq_iff_iff]
    simp only [beq_iff_eq, decide_eq_true_eq]
    constructor
    · intro h; exact ⟨h0, by have := Int.lt_ediv_add_one_mul_self a hp; rw [h] at this; omega⟩
    · intro h; exact Int.ediv_eq_zero_of_lt h.1 h.2
  · rw [if_neg h0]; congr 1; symm; simp; omega
theorem in32 (a : Int) : ip_In.f a 32 = some (decide (0 ≤ a ∧ a < 4294967296)) := in_eq a 32 (by decide)
theorem in16 (a : Int) : ip_In.f a 16 = some (decide (0 ≤ a ∧ a < 65536)) := in_eq a 16 (by decide)
theorem in8 (a : Int) : ip_In.f a 8 = some (decide (0 ≤ a ∧ a < 256)) := in_eq a 8 (by decide)
theorem within32 (a : Int) : wharfageref1_within.f a 32 = some (decide (0 ≤ a ∧ a < 4294967296)) := by
  unfold wharfageref1_within.f
  by_cases h : a ≥ 0
  · rw [if_pos h, if_pos (by decide), show shl .i64 1 32 = 4294967296 by decide]; congr 1; rw [Bool.eq_iff_iff]; simp; omega
  · rw [if_neg h]; congr 1; symm; simp; omega
theorem within16 (a : Int) : wharfageref1_within.f a 16 = some (decide (0 ≤ a ∧ a < 65536)) := by
  unfold wharfageref1_within.f
  by_cases h : a ≥ 0
  · rw [if_pos h, if_pos (by decide), show shl .i64 1 16 = 65536 by decide]; congr 1; rw [Bool.eq_iff_iff]; simp; omega
  · rw [if_neg h]; congr 1; symm; simp; omega
theorem within8 (a : Int) : wharfageref1_within.f a 8 = some (decide (0 ≤ a ∧ a < 256)) := by
  unfold wharfageref1_within.f
  by_cases h : a ≥ 0
  · rw [if_pos h, if_pos (by decide), show shl .i64 1 8 = 256 by decide]; congr 1; rw [Bool.eq_iff_iff]; simp; omega
  · rw [if_neg h]; congr 1; symm; simp; omega
theorem if_and (p q : Bool) : (if p = true then some q else some false) = some (p && q) := by cases p <;> rfl
def mayI (src dst proto ttl id : Int) (body : ByteArray) : Bool :=
  decide (0 ≤ src ∧ src < 4294967296) && (decide (0 ≤ dst ∧ dst < 4294967296) && (decide (0 ≤ proto ∧ proto < 256) && (decide (0 ≤ ttl ∧ ttl < 256) && (decide (0 ≤ id ∧ id < 65536) && decide ((body.size : Int) ≤ 492)))))
theorem mayI_parts {src dst proto ttl id : Int} {body : ByteArray} (h : mayI src dst proto ttl id body = true) :
    (0 ≤ src ∧ src < 4294967296) ∧ (0 ≤ dst ∧ dst < 4294967296) ∧ (0 ≤ proto ∧ proto < 256) ∧ (0 ≤ ttl ∧ ttl < 256) ∧ (0 ≤ id ∧ id < 65536) ∧ body.size ≤ 492 := by
  simp [mayI] at h; omega
theorem May_eq (src dst proto ttl id : Int) (body : ByteArray) : ip_May.f src dst proto ttl id body = some (mayI src dst proto ttl id body) := by
  unfold ip_May.f mayI
  rw [in32, in32, in8, in8, in16]
  simp only [Option.bind_some, if_and]
theorem IpMay_eq (src dst proto ttl id : Int) (body : ByteArray) : wharfageref1_IpMay.f src dst proto ttl id body = some (mayI src dst proto ttl id body) := by
  unfold wharfageref1_IpMay.f mayI
  rw [within32, within32, within8, within8, within16]
  simp only [Option.bind_some, if_and]
/-- A packet's head with a sum; n: how many bytes the body has. -/
def headI (src dst proto ttl id : Int) (n : Nat) (chk : Int) : ByteArray :=
  B1 69 ++ B1 0 ++ B2 (20 + n) ++ B2 id ++ B1 64 ++ B1 0 ++ B1 ttl ++ B1 proto ++ B2 chk ++ B4 src ++ B4 dst
theorem headI_size (src dst proto ttl id : Int) (n : Nat) (chk : Int) : (headI src dst proto ttl id n chk).size = 20 := by
  simp [headI, ByteArray.size_append, B1_size, B2_size, B4_size]
theorem head_eq (k : Nat) (hk : 10 ≤ k) (src dst proto ttl id : Int) (body : ByteArray) (hb : body.size ≤ 1000) (chk : Int) :
    ip_head.f k src dst proto ttl id body chk = some (headI src dst proto ttl id body.size chk, src, dst, proto, ttl, id, body) := by
  obtain ⟨k, rfl⟩ : ∃ m, k = m + 10 := ⟨k - 10, by omega⟩
  unfold ip_head.f headI
  rw [wrap64_id (n := 20 + (body.size : Int)) (by omega) (by omega)]
  rw [bytes1 (k + 8), bytes1 (k + 8)]
  simp only [Option.bind_some]
  rw [bytes2 (k + 7), bytes2 (k + 7), bytes1 (k + 8), bytes1 (k + 8), bytes1 (k + 8), bytes2 (k + 7), bytes4 (k + 5), bytes4 (k + 5)]
  simp only [Option.bind_some, ByteArray.size_append, B1_size, B2_size, B4_size, Nat.reduceAdd, Nat.reduceLeDiff, if_true]
def sumI (src dst proto ttl id : Int) (n : Nat) : Int := 65535 - sumB (headI src dst proto ttl id n 0)
def putI (src dst proto ttl id : Int) (body : ByteArray) : ByteArray := headI src dst proto ttl id body.size (sumI src dst proto ttl id body.size) ++ body
theorem putI_size (src dst proto ttl id : Int) (body : ByteArray) : (putI src dst proto ttl id body).size = 20 + body.size := by
  simp [putI, ByteArray.size_append, headI_size]
theorem sumI_range (src dst proto ttl id : Int) (n : Nat) : 0 ≤ sumI src dst proto ttl id n ∧ sumI src dst proto ttl id n < 65536 := by
  have := sumB_range (headI src dst proto ttl id n 0)
  unfold sumI; omega
theorem Put_ok (k : Nat) (hk : 40 ≤ k) {src dst proto ttl id : Int} {body : ByteArray} (h : mayI src dst proto ttl id body = true) :
    ip_Put.f k src dst proto ttl id body = some (putI src dst proto ttl id body, 0) := by
  obtain ⟨_, _, _, _, _, hb⟩ := mayI_parts h
  have hs := sumB_range (headI src dst proto ttl id body.size 0)
  unfold ip_Put.f
  rw [May_eq, h]
  simp only [Option.bind_some, if_true]
  rw [head_eq k (by omega) _ _ _ _ _ _ (by omega)]
  simp only [Option.bind_some]
  rw [psum_eq _ (by rw [headI_size]; omega) k (by rw [headI_size]; omega)]
  simp only [Option.bind_some]
  rw [wrap64_id (by omega) (by omega), head_eq k (by omega) _ _ _ _ _ _ (by omega)]
  simp only [Option.bind_some]
  rw [if_pos (by rw [headI_size]; omega)]
  rfl
theorem Put_bad (k : Nat) {src dst proto ttl id : Int} {body : ByteArray} (h : mayI src dst proto ttl id body = false) :
    ip_Put.f k src dst proto ttl id body = some ((⟨#[]⟩ : ByteArray), 200) := by
  unfold ip_Put.f
  rw [May_eq, h]
  simp
theorem B1_lit69 : (⟨#[69, 0]⟩ : ByteArray) = B1 69 ++ B1 0 := by decide +kernel
theorem B1_lit64 : (⟨#[64, 0]⟩ : ByteArray) = B1 64 ++ B1 0 := by decide +kernel
theorem B2_lit0 : (⟨#[0, 0]⟩ : ByteArray) = B2 0 := by decide +kernel
theorem PutIp_ok (k : Nat) (hk : 40 ≤ k) {src dst proto ttl id : Int} {body : ByteArray} (h : mayI src dst proto ttl id body = true) :
    wharfageref1_PutIp.f k src dst proto ttl id body = some (putI src dst proto ttl id body, 0) := by
  obtain ⟨_, _, _, _, _, hb⟩ := mayI_parts h
  have hs := sumB_range (headI src dst proto ttl id body.size 0)
  obtain ⟨k, rfl⟩ : ∃ m, k = m + 40 := ⟨k - 40, by omega⟩
  unfold wharfageref1_PutIp.f
  rw [IpMay_eq, h, Option.bind_some, if_pos rfl]
  have n1 : wharfageref1_Num.f (k + 40) (20 + (body.size : Int)) 2 = some (B2 (20 + (body.size : Int))) := num2 (k + 37) _
  have n2 : wharfageref1_Num.f (k + 40) id 2 = some (B2 id) := num2 (k + 37) _
  have n3 : wharfageref1_Num.f (k + 40) ttl 1 = some (B1 ttl) := num1 (k + 38) _
  have n4 : wharfageref1_Num.f (k + 40) proto 1 = some (B1 proto) := num1 (k + 38) _
  have n5 : wharfageref1_Num.f (k + 40) src 4 = some (B4 src) := num4 (k + 35) _
  have n6 : wharfageref1_Num.f (k + 40) dst 4 = some (B4 dst) := num4 (k + 35) _
  have e : B1 69 ++ B1 0 ++ B2 (20 + (body.size : Int)) ++ B2 id ++ (B1 64 ++ B1 0) ++ B1 ttl ++ B1 proto ++ B2 0 ++ (B4 src ++ B4 dst) = headI src dst proto ttl id body.size 0 := by
    simp only [headI, ByteArray.append_assoc]
  have s1 : wharfageref1_Sum.f (k + 40) (headI src dst proto ttl id body.size 0) = some (sumB (headI src dst proto ttl id body.size 0)) := rsum_eq _ (by rw [headI_size]; omega) (k + 40) (by rw [headI_size]; omega)
  have n7 : wharfageref1_Num.f (k + 40) (sumI src dst proto ttl id body.size) 2 = some (B2 (sumI src dst proto ttl id body.size)) := num2 (k + 37) _
  have w1 : wrap64 (65535 - sumB (headI src dst proto ttl id body.size 0)) = sumI src dst proto ttl id body.size := wrap64_id (by omega) (by omega)
  have e2 : putI src dst proto ttl id body = B1 69 ++ B1 0 ++ B2 (20 + (body.size : Int)) ++ B2 id ++ (B1 64 ++ B1 0) ++ B1 ttl ++ B1 proto ++ B2 (sumI src dst proto ttl id body.size) ++ (B4 src ++ B4 dst) ++ body := by
    simp only [putI, headI, ByteArray.append_assoc]
  rw [wrap64_id (n := 20 + (body.size : Int)) (by omega) (by omega), n1, n2, n3, n4, n5, n6, B1_lit69, B1_lit64, B2_lit0, e2]
  generalize hS : sumI src dst proto ttl id body.size = S at *
  generalize headI src dst proto ttl id body.size 0 = HH at *
  generalize hb20 : B2 (20 + (body.size : Int)) = b20 at *
  have z20 : b20.size = 2 := by rw [← hb20]; exact B2_size _
  repeat (first | rw [Option.bind_some] | rw [if_pos (by simp only [ByteArray.size_append, B1_size, B2_size, B4_size, z20]; omega)] | rw [e, s1] | rw [w1, n7])
theorem PutIp_bad (k : Nat) {src dst proto ttl id : Int} {body : ByteArray} (h : mayI src dst proto ttl id body = false) :
    wharfageref1_PutIp.f k src dst proto ttl id body = some ((⟨#[]⟩ : ByteArray), 200) := by
  unfold wharfageref1_PutIp.f
  rw [IpMay_eq, h]
  simp

abbrev IpR := Int × Int × Int × Int × Int × ByteArray × Int × Int
def badI : IpR := (0, 0, 0, 0, 0, (⟨#[]⟩ : ByteArray), 1, 200)
def getI (s : ByteArray) : IpR :=
  if s.size < 20 ∨ 512 < s.size then badI
  else if bt s 0 / 16 ≠ 4 ∨ bt s 0 % 16 < 5 ∨ (s.size : Int) < 4 * (bt s 0 % 16) then badI
  else if N2 s 2 ≠ s.size then badI
  else if sumB (s.extract 0 (4 * (bt s 0 % 16)).toNat) ≠ 65535 then badI
  else if 5 < bt s 0 % 16 then (0, 0, 0, 0, 0, (⟨#[]⟩ : ByteArray), 3, 0)
  else if Go.bits .and .i64 (N2 s 6) 49151 ≠ 0 then (0, 0, 0, 0, 0, (⟨#[]⟩ : ByteArray), 2, 0)
  else (N4 s 12, N4 s 16, bt s 9, bt s 8, N2 s 4, s.extract 20 s.size, 0, 0)
theorem andNot_eq (x : Int) (h0 : 0 ≤ x) (h1 : x < 65536) : Go.bits .andNot .i64 x 16384 = Go.bits .and .i64 x 49151 := by
  obtain ⟨n, rfl⟩ := Int.eq_ofNat_of_zero_le h0
  show IntKind.i64.wrap ((BitVec.ofInt 64 (n : Int) &&& ~~~ (BitVec.ofInt 64 16384)).toNat : Int) = IntKind.i64.wrap ((BitVec.ofInt 64 (n : Int) &&& BitVec.ofInt 64 49151).toNat : Int)
  congr 2
  have e : BitVec.ofInt 64 (n : Int) &&& ~~~ (BitVec.ofInt 64 16384) = BitVec.ofInt 64 (n : Int) &&& BitVec.ofInt 64 49151 := by
    apply BitVec.eq_of_getLsbD_eq
    intro i hi
    simp only [BitVec.getLsbD_and, BitVec.getLsbD_not]
    by_cases c : i < 16
    · have : (decide (i < 64) && !(BitVec.ofInt 64 16384).getLsbD i) = (BitVec.ofInt 64 49151).getLsbD i := by
        have key : ∀ j : Fin 16, (decide (j.val < 64) && !(BitVec.ofInt 64 16384).getLsbD j.val) = (BitVec.ofInt 64 49151).getLsbD j.val := by decide
        exact key ⟨i, c⟩
      rw [this]
    · have z : (BitVec.ofInt 64 (n : Int)).getLsbD i = false := by
        rw [BitVec.ofInt_natCast, BitVec.getLsbD_ofNat]
        have : n.testBit i = false := Nat.testBit_lt_two_pow (Nat.lt_of_lt_of_le (show n < 2 ^ 16 by omega) (Nat.pow_le_pow_right (by decide) (by omega)))
        simp [this]
      rw [z]; simp
  rw [e]
theorem low4 (b : Int) (h0 : 0 ≤ b) (h1 : b ≤ 255) : Go.bits .and .u8 b 15 = b % 16 := u8_and15 b h0 (by omega)
end Go.Proofs.Ytobhmonmeocfmaa.Pure
namespace Go.Proofs.Ytobhmonmeocfmaa.Pure
set_option linter.unusedSimpArgs false
set_option linter.unusedVariables false
open Go Go.RowKit Go.Proofs.Ytobhmonmeocfmaa.PA Go.Proofs.YtobhmonmeocfmaaW.PrintWords Go.Proofs.YtobhmonmeocfmaaW.PrintLast Go.Proofs.YtobhmonmeocfmaaW.PrintMore Go.Proofs.Ytobhmonmeocfmaa.Wh
theorem ext_list {a b : ByteArray} (h : a.data.toList = b.data.toList) : a = b := ByteArray.ext (Array.ext' h)
theorem nums_append' (a b : List Int) : strOfNums a ++ strOfNums b = strOfNums (a ++ b) := by
  apply ext_list
  simp [strOfNums_data, ByteArray.data_append]
theorem bt_get (s : ByteArray) (i : Nat) : bt s i = (bytesOf s).getD i 0 := by
  have := rd_bytesOf s (i : Int)
  rw [← this]; unfold rd; simp
theorem bytesOf_append (a b : ByteArray) : bytesOf (a ++ b) = bytesOf a ++ bytesOf b := by
  simp [bytesOf, ByteArray.data_append]
theorem bytesOf_nums (L : List Int) (h : ∀ x ∈ L, 0 ≤ x ∧ x ≤ 255) : bytesOf (strOfNums L) = L := by
  unfold bytesOf
  rw [strOfNums_data, List.map_map]
  conv => rhs; rw [← List.map_id L]
  apply List.map_congr_left
  intro x hx
  have := h x hx
  simp
  omega
theorem bytesOf_inj {a b : ByteArray} (h : bytesOf a = bytesOf b) : a = b := by
  apply ext_list
  have inj : ∀ x y : UInt8, ((x.toNat : Nat) : Int) = (y.toNat : Int) → x = y := fun x y e => UInt8.toNat_inj.mp (Int.ofNat.inj e)
  have : ∀ l m : List UInt8, (l.map fun b => ((b.toNat : Nat) : Int)) = (m.map fun b => ((b.toNat : Nat) : Int)) → l = m := by
    intro l
    induction l with
    | nil => intro m e; cases m with
      | nil => rfl
      | cons _ _ => cases e
    | cons x l ih => intro m e; cases m with
      | nil => cases e
      | cons y m =>
        simp only [List.map_cons, List.cons.injEq] at e
        rw [inj x y e.1, ih m e.2]
  exact this _ _ h
theorem bt_left (a b : ByteArray) (i : Nat) (h : i < a.size) : bt (a ++ b) i = bt a i := by
  rw [bt_get, bt_get, bytesOf_append]
  simp only [List.getD_eq_getElem?_getD]
  rw [List.getElem?_append_left (by rw [bytesOf_length]; exact h)]
theorem bt_right (a b : ByteArray) (i : Nat) (h : a.size ≤ i) : bt (a ++ b) i = bt b ((i - a.size : Nat) : Int) := by
  rw [bt_get, bt_get, bytesOf_append]
  simp only [List.getD_eq_getElem?_getD]
  rw [List.getElem?_append_right (by rw [bytesOf_length]; exact h), bytesOf_length]
def headL (src dst proto ttl id : Int) (n : Nat) (chk : Int) : List Int :=
  [69, 0, (20 + (n : Int)) / 256 % 256, (20 + (n : Int)) % 256, id / 256 % 256, id % 256, 64, 0, ttl % 256, proto % 256, chk / 256 % 256, chk % 256,
    src / 16777216 % 256, src / 65536 % 256, src / 256 % 256, src % 256, dst / 16777216 % 256, dst / 65536 % 256, dst / 256 % 256, dst % 256]
theorem headI_nums (src dst proto ttl id : Int) (n : Nat) (chk : Int) : headI src dst proto ttl id n chk = strOfNums (headL src dst proto ttl id n chk) := by
  unfold headI B1 B2 B4
  simp only [nums_append', List.cons_append, List.nil_append]
  rfl
theorem headL_range (src dst proto ttl id : Int) (n : Nat) (chk : Int) : ∀ x ∈ headL src dst proto ttl id n chk, 0 ≤ x ∧ x ≤ 255 := by
  intro x hx
  simp only [headL, List.mem_cons, List.not_mem_nil, or_false] at hx
  omega
theorem bytesOf_head (src dst proto ttl id : Int) (n : Nat) (chk : Int) : bytesOf (headI src dst proto ttl id n chk) = headL src dst proto ttl id n chk := by
  rw [headI_nums, bytesOf_nums _ (headL_range _ _ _ _ _ _ _)]
theorem bytesOf_put (src dst proto ttl id : Int) (body : ByteArray) : bytesOf (putI src dst proto ttl id body) = headL src dst proto ttl id body.size (sumI src dst proto ttl id body.size) ++ bytesOf body := by
  rw [putI, bytesOf_append, bytesOf_head]
theorem bt_put (src dst proto ttl id : Int) (body : ByteArray) (i : Nat) (h : i < 20) : bt (putI src dst proto ttl id body) i = (headL src dst proto ttl id body.size (sumI src dst proto ttl id body.size)).getD i 0 := by
  rw [putI, bt_left _ _ _ (by rw [headI_size]; exact h), bt_get, bytesOf_head]
theorem put_drop (src dst proto ttl id : Int) (body : ByteArray) : (putI src dst proto ttl id body).extract 20 (putI src dst proto ttl id body).size = body := by
  apply ByteArray.extract_append_eq_right
  · rw [headI_size]
  · rw [putI_size, headI_size]
theorem put_take (src dst proto ttl id : Int) (body : ByteArray) : (putI src dst proto ttl id body).extract 0 20 = headI src dst proto ttl id body.size (sumI src dst proto ttl id body.size) := by
  apply ByteArray.extract_append_eq_left
  rw [headI_size]
/-- The sum with its own sum in its place is whole. -/
theorem foldS_whole (r c : Int) (h0 : 0 < r) (hc : c = 65535 - foldS r) : foldS (r + c) = 65535 := by
  subst hc
  unfold foldS
  rw [if_neg (show ¬ r = 0 by omega)]
  rw [if_neg (by omega)]
  omega
theorem raw_head (src dst proto ttl id : Int) (n : Nat) (chk : Int) : rawL (headL src dst proto ttl id n chk) = rawL (headL src dst proto ttl id n 0) + (chk / 256 % 256 * 256 + chk % 256) := by
  simp only [headL, rawL]
  omega
theorem raw_head_pos (src dst proto ttl id : Int) (n : Nat) : 0 < rawL (headL src dst proto ttl id n 0) := by
  have := headL_range src dst proto ttl id n 0
  simp only [headL, List.mem_cons, List.not_mem_nil, or_false, forall_eq_or_imp, forall_eq] at this
  simp only [headL, rawL]
  omega
theorem sum_put (src dst proto ttl id : Int) (n : Nat) : sumB (headI src dst proto ttl id n (sumI src dst proto ttl id n)) = 65535 := by
  have hr := sumI_range src dst proto ttl id n
  unfold sumB
  rw [bytesOf_head, raw_head, show sumI src dst proto ttl id n / 256 % 256 * 256 + sumI src dst proto ttl id n % 256 = sumI src dst proto ttl id n by omega]
  apply foldS_whole _ _ (raw_head_pos _ _ _ _ _ _)
  unfold sumI sumB
  rw [bytesOf_head]
theorem N2_put (src dst proto ttl id : Int) (body : ByteArray) (i : Nat) (h : i + 1 < 20) : N2 (putI src dst proto ttl id body) i =
    (headL src dst proto ttl id body.size (sumI src dst proto ttl id body.size)).getD i 0 * 256 + (headL src dst proto ttl id body.size (sumI src dst proto ttl id body.size)).getD (i + 1) 0 := by
  unfold N2
  rw [bt_put _ _ _ _ _ _ i (by omega), bt_put _ _ _ _ _ _ (i + 1) h]
theorem N4_put (src dst proto ttl id : Int) (body : ByteArray) (i : Nat) (h : i + 3 < 20) : N4 (putI src dst proto ttl id body) i =
    (((headL src dst proto ttl id body.size (sumI src dst proto ttl id body.size)).getD i 0 * 256 + (headL src dst proto ttl id body.size (sumI src dst proto ttl id body.size)).getD (i + 1) 0) * 256 + (headL src dst proto ttl id body.size (sumI src dst proto ttl id body.size)).getD (i + 2) 0) * 256 + (headL src dst proto ttl id body.size (sumI src dst proto ttl id body.size)).getD (i + 3) 0 := by
  unfold N4
  rw [bt_put _ _ _ _ _ _ i (by omega), bt_put _ _ _ _ _ _ (i + 1) (by omega), bt_put _ _ _ _ _ _ (i + 2) (by omega), bt_put _ _ _ _ _ _ (i + 3) h]
theorem and_lit : Go.bits .and .i64 16384 49151 = 0 := by decide
/-- What is put is told again. -/
theorem get_put {src dst proto ttl id : Int} {body : ByteArray} (h : mayI src dst proto ttl id body = true) : getI (putI src dst proto ttl id body) = (src, dst, proto, ttl, id, body, 0, 0) := by
  obtain ⟨h1, h2, h3, h4, h5, hb⟩ := mayI_parts h
  have b0 : bt (putI src dst proto ttl id body) 0 = 69 := bt_put _ _ _ _ _ _ 0 (by decide)
  have b8 : bt (putI src dst proto ttl id body) 8 = ttl % 256 := bt_put _ _ _ _ _ _ 8 (by decide)
  have b9 : bt (putI src dst proto ttl id body) 9 = proto % 256 := bt_put _ _ _ _ _ _ 9 (by decide)
  have n2 : N2 (putI src dst proto ttl id body) 2 = (20 + (body.size : Int)) / 256 % 256 * 256 + (20 + (body.size : Int)) % 256 := N2_put _ _ _ _ _ _ 2 (by decide)
  have n4 : N2 (putI src dst proto ttl id body) 4 = id / 256 % 256 * 256 + id % 256 := N2_put _ _ _ _ _ _ 4 (by decide)
  have n6 : N2 (putI src dst proto ttl id body) 6 = 64 * 256 + 0 := N2_put _ _ _ _ _ _ 6 (by decide)
  have n12 : N4 (putI src dst proto ttl id body) 12 = ((src / 16777216 % 256 * 256 + src / 65536 % 256) * 256 + src / 256 % 256) * 256 + src % 256 := N4_put _ _ _ _ _ _ 12 (by decide)
  have n16 : N4 (putI src dst proto ttl id body) 16 = ((dst / 16777216 % 256 * 256 + dst / 65536 % 256) * 256 + dst / 256 % 256) * 256 + dst % 256 := N4_put _ _ _ _ _ _ 16 (by decide)
  have hsz := putI_size src dst proto ttl id body
  unfold getI
  rw [b0, if_neg (by omega), if_neg (by omega), if_neg (by rw [n2, hsz]; omega), show (4 * ((69 : Int) % 16)).toNat = 20 from rfl, put_take, sum_put, if_neg (by decide), if_neg (by decide), n6, show (64 * 256 + 0 : Int) = 16384 from rfl, and_lit, if_neg (by decide), put_drop, b8, b9, n4, n12, n16]
  simp only [Prod.mk.injEq, and_true]
  omega
/-- Unlike packets have unlike bytes. -/
theorem put_inj {src dst proto ttl id : Int} {body : ByteArray} {src' dst' proto' ttl' id' : Int} {body' : ByteArray} (h : mayI src dst proto ttl id body = true) (h' : mayI src' dst' proto' ttl' id' body' = true)
    (e : putI src dst proto ttl id body = putI src' dst' proto' ttl' id' body') : src = src' ∧ dst = dst' ∧ proto = proto' ∧ ttl = ttl' ∧ id = id' ∧ body = body' := by
  have e1 := get_put h
  rw [e, get_put h'] at e1
  simp only [Prod.mk.injEq, and_true] at e1
  exact ⟨e1.1.symm, e1.2.1.symm, e1.2.2.1.symm, e1.2.2.2.1.symm, e1.2.2.2.2.1.symm, e1.2.2.2.2.2.symm⟩
end Go.Proofs.Ytobhmonmeocfmaa.Pure
namespace Go.Proofs.Ytobhmonmeocfmaa.Pure
set_option linter.unusedSimpArgs false
set_option linter.unusedVariables false
open Go Go.RowKit Go.Proofs.Ytobhmonmeocfmaa.PA Go.Proofs.YtobhmonmeocfmaaW.PrintWords Go.Proofs.YtobhmonmeocfmaaW.PrintLast Go.Proofs.YtobhmonmeocfmaaW.PrintMore Go.Proofs.Ytobhmonmeocfmaa.Wh
theorem toList_iff (a b : ByteArray) : a.toList = b.toList ↔ a = b := by
  rw [ByteArray.toList_eq, ByteArray.toList_eq]
  exact ⟨fun h => ext_list h, fun h => by rw [h]⟩
theorem toList_beq (a b : ByteArray) : (a.toList == b.toList) = decide (a = b) := by
  rw [Bool.eq_iff_iff, beq_iff_eq, toList_iff, decide_eq_true_iff]
theorem empty_toList : (⟨#[]⟩ : ByteArray).toList = [] := by decide +kernel
theorem num0 (x : Int) : wharfagelaw0_Num.f x = some x := rfl
theorem beq_refl' (a : ByteArray) : (a.toList == a.toList) = true := by rw [beq_iff_eq]
theorem or_i64 (i : Nat) (hi : i ≤ 62) (x y : Int) (h0 : 0 ≤ x) (h1 : x % 2 ^ i = 0) (h2 : x < 4294967296) (h3 : 0 ≤ y) (h4 : y < 2 ^ i) (h5 : y < 4294967296) : Go.bits .or .i64 x y = x + y :=
  bits_join .i64 32 (by decide) (fun n h0 h1 => by rw [i64_wrap, wrap64_id (by omega) (by omega)]) i x y h0 h1 (by omega) h3 h4 (by omega)
theorem or2 (s : ByteArray) (i j : Int) : Go.bits .or .i64 (wrap64 (wrap64 (bt s i) * 256)) (wrap64 (bt s j)) = bt s i * 256 + bt s j := by
  have a := bt_range s i; have b := bt_range s j
  rw [wrap64_id (n := bt s i) (by omega) (by omega), wrap64_id (n := bt s i * 256) (by omega) (by omega), wrap64_id (n := bt s j) (by omega) (by omega)]
  exact or_i64 8 (by decide) _ _ (by omega) (by omega) (by omega) (by omega) (by omega) (by omega)
theorem or4 (s : ByteArray) (i j l m : Int) : Go.bits .or .i64 (Go.bits .or .i64 (Go.bits .or .i64 (wrap64 (wrap64 (bt s i) * 16777216)) (wrap64 (wrap64 (bt s j) * 65536))) (wrap64 (wrap64 (bt s l) * 256))) (wrap64 (bt s m)) = ((bt s i * 256 + bt s j) * 256 + bt s l) * 256 + bt s m := by
  have a := bt_range s i; have b := bt_range s j; have c := bt_range s l; have d := bt_range s m
  rw [wrap64_id (n := bt s i) (by omega) (by omega), wrap64_id (n := bt s i * 16777216) (by omega) (by omega), wrap64_id (n := bt s j) (by omega) (by omega), wrap64_id (n := bt s j * 65536) (by omega) (by omega), wrap64_id (n := bt s l) (by omega) (by omega), wrap64_id (n := bt s l * 256) (by omega) (by omega), wrap64_id (n := bt s m) (by omega) (by omega)]
  rw [or_i64 24 (by decide) (bt s i * 16777216) (bt s j * 65536) (by omega) (by omega) (by omega) (by omega) (by omega) (by omega)]
  rw [or_i64 16 (by decide) (bt s i * 16777216 + bt s j * 65536) (bt s l * 256) (by omega) (by omega) (by omega) (by omega) (by omega) (by omega)]
  rw [or_i64 8 (by decide) _ (bt s m) (by omega) (by omega) (by omega) (by omega) (by omega) (by omega)]
  omega
theorem bt_at {t : ByteArray} {L : List Int} (h : bytesOf t = L) (i : Nat) : bt t i = L.getD i 0 := by rw [bt_get, h]
theorem bytesOf_ex (s : ByteArray) (a b : Nat) : bytesOf (s.extract a b) = ((bytesOf s).drop a).take (b - a) := by
  unfold bytesOf
  rw [ByteArray.data_extract, Array.toList_extract, List.extract_eq_take_drop, List.map_take, List.map_drop]
theorem ex_ex (s : ByteArray) (a b : Nat) (h : a + b ≤ s.size) : (s.extract a s.size).extract b (s.extract a s.size).size = s.extract (a + b) s.size := by
  apply bytesOf_inj
  have hl := bytesOf_length s
  rw [bytesOf_ex, bytesOf_ex, bytesOf_ex, ByteArray.size_extract, Nat.min_self, List.take_of_length_le (i := s.size - a) (by rw [List.length_drop, hl]; exact Nat.le_refl _), List.drop_drop, Nat.sub_sub]
theorem cut_eq (t : ByteArray) (a b : Nat) (l : List UInt8) (L : List Int) (h : ((bytesOf t).drop a).take (b - a) = L) (hl : L = l.map fun x => (x.toNat : Int)) : (t.extract a b).toList = l := by
  have e : bytesOf (t.extract a b) = bytesOf ⟨l.toArray⟩ := by
    have h2 : bytesOf (t.extract a b) = ((bytesOf t).drop a).take (b - a) := by
      unfold bytesOf
      rw [ByteArray.data_extract, Array.toList_extract, List.extract_eq_take_drop, List.map_take, List.map_drop]
    rw [h2, h, hl]; rfl
  rw [bytesOf_inj e, ByteArray.toList_eq]
end Go.Proofs.Ytobhmonmeocfmaa.Pure
