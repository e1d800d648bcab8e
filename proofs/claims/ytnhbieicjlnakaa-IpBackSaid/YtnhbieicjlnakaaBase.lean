/- Plain lemmas on the bits, shifts and wraps of whole numbers. -/
import Derived.Laws.BitsLemmas
import Derived.RowKit
namespace Go.Proofs.Ytnhbieicjlnakaa.Wh
set_option linter.unusedSimpArgs false
set_option linter.unusedVariables false
open Go Go.RowKit

theorem i64_wrap (n : Int) : IntKind.i64.wrap n = wrap64 n := by rw [IntKind.wrap_i64]; rfl
theorem wrap64_id {n : Int} (h0 : -9223372036854775808 ≤ n) (h1 : n ≤ 9223372036854775807) : wrap64 n = n := by unfold wrap64; omega
theorem ofInt_toNat64 (x : Int) : (BitVec.ofInt 64 x).toNat = (x % 18446744073709551616).toNat := by
  rw [BitVec.toNat_ofInt]; rfl
theorem and_mask_i64 (i : Nat) (hi : i ≤ 62) (x : Int) : bits .and .i64 x (2 ^ i - 1) = x % 2 ^ i := by
  have hp : (2:Nat) ^ i ≤ 2 ^ 62 := Nat.pow_le_pow_right (by decide) hi
  have hpos : 0 < 2 ^ i := Nat.two_pow_pos i
  have hc : ((2 : Int) ^ i - 1) = ((2 ^ i - 1 : Nat) : Int) := by
    rw [Int.natCast_sub hpos]; simp
  have hlt : 2 ^ i - 1 < 2 ^ 64 := by omega
  have e1 : (BitVec.ofInt 64 x &&& BitVec.ofInt 64 ((2 ^ i - 1 : Nat) : Int)).toNat = (x % 18446744073709551616).toNat % 2 ^ i := by
    rw [BitVec.toNat_and, ofInt_toNat64, BitVec.ofInt_natCast, BitVec.toNat_ofNat, Nat.mod_eq_of_lt hlt, Nat.and_two_pow_sub_one_eq_mod]
  have e2 : (((x % 18446744073709551616).toNat % 2 ^ i : Nat) : Int) = x % 2 ^ i := by
    rw [Int.natCast_emod, Int.toNat_of_nonneg (Int.emod_nonneg _ (by decide))]
    have hd : ((2 ^ i : Nat) : Int) ∣ 18446744073709551616 := by
      have h64 : (2:Nat) ^ i ∣ 2 ^ 64 := Nat.pow_dvd_pow 2 (by omega)
      exact Int.natCast_dvd_natCast.mpr h64
    rw [Int.emod_emod_of_dvd _ hd]; simp
  have e3 : 0 ≤ x % 2 ^ i ∧ x % 2 ^ i < 2 ^ 62 := by
    have hpi : (0:Int) < 2 ^ i := by exact_mod_cast hpos
    refine ⟨Int.emod_nonneg _ (by omega), ?_⟩
    have := Int.emod_lt_of_pos x hpi
    have hp' : (2:Int) ^ i ≤ 2 ^ 62 := by exact_mod_cast hp
    omega
  show IntKind.i64.wrap ((BitVec.ofInt 64 x &&& BitVec.ofInt 64 (2 ^ i - 1)).toNat : Int) = _
  rw [hc, e1, e2, i64_wrap, wrap64_id (by omega) (by omega)]
theorem and_1023 (x : Int) : bits .and .i64 x 1023 = x % 1024 := and_mask_i64 10 (by decide) x
theorem and_255 (x : Int) : bits .and .i64 x 255 = x % 256 := and_mask_i64 8 (by decide) x
theorem and_127 (x : Int) : bits .and .i64 x 127 = x % 128 := and_mask_i64 7 (by decide) x
theorem and_65535 (x : Int) : bits .and .i64 x 65535 = x % 65536 := and_mask_i64 16 (by decide) x
theorem and_63 (x : Int) : bits .and .i64 x 63 = x % 64 := and_mask_i64 6 (by decide) x
theorem and_1 (x : Int) : bits .and .i64 x 1 = x % 2 := and_mask_i64 1 (by decide) x
theorem u64_wrap (n : Int) : IntKind.u64.wrap n = n % 18446744073709551616 := by simp [IntKind.wrap, IntKind.bits, IntKind.signed]
theorem wf_i64 {n : Int} (h : (Lit.int .i64 n).wf = true) : -9223372036854775808 ≤ n ∧ n ≤ 9223372036854775807 := by
  simpa [Lit.wf, IntKind.min, IntKind.max, IntKind.bits, IntKind.signed] using h
theorem ite_to {α : Type} {c : Prop} [Decidable c] {a b r : α} (h : c → a = r) (k : ¬ c → b = r) : (if c then a else b) = r := by
  by_cases e : c
  · rw [if_pos e]; exact h e
  · rw [if_neg e]; exact k e
theorem or_byte (x b : Int) (h0 : 0 ≤ x) (h1 : x < 9007199254740992) (b0 : 0 ≤ b) (b1 : b ≤ 255) : bits .or .i64 (x * 256) b = x * 256 + b :=
  bits_join .i64 62 (by decide) (fun n h0 h1 => by rw [i64_wrap, wrap64_id (by omega) (by omega)]) 8 _ _ (by omega) (by omega) (by omega) (by omega) (by omega) (by omega)
end Go.Proofs.Ytnhbieicjlnakaa.Wh
