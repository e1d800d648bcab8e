/- The mixing of 32 bits is one to one in each of its two arguments: plain numbers alone. -/
import Derived.Test.YtdpkfpbdadloaaaBase
namespace Go.Proofs.Ytdpkfpbdadloaaa.Wh
open Go Go.RowKit

theorem mul_back (m mi q : Int) (e : m * mi = q * 4294967296 + 1) (a : Int) (ha : 0 ≤ a ∧ a < 4294967296) : ((a * m) % 4294967296 * mi) % 4294967296 = a := by
  rw [Int.mul_emod, Int.emod_emod, ← Int.mul_emod, Int.mul_assoc, e, Int.mul_add, Int.mul_one, ← Int.mul_assoc, Int.add_comm, Int.add_mul_emod_self_right]
  omega
theorem mul_inj (m mi q : Int) (e : m * mi = q * 4294967296 + 1) (a b : Int) (ha : 0 ≤ a ∧ a < 4294967296) (hb : 0 ≤ b ∧ b < 4294967296) (h : (a * m) % 4294967296 = (b * m) % 4294967296) : a = b := by
  rw [← mul_back m mi q e a ha, h, mul_back m mi q e b hb]
theorem u32_wrap (n : Int) : IntKind.u32.wrap n = n % 4294967296 := IntKind.wrap_u32 n
theorem bits_xor_u32 (a b : Nat) (ha : a < 2 ^ 32) (hb : b < 2 ^ 32) : bits .xor .u32 a b = ((a ^^^ b : Nat) : Int) := by
  show IntKind.u32.wrap ((BitVec.ofInt 32 (a : Int) ^^^ BitVec.ofInt 32 (b : Int)).toNat : Int) = _
  rw [BitVec.ofInt_natCast, BitVec.ofInt_natCast, BitVec.toNat_xor, BitVec.toNat_ofNat, BitVec.toNat_ofNat, Nat.mod_eq_of_lt ha, Nat.mod_eq_of_lt hb, u32_wrap]
  have := Nat.xor_lt_two_pow ha hb
  omega
theorem xor_swap {a b c d : Nat} (h : a ^^^ b = c ^^^ d) : a ^^^ c = b ^^^ d := by
  apply Nat.eq_of_testBit_eq
  intro i
  have e := congrArg (fun x => x.testBit i) h
  simp only [Nat.testBit_xor] at e ⊢
  revert e
  cases a.testBit i <;> cases b.testBit i <;> cases c.testBit i <;> cases d.testBit i <;> simp
theorem xor_zero_eq {a b : Nat} (h : a ^^^ b = 0) : a = b := by
  apply Nat.eq_of_testBit_eq
  intro i
  have e := congrArg (fun x => x.testBit i) h
  simp only [Nat.testBit_xor, Nat.zero_testBit] at e
  revert e
  cases a.testBit i <;> cases b.testBit i <;> simp
theorem xor_left_inj' {a b c : Nat} (h : a ^^^ c = b ^^^ c) : a = b := by
  have := xor_swap h
  rw [Nat.xor_self] at this
  exact xor_zero_eq this
theorem xor_shift_inj (s : Nat) (hs : 0 < s) (x y : Nat) (h : x ^^^ (x / 2 ^ s) = y ^^^ (y / 2 ^ s)) : x = y := by
  have e := xor_swap h
  rw [← Nat.xor_div_two_pow] at e
  rcases Nat.eq_zero_or_pos (x ^^^ y) with h0 | h0
  · exact xor_zero_eq h0
  · have := Nat.div_lt_self h0 (show 1 < 2 ^ s from Nat.one_lt_two_pow (by omega))
    omega
def In32 (a : Int) : Prop := 0 ≤ a ∧ a < 4294967296
theorem xor_in {a b : Int} (ha : In32 a) (hb : In32 b) : In32 (bits .xor .u32 a b) := by
  obtain ⟨n, rfl⟩ := Int.eq_ofNat_of_zero_le ha.1
  obtain ⟨m, rfl⟩ := Int.eq_ofNat_of_zero_le hb.1
  have h1 := ha.2; have h2 := hb.2
  rw [bits_xor_u32 n m (by omega) (by omega)]
  have := Nat.xor_lt_two_pow (n := 32) (show n < 2 ^ 32 by omega) (show m < 2 ^ 32 by omega)
  exact ⟨by omega, by omega⟩
theorem xor_inj_l {a b c : Int} (ha : In32 a) (hb : In32 b) (hc : In32 c) (h : bits .xor .u32 a c = bits .xor .u32 b c) : a = b := by
  obtain ⟨n, rfl⟩ := Int.eq_ofNat_of_zero_le ha.1
  obtain ⟨m, rfl⟩ := Int.eq_ofNat_of_zero_le hb.1
  obtain ⟨k, rfl⟩ := Int.eq_ofNat_of_zero_le hc.1
  have h1 := ha.2; have h2 := hb.2; have h3 := hc.2
  rw [bits_xor_u32 n k (by omega) (by omega), bits_xor_u32 m k (by omega) (by omega)] at h
  have := xor_left_inj' (Int.ofNat.inj h)
  omega
theorem xor_inj_r {a b c : Int} (ha : In32 a) (hb : In32 b) (hc : In32 c) (h : bits .xor .u32 c a = bits .xor .u32 c b) : a = b := by
  obtain ⟨n, rfl⟩ := Int.eq_ofNat_of_zero_le ha.1
  obtain ⟨m, rfl⟩ := Int.eq_ofNat_of_zero_le hb.1
  obtain ⟨k, rfl⟩ := Int.eq_ofNat_of_zero_le hc.1
  have h1 := ha.2; have h2 := hb.2; have h3 := hc.2
  rw [bits_xor_u32 k n (by omega) (by omega), bits_xor_u32 k m (by omega) (by omega), Nat.xor_comm k, Nat.xor_comm k] at h
  have := xor_left_inj' (Int.ofNat.inj h)
  omega
/-- 'h ^ h>>16'. -/
def sh16 (h : Int) : Int := bits .xor .u32 h (h / 65536)
/-- 'h ^ h>>13'. -/
def sh13 (h : Int) : Int := bits .xor .u32 h (h / 8192)
theorem sh16_in {a : Int} (h : In32 a) : In32 (sh16 a) := xor_in h ⟨by have := h.1; omega, by have := h.2; omega⟩
theorem sh13_in {a : Int} (h : In32 a) : In32 (sh13 a) := xor_in h ⟨by have := h.1; omega, by have := h.2; omega⟩
theorem sh16_inj {a b : Int} (ha : In32 a) (hb : In32 b) (h : sh16 a = sh16 b) : a = b := by
  obtain ⟨n, rfl⟩ := Int.eq_ofNat_of_zero_le ha.1
  obtain ⟨m, rfl⟩ := Int.eq_ofNat_of_zero_le hb.1
  have h1 := ha.2; have h2 := hb.2
  unfold sh16 at h
  rw [show ((n : Int) / 65536) = ((n / 65536 : Nat) : Int) by omega, show ((m : Int) / 65536) = ((m / 65536 : Nat) : Int) by omega, bits_xor_u32 n _ (by omega) (by omega), bits_xor_u32 m _ (by omega) (by omega)] at h
  have := xor_shift_inj 16 (by decide) n m (Int.ofNat.inj h)
  omega
theorem sh13_inj {a b : Int} (ha : In32 a) (hb : In32 b) (h : sh13 a = sh13 b) : a = b := by
  obtain ⟨n, rfl⟩ := Int.eq_ofNat_of_zero_le ha.1
  obtain ⟨m, rfl⟩ := Int.eq_ofNat_of_zero_le hb.1
  have h1 := ha.2; have h2 := hb.2
  unfold sh13 at h
  rw [show ((n : Int) / 8192) = ((n / 8192 : Nat) : Int) by omega, show ((m : Int) / 8192) = ((m / 8192 : Nat) : Int) by omega, bits_xor_u32 n _ (by omega) (by omega), bits_xor_u32 m _ (by omega) (by omega)] at h
  have := xor_shift_inj 13 (by decide) n m (Int.ofNat.inj h)
  omega
def mixTail (h : Int) : Int := sh16 ((sh13 ((sh16 h * 2246822507) % 4294967296) * 3266489909) % 4294967296)
def mixI (k x : Int) : Int := mixTail (bits .xor .u32 ((k + 2654435769) % 4294967296) x)
theorem mod_in (a : Int) : In32 (a % 4294967296) := ⟨by omega, by omega⟩
theorem mixTail_in (h : Int) : In32 (mixTail h) := sh16_in (mod_in _)
theorem mixI_in (k x : Int) : In32 (mixI k x) := mixTail_in _
theorem mixTail_inj {a b : Int} (ha : In32 a) (hb : In32 b) (h : mixTail a = mixTail b) : a = b := by
  unfold mixTail at h
  have h1 := sh16_inj (mod_in _) (mod_in _) h
  have h2 := mul_inj 3266489909 2127672349 1618177690 (by decide) _ _ (sh13_in (mod_in _)) (sh13_in (mod_in _)) h1
  have h3 := sh13_inj (mod_in _) (mod_in _) h2
  have h4 := mul_inj 2246822507 2781581891 1455126516 (by decide) _ _ (sh16_in ha) (sh16_in hb) h3
  exact sh16_inj ha hb h4
theorem mixI_inj_x {k x y : Int} (hx : In32 x) (hy : In32 y) (h : mixI k x = mixI k y) : x = y :=
  xor_inj_r hx hy (mod_in _) (mixTail_inj (xor_in (mod_in _) hx) (xor_in (mod_in _) hy) h)
theorem mixI_inj_k {k l x : Int} (hk : In32 k) (hl : In32 l) (hx : In32 x) (h : mixI k x = mixI l x) : k = l := by
  have := xor_inj_l (mod_in _) (mod_in _) hx (mixTail_inj (xor_in (mod_in _) hx) (xor_in (mod_in _) hx) h)
  have h1 := hk.1; have h2 := hk.2; have h3 := hl.1; have h4 := hl.2
  omega
end Go.Proofs.Ytdpkfpbdadloaaa.Wh
