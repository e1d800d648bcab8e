import Derived.Test.YthhlflmjikdgcaaPB
import Derived.Test.YthhlflmjikdgcaaAll
set_option linter.unusedVariables false
set_option linter.unusedSimpArgs false
namespace Go.Proofs.Ythhlflmjikdgcaa.Pu
open Go Go.RowKit Go.Proofs.Ythhlflmjikdgcaa.Sv Go.Proofs.Ythhlflmjikdgcaa.Lf
theorem wu32 (n : Int) : IntKind.u32.wrap n = n % 4294967296 := by simp [IntKind.wrap, IntKind.bits, IntKind.signed]
theorem xor32 (a b : Nat) (ha : a < 4294967296) (hb : b < 4294967296) : bXor .u32 (a : Int) (b : Int) = ((a ^^^ b : Nat) : Int) ∧ a ^^^ b < 4294967296 := by
  have hx : (a ^^^ b) < 4294967296 := Nat.xor_lt_two_pow (n := 32) ha hb
  refine ⟨?_, hx⟩
  show IntKind.u32.wrap ((BitVec.ofInt 32 (a : Int) ^^^ BitVec.ofInt 32 (b : Int)).toNat : Int) = _
  rw [BitVec.toNat_xor, BitVec.ofInt_natCast, BitVec.ofInt_natCast, BitVec.toNat_ofNat, BitVec.toNat_ofNat, Nat.mod_eq_of_lt (show a < 2 ^ 32 from ha), Nat.mod_eq_of_lt (show b < 2 ^ 32 from hb), wu32]
  omega
def X (s x : Nat) : Nat := x ^^^ (x >>> s)
theorem X_lt {s x : Nat} (h : x < 4294967296) : X s x < 4294967296 := by
  unfold X
  refine Nat.xor_lt_two_pow (n := 32) h (Nat.lt_of_le_of_lt ?_ h)
  rw [Nat.shiftRight_eq_div_pow]
  exact Nat.div_le_self _ _
def mixN (k x : Nat) : Nat := X 16 (X 13 (X 16 ((k + 2654435769) % 4294967296 ^^^ x) * 2246822507 % 4294967296) * 3266489909 % 4294967296)
theorem mixN_lt (k x : Nat) : mixN k x < 4294967296 := X_lt (Nat.mod_lt _ (by decide))
theorem shr32 (a : Nat) (s : Nat) : ((a : Int)).fdiv (2 ^ s) = ((a >>> s : Nat) : Int) := by
  rw [fd _ (Int.le_of_lt (Int.pow_pos (by decide))), Nat.shiftRight_eq_div_pow, Int.natCast_ediv]
  simp
theorem bX (s a : Nat) (h : a < 4294967296) : bXor .u32 (a : Int) ((a : Int).fdiv (2 ^ s)) = ((X s a : Nat) : Int) := by
  rw [shr32, (xor32 a (a >>> s) h (Nat.lt_of_le_of_lt (by rw [Nat.shiftRight_eq_div_pow]; exact Nat.div_le_self _ _) h)).1]
  rfl
theorem mix_eq (N : Nat) (k x : Nat) (hk : k < 4294967296) (hx : x < 4294967296) : L_hash_mix N (k : Int) (x : Int) = some ((mixN k x : Nat) : Int) := by
  unfold L_hash_mix mixN
  have h1 : (k + 2654435769) % 4294967296 < 4294967296 := Nat.mod_lt _ (by decide)
  have w1 : IntKind.u32.wrap ((k : Int) + 2654435769) = (((k + 2654435769) % 4294967296 : Nat) : Int) := by rw [wu32]; omega
  rw [w1, (xor32 _ x h1 hx).1]
  have hx1 := (xor32 _ x h1 hx).2
  generalize (k + 2654435769) % 4294967296 ^^^ x = a at *
  simp only [viaE]
  rw [bX 16 a hx1]
  have w2 : IntKind.u32.wrap (((X 16 a : Nat) : Int) * 2246822507) = ((X 16 a * 2246822507 % 4294967296 : Nat) : Int) := by rw [wu32]; omega
  rw [w2, bX 13 _ (Nat.mod_lt _ (by decide))]
  have w3 : ∀ y : Nat, IntKind.u32.wrap ((y : Int) * 3266489909) = ((y * 3266489909 % 4294967296 : Nat) : Int) := fun y => by rw [wu32]; omega
  rw [w3, bX 16 _ (Nat.mod_lt _ (by decide))]
theorem in_eq (N : Nat) (a : Int) (n : Nat) (h : n ≤ 62) : L_ip_In N a (n : Int) = some (decide (0 ≤ a ∧ a < 2 ^ n)) := by
  have hp : (0 : Int) < 2 ^ n := Int.pow_pos (by decide)
  unfold L_ip_In L_ip_In_1
  rw [condd, if_pos (by omega : 0 ≤ (n : Int)), Int.toNat_natCast, Nat.min_eq_left (by omega), fd _ (by omega)]
  by_cases h0 : a ≥ 0
  · rw [if_pos h0]
    congr 1
    rw [Bool.eq_iff_iff]
    simp only [beq_iff_eq, decide_eq_true_eq]
    constructor
    · intro h; exact ⟨h0, by have := Int.lt_ediv_add_one_mul_self a hp; rw [h] at this; omega⟩
    · intro h; exact Int.ediv_eq_zero_of_lt h.1 h.2
  · rw [if_neg h0]; congr 1; symm; simp; omega
theorem in32 (N : Nat) (a : Int) : L_ip_In N a 32 = some (decide (0 ≤ a ∧ a < 4294967296)) := in_eq N a 32 (by decide)
theorem in8 (N : Nat) (a : Int) : L_ip_In N a 8 = some (decide (0 ≤ a ∧ a < 256)) := in_eq N a 8 (by decide)
theorem Mix_eq (N : Nat) (k x : Nat) (hk : k < 4294967296) (hx : x < 4294967296) : L_hash_Mix N (k : Int) (x : Int) = some (((mixN k x : Nat) : Int), 0) := by
  have hm := mixN_lt k x
  have wk : IntKind.u32.wrap (k : Int) = (k : Int) := by rw [wu32]; omega
  have wx : IntKind.u32.wrap (x : Int) = (x : Int) := by rw [wu32]; omega
  unfold L_hash_Mix L_hash_Mix_1
  rw [in32, in32, decide_eq_true (show 0 ≤ (k : Int) ∧ (k : Int) < 4294967296 by omega), decide_eq_true (show 0 ≤ (x : Int) ∧ (x : Int) < 4294967296 by omega), wk, wx]
  refine stB rfl (stNTT (stB rfl (stFF (stB (mix_eq N k x hk hx) ?_))))
  rw [w64 (by omega) (by omega)]
end Go.Proofs.Ythhlflmjikdgcaa.Pu
