/- Plain laws: mixes are unlike where numbers are. -/
import Derived.Test.YthhlflmjikdgcaaPB
import Derived.Test.YthhlflmjikdgcaaAll
namespace Go.Proofs.Ythhlflmjikdgcaa.Pu
set_option linter.unusedSimpArgs false
set_option linter.unusedVariables false
open Go Go.RowKit Go.Proofs.Ythhlflmjikdgcaa.Sv Go.Proofs.Ythhlflmjikdgcaa.Lf
theorem wu32 (n : Int) : IntKind.u32.wrap n = n % 4294967296 := by simp [IntKind.wrap, IntKind.bits, IntKind.signed]
theorem xor32 (a b : Nat) (ha : a < 4294967296) (hb : b < 4294967296) : bXor .u32 (a : Int) (b : Int) = ((a ^^^ b : Nat) : Int) ∧ a ^^^ b < 4294967296 := by
  have hx : (a ^^^ b) < 4294967296 := Nat.xor_lt_two_pow (n := 32) ha hb
  refine ⟨?_, hx⟩
  show IntKind.u32.wrap ((BitVec.ofInt 32 (a : Int) ^^^ BitVec.ofInt 32 (b : Int)).toNat : Int) = _
  rw [BitVec.toNat_xor, BitVec.ofInt_natCast, BitVec.ofInt_natCast, BitVec.toNat_ofNat, BitVec.toNat_ofNat, Nat.mod_eq_of_lt (show a < 2 ^ 32 from ha), Nat.mod_eq_of_lt (show b < 2 ^ 32 from hb), wu32]
  omega
/-- A number and its own higher part. -/
def X (s x : Nat) : Nat := x ^^^ (x >>> s)
theorem X_two (s x : Nat) : X s (X s x) = X (s + s) x := by
  unfold X
  rw [Nat.shiftRight_xor_distrib, ← Nat.shiftRight_add, ← Nat.xor_assoc, Nat.xor_assoc x, Nat.xor_self, Nat.xor_zero]
theorem X_small {s x : Nat} (h : x < 2 ^ s) : X s x = x := by
  unfold X
  rw [Nat.shiftRight_eq_div_pow, Nat.div_eq_of_lt h, Nat.xor_zero]
theorem X_lt {s x : Nat} (h : x < 4294967296) : X s x < 4294967296 := by
  unfold X
  refine Nat.xor_lt_two_pow (n := 32) h (Nat.lt_of_le_of_lt ?_ h)
  rw [Nat.shiftRight_eq_div_pow]
  exact Nat.div_le_self _ _
theorem X16_inj {a b : Nat} (ha : a < 4294967296) (hb : b < 4294967296) (h : X 16 a = X 16 b) : a = b := by
  have e := congrArg (X 16) h
  rw [X_two, X_two, X_small (s := 16 + 16) ha, X_small (s := 16 + 16) hb] at e
  exact e
theorem X13_inj {a b : Nat} (ha : a < 4294967296) (hb : b < 4294967296) (h : X 13 a = X 13 b) : a = b := by
  have e := congrArg (X 13) h
  rw [X_two, X_two] at e
  have e2 := congrArg (X (13 + 13)) e
  rw [X_two, X_two, X_small (s := 13 + 13 + (13 + 13)) (Nat.lt_of_lt_of_le ha (by decide)), X_small (s := 13 + 13 + (13 + 13)) (Nat.lt_of_lt_of_le hb (by decide))] at e2
  exact e2
theorem mul_inj {a b c d k : Nat} (ha : a < 4294967296) (hb : b < 4294967296) (hc : c * d = 1 + 4294967296 * k) (h : a * c % 4294967296 = b * c % 4294967296) : a = b := by
  have e := congrArg (fun x => x * d % 4294967296) h
  simp only [Nat.mod_mul_mod] at e
  rw [Nat.mul_assoc, Nat.mul_assoc, hc, Nat.mul_add, Nat.mul_add, Nat.mul_one, Nat.mul_one, Nat.mul_left_comm, Nat.mul_left_comm b, Nat.add_mul_mod_self_left, Nat.add_mul_mod_self_left, Nat.mod_eq_of_lt ha, Nat.mod_eq_of_lt hb] at e
  exact e
def mixN (k x : Nat) : Nat := X 16 (X 13 (X 16 ((k + 2654435769) % 4294967296 ^^^ x) * 2246822507 % 4294967296) * 3266489909 % 4294967296)
theorem mixN_lt (k x : Nat) : mixN k x < 4294967296 := X_lt (Nat.mod_lt _ (by decide))
theorem mixN_inj {k a b : Nat} (ha : a < 4294967296) (hb : b < 4294967296) (h : mixN k a = mixN k b) : a = b := by
  have hk : (k + 2654435769) % 4294967296 < 4294967296 := Nat.mod_lt _ (by decide)
  have x1 := Nat.xor_lt_two_pow (n := 32) hk ha
  have x2 := Nat.xor_lt_two_pow (n := 32) hk hb
  have e1 := X16_inj (Nat.mod_lt _ (by decide)) (Nat.mod_lt _ (by decide)) h
  have e2 := mul_inj (d := 2127672349) (k := 1618177690) (X_lt (Nat.mod_lt _ (by decide))) (X_lt (Nat.mod_lt _ (by decide))) (by decide) e1
  have e3 := X13_inj (Nat.mod_lt _ (by decide)) (Nat.mod_lt _ (by decide)) e2
  have e4 := mul_inj (d := 2781581891) (k := 1455126516) (X_lt x1) (X_lt x2) (by decide) e3
  have e5 := X16_inj x1 x2 e4
  have e6 := congrArg (fun y => (k + 2654435769) % 4294967296 ^^^ y) e5
  simp only [← Nat.xor_assoc, Nat.xor_self, Nat.zero_xor] at e6
  exact e6
theorem shr32 (a : Nat) (s : Nat) : ((a : Int)).fdiv (2 ^ s) = ((a >>> s : Nat) : Int) := by
  rw [fd _ (Int.le_of_lt (Int.pow_pos (by decide))), Nat.shiftRight_eq_div_pow, Int.natCast_ediv]
  simp
theorem bX (s a : Nat) (h : a < 4294967296) : bXor .u32 (a : Int) ((a : Int).fdiv (2 ^ s)) = ((X s a : Nat) : Int) := by
  rw [shr32, (xor32 a (a >>> s) h (Nat.lt_of_le_of_lt (by rw [Nat.shiftRight_eq_div_pow]; exact Nat.div_le_self _ _) h)).1]
  rfl
theorem mix_eq (N : Nat) (k x : Nat) (hk : k < 4294967296) (hx : x < 4294967296) : L_hash_mix N (k : Int) (x : Int) = some ((mixN k x : Nat) : Int) := by
  unfold L_hash_mix mixN
  have h1 : (k + 2654435769) % 4294967296 < 4294967296 := Nat.mod_lt _ (by decide)
  have w1 : IntKind.u32.wrap ((k : Int) + 2654435769) = (((k + 2654435769) % 4294967296 : Nat) : Int) := by rw [wu32]; omega
  rw [w1, (xor32 _ x h1 hx).1]
  have hx1 := (xor32 _ x h1 hx).2
  generalize (k + 2654435769) % 4294967296 ^^^ x = a at *
  simp only [viaE]
  rw [bX 16 a hx1]
  have w2 : IntKind.u32.wrap (((X 16 a : Nat) : Int) * 2246822507) = ((X 16 a * 2246822507 % 4294967296 : Nat) : Int) := by rw [wu32]; omega
  rw [w2, bX 13 _ (Nat.mod_lt _ (by decide))]
  have w3 : ∀ y : Nat, IntKind.u32.wrap ((y : Int) * 3266489909) = ((y * 3266489909 % 4294967296 : Nat) : Int) := fun y => by rw [wu32]; omega
  rw [w3, bX 16 _ (Nat.mod_lt _ (by decide))]
theorem in_eq (N : Nat) (a : Int) (n : Nat) (h : n ≤ 62) : L_ip_In N a (n : Int) = some (decide (0 ≤ a ∧ a < 2 ^ n)) := by
  have hp : (0 : Int) < 2 ^ n := Int.pow_pos (by decide)
  unfold L_ip_In L_ip_In_1
  rw [condd, if_pos (by omega : 0 ≤ (n : Int)), Int.toNat_natCast, Nat.min_eq_left (by omega), fd _ (by omega)]
  by_cases h0 : a ≥ 0
  · rw [if_pos h0]
    congr 1
    rw [Bool.eq_iff_iff]
    simp only [beq_iff_eq, decide_eq_true_eq]
    constructor
    · intro h; exact ⟨h0, by have := Int.lt_ediv_add_one_mul_self a hp; rw [h] at this; omega⟩
    · intro h; exact Int.ediv_eq_zero_of_lt h.1 h.2
  · rw [if_neg h0]; congr 1; symm; simp; omega
theorem in32 (N : Nat) (a : Int) : L_ip_In N a 32 = some (decide (0 ≤ a ∧ a < 4294967296)) := in_eq N a 32 (by decide)
theorem in8 (N : Nat) (a : Int) : L_ip_In N a 8 = some (decide (0 ≤ a ∧ a < 256)) := in_eq N a 8 (by decide)
theorem Mix_eq (N : Nat) (k x : Nat) (hk : k < 4294967296) (hx : x < 4294967296) : L_hash_Mix N (k : Int) (x : Int) = some (((mixN k x : Nat) : Int), 0) := by
  have hm := mixN_lt k x
  have wk : IntKind.u32.wrap (k : Int) = (k : Int) := by rw [wu32]; omega
  have wx : IntKind.u32.wrap (x : Int) = (x : Int) := by rw [wu32]; omega
  unfold L_hash_Mix L_hash_Mix_1
  rw [in32, in32, decide_eq_true (show 0 ≤ (k : Int) ∧ (k : Int) < 4294967296 by omega), decide_eq_true (show 0 ≤ (x : Int) ∧ (x : Int) < 4294967296 by omega), wk, wx]
  refine stB rfl (stNTT (stB rfl (stFF (stB (mix_eq N k x hk hx) ?_))))
  rw [w64 (by omega) (by omega)]
/-- The numbers that were seen. -/
def seenOk (k x i : Nat) (L : List Int) : Prop := L.length = 16 ∧ ∀ j, j < i → L.getD j default = ((mixN k (x + j) : Nat) : Int)
theorem spreads_3 (N : Nat) (r1 : Int → Int → List Int → Int → Option Bool) (k x i : Nat) (L : List Int) (hx : x < 65536) (hi : i < 16) (hL : seenOk k x i L) (t5 t6 : Int) {r : Option Bool}
    (hr : r1 t5 t6 (L.set i ((mixN k (x + i) : Nat) : Int)) ((i + 1 : Nat) : Int) = r) : ∀ (d fuel j : Nat), i = j + d → d < fuel → L_law8_HashSpreads_3 N r1 fuel t5 t6 L (i : Int) ((mixN k (x + i) : Nat) : Int) (j : Int) = r := by
  intro d
  induction d with
  | zero =>
    intro fuel j hj hf
    obtain ⟨fuel, rfl⟩ : ∃ f, fuel = f + 1 := ⟨fuel - 1, by omega⟩
    rw [L_law8_HashSpreads_3]
    have hl := hL.1
    refine stDF (by omega) (stIf (by omega) (stIf (by omega) ?_))
    rw [w64 (by omega) (by omega), Int.toNat_natCast]
    exact hr
  | succ d ih =>
    intro fuel j hj hf
    obtain ⟨fuel, rfl⟩ : ∃ f, fuel = f + 1 := ⟨fuel - 1, by omega⟩
    rw [L_law8_HashSpreads_3]
    have hl := hL.1
    refine stDT (by omega) (stIf (by omega) (stIf (by omega) ?_))
    rw [Int.toNat_natCast, hL.2 j (by omega)]
    refine stEF ?_ ?_
    · intro e
      have e' : mixN k (x + j) = mixN k (x + i) := Int.ofNat.inj e
      have := mixN_inj (by omega) (by omega) e'
      omega
    · rw [w64 (by omega) (by omega)]
      exact ih fuel (j + 1) (by omega) (by omega)
theorem spreads_1 {N : Nat} (hN : 1000 ≤ N) (k x : Nat) (hk : k < 65536) (hx : x < 65536) : ∀ (d fuel i : Nat) (L : List Int), 16 = i + d → d < fuel → seenOk k x i L → L_law8_HashSpreads_1 N fuel (k : Int) (x : Int) L (i : Int) = some true := by
  intro d
  induction d with
  | zero =>
    intro fuel i L hi hf hL
    obtain ⟨fuel, rfl⟩ : ∃ f, fuel = f + 1 := ⟨fuel - 1, by omega⟩
    rw [L_law8_HashSpreads_1]
    exact stDF (by omega) rfl
  | succ d ih =>
    intro fuel i L hi hf hL
    obtain ⟨fuel, rfl⟩ : ∃ f, fuel = f + 1 := ⟨fuel - 1, by omega⟩
    have hm := mixN_lt k (x + i)
    have hw : IntKind.i64.wrap ((x : Int) + (i : Int)) = ((x + i : Nat) : Int) := by rw [w64 (by omega) (by omega)]; omega
    rw [L_law8_HashSpreads_1, hw]
    unfold L_law8_HashSpreads_2
    refine stDT (by omega) (stB (Mix_eq N k (x + i) (by omega) (by omega)) (stB rfl (stNT rfl (stDF (by omega) ?_))))
    rw [decide_eq_false (show ¬ (((mixN k (x + i) : Nat) : Int) > 4294967295) by omega)]
    refine stFF (spreads_3 N _ k x i L hx (by omega) hL _ _ ?_ i N 0 (by omega) (by omega))
    refine ih fuel (i + 1) _ (by omega) (by omega) ⟨by rw [List.length_set]; exact hL.1, ?_⟩
    intro j hj
    by_cases c : j = i
    · subst c
      rw [List.getD_eq_getElem?_getD, List.getElem?_set_self (by rw [hL.1]; omega)]
      rfl
    · rw [List.getD_eq_getElem?_getD, List.getElem?_set_ne (fun e => c e.symm), ← List.getD_eq_getElem?_getD]
      exact hL.2 j (by omega)
set_option maxRecDepth 100000 in
theorem awake8 : L_law8_awake 281474976710656 = some true := by decide +kernel
theorem HashSpreads (a b : Int) : L_law8_HashSpreads 281474976710656 a b = some true := by
  unfold L_law8_HashSpreads
  rw [awake8, and_65535, and_65535]
  obtain ⟨k, hk⟩ := Int.eq_ofNat_of_zero_le (show 0 ≤ a % 65536 by omega)
  obtain ⟨x, hx⟩ := Int.eq_ofNat_of_zero_le (show 0 ≤ b % 65536 by omega)
  rw [hk, hx]
  exact stB rfl (stNTT (spreads_1 (by decide) k x (by omega) (by omega) 16 _ 0 _ rfl (by decide) ⟨rfl, fun j hj => by omega⟩))
end Go.Proofs.Ythhlflmjikdgcaa.Pu
