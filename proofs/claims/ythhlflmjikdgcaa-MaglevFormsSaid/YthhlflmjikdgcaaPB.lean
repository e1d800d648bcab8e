/- Plain laws: numbers, bytes; steps through lifted functions. -/
import Derived.Laws.BitsLemmas
import Derived.Test.YthhlflmjikdgcaaSvWc
namespace Go.Proofs.Ythhlflmjikdgcaa.Pu
set_option linter.unusedSimpArgs false
set_option linter.unusedVariables false
open Go Go.RowKit Go.Proofs.Ythhlflmjikdgcaa.Sv
theorem i64w (n : Int) : IntKind.i64.wrap n = (n + 9223372036854775808) % 18446744073709551616 - 9223372036854775808 := by rw [IntKind.wrap_i64]
theorem w64 {n : Int} (h0 : -9223372036854775808 ≤ n) (h1 : n ≤ 9223372036854775807) : IntKind.i64.wrap n = n := by rw [i64w]; omega
theorem wu64 (n : Int) : IntKind.u64.wrap n = n % 18446744073709551616 := by simp [IntKind.wrap, IntKind.bits, IntKind.signed]
theorem wu8 (n : Int) : IntKind.u8.wrap n = n % 256 := by simp [IntKind.wrap, IntKind.bits, IntKind.signed]
theorem condd {α : Type} (p : Prop) [Decidable p] (a b : α) : (bif decide p then a else b) = if p then a else b := by
  by_cases h : p <;> simp [h]
theorem cnot {α : Type} (p : Bool) (a b : α) : (bif !p then a else b) = bif p then b else a := by cases p <;> rfl
theorem cond_not' {α : Type} (p : Bool) (a b : α) : (bif !p then a else b) = bif p then b else a := by cases p <;> rfl
theorem ceq {α : Type} (x y : Int) (a b : α) : (bif x == y then a else b) = if x = y then a else b := by
  by_cases h : x = y
  · rw [if_pos h, beq_iff_eq.2 h]; rfl
  · rw [if_neg h, beq_eq_false_iff_ne.2 h]; rfl
theorem cne {α : Type} (x y : Int) (a b : α) : (bif x != y then a else b) = if x = y then b else a := by
  unfold bne
  rw [cond_not', ceq]
theorem viaE {α β : Type} (a : α) (f : α → Option β) : via a f = f a := rfl
section
variable {α β : Type} {r : Option α}
theorem stVia {γ : Type} {a : γ} {f : γ → Option α} (k : f a = r) : via a f = r := k
theorem stIf {p : Prop} [Decidable p] {a b : Option α} (h : p) (k : a = r) : (if p then a else b) = r := by rw [if_pos h, k]
theorem stB {a : Option β} {x : β} {f : β → Option α} (h : a = some x) (k : f x = r) : a.bind f = r := by rw [h, Option.bind_some, k]
theorem stDT {p : Prop} [Decidable p] {a b : Option α} (h : p) (k : a = r) : (bif decide p then a else b) = r := by rw [condd, if_pos h, k]
theorem stDF {p : Prop} [Decidable p] {a b : Option α} (h : ¬p) (k : b = r) : (bif decide p then a else b) = r := by rw [condd, if_neg h, k]
theorem stET {x y : Int} {a b : Option α} (h : x = y) (k : a = r) : (bif x == y then a else b) = r := by rw [ceq, if_pos h, k]
theorem stEF {x y : Int} {a b : Option α} (h : ¬x = y) (k : b = r) : (bif x == y then a else b) = r := by rw [ceq, if_neg h, k]
theorem stNT {x y : Int} {a b : Option α} (h : x = y) (k : b = r) : (bif x != y then a else b) = r := by rw [cne, if_pos h, k]
theorem stNF {x y : Int} {a b : Option α} (h : ¬x = y) (k : a = r) : (bif x != y then a else b) = r := by rw [cne, if_neg h, k]
theorem stTT {a b : Option α} (k : a = r) : (bif true then a else b) = r := k
theorem stFF {a b : Option α} (k : b = r) : (bif false then a else b) = r := k
theorem stNTT {a b : Option α} (k : b = r) : (bif !true then a else b) = r := k
theorem stNFF {a b : Option α} (k : a = r) : (bif !false then a else b) = r := k
end
theorem fd (x : Int) {k : Int} (h : 0 ≤ k) : x.fdiv k = x / k := Int.fdiv_eq_ediv_of_nonneg x h
theorem ext_list {a b : ByteArray} (h : a.data.toList = b.data.toList) : a = b := by
  cases a; cases b; congr; exact Array.toList_inj.1 h
theorem toList_iff (a b : ByteArray) : a.toList = b.toList ↔ a = b := by
  rw [ByteArray.toList_eq, ByteArray.toList_eq]
  exact ⟨fun h => ext_list h, fun h => by rw [h]⟩
theorem toList_beq (a b : ByteArray) : (a.toList == b.toList) = decide (a = b) := by
  rw [Bool.eq_iff_iff, beq_iff_eq, toList_iff, decide_eq_true_iff]
theorem bAnd_eq (k : IntKind) (x y : Int) : bAnd k x y = bits .and k x y := rfl
theorem bOr_eq (k : IntKind) (x y : Int) : bOr k x y = bits .or k x y := rfl
theorem ofInt_toNat64 (x : Int) : (BitVec.ofInt 64 x).toNat = (x % 18446744073709551616).toNat := by
  rw [BitVec.toNat_ofInt]; rfl
theorem and_mask (i : Nat) (hi : i ≤ 62) (x : Int) : bAnd .i64 x (2 ^ i - 1) = x % 2 ^ i := by
  have hp : (2:Nat) ^ i ≤ 2 ^ 62 := Nat.pow_le_pow_right (by decide) hi
  have hpos : 0 < 2 ^ i := Nat.two_pow_pos i
  have hc : ((2 : Int) ^ i - 1) = ((2 ^ i - 1 : Nat) : Int) := by
    rw [Int.natCast_sub hpos]; simp
  have hlt : 2 ^ i - 1 < 2 ^ 64 := by omega
  have e1 : (BitVec.ofInt 64 x &&& BitVec.ofInt 64 ((2 ^ i - 1 : Nat) : Int)).toNat = (x % 18446744073709551616).toNat % 2 ^ i := by
    rw [BitVec.toNat_and, ofInt_toNat64, BitVec.ofInt_natCast, BitVec.toNat_ofNat, Nat.mod_eq_of_lt hlt, Nat.and_two_pow_sub_one_eq_mod]
  have e2 : (((x % 18446744073709551616).toNat % 2 ^ i : Nat) : Int) = x % 2 ^ i := by
    rw [Int.natCast_emod, Int.toNat_of_nonneg (Int.emod_nonneg _ (by decide))]
    have hd : ((2 ^ i : Nat) : Int) ∣ 18446744073709551616 := by
      have h64 : (2:Nat) ^ i ∣ 2 ^ 64 := Nat.pow_dvd_pow 2 (by omega)
      exact Int.natCast_dvd_natCast.mpr h64
    rw [Int.emod_emod_of_dvd _ hd]; simp
  have e3 : 0 ≤ x % 2 ^ i ∧ x % 2 ^ i < 2 ^ 62 := by
    have hpi : (0:Int) < 2 ^ i := by exact_mod_cast hpos
    refine ⟨Int.emod_nonneg _ (by omega), ?_⟩
    have := Int.emod_lt_of_pos x hpi
    have hp' : (2:Int) ^ i ≤ 2 ^ 62 := by exact_mod_cast hp
    omega
  show IntKind.i64.wrap ((BitVec.ofInt 64 x &&& BitVec.ofInt 64 (2 ^ i - 1)).toNat : Int) = _
  rw [hc, e1, e2, w64 (by omega) (by omega)]
theorem and_1023 (x : Int) : bAnd .i64 x 1023 = x % 1024 := and_mask 10 (by decide) x
theorem and_255 (x : Int) : bAnd .i64 x 255 = x % 256 := and_mask 8 (by decide) x
theorem and_127 (x : Int) : bAnd .i64 x 127 = x % 128 := and_mask 7 (by decide) x
theorem and_65535 (x : Int) : bAnd .i64 x 65535 = x % 65536 := and_mask 16 (by decide) x
theorem and_63 (x : Int) : bAnd .i64 x 63 = x % 64 := and_mask 6 (by decide) x
theorem and_15 (x : Int) : bAnd .i64 x 15 = x % 16 := and_mask 4 (by decide) x
theorem and_7 (x : Int) : bAnd .i64 x 7 = x % 8 := and_mask 3 (by decide) x
theorem and_1 (x : Int) : bAnd .i64 x 1 = x % 2 := and_mask 1 (by decide) x
theorem low4_dec : ((List.range 256).all fun n => bAnd .u8 (n : Int) 15 == (n : Int) % 16) = true := by decide +kernel
theorem low4 (x : Int) (h0 : 0 ≤ x) (h1 : x < 256) : bAnd .u8 x 15 = x % 16 := by
  obtain ⟨n, rfl⟩ := Int.eq_ofNat_of_zero_le h0
  have := List.all_eq_true.1 low4_dec n (List.mem_range.2 (by omega))
  simpa using this
theorem or_byte (x b : Int) (h0 : 0 ≤ x) (h1 : x < 9007199254740992) (b0 : 0 ≤ b) (b1 : b ≤ 255) : bOr .i64 (x * 256) b = x * 256 + b :=
  bits_join .i64 62 (by decide) (fun n h0 h1 => by rw [w64 (by omega) (by omega)]) 8 _ _ (by omega) (by omega) (by omega) (by omega) (by omega) (by omega)
theorem bt_range (s : ByteArray) (i : Int) : 0 ≤ bt s i ∧ bt s i ≤ 255 := by
  unfold bt
  have := (s.data.toList.getD i.toNat 0).toNat_lt
  omega
theorem mkS_size (L : List Int) : (mkS L).size = L.length := by simp [mkS, ByteArray.size]
theorem bytesL_range (s : ByteArray) : ∀ x ∈ bytesL s, 0 ≤ x ∧ x ≤ 255 := by
  intro x hx
  simp only [bytesL, List.mem_map] at hx
  obtain ⟨b, _, rfl⟩ := hx
  have := b.toNat_lt
  omega
theorem bt_get (s : ByteArray) (i : Nat) : bt s i = (bytesL s).getD i 0 := by
  unfold bt bytesL
  rw [Int.toNat_natCast]
  rw [List.getD_eq_getElem?_getD, List.getD_eq_getElem?_getD, List.getElem?_map]
  cases s.data.toList[i]? <;> rfl
theorem bt_at {t : ByteArray} {L : List Int} (h : bytesL t = L) (i : Nat) : bt t i = L.getD i 0 := by rw [bt_get, h]
theorem bytesL_inj {a b : ByteArray} (h : bytesL a = bytesL b) : a = b := by
  apply ext_list
  unfold bytesL at h
  have hl : a.data.toList.length = b.data.toList.length := by simpa using congrArg List.length h
  refine List.ext_getElem hl fun i h1 h2 => ?_
  have := congrArg (fun l => l[i]?) h
  simp only [List.getElem?_map, List.getElem?_eq_getElem h1, List.getElem?_eq_getElem h2, Option.map_some, Option.some.injEq] at this
  exact UInt8.toNat_inj.1 (by omega)
theorem bytesL_append (a b : ByteArray) : bytesL (a ++ b) = bytesL a ++ bytesL b := by
  unfold bytesL
  rw [← List.map_append]
  congr 1
theorem bytesL_mkS (L : List Int) (h : ∀ x ∈ L, 0 ≤ x ∧ x ≤ 255) : bytesL (mkS L) = L := by
  unfold bytesL mkS
  simp only [List.map_map]
  refine List.ext_getElem (by simp) fun i h1 h2 => ?_
  simp only [List.getElem_map, Function.comp]
  have := h L[i] (List.getElem_mem _)
  simp only [UInt8.toNat_ofNat']
  omega
theorem mkS_bytesL (s : ByteArray) : mkS (bytesL s) = s := bytesL_inj (bytesL_mkS _ (bytesL_range s))
theorem bytesL_ex (s : ByteArray) (a b : Nat) : bytesL (s.extract a b) = ((bytesL s).drop a).take (b - a) := by
  unfold bytesL
  rw [ByteArray.data_extract, Array.toList_extract, List.extract_eq_take_drop, List.map_take, List.map_drop]
theorem ex_ex (s : ByteArray) (a b : Nat) (h : a + b ≤ s.size) : (s.extract a s.size).extract b (s.extract a s.size).size = s.extract (a + b) s.size := by
  apply bytesL_inj
  have hl := bytesL_len s
  rw [bytesL_ex, bytesL_ex, bytesL_ex, ByteArray.size_extract, Nat.min_self, List.take_of_length_le (i := s.size - a) (by rw [List.length_drop, hl]; exact Nat.le_refl _), List.drop_drop, Nat.sub_sub]
end Go.Proofs.Ythhlflmjikdgcaa.Pu
