import Derived.Laws.BitsLemmas
import Derived.Test.YtmhlgpdoedbedaaGreatAll
set_option linter.unusedVariables false
set_option linter.unusedSimpArgs false
namespace Go.Proofs.YtmhlgpdoedbedaaGreat.Pu
open Go Go.RowKit Go.Proofs.YtmhlgpdoedbedaaGreat.Sv Go.Proofs.YtmhlgpdoedbedaaGreat.Lf
theorem i64w (n : Int) : IntKind.i64.wrap n = (n + 9223372036854775808) % 18446744073709551616 - 9223372036854775808 := by rw [IntKind.wrap_i64]
theorem w64 {n : Int} (h0 : -9223372036854775808 ≤ n) (h1 : n ≤ 9223372036854775807) : IntKind.i64.wrap n = n := by rw [i64w]; omega
theorem wu64 (n : Int) : IntKind.u64.wrap n = n % 18446744073709551616 := by simp [IntKind.wrap, IntKind.bits, IntKind.signed]
theorem wu8 (n : Int) : IntKind.u8.wrap n = n % 256 := by simp [IntKind.wrap, IntKind.bits, IntKind.signed]
theorem condd {α : Type} (p : Prop) [Decidable p] (a b : α) : (bif decide p then a else b) = if p then a else b := by
  by_cases h : p <;> simp [h]
theorem cnot {α : Type} (p : Bool) (a b : α) : (bif !p then a else b) = bif p then b else a := by cases p <;> rfl
theorem cond_not' {α : Type} (p : Bool) (a b : α) : (bif !p then a else b) = bif p then b else a := by cases p <;> rfl
theorem ceq {α : Type} (x y : Int) (a b : α) : (bif x == y then a else b) = if x = y then a else b := by
  by_cases h : x = y
  · rw [if_pos h, beq_iff_eq.2 h]; rfl
  · rw [if_neg h, beq_eq_false_iff_ne.2 h]; rfl
theorem cne {α : Type} (x y : Int) (a b : α) : (bif x != y then a else b) = if x = y then b else a := by
  unfold bne
  rw [cond_not', ceq]
theorem viaE {α β : Type} (a : α) (f : α → Option β) : via a f = f a := rfl
section
variable {α β : Type} {r : Option α}
theorem stVia {γ : Type} {a : γ} {f : γ → Option α} (k : f a = r) : via a f = r := k
theorem stIf {p : Prop} [Decidable p] {a b : Option α} (h : p) (k : a = r) : (if p then a else b) = r := by rw [if_pos h, k]
theorem stB {a : Option β} {x : β} {f : β → Option α} (h : a = some x) (k : f x = r) : a.bind f = r := by rw [h, Option.bind_some, k]
theorem stDT {p : Prop} [Decidable p] {a b : Option α} (h : p) (k : a = r) : (bif decide p then a else b) = r := by rw [condd, if_pos h, k]
theorem stDF {p : Prop} [Decidable p] {a b : Option α} (h : ¬p) (k : b = r) : (bif decide p then a else b) = r := by rw [condd, if_neg h, k]
theorem stET {x y : Int} {a b : Option α} (h : x = y) (k : a = r) : (bif x == y then a else b) = r := by rw [ceq, if_pos h, k]
theorem stEF {x y : Int} {a b : Option α} (h : ¬x = y) (k : b = r) : (bif x == y then a else b) = r := by rw [ceq, if_neg h, k]
theorem stNT {x y : Int} {a b : Option α} (h : x = y) (k : b = r) : (bif x != y then a else b) = r := by rw [cne, if_pos h, k]
theorem stNF {x y : Int} {a b : Option α} (h : ¬x = y) (k : a = r) : (bif x != y then a else b) = r := by rw [cne, if_neg h, k]
theorem stTT {a b : Option α} (k : a = r) : (bif true then a else b) = r := k
theorem stFF {a b : Option α} (k : b = r) : (bif false then a else b) = r := k
theorem stNTT {a b : Option α} (k : b = r) : (bif !true then a else b) = r := k
theorem stNFF {a b : Option α} (k : a = r) : (bif !false then a else b) = r := k
end
theorem fd (x : Int) {k : Int} (h : 0 ≤ k) : x.fdiv k = x / k := Int.fdiv_eq_ediv_of_nonneg x h
theorem ext_list {a b : ByteArray} (h : a.data.toList = b.data.toList) : a = b := by
  cases a; cases b; congr; exact Array.toList_inj.1 h
theorem toList_iff (a b : ByteArray) : a.toList = b.toList ↔ a = b := by
  rw [ByteArray.toList_eq, ByteArray.toList_eq]
  exact ⟨fun h => ext_list h, fun h => by rw [h]⟩
theorem toList_beq (a b : ByteArray) : (a.toList == b.toList) = decide (a = b) := by
  rw [Bool.eq_iff_iff, beq_iff_eq, toList_iff, decide_eq_true_iff]
theorem ofInt_toNat64 (x : Int) : (BitVec.ofInt 64 x).toNat = (x % 18446744073709551616).toNat := by
  rw [BitVec.toNat_ofInt]; rfl
theorem and_mask (i : Nat) (hi : i ≤ 62) (x : Int) : bAnd .i64 x (2 ^ i - 1) = x % 2 ^ i := by
  have hp : (2:Nat) ^ i ≤ 2 ^ 62 := Nat.pow_le_pow_right (by decide) hi
  have hpos : 0 < 2 ^ i := Nat.two_pow_pos i
  have hc : ((2 : Int) ^ i - 1) = ((2 ^ i - 1 : Nat) : Int) := by
    rw [Int.natCast_sub hpos]; simp
  have hlt : 2 ^ i - 1 < 2 ^ 64 := by omega
  have e1 : (BitVec.ofInt 64 x &&& BitVec.ofInt 64 ((2 ^ i - 1 : Nat) : Int)).toNat = (x % 18446744073709551616).toNat % 2 ^ i := by
    rw [BitVec.toNat_and, ofInt_toNat64, BitVec.ofInt_natCast, BitVec.toNat_ofNat, Nat.mod_eq_of_lt hlt, Nat.and_two_pow_sub_one_eq_mod]
  have e2 : (((x % 18446744073709551616).toNat % 2 ^ i : Nat) : Int) = x % 2 ^ i := by
    rw [Int.natCast_emod, Int.toNat_of_nonneg (Int.emod_nonneg _ (by decide))]
    have hd : ((2 ^ i : Nat) : Int) ∣ 18446744073709551616 := by
      have h64 : (2:Nat) ^ i ∣ 2 ^ 64 := Nat.pow_dvd_pow 2 (by omega)
      exact Int.natCast_dvd_natCast.mpr h64
    rw [Int.emod_emod_of_dvd _ hd]; simp
  have e3 : 0 ≤ x % 2 ^ i ∧ x % 2 ^ i < 2 ^ 62 := by
    have hpi : (0:Int) < 2 ^ i := by exact_mod_cast hpos
    refine ⟨Int.emod_nonneg _ (by omega), ?_⟩
    have := Int.emod_lt_of_pos x hpi
    have hp' : (2:Int) ^ i ≤ 2 ^ 62 := by exact_mod_cast hp
    omega
  show IntKind.i64.wrap ((BitVec.ofInt 64 x &&& BitVec.ofInt 64 (2 ^ i - 1)).toNat : Int) = _
  rw [hc, e1, e2, w64 (by omega) (by omega)]
theorem and_65535 (x : Int) : bAnd .i64 x 65535 = x % 65536 := and_mask 16 (by decide) x
theorem low4_dec : ((List.range 256).all fun n => bAnd .u8 (n : Int) 15 == (n : Int) % 16) = true := by decide +kernel
theorem low4 (x : Int) (h0 : 0 ≤ x) (h1 : x < 256) : bAnd .u8 x 15 = x % 16 := by
  obtain ⟨n, rfl⟩ := Int.eq_ofNat_of_zero_le h0
  have := List.all_eq_true.1 low4_dec n (List.mem_range.2 (by omega))
  simpa using this
theorem or_byte (x b : Int) (h0 : 0 ≤ x) (h1 : x < 9007199254740992) (b0 : 0 ≤ b) (b1 : b ≤ 255) : bOr .i64 (x * 256) b = x * 256 + b :=
  bits_join .i64 62 (by decide) (fun n h0 h1 => by rw [w64 (by omega) (by omega)]) 8 _ _ (by omega) (by omega) (by omega) (by omega) (by omega) (by omega)
theorem bt_range (s : ByteArray) (i : Int) : 0 ≤ bt s i ∧ bt s i ≤ 255 := by
  unfold bt
  have := (s.data.toList.getD i.toNat 0).toNat_lt
  omega
theorem mkS_size (L : List Int) : (mkS L).size = L.length := by simp [mkS, ByteArray.size]
theorem bytesL_range (s : ByteArray) : ∀ x ∈ bytesL s, 0 ≤ x ∧ x ≤ 255 := by
  intro x hx
  simp only [bytesL, List.mem_map] at hx
  obtain ⟨b, _, rfl⟩ := hx
  have := b.toNat_lt
  omega
theorem bt_get (s : ByteArray) (i : Nat) : bt s i = (bytesL s).getD i 0 := by
  unfold bt bytesL
  rw [Int.toNat_natCast]
  rw [List.getD_eq_getElem?_getD, List.getD_eq_getElem?_getD, List.getElem?_map]
  cases s.data.toList[i]? <;> rfl
theorem bt_at {t : ByteArray} {L : List Int} (h : bytesL t = L) (i : Nat) : bt t i = L.getD i 0 := by rw [bt_get, h]
theorem bytesL_inj {a b : ByteArray} (h : bytesL a = bytesL b) : a = b := by
  apply ext_list
  unfold bytesL at h
  have hl : a.data.toList.length = b.data.toList.length := by simpa using congrArg List.length h
  refine List.ext_getElem hl fun i h1 h2 => ?_
  have := congrArg (fun l => l[i]?) h
  simp only [List.getElem?_map, List.getElem?_eq_getElem h1, List.getElem?_eq_getElem h2, Option.map_some, Option.some.injEq] at this
  exact UInt8.toNat_inj.1 (by omega)
theorem bytesL_append (a b : ByteArray) : bytesL (a ++ b) = bytesL a ++ bytesL b := by
  unfold bytesL
  rw [← List.map_append]
  congr 1
theorem bytesL_mkS (L : List Int) (h : ∀ x ∈ L, 0 ≤ x ∧ x ≤ 255) : bytesL (mkS L) = L := by
  unfold bytesL mkS
  simp only [List.map_map]
  refine List.ext_getElem (by simp) fun i h1 h2 => ?_
  simp only [List.getElem_map, Function.comp]
  have := h L[i] (List.getElem_mem _)
  simp only [UInt8.toNat_ofNat']
  omega
theorem bytesL_ex (s : ByteArray) (a b : Nat) : bytesL (s.extract a b) = ((bytesL s).drop a).take (b - a) := by
  unfold bytesL
  rw [ByteArray.data_extract, Array.toList_extract, List.extract_eq_take_drop, List.map_take, List.map_drop]
theorem ex_ex (s : ByteArray) (a b : Nat) (h : a + b ≤ s.size) : (s.extract a s.size).extract b (s.extract a s.size).size = s.extract (a + b) s.size := by
  apply bytesL_inj
  have hl := bytesL_len s
  rw [bytesL_ex, bytesL_ex, bytesL_ex, ByteArray.size_extract, Nat.min_self, List.take_of_length_le (i := s.size - a) (by rw [List.length_drop, hl]; exact Nat.le_refl _), List.drop_drop, Nat.sub_sub]
def B1 (x : Int) : ByteArray := mkS [x % 256]
def B2 (x : Int) : ByteArray := mkS [x / 256 % 256, x % 256]
def B4 (x : Int) : ByteArray := mkS [x / 16777216 % 256, x / 65536 % 256, x / 256 % 256, x % 256]
theorem B1_size (x : Int) : (B1 x).size = 1 := mkS_size _
theorem B2_size (x : Int) : (B2 x).size = 2 := mkS_size _
theorem B4_size (x : Int) : (B4 x).size = 4 := mkS_size _
theorem by_step (N k : Nat) (x i : Int) (L : List Int) (h0 : 0 ≤ i) (h1 : i < (L.length : Int)) (hi : i ≤ 100) : L_ip_Bytes_1 N (k + 1) x L i = L_ip_Bytes_1 N k (x / 256) (L.set i.toNat (x % 256)) (i - 1) := by
  rw [L_ip_Bytes_1, condd, if_pos h0, if_pos ⟨h0, h1⟩, w64 (by omega) (by omega), fd _ (by decide), wu8]
  rfl
theorem by_end (N k : Nat) (x i : Int) (L : List Int) (h : i < 0) : L_ip_Bytes_1 N (k + 1) x L i = some (mkS L) := by
  rw [L_ip_Bytes_1, condd, if_neg (by omega)]
theorem bytes1 {N : Nat} (hN : 1000 ≤ N) (x : Int) : L_ip_Bytes N x 1 = some (B1 x) := by
  obtain ⟨k, rfl⟩ : ∃ k, N = k + 5 := ⟨N - 5, by omega⟩
  rw [L_ip_Bytes, if_pos (by decide), w64 (by decide) (by decide), by_step _ _ x _ _ (by decide) (by decide) (by decide), by_end _ _ _ _ _ (by decide)]
  rfl
theorem bytes2 {N : Nat} (hN : 1000 ≤ N) (x : Int) : L_ip_Bytes N x 2 = some (B2 x) := by
  obtain ⟨k, rfl⟩ : ∃ k, N = k + 5 := ⟨N - 5, by omega⟩
  rw [L_ip_Bytes, if_pos (by decide), w64 (by decide) (by decide), by_step _ _ x _ _ (by decide) (by decide) (by decide), by_step _ _ _ _ _ (by decide) (by simp) (by decide), by_end _ _ _ _ _ (by decide)]
  rfl
theorem bytes4 {N : Nat} (hN : 1000 ≤ N) (x : Int) : L_ip_Bytes N x 4 = some (B4 x) := by
  obtain ⟨k, rfl⟩ : ∃ k, N = k + 5 := ⟨N - 5, by omega⟩
  rw [L_ip_Bytes, if_pos (by decide), w64 (by decide) (by decide), by_step _ _ x _ _ (by decide) (by decide) (by decide), by_step _ _ _ _ _ (by decide) (by simp) (by decide), by_step _ _ _ _ _ (by decide) (by simp) (by decide), by_step _ _ _ _ _ (by decide) (by simp) (by decide), by_end _ _ _ _ _ (by decide)]
  unfold B4
  rw [show x / 16777216 = x / 256 / 256 / 256 by omega, show x / 65536 = x / 256 / 256 by omega]
  rfl
def N2 (s : ByteArray) (i : Nat) : Int := bt s i * 256 + bt s (i + 1 : Nat)
def N4 (s : ByteArray) (i : Nat) : Int := ((bt s i * 256 + bt s (i + 1 : Nat)) * 256 + bt s (i + 2 : Nat)) * 256 + bt s (i + 3 : Nat)
theorem N2_range (s : ByteArray) (i : Nat) : 0 ≤ N2 s i ∧ N2 s i < 65536 := by
  have a := bt_range s i; have b := bt_range s (i + 1 : Nat); unfold N2; omega
theorem N4_range (s : ByteArray) (i : Nat) : 0 ≤ N4 s i ∧ N4 s i < 4294967296 := by
  have a := bt_range s i; have b := bt_range s (i + 1 : Nat); have c := bt_range s (i + 2 : Nat); have d := bt_range s (i + 3 : Nat); unfold N4; omega
theorem bt_extract (s : ByteArray) (a b : Nat) (i : Nat) (h : a + i < b) (hb : b ≤ s.size) : bt (s.extract a b) i = bt s (a + i : Nat) := by
  rw [bt_get, bt_get, bytesL_ex]
  simp only [List.getD_eq_getElem?_getD, List.getElem?_take, List.getElem?_drop]
  rw [if_pos (by omega)]
theorem num_step (N k : Nat) (x i e : Int) (L : List Int) (h0 : 0 ≤ i) (hi : i ≤ 7) (h1 : L.length < 100) (he : x / 2 ^ (8 * i).toNat % 256 = e) : L_ref1_Num_1 N (k + 1) x L i = L_ref1_Num_1 N k x (L ++ [e]) (i - 1) := by
  rw [L_ref1_Num_1]
  have g : growOk 1 (L.length + 1) := ⟨by omega, by omega⟩
  rw [condd, if_pos (by omega)]
  simp (disch := omega) only [Option.bind_some, viaE, condd, cnot, ceq, cne, cond_true, cond_false, if_pos, if_neg, w64, reduceIte, Bool.not_true, Bool.not_false, Bool.and_true, Bool.and_self, wu8]
  rw [Nat.min_eq_left (by omega), fd _ (Int.le_of_lt (Int.pow_pos (by decide))), he]
theorem num_end (N k : Nat) (x i : Int) (L : List Int) (h : i < 0) : L_ref1_Num_1 N (k + 1) x L i = some (mkS L) := by
  rw [L_ref1_Num_1, condd, if_neg (by omega)]
theorem num1 {N : Nat} (hN : 1000 ≤ N) (x : Int) : L_ref1_Num N x 1 = some (B1 x) := by
  obtain ⟨k, rfl⟩ : ∃ k, N = k + 5 := ⟨N - 5, by omega⟩
  rw [L_ref1_Num, w64 (by decide) (by decide), num_step _ (k + 4) x _ (x % 256) _ (by decide) (by decide) (by simp) (by show x / 1 % 256 = _; omega), num_end _ _ _ _ _ (by decide)]
  rfl
theorem num2 {N : Nat} (hN : 1000 ≤ N) (x : Int) : L_ref1_Num N x 2 = some (B2 x) := by
  obtain ⟨k, rfl⟩ : ∃ k, N = k + 5 := ⟨N - 5, by omega⟩
  rw [L_ref1_Num, w64 (by decide) (by decide), num_step _ (k + 4) x _ (x / 256 % 256) _ (by decide) (by decide) (by simp) (by show x / 256 % 256 = _; omega), num_step _ (k + 3) x _ (x % 256) _ (by decide) (by decide) (by simp) (by show x / 1 % 256 = _; omega), num_end _ _ _ _ _ (by decide)]
  rfl
theorem num4 {N : Nat} (hN : 1000 ≤ N) (x : Int) : L_ref1_Num N x 4 = some (B4 x) := by
  obtain ⟨k, rfl⟩ : ∃ k, N = k + 5 := ⟨N - 5, by omega⟩
  rw [L_ref1_Num, w64 (by decide) (by decide), num_step _ (k + 4) x _ (x / 16777216 % 256) _ (by decide) (by decide) (by simp) (by show x / 16777216 % 256 = _; omega), num_step _ (k + 3) x _ (x / 65536 % 256) _ (by decide) (by decide) (by simp) (by show x / 65536 % 256 = _; omega), num_step _ (k + 2) x _ (x / 256 % 256) _ (by decide) (by decide) (by simp) (by show x / 256 % 256 = _; omega), num_step _ (k + 1) x _ (x % 256) _ (by decide) (by decide) (by simp) (by show x / 1 % 256 = _; omega), num_end _ _ _ _ _ (by decide)]
  rfl
theorem nb_step (N k : Nat) (s : ByteArray) (x i n : Int) (h0 : 0 ≤ i) (hn : n = s.size) (h1 : i < n) (hi : i ≤ 100) (x0 : 0 ≤ x) (x1 : x < 4294967296) : L_ip_Number_1 N (k + 1) s x n i = L_ip_Number_1 N k s (x * 256 + bt s i) n (i + 1) := by
  have hb := bt_range s i
  rw [L_ip_Number_1]
  simp only [Int.reducePow]
  simp (disch := omega) only [Option.bind_some, viaE, condd, cnot, ceq, cne, cond_true, cond_false, if_pos, if_neg, w64, reduceIte, Bool.not_true, Bool.not_false, Bool.and_true, Bool.and_self, or_byte]
theorem nb_end (N k : Nat) (s : ByteArray) (x i n : Int) (h : ¬ i < n) : L_ip_Number_1 N (k + 1) s x n i = some x := by
  rw [L_ip_Number_1, condd, if_neg h]
theorem of_step (N k : Nat) (s : ByteArray) (x i : Int) (h0 : 0 ≤ i) (h1 : i < (s.size : Int)) (hi : i ≤ 100) (x0 : 0 ≤ x) (x1 : x < 4294967296) : L_ref1_Of_1 N (k + 1) s x i = L_ref1_Of_1 N k s (x * 256 + bt s i) (i + 1) := by
  have hb := bt_range s i
  rw [L_ref1_Of_1]
  simp only [Int.reducePow]
  simp (disch := omega) only [Option.bind_some, viaE, condd, cnot, ceq, cne, cond_true, cond_false, if_pos, if_neg, w64, reduceIte, Bool.not_true, Bool.not_false, Bool.and_true, Bool.and_self, or_byte]
theorem of_end (N k : Nat) (s : ByteArray) (x i : Int) (h : ¬ i < (s.size : Int)) : L_ref1_Of_1 N (k + 1) s x i = some x := by
  rw [L_ref1_Of_1, condd, if_neg h]
theorem number2 {N : Nat} (hN : 1000 ≤ N) (s : ByteArray) (hs : s.size = 2) : L_ip_Number N s = some (N2 s 0) := by
  obtain ⟨k, rfl⟩ : ∃ k, N = k + 5 := ⟨N - 5, by omega⟩
  have b0 := bt_range s 0; have b1 := bt_range s 1
  unfold L_ip_Number
  rw [nb_step _ (k + 4) s 0 0 _ (by decide) rfl (by omega) (by decide) (by decide) (by decide), nb_step _ (k + 3) s _ _ _ (by omega) rfl (by omega) (by omega) (by omega) (by omega), nb_end _ _ s _ _ _ (by omega)]
  simp [N2]
theorem number4 {N : Nat} (hN : 1000 ≤ N) (s : ByteArray) (hs : s.size = 4) : L_ip_Number N s = some (N4 s 0) := by
  obtain ⟨k, rfl⟩ : ∃ k, N = k + 5 := ⟨N - 5, by omega⟩
  have b0 := bt_range s 0; have b1 := bt_range s 1; have b2 := bt_range s 2; have b3 := bt_range s 3
  unfold L_ip_Number
  rw [nb_step _ (k + 4) s 0 0 _ (by decide) rfl (by omega) (by decide) (by decide) (by decide), nb_step _ (k + 3) s _ _ _ (by omega) rfl (by omega) (by omega) (by omega) (by omega), nb_step _ (k + 2) s _ _ _ (by omega) rfl (by omega) (by omega) (by simp only [Int.reduceAdd]; omega) (by simp only [Int.reduceAdd]; omega), nb_step _ (k + 1) s _ _ _ (by omega) rfl (by omega) (by omega) (by simp only [Int.reduceAdd]; omega) (by simp only [Int.reduceAdd]; omega), nb_end _ _ s _ _ _ (by omega)]
  simp [N4]
theorem of2 {N : Nat} (hN : 1000 ≤ N) (s : ByteArray) (hs : s.size = 2) : L_ref1_Of N s = some (N2 s 0) := by
  obtain ⟨k, rfl⟩ : ∃ k, N = k + 5 := ⟨N - 5, by omega⟩
  have b0 := bt_range s 0; have b1 := bt_range s 1
  unfold L_ref1_Of
  rw [of_step _ (k + 4) s 0 0 (by decide) (by omega) (by decide) (by decide) (by decide), of_step _ (k + 3) s _ _ (by omega) (by omega) (by omega) (by omega) (by omega), of_end _ _ s _ _ (by omega)]
  simp [N2]
theorem of4 {N : Nat} (hN : 1000 ≤ N) (s : ByteArray) (hs : s.size = 4) : L_ref1_Of N s = some (N4 s 0) := by
  obtain ⟨k, rfl⟩ : ∃ k, N = k + 5 := ⟨N - 5, by omega⟩
  have b0 := bt_range s 0; have b1 := bt_range s 1; have b2 := bt_range s 2; have b3 := bt_range s 3
  unfold L_ref1_Of
  rw [of_step _ (k + 4) s 0 0 (by decide) (by omega) (by decide) (by decide) (by decide), of_step _ (k + 3) s _ _ (by omega) (by omega) (by omega) (by omega) (by omega), of_step _ (k + 2) s _ _ (by omega) (by omega) (by omega) (by simp only [Int.reduceAdd]; omega) (by simp only [Int.reduceAdd]; omega), of_step _ (k + 1) s _ _ (by omega) (by omega) (by omega) (by simp only [Int.reduceAdd]; omega) (by simp only [Int.reduceAdd]; omega), of_end _ _ s _ _ (by omega)]
  simp [N4]
theorem N2_extract (s : ByteArray) (a : Nat) (h : a + 2 ≤ s.size) : N2 (s.extract a (a + 2)) 0 = N2 s a := by
  unfold N2
  rw [bt_extract s a (a + 2) 0 (by omega) h, bt_extract s a (a + 2) (0 + 1) (by omega) h]
  simp
theorem N4_extract (s : ByteArray) (a : Nat) (h : a + 4 ≤ s.size) : N4 (s.extract a (a + 4)) 0 = N4 s a := by
  unfold N4
  rw [bt_extract s a (a + 4) 0 (by omega) h, bt_extract s a (a + 4) (0 + 1) (by omega) h, bt_extract s a (a + 4) (0 + 2) (by omega) h, bt_extract s a (a + 4) (0 + 3) (by omega) h]
  simp
theorem numAt2 {N : Nat} (hN : 1000 ≤ N) (s : ByteArray) (a b : Nat) (e : b = a + 2) (h : a + 2 ≤ s.size) : L_ip_Number N (s.extract a b) = some (N2 s a) := by
  subst e
  rw [number2 hN _ (by simp [ByteArray.size_extract]; omega), N2_extract s a h]
theorem numAt4 {N : Nat} (hN : 1000 ≤ N) (s : ByteArray) (a b : Nat) (e : b = a + 4) (h : a + 4 ≤ s.size) : L_ip_Number N (s.extract a b) = some (N4 s a) := by
  subst e
  rw [number4 hN _ (by simp [ByteArray.size_extract]; omega), N4_extract s a h]
theorem ofAt2 {N : Nat} (hN : 1000 ≤ N) (s : ByteArray) (a b : Nat) (e : b = a + 2) (h : a + 2 ≤ s.size) : L_ref1_Of N (s.extract a b) = some (N2 s a) := by
  subst e
  rw [of2 hN _ (by simp [ByteArray.size_extract]; omega), N2_extract s a h]
theorem ofAt4 {N : Nat} (hN : 1000 ≤ N) (s : ByteArray) (a b : Nat) (e : b = a + 4) (h : a + 4 ≤ s.size) : L_ref1_Of N (s.extract a b) = some (N4 s a) := by
  subst e
  rw [of4 hN _ (by simp [ByteArray.size_extract]; omega), N4_extract s a h]
def foldS (x : Int) : Int := if x = 0 then 0 else (x - 1) % 65535 + 1
theorem foldS_small {x : Int} (h0 : 0 ≤ x) (h1 : x < 65536) : foldS x = x := by unfold foldS; split <;> omega
theorem foldS_range {x : Int} (_h0 : 0 ≤ x) : 0 ≤ foldS x ∧ foldS x < 65536 := by unfold foldS; split <;> omega
theorem foldS_step {x : Int} (h : 65536 ≤ x) : foldS (x % 65536 + x / 65536) = foldS x := by
  unfold foldS
  rw [if_neg (by omega), if_neg (by omega)]
  omega
theorem pfold_step (N k : Nat) (x : Int) (h : 65536 ≤ x) (h1 : x < 9223372036854775808) : L_sum_fold_uint64_1 N (k + 1) x = L_sum_fold_uint64_1 N k (x % 65536 + x / 65536) := by
  rw [L_sum_fold_uint64_1, condd, if_pos h, viaE, Int.tmod_eq_emod_of_nonneg (by omega), Int.tdiv_eq_ediv_of_nonneg (by omega), wu64, wu64]
  congr 1
  omega
theorem pfold_end (N k : Nat) (x : Int) (h0 : 0 ≤ x) (h : x < 65536) : L_sum_fold_uint64_1 N (k + 1) x = some x := by
  rw [L_sum_fold_uint64_1, condd, if_neg (by omega), w64 (by omega) (by omega)]
theorem rfold_step (N k : Nat) (x : Int) (h : 65536 ≤ x) (h1 : x < 9223372036854775808) : L_ref1_fold_1 N (k + 1) x = L_ref1_fold_1 N k (x % 65536 + x / 65536) := by
  rw [L_ref1_fold_1, condd, if_pos (by omega), viaE, and_65535, fd _ (by decide), w64 (by omega) (by omega)]
  rfl
theorem rfold_end (N k : Nat) (x : Int) (h : x < 65536) : L_ref1_fold_1 N (k + 1) x = some x := by
  rw [L_ref1_fold_1, condd, if_neg (by omega)]
theorem pfold_eq {N : Nat} (hN : 1000 ≤ N) (x : Int) (h0 : 0 ≤ x) (h1 : x < 9223372036854775808) : L_sum_fold_uint64 N x = some (foldS x) := by
  obtain ⟨k, rfl⟩ : ∃ k, N = k + 6 := ⟨N - 6, by omega⟩
  unfold L_sum_fold_uint64
  by_cases c1 : x < 65536
  · rw [pfold_end _ _ x h0 c1, foldS_small h0 c1]
  rw [pfold_step _ _ x (by omega) h1, ← foldS_step (by omega : 65536 ≤ x)]
  have d : x % 65536 + x / 65536 < 140737488421000 ∧ 0 ≤ x % 65536 + x / 65536 := by omega
  generalize x % 65536 + x / 65536 = x at *
  by_cases c1 : x < 65536
  · rw [pfold_end _ _ x d.2 c1, foldS_small d.2 c1]
  rw [pfold_step _ _ x (by omega) (by omega), ← foldS_step (by omega : 65536 ≤ x)]
  have d : x % 65536 + x / 65536 < 2147600000 ∧ 0 ≤ x % 65536 + x / 65536 := by omega
  generalize x % 65536 + x / 65536 = x at *
  by_cases c1 : x < 65536
  · rw [pfold_end _ _ x d.2 c1, foldS_small d.2 c1]
  rw [pfold_step _ _ x (by omega) (by omega), ← foldS_step (by omega : 65536 ≤ x)]
  have d : x % 65536 + x / 65536 < 131072 ∧ 0 ≤ x % 65536 + x / 65536 := by omega
  generalize x % 65536 + x / 65536 = x at *
  by_cases c1 : x < 65536
  · rw [pfold_end _ _ x d.2 c1, foldS_small d.2 c1]
  rw [pfold_step _ _ x (by omega) (by omega), ← foldS_step (by omega : 65536 ≤ x)]
  have d : x % 65536 + x / 65536 < 65537 ∧ 0 ≤ x % 65536 + x / 65536 := by omega
  generalize x % 65536 + x / 65536 = x at *
  by_cases c1 : x < 65536
  · rw [pfold_end _ _ x d.2 c1, foldS_small d.2 c1]
  rw [pfold_step _ _ x (by omega) (by omega), ← foldS_step (by omega : 65536 ≤ x), pfold_end _ _ _ (by omega) (by omega), foldS_small (by omega) (by omega)]
theorem rfold_eq {N : Nat} (hN : 1000 ≤ N) (x : Int) (h0 : 0 ≤ x) (h1 : x < 20000000) : L_ref1_fold N x = some (foldS x) := by
  obtain ⟨k, rfl⟩ : ∃ k, N = k + 6 := ⟨N - 6, by omega⟩
  unfold L_ref1_fold
  by_cases c1 : x < 65536
  · rw [rfold_end _ _ x c1, foldS_small h0 c1]
  rw [rfold_step _ _ x (by omega) (by omega), ← foldS_step (by omega : 65536 ≤ x)]
  have d : x % 65536 + x / 65536 < 65842 ∧ 0 ≤ x % 65536 + x / 65536 := by omega
  generalize x % 65536 + x / 65536 = x at *
  by_cases c1 : x < 65536
  · rw [rfold_end _ _ x c1, foldS_small d.2 c1]
  rw [rfold_step _ _ x (by omega) (by omega), ← foldS_step (by omega : 65536 ≤ x), rfold_end _ _ _ (by omega), foldS_small (by omega) (by omega)]
def rawL : List Int → Int
  | [] => 0
  | [a] => a * 256
  | a :: b :: t => a * 256 + b + rawL t
def sumB (s : ByteArray) : Int := foldS (rawL (bytesL s))
theorem drop_step (s : ByteArray) (i : Nat) (h : i < s.size) : (bytesL s).drop i = bt s i :: (bytesL s).drop (i + 1) := by
  have hl : i < (bytesL s).length := by rw [bytesL_len]; exact h
  rw [List.drop_eq_getElem_cons hl]
  congr 1
  rw [bt_get, List.getD_eq_getElem?_getD, List.getElem?_eq_getElem hl]
  rfl
theorem drop_all (s : ByteArray) (i : Nat) (h : s.size ≤ i) : (bytesL s).drop i = [] := List.drop_eq_nil_of_le (by rw [bytesL_len]; exact h)
theorem rawL_range : ∀ (n : Nat) (L : List Int), L.length ≤ n → (∀ x ∈ L, 0 ≤ x ∧ x ≤ 255) → 0 ≤ rawL L ∧ rawL L ≤ 65535 * L.length
  | 0, L, hn, h => by
    have : L = [] := List.length_eq_zero_iff.mp (by omega)
    subst this; simp [rawL]
  | n + 1, [], hn, h => by simp [rawL]
  | n + 1, [a], hn, h => by
    have := h a (by simp)
    simp [rawL]; omega
  | n + 1, a :: b :: t, hn, h => by
    have h1 := h a (by simp); have h2 := h b (by simp)
    have ih := rawL_range n t (by simp at hn; omega) (fun x hx => h x (by simp [hx]))
    simp only [rawL, List.length_cons]
    omega
theorem raw_range (s : ByteArray) : 0 ≤ rawL (bytesL s) ∧ rawL (bytesL s) ≤ 65535 * s.size := by
  have := rawL_range _ (bytesL s) (Nat.le_refl _) (bytesL_range s)
  rw [bytesL_len] at this
  exact this
theorem sumB_range (s : ByteArray) : 0 ≤ sumB s ∧ sumB s < 65536 := foldS_range (raw_range s).1
theorem psum_loop {N : Nat} (hN : 1000 ≤ N) (s : ByteArray) (hs : s.size ≤ 140737488351300) : ∀ (d k i : Nat) (acc : Int), s.size ≤ i + d → d + 1 ≤ k → i ≤ s.size + 2 → 0 ≤ acc → acc ≤ 65535 * i →
    L_sum_Sum_1 N k s acc i = some (foldS (acc + rawL ((bytesL s).drop i))) := by
  intro d
  induction d using Nat.strongRecOn with
  | _ d ih =>
  intro k i acc hd hk hi h0 h1
  obtain ⟨k, rfl⟩ : ∃ m, k = m + 1 := ⟨k - 1, by omega⟩
  have hb0 := bt_range s i
  have hb1 := bt_range s ((i + 1 : Nat) : Int)
  rw [L_sum_Sum_1]
  unfold L_sum_Sum_2
  simp only [Int.reducePow, wu64]
  by_cases c : i < s.size
  · rw [condd, if_pos (by omega), if_pos (by omega), w64 (n := (i : Int) + 1) (by omega) (by omega), w64 (n := (i : Int) + 2) (by omega) (by omega), viaE, condd]
    by_cases c2 : i + 1 < s.size
    · rw [if_pos (by omega), if_pos (by omega), show (i : Int) + 1 = ((i + 1 : Nat) : Int) by omega, show (i : Int) + 2 = ((i + 2 : Nat) : Int) by omega, viaE, viaE]
      rw [show (((acc + bt s ↑i % 18446744073709551616 * 256 % 18446744073709551616) % 18446744073709551616 + bt s ((i + 1 : Nat) : Int) % 18446744073709551616) % 18446744073709551616) = acc + (bt s i * 256 + bt s ((i + 1 : Nat) : Int)) by omega]
      rw [ih (d - 2) (by omega) k (i + 2) _ (by omega) (by omega) (by omega) (by omega) (by omega), drop_step s i c, drop_step s (i + 1) c2, show i + 1 + 1 = i + 2 from rfl]
      simp only [rawL]
      congr 2
      omega
    · rw [if_neg (by omega), show (i : Int) + 2 = ((i + 2 : Nat) : Int) by omega]
      rw [show ((acc + bt s ↑i % 18446744073709551616 * 256 % 18446744073709551616) % 18446744073709551616) = acc + bt s i * 256 by omega]
      rw [ih (d - 1) (by omega) k (i + 2) _ (by omega) (by omega) (by omega) (by omega) (by omega), drop_step s i c, drop_all s (i + 1) (by omega), drop_all s (i + 2) (by omega)]
      simp only [rawL]
      congr 2
      omega
  · rw [condd, if_neg (by omega), drop_all s i (by omega)]
    rw [pfold_eq hN acc h0 (by omega)]
    simp [rawL]
theorem psum_eq {N : Nat} (hN : 1000 ≤ N) (s : ByteArray) (hs : s.size + 10 ≤ N) (hs2 : s.size ≤ 140737488351300) : L_sum_Sum N s = some (sumB s) := by
  have := psum_loop hN s hs2 s.size N 0 0 (by omega) (by omega) (by omega) (by omega) (by omega)
  simpa [L_sum_Sum, sumB] using this
theorem foldS_add (a b : Int) (h0 : 0 ≤ a) (h1 : 0 ≤ b) : foldS (foldS a + b) = foldS (a + b) := by
  unfold foldS
  split
  · rename_i e; subst e; simp
  · rw [if_neg (by omega), if_neg (by omega)]; omega
theorem rsum_loop {N : Nat} (hN : 1000 ≤ N) (s : ByteArray) (hs : s.size ≤ 140737488351300) : ∀ (d k i : Nat) (acc : Int), s.size ≤ i + d → d + 1 ≤ k → i ≤ s.size + 2 → 0 ≤ acc → acc < 65536 →
    L_ref1_Sum_1 N k s acc i = some (foldS (acc + rawL ((bytesL s).drop i))) := by
  intro d
  induction d using Nat.strongRecOn with
  | _ d ih =>
  intro k i acc hd hk hi h0 h1
  obtain ⟨k, rfl⟩ : ∃ m, k = m + 1 := ⟨k - 1, by omega⟩
  have hb0 := bt_range s i
  have hb1 := bt_range s ((i + 1 : Nat) : Int)
  have hr := rawL_range _ ((bytesL s).drop (i + 2)) (Nat.le_refl _) (fun x hx => bytesL_range s x (List.mem_of_mem_drop hx))
  rw [L_ref1_Sum_1]
  unfold L_ref1_Sum_2
  simp only [Int.reducePow]
  by_cases c : i < s.size
  · rw [condd, if_pos (by omega), if_pos (by omega), w64 (n := (i : Int) + 1) (by omega) (by omega), w64 (n := (i : Int) + 2) (by omega) (by omega), w64 (n := bt s i) (by omega) (by omega), w64 (n := bt s i * 256) (by omega) (by omega), viaE, w64 (n := acc + bt s i * 256) (by omega) (by omega), condd]
    by_cases c2 : i + 1 < s.size
    · rw [if_pos (by omega), if_pos (by omega), show (i : Int) + 1 = ((i + 1 : Nat) : Int) by omega, show (i : Int) + 2 = ((i + 2 : Nat) : Int) by omega, w64 (n := bt s ((i + 1 : Nat) : Int)) (by omega) (by omega), viaE, viaE, w64 (by omega) (by omega), rfold_eq hN _ (by omega) (by omega)]
      simp only [Option.bind_some]
      have hf := foldS_range (x := acc + bt s i * 256 + bt s ((i + 1 : Nat) : Int)) (by omega)
      rw [ih (d - 2) (by omega) k (i + 2) _ (by omega) (by omega) (by omega) hf.1 hf.2, foldS_add _ _ (by omega) hr.1, drop_step s i c, drop_step s (i + 1) c2, show i + 1 + 1 = i + 2 from rfl]
      simp only [rawL]
      congr 2
      omega
    · rw [if_neg (by omega), show (i : Int) + 2 = ((i + 2 : Nat) : Int) by omega, rfold_eq hN _ (by omega) (by omega)]
      simp only [Option.bind_some]
      have hf := foldS_range (x := acc + bt s i * 256) (by omega)
      rw [ih (d - 1) (by omega) k (i + 2) _ (by omega) (by omega) (by omega) hf.1 hf.2, foldS_add _ _ (by omega) hr.1, drop_step s i c, drop_all s (i + 1) (by omega), drop_all s (i + 2) (by omega)]
      simp only [rawL]
      congr 2
      omega
  · rw [condd, if_neg (by omega), drop_all s i (by omega)]
    simp [rawL, foldS_small h0 h1]
theorem rsum_eq {N : Nat} (hN : 1000 ≤ N) (s : ByteArray) (hs : s.size + 10 ≤ N) (hs2 : s.size ≤ 140737488351300) : L_ref1_Sum N s = some (sumB s) := by
  have := rsum_loop hN s hs2 s.size N 0 0 (by omega) (by omega) (by omega) (by omega) (by omega)
  simpa [L_ref1_Sum, sumB] using this
theorem in_eq (N : Nat) (a : Int) (n : Nat) (h : n ≤ 62) : L_ip_In N a (n : Int) = some (decide (0 ≤ a ∧ a < 2 ^ n)) := by
  have hp : (0 : Int) < 2 ^ n := Int.pow_pos (by decide)
  unfold L_ip_In L_ip_In_1
  rw [condd, if_pos (by omega : 0 ≤ (n : Int)), Int.toNat_natCast, Nat.min_eq_left (by omega), fd _ (by omega)]
  by_cases h0 : a ≥ 0
  · rw [if_pos h0]
    congr 1
    rw [Bool.eq_iff_iff]
    simp only [beq_iff_eq, decide_eq_true_eq]
    constructor
    · intro h; exact ⟨h0, by have := Int.lt_ediv_add_one_mul_self a hp; rw [h] at this; omega⟩
    · intro h; exact Int.ediv_eq_zero_of_lt h.1 h.2
  · rw [if_neg h0]; congr 1; symm; simp; omega
theorem in32 (N : Nat) (a : Int) : L_ip_In N a 32 = some (decide (0 ≤ a ∧ a < 4294967296)) := in_eq N a 32 (by decide)
theorem in16 (N : Nat) (a : Int) : L_ip_In N a 16 = some (decide (0 ≤ a ∧ a < 65536)) := in_eq N a 16 (by decide)
theorem in8 (N : Nat) (a : Int) : L_ip_In N a 8 = some (decide (0 ≤ a ∧ a < 256)) := in_eq N a 8 (by decide)
theorem in6 (N : Nat) (a : Int) : L_ip_In N a 6 = some (decide (0 ≤ a ∧ a < 64)) := in_eq N a 6 (by decide)
theorem within_eq (N : Nat) (a : Int) (n : Nat) (h : n ≤ 62) : L_ref1_within N a (n : Int) = some (decide (0 ≤ a ∧ a < 2 ^ n)) := by
  have hp : (0 : Int) < 2 ^ n := Int.pow_pos (by decide)
  have hq : (2 : Nat) ^ n ≤ 2 ^ 62 := Nat.pow_le_pow_right (by decide) h
  have hq : (2 : Int) ^ n ≤ 2 ^ 62 := by exact_mod_cast hq
  unfold L_ref1_within L_ref1_within_1
  rw [condd, if_pos (by omega : 0 ≤ (n : Int)), Int.toNat_natCast, Nat.min_eq_left (by omega), viaE, w64 (by omega) (by omega)]
  by_cases h0 : a ≥ 0
  · rw [if_pos h0, Option.some.injEq, Bool.eq_iff_iff]
    simp only [decide_eq_true_eq]
    omega
  · rw [if_neg h0]; congr 1; symm; simp; omega
theorem within32 (N : Nat) (a : Int) : L_ref1_within N a 32 = some (decide (0 ≤ a ∧ a < 4294967296)) := within_eq N a 32 (by decide)
theorem within16 (N : Nat) (a : Int) : L_ref1_within N a 16 = some (decide (0 ≤ a ∧ a < 65536)) := within_eq N a 16 (by decide)
theorem within8 (N : Nat) (a : Int) : L_ref1_within N a 8 = some (decide (0 ≤ a ∧ a < 256)) := within_eq N a 8 (by decide)
theorem within6 (N : Nat) (a : Int) : L_ref1_within N a 6 = some (decide (0 ≤ a ∧ a < 64)) := within_eq N a 6 (by decide)
end Go.Proofs.YtmhlgpdoedbedaaGreat.Pu
