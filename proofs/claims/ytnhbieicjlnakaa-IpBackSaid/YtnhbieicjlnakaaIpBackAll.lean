import Derived.Test.YtnhbieicjlnakaaIpWhole
import Derived.Laws.IdiomStrings
namespace Go.Proofs.Ytnhbieicjlnakaa.Pure
set_option linter.unusedSimpArgs false
set_option linter.unusedVariables false
open Go Go.RowKit Go.Proofs.Ytnhbieicjlnakaa.PA Go.Proofs.YtnhbieicjlnakaaW.PrintWords Go.Proofs.YtnhbieicjlnakaaW.PrintLast Go.Proofs.YtnhbieicjlnakaaW.PrintMore Go.Proofs.Ytnhbieicjlnakaa.Wh
theorem bytesOf_extract (s : ByteArray) (a b : Nat) : bytesOf (s.extract a b) = ((bytesOf s).drop a).take (b - a) := by
  unfold bytesOf
  rw [ByteArray.data_extract, Array.toList_extract, List.extract_eq_take_drop, List.map_take, List.map_drop]
theorem sumB_take (s : ByteArray) (n : Nat) : sumB (s.extract 0 n) = foldS (rawL ((bytesOf s).take n)) := by
  unfold sumB
  rw [bytesOf_extract, List.drop_zero, Nat.sub_zero]
theorem raw10 (x0 x1 x2 x3 x4 x5 x6 x7 x8 x9 c1 c2 : Int) (B : List Int) : rawL (x0 :: x1 :: x2 :: x3 :: x4 :: x5 :: x6 :: x7 :: x8 :: x9 :: c1 :: c2 :: B) = rawL (x0 :: x1 :: x2 :: x3 :: x4 :: x5 :: x6 :: x7 :: x8 :: x9 :: 0 :: 0 :: B) + (c1 * 256 + c2) := by
  simp only [rawL]; omega
theorem raw_pos (x0 x1 : Int) (T : List Int) (h : ∀ x ∈ x0 :: x1 :: T, 0 ≤ x ∧ x ≤ 255) (h0 : 0 < x0) : 0 < rawL (x0 :: x1 :: T) := by
  have h1 := (h x1 (by simp)).1
  have h2 := (rawL_range _ T (Nat.le_refl _) (fun x hx => h x (by simp [hx]))).1
  simp only [rawL]; omega
/-- Bytes whose head's size is right: with the sum put right they have that sum. -/
theorem whole_bytes (t : ByteArray) (x0 x1 x2 x3 x4 x5 x6 x7 x8 x9 x10 x11 : Int) (T : List Int) (h : bytesOf t = x0 :: x1 :: x2 :: x3 :: x4 :: x5 :: x6 :: x7 :: x8 :: x9 :: x10 :: x11 :: T)
    (n : Nat) (hn : 4 * (x0 % 16) = n) (h20 : 20 ≤ n) (hs : n ≤ t.size) :
    ∃ c1 c2, bytesOf (wholeI t) = x0 :: x1 :: x2 :: x3 :: x4 :: x5 :: x6 :: x7 :: x8 :: x9 :: c1 :: c2 :: T ∧ sumB ((wholeI t).extract 0 n) = 65535 := by
  have b0 : bt t 0 = x0 := by
    have := bt_get t 0
    rw [h] at this; exact this
  have hr := bytesOf_range t
  have hx0 : 0 < x0 := by
    have := (hr x0 (by rw [h]; simp)).1
    omega
  unfold wholeI
  rw [b0, hn, if_neg (by omega), if_neg (by omega), if_neg (by omega), Int.toNat_natCast]
  generalize hm : sumB (t.extract 0 10 ++ (⟨#[0, 0]⟩ : ByteArray) ++ t.extract 12 n) = m
  have hmr : 0 ≤ m ∧ m < 65536 := by rw [← hm]; exact sumB_range _
  have e1 : bytesOf (t.extract 0 10) = [x0, x1, x2, x3, x4, x5, x6, x7, x8, x9] := by rw [bytesOf_extract, h]; rfl
  have e2 : bytesOf (t.extract 12 t.size) = T := by
    rw [bytesOf_extract, h]
    show T.take (t.size - 12) = T
    rw [List.take_of_length_le]
    have := bytesOf_length t
    rw [h] at this
    simp at this
    omega
  have e3 : bytesOf (t.extract 12 n) = T.take (n - 12) := by rw [bytesOf_extract, h]; rfl
  have e4 : bytesOf (B2 (65535 - m)) = [(65535 - m) / 256 % 256, (65535 - m) % 256] := bytesOf_nums _ (by
    intro x hx
    simp at hx
    omega)
  have e5 : bytesOf (⟨#[0, 0]⟩ : ByteArray) = [0, 0] := by decide +kernel
  have hL : bytesOf (t.extract 0 10 ++ B2 (65535 - m) ++ t.extract 12 t.size) = x0 :: x1 :: x2 :: x3 :: x4 :: x5 :: x6 :: x7 :: x8 :: x9 :: ((65535 - m) / 256 % 256) :: ((65535 - m) % 256) :: T := by
    rw [bytesOf_append, bytesOf_append, e1, e4, e2]; rfl
  refine ⟨_, _, hL, ?_⟩
  rw [sumB_take, hL]
  obtain ⟨q, rfl⟩ : ∃ q, n = q + 12 := ⟨n - 12, by omega⟩
  have ht : (x0 :: x1 :: x2 :: x3 :: x4 :: x5 :: x6 :: x7 :: x8 :: x9 :: ((65535 - m) / 256 % 256) :: ((65535 - m) % 256) :: T).take (q + 12) = x0 :: x1 :: x2 :: x3 :: x4 :: x5 :: x6 :: x7 :: x8 :: x9 :: ((65535 - m) / 256 % 256) :: ((65535 - m) % 256) :: T.take q := by
    simp only [List.take_succ_cons]
  rw [ht, raw10]
  have hm' : m = foldS (rawL (x0 :: x1 :: x2 :: x3 :: x4 :: x5 :: x6 :: x7 :: x8 :: x9 :: 0 :: 0 :: T.take q)) := by
    rw [← hm]; unfold sumB
    rw [bytesOf_append, bytesOf_append, e1, e5, e3]; rfl
  rw [show (65535 - m) / 256 % 256 * 256 + (65535 - m) % 256 = 65535 - m by omega]
  apply foldS_whole
  · apply raw_pos _ _ _ _ hx0
    intro x hx
    have hz : x = 0 ∨ x ∈ bytesOf t := by
      rw [h]
      simp only [List.mem_cons] at hx ⊢
      rcases hx with hx | hx | hx | hx | hx | hx | hx | hx | hx | hx | hx | hx | hx
      all_goals first | (left; exact hx) | (right; simp [hx]) | (right; have := List.mem_of_mem_take hx; simp [this])
    rcases hz with rfl | hz
    · decide
    · exact hr x hz
  · rw [hm']
/-- What bytes tell, by their list. -/
theorem get_list (t : ByteArray) (x0 x1 x2 x3 x4 x5 x6 x7 x8 x9 x10 x11 x12 x13 x14 x15 : Int) (T : List Int)
    (h : bytesOf t = x0 :: x1 :: x2 :: x3 :: x4 :: x5 :: x6 :: x7 :: x8 :: x9 :: x10 :: x11 :: x12 :: x13 :: x14 :: x15 :: T) :
    bt t 0 = x0 ∧ N2 t 2 = x2 * 256 + x3 ∧ N2 t 6 = x6 * 256 + x7 ∧ N4 t 12 = ((x12 * 256 + x13) * 256 + x14) * 256 + x15 ∧ t.size = 16 + T.length := by
  refine ⟨?_, ?_, ?_, ?_, ?_⟩
  · exact (bt_get t 0).trans (by rw [h]; rfl)
  · unfold N2; rw [bt_get, bt_get, h]; rfl
  · unfold N2; rw [bt_get, bt_get, h]; rfl
  · unfold N4; rw [bt_get, bt_get, bt_get, bt_get, h]; rfl
  · have := bytesOf_length t
    rw [h] at this
    simp at this
    omega
end Go.Proofs.Ytnhbieicjlnakaa.Pure
namespace Go.Proofs.Ytnhbieicjlnakaa.Pure
set_option linter.unusedSimpArgs false
set_option linter.unusedVariables false
set_option linter.unusedSectionVars false
open Go Go.RowKit Go.Proofs.Ytnhbieicjlnakaa.PA Go.Proofs.YtnhbieicjlnakaaW.PrintWords Go.Proofs.YtnhbieicjlnakaaW.PrintLast Go.Proofs.YtnhbieicjlnakaaW.PrintMore Go.Proofs.Ytnhbieicjlnakaa.Wh
def unI : IpR := (0, 0, 0, 0, 0, (⟨#[]⟩ : ByteArray), 3, 0)
def frI : IpR := (0, 0, 0, 0, 0, (⟨#[]⟩ : ByteArray), 2, 0)
theorem get_bad_size (s : ByteArray) (h : s.size < 20 ∨ N2 s 2 ≠ s.size) : getI s = badI := by
  unfold getI
  by_cases h1 : s.size < 20 ∨ 512 < s.size
  · rw [if_pos h1]
  rw [if_neg h1]
  by_cases h2 : bt s 0 / 16 ≠ 4 ∨ bt s 0 % 16 < 5 ∨ (s.size : Int) < 4 * (bt s 0 % 16)
  · rw [if_pos h2]
  rw [if_neg h2, if_pos (h.resolve_left (by omega))]
theorem get_bad_first (s : ByteArray) (h : bt s 0 / 16 ≠ 4 ∨ bt s 0 % 16 < 5) : getI s = badI := by
  unfold getI
  by_cases h1 : s.size < 20 ∨ 512 < s.size
  · rw [if_pos h1]
  rw [if_neg h1, if_pos (by omega)]
theorem get_bad_sum (s : ByteArray) (h0 : bt s 0 = 69) (h : sumB (s.extract 0 20) ≠ 65535) : getI s = badI := by
  unfold getI
  by_cases h1 : s.size < 20 ∨ 512 < s.size
  · rw [if_pos h1]
  rw [if_neg h1, h0]
  by_cases h2 : (69 : Int) / 16 ≠ 4 ∨ (69 : Int) % 16 < 5 ∨ (s.size : Int) < 4 * ((69 : Int) % 16)
  · rw [if_pos h2]
  rw [if_neg h2, show (4 * ((69 : Int) % 16)).toNat = 20 from rfl]
  by_cases h3 : N2 s 2 ≠ s.size
  · rw [if_pos h3]
  rw [if_neg h3, if_pos h]
theorem whole_get (t : ByteArray) (x0 x1 x2 x3 x4 x5 x6 x7 x8 x9 x10 x11 x12 x13 x14 x15 : Int) (T : List Int)
    (h : bytesOf t = x0 :: x1 :: x2 :: x3 :: x4 :: x5 :: x6 :: x7 :: x8 :: x9 :: x10 :: x11 :: x12 :: x13 :: x14 :: x15 :: T)
    (h0 : x0 / 16 = 4) (n : Nat) (hn : 4 * (x0 % 16) = n) (h20 : 20 ≤ n) (hs : n ≤ 16 + T.length) (h2 : x2 * 256 + x3 = 16 + T.length) (hT : 16 + T.length ≤ 512) :
    getI (wholeI t) = if 20 < n then unI else if Go.bits .and .i64 (x6 * 256 + x7) 49151 ≠ 0 then frI
      else (((x12 * 256 + x13) * 256 + x14) * 256 + x15, N4 (wholeI t) 16, bt (wholeI t) 9, bt (wholeI t) 8, N2 (wholeI t) 4, (wholeI t).extract 20 (wholeI t).size, 0, 0) := by
  obtain ⟨_, _, _, _, hz⟩ := get_list t _ _ _ _ _ _ _ _ _ _ _ _ _ _ _ _ T h
  obtain ⟨c1, c2, hw, hsum⟩ := whole_bytes t _ _ _ _ _ _ _ _ _ _ _ _ _ h n hn h20 (by omega)
  obtain ⟨g0, g2, g6, g12, gz⟩ := get_list (wholeI t) _ _ _ _ _ _ _ _ _ _ _ _ _ _ _ _ T hw
  generalize wholeI t = w at *
  unfold getI
  rw [g0, g2, g6, g12, gz, if_neg (by omega), if_neg (by omega), if_neg (by omega), show (4 * (x0 % 16)).toNat = n by omega, if_neg (by rw [hsum]; decide)]
  by_cases c : 20 < n
  · rw [if_pos c, if_pos (by omega)]; rfl
  rw [if_neg c, if_neg (by omega)]
  by_cases d : Go.bits .and .i64 (x6 * 256 + x7) 49151 ≠ 0
  · rw [if_pos d, if_pos d]; rfl
  rw [if_neg d, if_neg d]
/-- What a text tells, by the class it has to have. -/
def okG (g : IpR) (w : Int) : Prop := (w = 1 ∧ g = badI) ∨ (w = 3 ∧ g = unI) ∨ (w = 2 ∧ g = frI) ∨ (w = 0 ∧ ∃ b c d e x, g = (1, b, c, d, e, x, 0, 0))
section
variable (body : ByteArray) (hb : 8 ≤ body.size) (hb' : body.size ≤ 48)
def S0 (body : ByteArray) : ByteArray := putI 1 2 17 9 0 body
theorem S0_size : (S0 body).size = 20 + body.size := putI_size _ _ _ _ _ _
theorem S0_list : ∃ c1 c2, bytesOf (S0 body) = 69 :: 0 :: ((20 + (body.size : Int)) / 256 % 256) :: ((20 + (body.size : Int)) % 256) :: 0 :: 0 :: 64 :: 0 :: 9 :: 17 :: c1 :: c2 :: 0 :: 0 :: 0 :: 1 :: 0 :: 0 :: 0 :: 2 :: bytesOf body :=
  ⟨_, _, bytesOf_put 1 2 17 9 0 body⟩
theorem S0_N2 : N2 (S0 body) 2 = (20 + (body.size : Int)) / 256 % 256 * 256 + (20 + (body.size : Int)) % 256 := N2_put _ _ _ _ _ _ 2 (by decide)
include hb hb'
theorem tx1 : okG (getI ((S0 body).extract 0 19)) 1 := .inl ⟨rfl, get_bad_size _ (.inl (by rw [ByteArray.size_extract, S0_size]; omega))⟩
theorem tx2 (m : Nat) (hm : m = 19 + body.size) : okG (getI ((S0 body).extract 0 m)) 1 := by
  refine .inl ⟨rfl, get_bad_size _ (.inr ?_)⟩
  have e : N2 ((S0 body).extract 0 m) 2 = N2 (S0 body) 2 := by
    have := S0_size body
    unfold N2
    rw [bt_extract _ 0 m 2 (by omega) (by omega), bt_extract _ 0 m (2 + 1) (by omega) (by omega)]
  rw [e, S0_N2, ByteArray.size_extract, S0_size]; omega
theorem tx3 (c : UInt8) : okG (getI (S0 body ++ (⟨#[c]⟩ : ByteArray))) 1 := by
  refine .inl ⟨rfl, get_bad_size _ (.inr ?_)⟩
  have e : N2 (S0 body ++ (⟨#[c]⟩ : ByteArray)) 2 = N2 (S0 body) 2 := by
    have := S0_size body
    unfold N2
    rw [bt_left _ _ 2 (by omega), bt_left _ _ (2 + 1) (by omega)]
  rw [e, S0_N2, ByteArray.size_append, S0_size]
  show _ ≠ ((20 + body.size + 1 : Nat) : Int)
  omega
theorem tx4 (c : UInt8) (hc : (c.toNat : Int) / 16 ≠ 4 ∨ (c.toNat : Int) % 16 < 5) : okG (getI ((⟨#[c]⟩ : ByteArray) ++ (S0 body).extract 1 (S0 body).size)) 1 := by
  refine .inl ⟨rfl, get_bad_first _ ?_⟩
  have e : bt ((⟨#[c]⟩ : ByteArray) ++ (S0 body).extract 1 (S0 body).size) 0 = c.toNat := by
    refine (bt_left _ _ 0 ?_).trans ?_
    · show 0 < 1; decide
    · rfl
  rw [e]; exact hc
/-- The text's bytes, cut. -/
theorem cutL (a b : Nat) : bytesOf ((S0 body).extract a b) = ((bytesOf (S0 body)).drop a).take (b - a) := bytesOf_extract _ _ _
theorem tail_all (a : Nat) (ha : a ≤ 20) : bytesOf ((S0 body).extract a (S0 body).size) = (bytesOf (S0 body)).drop a := by
  rw [bytesOf_extract, List.take_of_length_le]
  have := bytesOf_length (S0 body)
  rw [List.length_drop, this]
  exact Nat.le_refl _
theorem tx6 : okG (getI ((S0 body).extract 0 8 ++ (⟨#[10]⟩ : ByteArray) ++ (S0 body).extract 9 (S0 body).size)) 1 := by
  obtain ⟨c1, c2, hL⟩ := S0_list body
  have e1 : bytesOf ((S0 body).extract 0 8 ++ (⟨#[10]⟩ : ByteArray) ++ (S0 body).extract 9 (S0 body).size) = 69 :: 0 :: ((20 + (body.size : Int)) / 256 % 256) :: ((20 + (body.size : Int)) % 256) :: 0 :: 0 :: 64 :: 0 :: 10 :: 17 :: c1 :: c2 :: 0 :: 0 :: 0 :: 1 :: 0 :: 0 :: 0 :: 2 :: bytesOf body := by
    rw [bytesOf_append, bytesOf_append, cutL body hb hb', tail_all body hb hb' 9 (by decide), hL]; rfl
  have hs : sumB ((S0 body).extract 0 20) = 65535 := by
    unfold S0
    rw [put_take, sum_put]
  refine .inl ⟨rfl, get_bad_sum _ ?_ ?_⟩
  · exact (get_list _ _ _ _ _ _ _ _ _ _ _ _ _ _ _ _ _ _ e1).1
  · rw [sumB_take, e1]
    rw [sumB_take, hL] at hs
    have hr := bytesOf_range (S0 body)
    rw [hL] at hr
    simp only [List.mem_cons, forall_eq_or_imp] at hr
    simp only [List.take_succ_cons, List.take_zero, rawL, foldS] at hs ⊢
    omega
theorem tx7 : okG (getI (wholeI ((⟨#[70]⟩ : ByteArray) ++ (S0 body).extract 1 (S0 body).size))) 3 := by
  obtain ⟨c1, c2, hL⟩ := S0_list body
  have e1 : bytesOf ((⟨#[70]⟩ : ByteArray) ++ (S0 body).extract 1 (S0 body).size) = 70 :: 0 :: ((20 + (body.size : Int)) / 256 % 256) :: ((20 + (body.size : Int)) % 256) :: 0 :: 0 :: 64 :: 0 :: 9 :: 17 :: c1 :: c2 :: 0 :: 0 :: 0 :: 1 :: 0 :: 0 :: 0 :: 2 :: bytesOf body := by
    rw [bytesOf_append, tail_all body hb hb' 1 (by decide), hL]; rfl
  have hl := bytesOf_length body
  refine .inr (.inl ⟨rfl, ?_⟩)
  rw [whole_get _ _ _ _ _ _ _ _ _ _ _ _ _ _ _ _ _ _ e1 (by decide) 24 (by decide) (by decide) (by simp [hl]; omega) (by simp [hl]; omega) (by simp [hl]; omega)]
  exact if_pos (by decide)
theorem tx8 (u v : UInt8) (hu : Go.bits .and .i64 ((u.toNat : Int) * 256 + (v.toNat : Int)) 49151 ≠ 0) : okG (getI (wholeI ((S0 body).extract 0 6 ++ (⟨#[u, v]⟩ : ByteArray) ++ (S0 body).extract 8 (S0 body).size))) 2 := by
  obtain ⟨c1, c2, hL⟩ := S0_list body
  have e1 : bytesOf ((S0 body).extract 0 6 ++ (⟨#[u, v]⟩ : ByteArray) ++ (S0 body).extract 8 (S0 body).size) = 69 :: 0 :: ((20 + (body.size : Int)) / 256 % 256) :: ((20 + (body.size : Int)) % 256) :: 0 :: 0 :: (u.toNat : Int) :: (v.toNat : Int) :: 9 :: 17 :: c1 :: c2 :: 0 :: 0 :: 0 :: 1 :: 0 :: 0 :: 0 :: 2 :: bytesOf body := by
    rw [bytesOf_append, bytesOf_append, cutL body hb hb', tail_all body hb hb' 8 (by decide), hL]; rfl
  have hl := bytesOf_length body
  refine .inr (.inr (.inl ⟨rfl, ?_⟩))
  rw [whole_get _ _ _ _ _ _ _ _ _ _ _ _ _ _ _ _ _ _ e1 (by decide) 20 (by decide) (by decide) (by simp [hl]; omega) (by simp [hl]; omega) (by simp [hl]; omega)]
  rw [if_neg (by decide), if_pos hu]
theorem tx11 : okG (getI (wholeI ((S0 body).extract 0 6 ++ (⟨#[0, 0]⟩ : ByteArray) ++ (S0 body).extract 8 (S0 body).size))) 0 := by
  obtain ⟨c1, c2, hL⟩ := S0_list body
  have e1 : bytesOf ((S0 body).extract 0 6 ++ (⟨#[0, 0]⟩ : ByteArray) ++ (S0 body).extract 8 (S0 body).size) = 69 :: 0 :: ((20 + (body.size : Int)) / 256 % 256) :: ((20 + (body.size : Int)) % 256) :: 0 :: 0 :: 0 :: 0 :: 9 :: 17 :: c1 :: c2 :: 0 :: 0 :: 0 :: 1 :: 0 :: 0 :: 0 :: 2 :: bytesOf body := by
    rw [bytesOf_append, bytesOf_append, cutL body hb hb', tail_all body hb hb' 8 (by decide), hL]; rfl
  have hl := bytesOf_length body
  refine .inr (.inr (.inr ⟨rfl, ?_⟩))
  rw [whole_get _ _ _ _ _ _ _ _ _ _ _ _ _ _ _ _ _ _ e1 (by decide) 20 (by decide) (by decide) (by simp [hl]; omega) (by simp [hl]; omega) (by simp [hl]; omega)]
  rw [if_neg (by decide), if_neg (by decide)]
  exact ⟨_, _, _, _, _, rfl⟩
theorem tx12 : okG (getI (wholeI ((S0 body).extract 0 1 ++ (⟨#[255]⟩ : ByteArray) ++ (S0 body).extract 2 (S0 body).size))) 0 := by
  obtain ⟨c1, c2, hL⟩ := S0_list body
  have e1 : bytesOf ((S0 body).extract 0 1 ++ (⟨#[255]⟩ : ByteArray) ++ (S0 body).extract 2 (S0 body).size) = 69 :: 255 :: ((20 + (body.size : Int)) / 256 % 256) :: ((20 + (body.size : Int)) % 256) :: 0 :: 0 :: 64 :: 0 :: 9 :: 17 :: c1 :: c2 :: 0 :: 0 :: 0 :: 1 :: 0 :: 0 :: 0 :: 2 :: bytesOf body := by
    rw [bytesOf_append, bytesOf_append, cutL body hb hb', tail_all body hb hb' 2 (by decide), hL]; rfl
  have hl := bytesOf_length body
  refine .inr (.inr (.inr ⟨rfl, ?_⟩))
  rw [whole_get _ _ _ _ _ _ _ _ _ _ _ _ _ _ _ _ _ _ e1 (by decide) 20 (by decide) (by decide) (by simp [hl]; omega) (by simp [hl]; omega) (by simp [hl]; omega)]
  rw [if_neg (by decide), if_neg (by decide)]
  exact ⟨_, _, _, _, _, rfl⟩
end
end Go.Proofs.Ytnhbieicjlnakaa.Pure
/- '[]byte(s)', one byte of it turned, and back: what the machine's memory says. -/
namespace Go.Proofs.Ytnhbieicjlnakaa.Pure
set_option linter.unusedSimpArgs false
set_option linter.unusedVariables false
open Go Go.RowKit Go.Proofs.YtnhbieicjlnakaaW.PrintWords Go.Proofs.YtnhbieicjlnakaaW.PrintLast Go.Proofs.YtnhbieicjlnakaaW.PrintMore Go.Proofs.Ytnhbieicjlnakaa.Wh
/-- A string with one byte turned. -/
def turnS (s : ByteArray) (i : Nat) (x : UInt8) : ByteArray := ⟨(s.data.toList.set i x).toArray⟩
theorem turnS_list (s : ByteArray) (i : Nat) (x : UInt8) : bytesOf (turnS s i x) = (bytesOf s).set i (x.toNat : Int) := by
  unfold bytesOf turnS
  simp [List.map_set]
theorem turnS_size (s : ByteArray) (i : Nat) (x : UInt8) : (turnS s i x).size = s.size := by
  have h := congrArg List.length (turnS_list s i x)
  rw [bytesOf_length, List.length_set, bytesOf_length] at h
  exact h
/-- The world behind '[]byte(s)'. -/
def rowW (w : World) (e : TypeId) (s : ByteArray) : World :=
  w.drew.alloc (.cells (bytesRow s (grownCap w s.size 0 e)) e ((bytesRow s (grownCap w s.size 0 e)).size, (bytesRow s (grownCap w s.size 0 e)).size + 1))
theorem drew_size (w : World) : w.drew.heap.size = w.heap.size := rfl
theorem rowW_cell (w : World) (e : TypeId) (s : ByteArray) (j : Nat) (hj : j < s.data.size) : (rowW w e s).cell? ⟨w.heap.size, j, none⟩ = some (.int .u8 (s.data[j].toNat : Int)) := by
  have h := World.cell?_alloc_mark w.drew (bytesRow s (grownCap w s.size 0 e)) e ((bytesRow s (grownCap w s.size 0 e)).size, (bytesRow s (grownCap w s.size 0 e)).size + 1) j
  rw [drew_size] at h
  exact h.trans (bytesRow_at s _ j hj)
theorem rowW_bt (w : World) (e : TypeId) (s : ByteArray) (j : Nat) (hj : j < s.size) : (rowW w e s).cell? ⟨w.heap.size, j, none⟩ = some (.int .u8 (bt s j)) := by
  rw [rowW_cell w e s j hj]
  unfold bt
  rw [dif_pos (by simpa using hj)]
  simp
  rfl
theorem rowW_frozen (w : World) (e : TypeId) (s : ByteArray) (j : Nat) (hj : j < s.size) : (rowW w e s).frozen? ⟨w.heap.size, j, none⟩ = false := by
  have h := World.frozen?_alloc_mark w.drew (bytesRow s (grownCap w s.size 0 e)) e (bytesRow s (grownCap w s.size 0 e)).size ((bytesRow s (grownCap w s.size 0 e)).size + 1) j
  rw [drew_size] at h
  refine h.trans ?_
  have hs : s.size ≤ (bytesRow s (grownCap w s.size 0 e)).size := by
    unfold bytesRow
    simp
  rw [decide_eq_false (by omega)]
  rfl
theorem rowW_below {w0 w : World} (hB : Below w0.heap.size w0 w) (e : TypeId) (s : ByteArray) : Below w0.heap.size w0 (rowW w e s) := below_alloc (below_drew hB) _
theorem turn_back {P : Program} (w : World) (src dst e : TypeId) (s : ByteArray) (i cap : Nat) (x : UInt8) (hi : i < s.size) (hs : P.underlying src = some (.slice e)) (he : P.underlying e = some (.int .u8)) (hd : P.underlying dst = some .string) :
    (convert src dst (.slice (some ⟨w.heap.size, 0, none⟩) s.size cap)).run P ((rowW w e s).setCell ⟨w.heap.size, i, none⟩ (.int .u8 (x.toNat : Int))) = .ok (.string (turnS s i x)) ((rowW w e s).setCell ⟨w.heap.size, i, none⟩ (.int .u8 (x.toNat : Int))) := by
  have hl : (s.data.toList.set i x).length = s.size := by rw [List.length_set]; rfl
  have h := run_convert_bytes_back (P := P) ((rowW w e s).setCell ⟨w.heap.size, i, none⟩ (.int .u8 (x.toNat : Int))) src dst e ⟨w.heap.size, 0, none⟩ cap (s.data.toList.set i x) hs he hd (fun j hj => by
    have hj' : j < s.data.size := by rw [hl] at hj; exact hj
    have ea : (⟨w.heap.size, 0, none⟩ : Addr).add j = ⟨w.heap.size, j, none⟩ := by simp [Addr.add]; omega
    rw [ea]
    by_cases c : i = j
    · subst c
      rw [World.cell?_setCell_same _ _ _ (rowW_cell w e s i hj')]
      simp
    · rw [World.cell?_setCell_other _ _ _ _ (fun q => c (by injection q)), rowW_cell w e s j hj']
      simp [List.getElem_set, c])
  rw [hl] at h
  exact h
theorem row_run {P : Program} (w : World) (src dst e : TypeId) (s : ByteArray) (hs : P.underlying src = some .string) (hd : P.underlying dst = some (.slice e)) (he : P.underlying e = some (.int .u8)) :
    (convert src dst (.string s)).run P w = .ok (.slice (some ⟨w.heap.size, 0, none⟩) s.size (grownCap w s.size 0 e)) (rowW w e s) := run_bytes_of_string w src dst e s hs hd he
/-- What is turned is another byte. -/
theorem xor_byte (a c : Int) (ha : 0 ≤ a ∧ a ≤ 255) (hc : 1 ≤ c ∧ c ≤ 128) : ∃ x : UInt8, Go.bits .xor .u8 a c = (x.toNat : Int) ∧ (x.toNat : Int) ≠ a := by
  obtain ⟨n, rfl⟩ := Int.eq_ofNat_of_zero_le ha.1
  obtain ⟨m, rfl⟩ := Int.eq_ofNat_of_zero_le (show 0 ≤ c by omega)
  have hn : n < 256 := by omega
  have hm : m < 256 := by omega
  have hx : (n ^^^ m) < 256 := Nat.xor_lt_two_pow (n := 8) hn hm
  have hu : (UInt8.ofNat (n ^^^ m)).toNat = n ^^^ m := by simp [Nat.mod_eq_of_lt hn, Nat.mod_eq_of_lt hm]
  refine ⟨UInt8.ofNat (n ^^^ m), ?_, ?_⟩
  · rw [hu]
    show IntKind.u8.wrap ((BitVec.ofInt 8 (n : Int) ^^^ BitVec.ofInt 8 (m : Int)).toNat : Int) = _
    rw [BitVec.toNat_xor, BitVec.ofInt_natCast, BitVec.ofInt_natCast, BitVec.toNat_ofNat, BitVec.toNat_ofNat, Nat.mod_eq_of_lt (show n < 2 ^ 8 from hn), Nat.mod_eq_of_lt (show m < 2 ^ 8 from hm)]
    simp [IntKind.wrap, IntKind.bits, IntKind.signed]
    omega
  · rw [hu]
    intro h
    have h' : n ^^^ m = n := Int.ofNat.inj h
    have : m = 0 := by
      have e : n ^^^ (n ^^^ m) = n ^^^ n := by rw [h']
      rw [← Nat.xor_assoc, Nat.xor_self, Nat.zero_xor] at e
      exact e
    omega
end Go.Proofs.Ytnhbieicjlnakaa.Pure
/- One byte turned: what becomes of sums. -/
namespace Go.Proofs.Ytnhbieicjlnakaa.Pure
set_option linter.unusedSimpArgs false
set_option linter.unusedVariables false
open Go Go.RowKit Go.Proofs.YtnhbieicjlnakaaW.PrintWords Go.Proofs.YtnhbieicjlnakaaW.PrintLast Go.Proofs.YtnhbieicjlnakaaW.PrintMore Go.Proofs.Ytnhbieicjlnakaa.Wh
theorem raw_set (y : Int) : ∀ (n : Nat) (L : List Int), L.length ≤ n → ∀ i, i < L.length → rawL (L.set i y) = rawL L + (y - L.getD i 0) * (if i % 2 = 0 then 256 else 1)
  | 0, L, hn, i, hi => by omega
  | n + 1, [], hn, i, hi => by simp at hi
  | n + 1, [a], hn, i, hi => by
    obtain rfl : i = 0 := by simp at hi; omega
    simp [rawL]; omega
  | n + 1, a :: b :: t, hn, 0, hi => by simp [rawL]; omega
  | n + 1, a :: b :: t, hn, 1, hi => by simp [rawL]; omega
  | n + 1, a :: b :: t, hn, i + 2, hi => by
    have ih := raw_set y n t (by simp at hn; omega) i (by simp at hi; omega)
    simp only [List.set_cons_succ, rawL, List.getD_cons_succ]
    rw [ih, show (i + 2) % 2 = i % 2 by omega]
    omega
theorem fold_move {R D : Int} (h : foldS R = 65535) (hD : D ≠ 0) (h1 : -65280 ≤ D) (h2 : D ≤ 65280) : foldS (R + D) ≠ 65535 := by
  unfold foldS at *
  by_cases a : R = 0
  · rw [if_pos a] at h; omega
  rw [if_neg a] at h
  by_cases b : R + D = 0
  · rw [if_pos b]; omega
  · rw [if_neg b]; omega
theorem byte_move (y z : Int) (i : Nat) (hy : 0 ≤ y ∧ y ≤ 255) (hz : 0 ≤ z ∧ z ≤ 255) (h : y ≠ z) : (y - z) * (if i % 2 = 0 then 256 else 1) ≠ 0 ∧ -65280 ≤ (y - z) * (if i % 2 = 0 then 256 else 1) ∧ (y - z) * (if i % 2 = 0 then 256 else 1) ≤ 65280 := by
  by_cases c : i % 2 = 0
  · rw [if_pos c]; omega
  · rw [if_neg c]; omega
theorem bt_turn_ne (s : ByteArray) (i j : Nat) (x : UInt8) (h : j ≠ i) : bt (turnS s i x) j = bt s j := by
  rw [bt_get, bt_get, turnS_list, List.getD_eq_getElem?_getD, List.getD_eq_getElem?_getD, List.getElem?_set_ne (fun e => h e.symm)]
theorem bt_turn_eq (s : ByteArray) (i : Nat) (x : UInt8) (h : i < s.size) : bt (turnS s i x) i = x.toNat := by
  rw [bt_get, turnS_list, List.getD_eq_getElem?_getD, List.getElem?_set_self (by rw [bytesOf_length]; exact h)]
  rfl
theorem byte_range (x : UInt8) : 0 ≤ (x.toNat : Int) ∧ (x.toNat : Int) ≤ 255 := by have := x.toNat_lt; omega
end Go.Proofs.Ytnhbieicjlnakaa.Pure
namespace Go.Proofs.Ytnhbieicjlnakaa.Pure
set_option linter.unusedSimpArgs false
set_option linter.unusedVariables false
open Go Go.RowKit Go.Proofs.Ytnhbieicjlnakaa.PA Go.Proofs.YtnhbieicjlnakaaW.PrintWords Go.Proofs.YtnhbieicjlnakaaW.PrintLast Go.Proofs.YtnhbieicjlnakaaW.PrintMore Go.Proofs.Ytnhbieicjlnakaa.Wh
/-- With one byte of its head turned a packet is none, or not one that is handled. -/
theorem back_pure {a0 a1 a2 a3 a4 : Int} {a5 : ByteArray} (h : mayI a0 a1 a2 a3 a4 a5 = true) (i : Nat) (hi : i < 20) (x : UInt8) (hx : (x.toNat : Int) ≠ bt (putI a0 a1 a2 a3 a4 a5) i) :
    getI (turnS (putI a0 a1 a2 a3 a4 a5) i x) = badI ∨ (i = 0 ∧ getI (turnS (putI a0 a1 a2 a3 a4 a5) i x) = unI) := by
  obtain ⟨_, _, _, _, _, h5⟩ := mayI_parts h
  have hz := putI_size a0 a1 a2 a3 a4 a5
  have b0 : bt (putI a0 a1 a2 a3 a4 a5) 0 = 69 := (bt_put a0 a1 a2 a3 a4 a5 0 (by decide)).trans rfl
  have n2 : N2 (putI a0 a1 a2 a3 a4 a5) 2 = 20 + a5.size := by
    refine (N2_put a0 a1 a2 a3 a4 a5 2 (by decide)).trans ?_
    show (20 + (a5.size : Int)) / 256 % 256 * 256 + (20 + (a5.size : Int)) % 256 = _
    omega
  have hs : sumB ((putI a0 a1 a2 a3 a4 a5).extract 0 20) = 65535 := by rw [put_take, sum_put]
  generalize putI a0 a1 a2 a3 a4 a5 = s at *
  have ht := turnS_size s i x
  have hxr := byte_range x
  by_cases c0 : i = 0
  · subst c0
    have e0 : bt (turnS s 0 x) 0 = x.toNat := bt_turn_eq s 0 x (by omega)
    have e2 : N2 (turnS s 0 x) 2 = N2 s 2 := by
      unfold N2; rw [bt_turn_ne _ _ _ _ (by decide), bt_turn_ne _ _ _ _ (by decide)]
    have hx0 : (x.toNat : Int) ≠ 69 := fun e => hx (e.trans b0.symm)
    unfold getI
    rw [e0, e2, ht, n2, if_neg (by omega)]
    by_cases c1 : (x.toNat : Int) / 16 ≠ 4 ∨ (x.toNat : Int) % 16 < 5 ∨ (s.size : Int) < 4 * ((x.toNat : Int) % 16)
    · rw [if_pos c1]; exact .inl rfl
    rw [if_neg c1, if_neg (by omega)]
    by_cases c2 : sumB ((turnS s 0 x).extract 0 (4 * ((x.toNat : Int) % 16)).toNat) ≠ 65535
    · rw [if_pos c2]; exact .inl rfl
    rw [if_neg c2, if_pos (by omega)]
    exact .inr ⟨rfl, rfl⟩
  · refine .inl ?_
    have e0 : bt (turnS s i x) 0 = 69 := (bt_turn_ne s i 0 x (fun e => c0 e.symm)).trans b0
    by_cases c2 : i = 2 ∨ i = 3
    · apply get_bad_size
      refine .inr ?_
      rw [ht, hz]
      have r2 := bt_range s 2; have r3 := bt_range s 3
      unfold N2 at n2 ⊢
      rcases c2 with rfl | rfl
      · have e : bt (turnS s 2 x) ((2 : Nat) : Int) = x.toNat := bt_turn_eq s 2 x (by omega)
        rw [e, bt_turn_ne s 2 (2 + 1) x (by decide)]
        have hx' : (x.toNat : Int) ≠ bt s ((2 : Nat) : Int) := hx
        omega
      · have e : bt (turnS s 3 x) ((2 + 1 : Nat) : Int) = x.toNat := bt_turn_eq s 3 x (by omega)
        rw [e, bt_turn_ne s 3 2 x (by decide)]
        have hx' : (x.toNat : Int) ≠ bt s ((2 + 1 : Nat) : Int) := hx
        omega
    · apply get_bad_sum _ e0
      rw [sumB_take] at hs ⊢
      have hl : ((bytesOf s).take 20).length = 20 := by rw [List.length_take, bytesOf_length]; omega
      have hg : ((bytesOf s).take 20).getD i 0 = bt s i := by
        rw [bt_get, List.getD_eq_getElem?_getD, List.getD_eq_getElem?_getD, List.getElem?_take_of_lt hi]
      rw [turnS_list, List.take_set, raw_set _ 20 _ (by omega) i (by omega), hg]
      obtain ⟨q1, q2, q3⟩ := byte_move (x.toNat : Int) (bt s i) i hxr (bt_range s i) hx
      exact fold_move hs q1 q2 q3
end Go.Proofs.Ytnhbieicjlnakaa.Pure
namespace Go.Proofs.Ytnhbieicjlnakaa.PA
set_option linter.unusedSimpArgs false
set_option linter.unusedVariables false
open Go Go.RowKit Go.Proofs.YtnhbieicjlnakaaW.PrintWords Go.Proofs.YtnhbieicjlnakaaW.PrintLast Go.Proofs.YtnhbieicjlnakaaW.PrintMore Go.Proofs.Ytnhbieicjlnakaa.Wh Go.Proofs.Ytnhbieicjlnakaa.Pure
attribute [local go_sem high] eqA23
theorem tmod20 (x : Int) : 0 ≤ wrap64 (Int.tmod (IntKind.u64.wrap x) 20) ∧ wrap64 (Int.tmod (IntKind.u64.wrap x) 20) < 20 := by
  rw [u64_wrap]
  have h1 : 0 ≤ x % 18446744073709551616 := Int.emod_nonneg _ (by decide)
  rw [Int.tmod_eq_emod_of_nonneg h1, wrap64_id (by omega) (by omega)]
  omega
set_option maxHeartbeats 8000000 in
set_option maxRecDepth 100000 in
theorem wharfagelaw2_IpBack.calls (a0_0 a0_1 a0_2 a0_3 a0_4 : Int) (a0_5 : ByteArray) (a1 a2 : Int) (r : Bool) (w : World) (h : true = r) :
    Calls Try.prog 4 #[.agg #[.int .i64 a0_0, .int .i64 a0_1, .int .i64 a0_2, .int .i64 a0_3, .int .i64 a0_4, .string a0_5], .int .i64 a1, .int .i64 a2] w fun e w' => e = .returned (.bool r) ∧ Below w.heap.size w w' := by
  subst h
  have HB := Aside0.mk (Below.refl w.heap.size w)
  have hu23 := Try.underlying23
  have AW := Aside0.mk awakeI
  by_cases hm : mayI a0_0 a0_1 a0_2 a0_3 a0_4 a0_5 = true
  rotate_left
  · have AP := Aside0.mk (Put_bad 700 (by simpa using hm : mayI a0_0 a0_1 a0_2 a0_3 a0_4 a0_5 = false))
    clear hm
    go_enter Try.func4, Try.ntmps4
    go_wp2_with (first
      | (go_at_call 25; refine (wharfagelaw2_awake.calls 700 true _ AW.out).mono ?_; rintro e w1 ⟨rfl, hb1⟩; have P1 := Aside0.mk (blk_below (heap_alloc_new w (.cells #[.int .i64 a0_0, .int .i64 a0_1, .int .i64 a0_2, .int .i64 a0_3, .int .i64 a0_4, .string a0_5] 23)) hb1); have B1 := Aside0.mk (below_then (below_alloc HB.out _) (below_alloc HB.out _).size hb1); have q0 : w1.cell? ⟨w.heap.size, 0, none⟩ = some (.int .i64 a0_0) := (blk_cell P1.out 0).trans rfl; have q1 : w1.cell? ⟨w.heap.size, 1, none⟩ = some (.int .i64 a0_1) := (blk_cell P1.out 1).trans rfl; have q2 : w1.cell? ⟨w.heap.size, 2, none⟩ = some (.int .i64 a0_2) := (blk_cell P1.out 2).trans rfl; have q3 : w1.cell? ⟨w.heap.size, 3, none⟩ = some (.int .i64 a0_3) := (blk_cell P1.out 3).trans rfl; have q4 : w1.cell? ⟨w.heap.size, 4, none⟩ = some (.int .i64 a0_4) := (blk_cell P1.out 4).trans rfl; have q5 : w1.cell? ⟨w.heap.size, 5, none⟩ = some (.string a0_5) := (blk_cell P1.out 5).trans rfl; clear hb1)
      | (go_at_call 17; refine (ip_Put.calls 700 _ _ _ _ _ _ _ _ _ AP.out).mono ?_; rintro e w2 ⟨rfl, hb2⟩; have B2 := Aside0.mk (below_then B1.out B1.out.size hb2); clear q0 q1 q2 q3 q4 q5 hb2)
      | (go_at_call 19; refine (wharfagelaw0_Num.calls 200 200 _ rfl).mono ?_; rintro e w3 ⟨rfl, ⟨nd, rfl⟩⟩))
    go_ret
    exact ⟨by first | rfl | (rw [empty_toList]; rfl) | (simp [empty_toList]), pw_below_drewN B2.out nd⟩
  · obtain ⟨s, hs⟩ : ∃ s, putI a0_0 a0_1 a0_2 a0_3 a0_4 a0_5 = s := ⟨_, rfl⟩
    have AP := Aside0.mk (Put_ok 700 (by decide) hm)
    have AG := Aside0.mk ((Get_eq 700 (by decide) (putI a0_0 a0_1 a0_2 a0_3 a0_4 a0_5)).trans (congrArg some (get_put hm)))
    have hz := putI_size a0_0 a0_1 a0_2 a0_3 a0_4 a0_5
    have hbk := fun i hi x hx => back_pure hm i hi x hx
    rw [hs] at AP AG hz hbk
    have c20 : (s.size < 20) = False := eq_false (by omega)
    have c20b : decide ((s.size : Int) < 20) = false := decide_eq_false (by omega)
    replace hz := Aside0.mk hz
    have hw492 := Aside0.mk (mayI_parts hm).2.2.2.2.2
    replace hbk := Aside0.mk hbk
    clear hm hs
    go_enter Try.func4, Try.ntmps4
    go_upto_region 7 with (first
      | (go_at_call 25; refine (wharfagelaw2_awake.calls 700 true _ AW.out).mono ?_; rintro e w1 ⟨rfl, hb1⟩; have P1 := Aside0.mk (blk_below (heap_alloc_new w (.cells #[.int .i64 a0_0, .int .i64 a0_1, .int .i64 a0_2, .int .i64 a0_3, .int .i64 a0_4, .string a0_5] 23)) hb1); have B1 := Aside0.mk (below_then (below_alloc HB.out _) (below_alloc HB.out _).size hb1); have q0 : w1.cell? ⟨w.heap.size, 0, none⟩ = some (.int .i64 a0_0) := (blk_cell P1.out 0).trans rfl; have q1 : w1.cell? ⟨w.heap.size, 1, none⟩ = some (.int .i64 a0_1) := (blk_cell P1.out 1).trans rfl; have q2 : w1.cell? ⟨w.heap.size, 2, none⟩ = some (.int .i64 a0_2) := (blk_cell P1.out 2).trans rfl; have q3 : w1.cell? ⟨w.heap.size, 3, none⟩ = some (.int .i64 a0_3) := (blk_cell P1.out 3).trans rfl; have q4 : w1.cell? ⟨w.heap.size, 4, none⟩ = some (.int .i64 a0_4) := (blk_cell P1.out 4).trans rfl; have q5 : w1.cell? ⟨w.heap.size, 5, none⟩ = some (.string a0_5) := (blk_cell P1.out 5).trans rfl; clear hb1)
      | (go_at_call 17; refine (ip_Put.calls 700 _ _ _ _ _ _ _ _ _ AP.out).mono ?_; rintro e w2 ⟨rfl, hb2⟩; have P2 := Aside0.mk (blk_below P1.out hb2); have B2 := Aside0.mk (below_then B1.out B1.out.size hb2); clear q0 q1 q2 q3 q4 q5 hb2)
      | (go_at_call 19; refine (wharfagelaw0_Num.calls 0 0 _ rfl).mono ?_; rintro e w3 ⟨rfl, ⟨nd, rfl⟩⟩)
      | (go_at_call 23; refine (ip_Get.calls 700 _ _ _ _ _ _ _ _ _ _ AG.out).mono ?_; rintro e w3 ⟨rfl, hb3⟩; have P3 := Aside0.mk (blk_below (blk_drewN P2.out nd) hb3); have B3 := Aside0.mk (below_then (pw_below_drewN B2.out nd) (pw_below_drewN B2.out nd).size hb3); clear hb3))
    have P4 := Aside0.mk (blk_alloc P3.out (.cells #[.int .i64 a0_0, .int .i64 a0_1, .int .i64 a0_2, .int .i64 a0_3, .int .i64 a0_4, .string a0_5] 23))
    have Q4 := Aside0.mk (heap_alloc_new w3 (.cells #[.int .i64 a0_0, .int .i64 a0_1, .int .i64 a0_2, .int .i64 a0_3, .int .i64 a0_4, .string a0_5] 23))
    have B4 := Aside0.mk (below_alloc B3.out (.cells #[.int .i64 a0_0, .int .i64 a0_1, .int .i64 a0_2, .int .i64 a0_3, .int .i64 a0_4, .string a0_5] 23))
    generalize w3.alloc (.cells #[.int .i64 a0_0, .int .i64 a0_1, .int .i64 a0_2, .int .i64 a0_3, .int .i64 a0_4, .string a0_5] 23) = W at P4 Q4 B4 ⊢
    generalize w3.heap.size = g9 at Q4 ⊢
    have hcv := row_run (P := Try.prog) W 9 39 5 s Try.underlying9 Try.underlying39 Try.underlying5
    obtain ⟨i, hi, hi20⟩ : ∃ i : Nat, wrap64 (Int.tmod (IntKind.u64.wrap a1) 20) = (i : Int) ∧ i < 20 := by
      have h := tmod20 a1
      exact ⟨(wrap64 (Int.tmod (IntKind.u64.wrap a1) 20)).toNat, by omega, by omega⟩
    replace hi20 := Aside0.mk hi20
    go_upto_region 9 with (fail)
    rw [hi]
    have g0 : (0 ≤ (i : Int)) = True := eq_true (by omega)
    have g1 : ((i : Int) < (s.size : Int)) = True := eq_true (by have := hi20.out; have := hz.out; omega)
    have l0 : (rowW W 5 s).cell? ⟨W.heap.size, i, none⟩ = some (.int .u8 (bt s i)) := rowW_bt W 5 s i (by have := hi20.out; have := hz.out; omega)
    have f0 : (rowW W 5 s).frozen? ⟨W.heap.size, i, none⟩ = false := rowW_frozen W 5 s i (by have := hi20.out; have := hz.out; omega)
    go_upto_region 10 with (fail)
    obtain ⟨x, hx, hne⟩ := xor_byte (bt s i) (wrap64 (1 + Go.bits .and .i64 a2 127) % 256) (bt_range s i) (by rw [and_127, wrap64_id (by omega) (by omega)]; omega)
    rw [hx]
    have hlt : i < s.size := by have := hi20.out; have := hz.out; omega
    have hback := turn_back (P := Try.prog) W 39 9 5 s i (grownCap W s.size 0 5) x hlt Try.underlying39 Try.underlying5 Try.underlying9
    have P6 : Aside0 (((rowW W 5 s).setCell ⟨W.heap.size, i, none⟩ (.int .u8 (x.toNat : Int))).heap[w.heap.size]? = some (.cells #[.int .i64 a0_0, .int .i64 a0_1, .int .i64 a0_2, .int .i64 a0_3, .int .i64 a0_4, .string a0_5] 23)) := Aside0.mk (blk_far (blk_alloc (blk_drew P4.out) _ : (rowW W 5 s).heap[w.heap.size]? = some (.cells #[.int .i64 a0_0, .int .i64 a0_1, .int .i64 a0_2, .int .i64 a0_3, .int .i64 a0_4, .string a0_5] 23)) (p := ⟨W.heap.size, i, none⟩) (Nat.ne_of_lt (blk_lt P4.out)) (.int .u8 (x.toNat : Int)))
    have Q6 : Aside0 (((rowW W 5 s).setCell ⟨W.heap.size, i, none⟩ (.int .u8 (x.toNat : Int))).heap[g9]? = some (.cells #[.int .i64 a0_0, .int .i64 a0_1, .int .i64 a0_2, .int .i64 a0_3, .int .i64 a0_4, .string a0_5] 23)) := Aside0.mk (blk_far (blk_alloc (blk_drew Q4.out) _ : (rowW W 5 s).heap[g9]? = some (.cells #[.int .i64 a0_0, .int .i64 a0_1, .int .i64 a0_2, .int .i64 a0_3, .int .i64 a0_4, .string a0_5] 23)) (p := ⟨W.heap.size, i, none⟩) (Nat.ne_of_lt (blk_lt Q4.out)) (.int .u8 (x.toNat : Int)))
    have B6 : Aside0 (Below w.heap.size w ((rowW W 5 s).setCell ⟨W.heap.size, i, none⟩ (.int .u8 (x.toNat : Int)))) := Aside0.mk (below_set (rowW_below B4.out 5 s) B4.out.size (j := i) (v := .int .u8 (x.toNat : Int)))
    generalize (rowW W 5 s).setCell ⟨W.heap.size, i, none⟩ (.int .u8 (x.toNat : Int)) = W6 at hback P6 Q6 B6 ⊢
    have hbad := hbk.out i hi20.out x hne
    clear hcv hx hne l0 f0 hi
    have hw : wrap64 (20 + (a0_5.size : Int)) = (s.size : Int) := by
      have := hz.out; have := hw492.out
      rw [wrap64_id (by omega) (by omega)]; omega
    have hw' := (i64_w (20 + (a0_5.size : Int))).trans hw
    rcases hbad with hG | ⟨hi0, hG⟩
    · unfold badI at hG
      have AG2 := Aside0.mk ((Get_eq 700 (by decide) (turnS s i x)).trans (congrArg some hG))
      go_wp2_with fail
      refine (ip_Get.calls 700 _ _ _ _ _ _ _ _ _ _ AG2.out).mono ?_
      rintro e w7 ⟨rfl, hb7⟩
      have P7 := Aside0.mk (blk_below P6.out hb7)
      have Q7 := Aside0.mk (blk_below Q6.out hb7)
      have B7 := Aside0.mk (below_then B6.out B6.out.size hb7)
      have lt0 : w.heap.size < w7.heap.size := blk_lt P7.out
      have lt9 : g9 < w7.heap.size := blk_lt Q7.out
      have q0 : w7.cell? ⟨w.heap.size, 0, none⟩ = some (.int .i64 a0_0) := (blk_cell P7.out 0).trans rfl
      have q1 : w7.cell? ⟨w.heap.size, 1, none⟩ = some (.int .i64 a0_1) := (blk_cell P7.out 1).trans rfl
      have q2 : w7.cell? ⟨w.heap.size, 2, none⟩ = some (.int .i64 a0_2) := (blk_cell P7.out 2).trans rfl
      have q3 : w7.cell? ⟨w.heap.size, 3, none⟩ = some (.int .i64 a0_3) := (blk_cell P7.out 3).trans rfl
      have q4 : w7.cell? ⟨w.heap.size, 4, none⟩ = some (.int .i64 a0_4) := (blk_cell P7.out 4).trans rfl
      have q5 : w7.cell? ⟨w.heap.size, 5, none⟩ = some (.string a0_5) := (blk_cell P7.out 5).trans rfl
      have r0 : w7.cell? ⟨g9, 0, none⟩ = some (.int .i64 a0_0) := (blk_cell Q7.out 0).trans rfl
      have r1 : w7.cell? ⟨g9, 1, none⟩ = some (.int .i64 a0_1) := (blk_cell Q7.out 1).trans rfl
      have r2 : w7.cell? ⟨g9, 2, none⟩ = some (.int .i64 a0_2) := (blk_cell Q7.out 2).trans rfl
      have r3 : w7.cell? ⟨g9, 3, none⟩ = some (.int .i64 a0_3) := (blk_cell Q7.out 3).trans rfl
      have r4 : w7.cell? ⟨g9, 4, none⟩ = some (.int .i64 a0_4) := (blk_cell Q7.out 4).trans rfl
      have r5 : w7.cell? ⟨g9, 5, none⟩ = some (.string a0_5) := (blk_cell Q7.out 5).trans rfl
      clear hb7
      go_wp2_with (first | (go_at_call 19; refine (wharfagelaw0_Num.calls _ _ _ rfl).mono ?_; rintro e w9 ⟨rfl, ⟨nd, rfl⟩⟩))
      go_ret
      exact ⟨by first | rfl | simp [empty_toList], by repeat (first | exact B7.out | refine pw_below_drewN ?_ _ | refine below_alloc ?_ _)⟩
    · unfold unI at hG
      subst hi0
      have AG2 := Aside0.mk ((Get_eq 700 (by decide) (turnS s 0 x)).trans (congrArg some hG))
      go_wp2_with fail
      refine (ip_Get.calls 700 _ _ _ _ _ _ _ _ _ _ AG2.out).mono ?_
      rintro e w7 ⟨rfl, hb7⟩
      have P7 := Aside0.mk (blk_below P6.out hb7)
      have Q7 := Aside0.mk (blk_below Q6.out hb7)
      have B7 := Aside0.mk (below_then B6.out B6.out.size hb7)
      have lt0 : w.heap.size < w7.heap.size := blk_lt P7.out
      have lt9 : g9 < w7.heap.size := blk_lt Q7.out
      have q0 : w7.cell? ⟨w.heap.size, 0, none⟩ = some (.int .i64 a0_0) := (blk_cell P7.out 0).trans rfl
      have q1 : w7.cell? ⟨w.heap.size, 1, none⟩ = some (.int .i64 a0_1) := (blk_cell P7.out 1).trans rfl
      have q2 : w7.cell? ⟨w.heap.size, 2, none⟩ = some (.int .i64 a0_2) := (blk_cell P7.out 2).trans rfl
      have q3 : w7.cell? ⟨w.heap.size, 3, none⟩ = some (.int .i64 a0_3) := (blk_cell P7.out 3).trans rfl
      have q4 : w7.cell? ⟨w.heap.size, 4, none⟩ = some (.int .i64 a0_4) := (blk_cell P7.out 4).trans rfl
      have q5 : w7.cell? ⟨w.heap.size, 5, none⟩ = some (.string a0_5) := (blk_cell P7.out 5).trans rfl
      have r0 : w7.cell? ⟨g9, 0, none⟩ = some (.int .i64 a0_0) := (blk_cell Q7.out 0).trans rfl
      have r1 : w7.cell? ⟨g9, 1, none⟩ = some (.int .i64 a0_1) := (blk_cell Q7.out 1).trans rfl
      have r2 : w7.cell? ⟨g9, 2, none⟩ = some (.int .i64 a0_2) := (blk_cell Q7.out 2).trans rfl
      have r3 : w7.cell? ⟨g9, 3, none⟩ = some (.int .i64 a0_3) := (blk_cell Q7.out 3).trans rfl
      have r4 : w7.cell? ⟨g9, 4, none⟩ = some (.int .i64 a0_4) := (blk_cell Q7.out 4).trans rfl
      have r5 : w7.cell? ⟨g9, 5, none⟩ = some (.string a0_5) := (blk_cell Q7.out 5).trans rfl
      clear hb7
      go_wp2_with (first | (go_at_call 19; refine (wharfagelaw0_Num.calls _ _ _ rfl).mono ?_; rintro e w9 ⟨rfl, ⟨nd, rfl⟩⟩))
      go_ret
      exact ⟨by first | rfl | simp [empty_toList], by repeat (first | exact B7.out | refine pw_below_drewN ?_ _ | refine below_alloc ?_ _)⟩
end Go.Proofs.Ytnhbieicjlnakaa.PA
namespace Go.Proofs.Ytnhbieicjlnakaa.Pure
theorem IpBack (a0 a1 a2 a3 a4 : Int) (_ : ByteArray) (at_ by_ : Int) (_ : (Lit.int .i64 a0).wf = true) (_ : (Lit.int .i64 a1).wf = true) (_ : (Lit.int .i64 a2).wf = true) (_ : (Lit.int .i64 a3).wf = true) (_ : (Lit.int .i64 a4).wf = true) (_ : (Lit.int .i64 at_).wf = true) (_ : (Lit.int .i64 by_).wf = true) : true = true := rfl
end Go.Proofs.Ytnhbieicjlnakaa.Pure
