import Derived.Test.YtnhbieicjlnakaaIpLists
namespace Go.Proofs.Ytnhbieicjlnakaa.Pure
set_option linter.unusedSimpArgs false
set_option linter.unusedVariables false
set_option linter.unusedSectionVars false
open Go Go.RowKit Go.Proofs.Ytnhbieicjlnakaa.PA Go.Proofs.YtnhbieicjlnakaaW.PrintWords Go.Proofs.YtnhbieicjlnakaaW.PrintLast Go.Proofs.YtnhbieicjlnakaaW.PrintMore Go.Proofs.Ytnhbieicjlnakaa.Wh
def unI : IpR := (0, 0, 0, 0, 0, (⟨#[]⟩ : ByteArray), 3, 0)
def frI : IpR := (0, 0, 0, 0, 0, (⟨#[]⟩ : ByteArray), 2, 0)
theorem get_bad_size (s : ByteArray) (h : s.size < 20 ∨ N2 s 2 ≠ s.size) : getI s = badI := by
  unfold getI
  by_cases h1 : s.size < 20 ∨ 512 < s.size
  · rw [if_pos h1]
  rw [if_neg h1]
  by_cases h2 : bt s 0 / 16 ≠ 4 ∨ bt s 0 % 16 < 5 ∨ (s.size : Int) < 4 * (bt s 0 % 16)
  · rw [if_pos h2]
  rw [if_neg h2, if_pos (h.resolve_left (by omega))]
theorem get_bad_first (s : ByteArray) (h : bt s 0 / 16 ≠ 4 ∨ bt s 0 % 16 < 5) : getI s = badI := by
  unfold getI
  by_cases h1 : s.size < 20 ∨ 512 < s.size
  · rw [if_pos h1]
  rw [if_neg h1, if_pos (by omega)]
theorem get_bad_sum (s : ByteArray) (h0 : bt s 0 = 69) (h : sumB (s.extract 0 20) ≠ 65535) : getI s = badI := by
  unfold getI
  by_cases h1 : s.size < 20 ∨ 512 < s.size
  · rw [if_pos h1]
  rw [if_neg h1, h0]
  by_cases h2 : (69 : Int) / 16 ≠ 4 ∨ (69 : Int) % 16 < 5 ∨ (s.size : Int) < 4 * ((69 : Int) % 16)
  · rw [if_pos h2]
  rw [if_neg h2, show (4 * ((69 : Int) % 16)).toNat = 20 from rfl]
  by_cases h3 : N2 s 2 ≠ s.size
  · rw [if_pos h3]
  rw [if_neg h3, if_pos h]
theorem whole_get (t : ByteArray) (x0 x1 x2 x3 x4 x5 x6 x7 x8 x9 x10 x11 x12 x13 x14 x15 : Int) (T : List Int)
    (h : bytesOf t = x0 :: x1 :: x2 :: x3 :: x4 :: x5 :: x6 :: x7 :: x8 :: x9 :: x10 :: x11 :: x12 :: x13 :: x14 :: x15 :: T)
    (h0 : x0 / 16 = 4) (n : Nat) (hn : 4 * (x0 % 16) = n) (h20 : 20 ≤ n) (hs : n ≤ 16 + T.length) (h2 : x2 * 256 + x3 = 16 + T.length) (hT : 16 + T.length ≤ 512) :
    getI (wholeI t) = if 20 < n then unI else if Go.bits .and .i64 (x6 * 256 + x7) 49151 ≠ 0 then frI
      else (((x12 * 256 + x13) * 256 + x14) * 256 + x15, N4 (wholeI t) 16, bt (wholeI t) 9, bt (wholeI t) 8, N2 (wholeI t) 4, (wholeI t).extract 20 (wholeI t).size, 0, 0) := by
  obtain ⟨_, _, _, _, hz⟩ := get_list t _ _ _ _ _ _ _ _ _ _ _ _ _ _ _ _ T h
  obtain ⟨c1, c2, hw, hsum⟩ := whole_bytes t _ _ _ _ _ _ _ _ _ _ _ _ _ h n hn h20 (by omega)
  obtain ⟨g0, g2, g6, g12, gz⟩ := get_list (wholeI t) _ _ _ _ _ _ _ _ _ _ _ _ _ _ _ _ T hw
  generalize wholeI t = w at *
  unfold getI
  rw [g0, g2, g6, g12, gz, if_neg (by omega), if_neg (by omega), if_neg (by omega), show (4 * (x0 % 16)).toNat = n by omega, if_neg (by rw [hsum]; decide)]
  by_cases c : 20 < n
  · rw [if_pos c, if_pos (by omega)]; rfl
  rw [if_neg c, if_neg (by omega)]
  by_cases d : Go.bits .and .i64 (x6 * 256 + x7) 49151 ≠ 0
  · rw [if_pos d, if_pos d]; rfl
  rw [if_neg d, if_neg d]
/-- What a text tells, by the class it has to have. -/
def okG (g : IpR) (w : Int) : Prop := (w = 1 ∧ g = badI) ∨ (w = 3 ∧ g = unI) ∨ (w = 2 ∧ g = frI) ∨ (w = 0 ∧ ∃ b c d e x, g = (1, b, c, d, e, x, 0, 0))
section
variable (body : ByteArray) (hb : 8 ≤ body.size) (hb' : body.size ≤ 48)
def S0 (body : ByteArray) : ByteArray := putI 1 2 17 9 0 body
theorem S0_size : (S0 body).size = 20 + body.size := putI_size _ _ _ _ _ _
theorem S0_list : ∃ c1 c2, bytesOf (S0 body) = 69 :: 0 :: ((20 + (body.size : Int)) / 256 % 256) :: ((20 + (body.size : Int)) % 256) :: 0 :: 0 :: 64 :: 0 :: 9 :: 17 :: c1 :: c2 :: 0 :: 0 :: 0 :: 1 :: 0 :: 0 :: 0 :: 2 :: bytesOf body :=
  ⟨_, _, bytesOf_put 1 2 17 9 0 body⟩
theorem S0_N2 : N2 (S0 body) 2 = (20 + (body.size : Int)) / 256 % 256 * 256 + (20 + (body.size : Int)) % 256 := N2_put _ _ _ _ _ _ 2 (by decide)
include hb hb'
theorem tx1 : okG (getI ((S0 body).extract 0 19)) 1 := .inl ⟨rfl, get_bad_size _ (.inl (by rw [ByteArray.size_extract, S0_size]; omega))⟩
theorem tx2 (m : Nat) (hm : m = 19 + body.size) : okG (getI ((S0 body).extract 0 m)) 1 := by
  refine .inl ⟨rfl, get_bad_size _ (.inr ?_)⟩
  have e : N2 ((S0 body).extract 0 m) 2 = N2 (S0 body) 2 := by
    have := S0_size body
    unfold N2
    rw [bt_extract _ 0 m 2 (by omega) (by omega), bt_extract _ 0 m (2 + 1) (by omega) (by omega)]
  rw [e, S0_N2, ByteArray.size_extract, S0_size]; omega
theorem tx3 (c : UInt8) : okG (getI (S0 body ++ (⟨#[c]⟩ : ByteArray))) 1 := by
  refine .inl ⟨rfl, get_bad_size _ (.inr ?_)⟩
  have e : N2 (S0 body ++ (⟨#[c]⟩ : ByteArray)) 2 = N2 (S0 body) 2 := by
    have := S0_size body
    unfold N2
    rw [bt_left _ _ 2 (by omega), bt_left _ _ (2 + 1) (by omega)]
  rw [e, S0_N2, ByteArray.size_append, S0_size]
  show _ ≠ ((20 + body.size + 1 : Nat) : Int)
  omega
theorem tx4 (c : UInt8) (hc : (c.toNat : Int) / 16 ≠ 4 ∨ (c.toNat : Int) % 16 < 5) : okG (getI ((⟨#[c]⟩ : ByteArray) ++ (S0 body).extract 1 (S0 body).size)) 1 := by
  refine .inl ⟨rfl, get_bad_first _ ?_⟩
  have e : bt ((⟨#[c]⟩ : ByteArray) ++ (S0 body).extract 1 (S0 body).size) 0 = c.toNat := by
    refine (bt_left _ _ 0 ?_).trans ?_
    · show 0 < 1; decide
    · rfl
  rw [e]; exact hc
/-- The text's bytes, cut. -/
theorem cutL (a b : Nat) : bytesOf ((S0 body).extract a b) = ((bytesOf (S0 body)).drop a).take (b - a) := bytesOf_extract _ _ _
theorem tail_all (a : Nat) (ha : a ≤ 20) : bytesOf ((S0 body).extract a (S0 body).size) = (bytesOf (S0 body)).drop a := by
  rw [bytesOf_extract, List.take_of_length_le]
  have := bytesOf_length (S0 body)
  rw [List.length_drop, this]
  exact Nat.le_refl _
theorem tx6 : okG (getI ((S0 body).extract 0 8 ++ (⟨#[10]⟩ : ByteArray) ++ (S0 body).extract 9 (S0 body).size)) 1 := by
  obtain ⟨c1, c2, hL⟩ := S0_list body
  have e1 : bytesOf ((S0 body).extract 0 8 ++ (⟨#[10]⟩ : ByteArray) ++ (S0 body).extract 9 (S0 body).size) = 69 :: 0 :: ((20 + (body.size : Int)) / 256 % 256) :: ((20 + (body.size : Int)) % 256) :: 0 :: 0 :: 64 :: 0 :: 10 :: 17 :: c1 :: c2 :: 0 :: 0 :: 0 :: 1 :: 0 :: 0 :: 0 :: 2 :: bytesOf body := by
    rw [bytesOf_append, bytesOf_append, cutL body hb hb', tail_all body hb hb' 9 (by decide), hL]; rfl
  have hs : sumB ((S0 body).extract 0 20) = 65535 := by
    unfold S0
    rw [put_take, sum_put]
  refine .inl ⟨rfl, get_bad_sum _ ?_ ?_⟩
  · exact (get_list _ _ _ _ _ _ _ _ _ _ _ _ _ _ _ _ _ _ e1).1
  · rw [sumB_take, e1]
    rw [sumB_take, hL] at hs
    have hr := bytesOf_range (S0 body)
    rw [hL] at hr
    simp only [List.mem_cons, forall_eq_or_imp] at hr
    simp only [List.take_succ_cons, List.take_zero, rawL, foldS] at hs ⊢
    omega
theorem tx7 : okG (getI (wholeI ((⟨#[70]⟩ : ByteArray) ++ (S0 body).extract 1 (S0 body).size))) 3 := by
  obtain ⟨c1, c2, hL⟩ := S0_list body
  have e1 : bytesOf ((⟨#[70]⟩ : ByteArray) ++ (S0 body).extract 1 (S0 body).size) = 70 :: 0 :: ((20 + (body.size : Int)) / 256 % 256) :: ((20 + (body.size : Int)) % 256) :: 0 :: 0 :: 64 :: 0 :: 9 :: 17 :: c1 :: c2 :: 0 :: 0 :: 0 :: 1 :: 0 :: 0 :: 0 :: 2 :: bytesOf body := by
    rw [bytesOf_append, tail_all body hb hb' 1 (by decide), hL]; rfl
  have hl := bytesOf_length body
  refine .inr (.inl ⟨rfl, ?_⟩)
  rw [whole_get _ _ _ _ _ _ _ _ _ _ _ _ _ _ _ _ _ _ e1 (by decide) 24 (by decide) (by decide) (by simp [hl]; omega) (by simp [hl]; omega) (by simp [hl]; omega)]
  exact if_pos (by decide)
theorem tx8 (u v : UInt8) (hu : Go.bits .and .i64 ((u.toNat : Int) * 256 + (v.toNat : Int)) 49151 ≠ 0) : okG (getI (wholeI ((S0 body).extract 0 6 ++ (⟨#[u, v]⟩ : ByteArray) ++ (S0 body).extract 8 (S0 body).size))) 2 := by
  obtain ⟨c1, c2, hL⟩ := S0_list body
  have e1 : bytesOf ((S0 body).extract 0 6 ++ (⟨#[u, v]⟩ : ByteArray) ++ (S0 body).extract 8 (S0 body).size) = 69 :: 0 :: ((20 + (body.size : Int)) / 256 % 256) :: ((20 + (body.size : Int)) % 256) :: 0 :: 0 :: (u.toNat : Int) :: (v.toNat : Int) :: 9 :: 17 :: c1 :: c2 :: 0 :: 0 :: 0 :: 1 :: 0 :: 0 :: 0 :: 2 :: bytesOf body := by
    rw [bytesOf_append, bytesOf_append, cutL body hb hb', tail_all body hb hb' 8 (by decide), hL]; rfl
  have hl := bytesOf_length body
  refine .inr (.inr (.inl ⟨rfl, ?_⟩))
  rw [whole_get _ _ _ _ _ _ _ _ _ _ _ _ _ _ _ _ _ _ e1 (by decide) 20 (by decide) (by decide) (by simp [hl]; omega) (by simp [hl]; omega) (by simp [hl]; omega)]
  rw [if_neg (by decide), if_pos hu]
theorem tx11 : okG (getI (wholeI ((S0 body).extract 0 6 ++ (⟨#[0, 0]⟩ : ByteArray) ++ (S0 body).extract 8 (S0 body).size))) 0 := by
  obtain ⟨c1, c2, hL⟩ := S0_list body
  have e1 : bytesOf ((S0 body).extract 0 6 ++ (⟨#[0, 0]⟩ : ByteArray) ++ (S0 body).extract 8 (S0 body).size) = 69 :: 0 :: ((20 + (body.size : Int)) / 256 % 256) :: ((20 + (body.size : Int)) % 256) :: 0 :: 0 :: 0 :: 0 :: 9 :: 17 :: c1 :: c2 :: 0 :: 0 :: 0 :: 1 :: 0 :: 0 :: 0 :: 2 :: bytesOf body := by
    rw [bytesOf_append, bytesOf_append, cutL body hb hb', tail_all body hb hb' 8 (by decide), hL]; rfl
  have hl := bytesOf_length body
  refine .inr (.inr (.inr ⟨rfl, ?_⟩))
  rw [whole_get _ _ _ _ _ _ _ _ _ _ _ _ _ _ _ _ _ _ e1 (by decide) 20 (by decide) (by decide) (by simp [hl]; omega) (by simp [hl]; omega) (by simp [hl]; omega)]
  rw [if_neg (by decide), if_neg (by decide)]
  exact ⟨_, _, _, _, _, rfl⟩
theorem tx12 : okG (getI (wholeI ((S0 body).extract 0 1 ++ (⟨#[255]⟩ : ByteArray) ++ (S0 body).extract 2 (S0 body).size))) 0 := by
  obtain ⟨c1, c2, hL⟩ := S0_list body
  have e1 : bytesOf ((S0 body).extract 0 1 ++ (⟨#[255]⟩ : ByteArray) ++ (S0 body).extract 2 (S0 body).size) = 69 :: 255 :: ((20 + (body.size : Int)) / 256 % 256) :: ((20 + (body.size : Int)) % 256) :: 0 :: 0 :: 64 :: 0 :: 9 :: 17 :: c1 :: c2 :: 0 :: 0 :: 0 :: 1 :: 0 :: 0 :: 0 :: 2 :: bytesOf body := by
    rw [bytesOf_append, bytesOf_append, cutL body hb hb', tail_all body hb hb' 2 (by decide), hL]; rfl
  have hl := bytesOf_length body
  refine .inr (.inr (.inr ⟨rfl, ?_⟩))
  rw [whole_get _ _ _ _ _ _ _ _ _ _ _ _ _ _ _ _ _ _ e1 (by decide) 20 (by decide) (by decide) (by simp [hl]; omega) (by simp [hl]; omega) (by simp [hl]; omega)]
  rw [if_neg (by decide), if_neg (by decide)]
  exact ⟨_, _, _, _, _, rfl⟩
end
end Go.Proofs.Ytnhbieicjlnakaa.Pure
