import Derived.Test.YtnhbieicjlnakaaIpWhole
namespace Go.Proofs.Ytnhbieicjlnakaa.Pure
set_option linter.unusedSimpArgs false
set_option linter.unusedVariables false
open Go Go.RowKit Go.Proofs.Ytnhbieicjlnakaa.PA Go.Proofs.YtnhbieicjlnakaaW.PrintWords Go.Proofs.YtnhbieicjlnakaaW.PrintLast Go.Proofs.YtnhbieicjlnakaaW.PrintMore Go.Proofs.Ytnhbieicjlnakaa.Wh
theorem bytesOf_extract (s : ByteArray) (a b : Nat) : bytesOf (s.extract a b) = ((bytesOf s).drop a).take (b - a) := by
  unfold bytesOf
  rw [ByteArray.data_extract, Array.toList_extract, List.extract_eq_take_drop, List.map_take, List.map_drop]
theorem sumB_take (s : ByteArray) (n : Nat) : sumB (s.extract 0 n) = foldS (rawL ((bytesOf s).take n)) := by
  unfold sumB
  rw [bytesOf_extract, List.drop_zero, Nat.sub_zero]
theorem raw10 (x0 x1 x2 x3 x4 x5 x6 x7 x8 x9 c1 c2 : Int) (B : List Int) : rawL (x0 :: x1 :: x2 :: x3 :: x4 :: x5 :: x6 :: x7 :: x8 :: x9 :: c1 :: c2 :: B) = rawL (x0 :: x1 :: x2 :: x3 :: x4 :: x5 :: x6 :: x7 :: x8 :: x9 :: 0 :: 0 :: B) + (c1 * 256 + c2) := by
  simp only [rawL]; omega
theorem raw_pos (x0 x1 : Int) (T : List Int) (h : ∀ x ∈ x0 :: x1 :: T, 0 ≤ x ∧ x ≤ 255) (h0 : 0 < x0) : 0 < rawL (x0 :: x1 :: T) := by
  have h1 := (h x1 (by simp)).1
  have h2 := (rawL_range _ T (Nat.le_refl _) (fun x hx => h x (by simp [hx]))).1
  simp only [rawL]; omega
/-- Bytes whose head's size is right: with the sum put right they have that sum. -/
theorem whole_bytes (t : ByteArray) (x0 x1 x2 x3 x4 x5 x6 x7 x8 x9 x10 x11 : Int) (T : List Int) (h : bytesOf t = x0 :: x1 :: x2 :: x3 :: x4 :: x5 :: x6 :: x7 :: x8 :: x9 :: x10 :: x11 :: T)
    (n : Nat) (hn : 4 * (x0 % 16) = n) (h20 : 20 ≤ n) (hs : n ≤ t.size) :
    ∃ c1 c2, bytesOf (wholeI t) = x0 :: x1 :: x2 :: x3 :: x4 :: x5 :: x6 :: x7 :: x8 :: x9 :: c1 :: c2 :: T ∧ sumB ((wholeI t).extract 0 n) = 65535 := by
  have b0 : bt t 0 = x0 := by
    have := bt_get t 0
    rw [h] at this; exact this
  have hr := bytesOf_range t
  have hx0 : 0 < x0 := by
    have := (hr x0 (by rw [h]; simp)).1
    omega
  unfold wholeI
  rw [b0, hn, if_neg (by omega), if_neg (by omega), if_neg (by omega), Int.toNat_natCast]
  generalize hm : sumB (t.extract 0 10 ++ (⟨#[0, 0]⟩ : ByteArray) ++ t.extract 12 n) = m
  have hmr : 0 ≤ m ∧ m < 65536 := by rw [← hm]; exact sumB_range _
  have e1 : bytesOf (t.extract 0 10) = [x0, x1, x2, x3, x4, x5, x6, x7, x8, x9] := by rw [bytesOf_extract, h]; rfl
  have e2 : bytesOf (t.extract 12 t.size) = T := by
    rw [bytesOf_extract, h]
    show T.take (t.size - 12) = T
    rw [List.take_of_length_le]
    have := bytesOf_length t
    rw [h] at this
    simp at this
    omega
  have e3 : bytesOf (t.extract 12 n) = T.take (n - 12) := by rw [bytesOf_extract, h]; rfl
  have e4 : bytesOf (B2 (65535 - m)) = [(65535 - m) / 256 % 256, (65535 - m) % 256] := bytesOf_nums _ (by
    intro x hx
    simp at hx
    omega)
  have e5 : bytesOf (⟨#[0, 0]⟩ : ByteArray) = [0, 0] := by decide +kernel
  have hL : bytesOf (t.extract 0 10 ++ B2 (65535 - m) ++ t.extract 12 t.size) = x0 :: x1 :: x2 :: x3 :: x4 :: x5 :: x6 :: x7 :: x8 :: x9 :: ((65535 - m) / 256 % 256) :: ((65535 - m) % 256) :: T := by
    rw [bytesOf_append, bytesOf_append, e1, e4, e2]; rfl
  refine ⟨_, _, hL, ?_⟩
  rw [sumB_take, hL]
  obtain ⟨q, rfl⟩ : ∃ q, n = q + 12 := ⟨n - 12, by omega⟩
  have ht : (x0 :: x1 :: x2 :: x3 :: x4 :: x5 :: x6 :: x7 :: x8 :: x9 :: ((65535 - m) / 256 % 256) :: ((65535 - m) % 256) :: T).take (q + 12) = x0 :: x1 :: x2 :: x3 :: x4 :: x5 :: x6 :: x7 :: x8 :: x9 :: ((65535 - m) / 256 % 256) :: ((65535 - m) % 256) :: T.take q := by
    simp only [List.take_succ_cons]
  rw [ht, raw10]
  have hm' : m = foldS (rawL (x0 :: x1 :: x2 :: x3 :: x4 :: x5 :: x6 :: x7 :: x8 :: x9 :: 0 :: 0 :: T.take q)) := by
    rw [← hm]; unfold sumB
    rw [bytesOf_append, bytesOf_append, e1, e5, e3]; rfl
  rw [show (65535 - m) / 256 % 256 * 256 + (65535 - m) % 256 = 65535 - m by omega]
  apply foldS_whole
  · apply raw_pos _ _ _ _ hx0
    intro x hx
    have hz : x = 0 ∨ x ∈ bytesOf t := by
      rw [h]
      simp only [List.mem_cons] at hx ⊢
      rcases hx with hx | hx | hx | hx | hx | hx | hx | hx | hx | hx | hx | hx | hx
      all_goals first | (left; exact hx) | (right; simp [hx]) | (right; have := List.mem_of_mem_take hx; simp [this])
    rcases hz with rfl | hz
    · decide
    · exact hr x hz
  · rw [hm']
/-- What bytes tell, by their list. -/
theorem get_list (t : ByteArray) (x0 x1 x2 x3 x4 x5 x6 x7 x8 x9 x10 x11 x12 x13 x14 x15 : Int) (T : List Int)
    (h : bytesOf t = x0 :: x1 :: x2 :: x3 :: x4 :: x5 :: x6 :: x7 :: x8 :: x9 :: x10 :: x11 :: x12 :: x13 :: x14 :: x15 :: T) :
    bt t 0 = x0 ∧ N2 t 2 = x2 * 256 + x3 ∧ N2 t 6 = x6 * 256 + x7 ∧ N4 t 12 = ((x12 * 256 + x13) * 256 + x14) * 256 + x15 ∧ t.size = 16 + T.length := by
  refine ⟨?_, ?_, ?_, ?_, ?_⟩
  · exact (bt_get t 0).trans (by rw [h]; rfl)
  · unfold N2; rw [bt_get, bt_get, h]; rfl
  · unfold N2; rw [bt_get, bt_get, h]; rfl
  · unfold N4; rw [bt_get, bt_get, bt_get, bt_get, h]; rfl
  · have := bytesOf_length t
    rw [h] at this
    simp at this
    omega
end Go.Proofs.Ytnhbieicjlnakaa.Pure
