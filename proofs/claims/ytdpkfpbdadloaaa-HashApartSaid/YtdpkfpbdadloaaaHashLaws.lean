/- What the hash functions answer, in plain numbers. -/
import Derived.Test.YtdpkfpbdadloaaaFGHashFlow
import Derived.Test.YtdpkfpbdadloaaaFGWharfagelaw8Awake
import Derived.Test.YtdpkfpbdadloaaaMix
namespace Go.Proofs.Ytdpkfpbdadloaaa.HG
open Go Go.RowKit Go.Proofs.Ytdpkfpbdadloaaa.PG Go.Proofs.YtdpkfpbdadloaaaW.PrintWords Go.Proofs.YtdpkfpbdadloaaaW.PrintLast Go.Proofs.YtdpkfpbdadloaaaW.PrintMore Go.Proofs.Ytdpkfpbdadloaaa.Wh
theorem shr32 (a : Int) : shr .i64 a 32 = a / 4294967296 := by
  show a / 2 ^ (min (Int.toNat 32) 64) = _
  rfl
theorem shr16 (a : Int) : shr .i64 a 16 = a / 65536 := by
  show a / 2 ^ (min (Int.toNat 16) 64) = _
  rfl
theorem in32 (a : Int) : ip_In.f a 32 = some (decide (0 ≤ a ∧ a < 4294967296)) := by
  unfold ip_In.f
  rw [shr32]
  by_cases h : a ≥ 0
  · rw [if_pos h, if_pos (by decide)]; congr 1; rw [Bool.eq_iff_iff]; simp; omega
  · rw [if_neg h]; congr 1; symm; simp; omega
theorem in16 (a : Int) : ip_In.f a 16 = some (decide (0 ≤ a ∧ a < 65536)) := by
  unfold ip_In.f
  rw [shr16]
  by_cases h : a ≥ 0
  · rw [if_pos h, if_pos (by decide)]; congr 1; rw [Bool.eq_iff_iff]; simp; omega
  · rw [if_neg h]; congr 1; symm; simp; omega
theorem mix_eq (a b : Int) : hash_mix.f a b = some (mixI a b) := rfl
theorem Mix_ok (a b : Int) (ha : In32 a) (hb : In32 b) : hash_Mix.f a b = some (mixI a b, 0) := by
  unfold hash_Mix.f
  rw [in32, in32]
  rw [Option.bind_some, if_pos (decide_eq_true (show 0 ≤ a ∧ a < 4294967296 from ha)), Option.bind_some, if_pos (decide_eq_true (show 0 ≤ b ∧ b < 4294967296 from hb)), Int.emod_eq_of_lt ha.1 ha.2, Int.emod_eq_of_lt hb.1 hb.2, mix_eq]
  have := mixI_in a b
  generalize mixI a b = z at *
  rw [Option.bind_some]
  rw [wrap64_id (by have := this.1; omega) (by have := this.2; omega)]
theorem Mix_bad (a b : Int) (h : ¬ (In32 a ∧ In32 b)) : hash_Mix.f a b = some (0, 800) := by
  unfold hash_Mix.f
  rw [in32, in32]
  rw [Option.bind_some, Option.bind_some]
  by_cases ha : In32 a
  · rw [if_pos (decide_eq_true (show 0 ≤ a ∧ a < 4294967296 from ha)), if_neg (by simp; exact fun x => by unfold In32 at *; omega)]
  · rw [if_neg (by simp; exact fun x => by unfold In32 at *; omega)]
def hs (k a b c d e : Int) : Int := mixI (mixI (mixI (mixI k a) b) c) (d * 65536 + e)
theorem hs_in (k a b c d e : Int) : In32 (hs k a b c d e) := mixI_in _ _
def flowMayB (a b c d e : Int) : Bool := decide (0 ≤ a ∧ a < 4294967296) && (decide (0 ≤ b ∧ b < 4294967296) && (decide (c = 6 ∨ c = 17) && (decide (0 ≤ d ∧ d < 65536) && decide (0 ≤ e ∧ e < 65536))))
theorem handled_eq (c : Int) : flow_handled.f c = some (decide (c = 6 ∨ c = 17)) := by
  unfold flow_handled.f
  by_cases h : c = 6
  · simp [h]
  · simp [h]; rw [Bool.eq_iff_iff]; simp
theorem if_and (p q : Bool) : (if p = true then some q else some false) = some (p && q) := by cases p <;> rfl
theorem May_eq (a b c d e : Int) : flow_May.f a b c d e = some (flowMayB a b c d e) := by
  unfold flow_May.f flowMayB
  rw [in32, in32, in16, in16, handled_eq]
  simp only [Option.bind_some, if_and]
theorem May_parts {a b c d e : Int} (h : flowMayB a b c d e = true) : In32 a ∧ In32 b ∧ (c = 6 ∨ c = 17) ∧ (0 ≤ d ∧ d < 65536) ∧ (0 ≤ e ∧ e < 65536) := by
  simpa [flowMayB, In32] using h
theorem or_shift (d e : Int) (hd : 0 ≤ d ∧ d < 65536) (he : 0 ≤ e ∧ e < 65536) : Go.bits .or .i64 (wrap64 (d * 65536)) e = d * 65536 + e := by
  rw [wrap64_id (by omega) (by omega)]
  exact bits_join .i64 32 (by decide) (fun n h0 h1 => by rw [i64_wrap, wrap64_id (by omega) (by omega)]) 16 _ _ (by omega) (by omega) (by omega) (by omega) (by omega) (by omega)
theorem l0_step (n : Nat) (k : Int) (xs : List Int) (len i x : Int) (h : i < len) (h0 : 0 ≤ i) (h1 : i < (xs.length : Int)) (hx : rd xs i % 4294967296 = x) :
    hash_Flow.l0 (n + 1) k xs len i = hash_Flow.l0 n (mixI k x) xs len (wrap64 (i + 1)) := by
  rw [hash_Flow.l0]
  rw [if_pos h, if_pos h0, if_pos h1, hx, mix_eq]
  generalize mixI k x = z
  rw [Option.bind_some]
theorem l0_end (n : Nat) (k : Int) (xs : List Int) (len i : Int) (h : ¬ i < len) (hk : In32 k) : hash_Flow.l0 (n + 1) k xs len i = some (k, 0) := by
  rw [hash_Flow.l0]
  rw [if_neg h, wrap64_id (by have := hk.1; omega) (by have := hk.2; omega)]
theorem rd0 (x0 x1 x2 x3 : Int) (h : In32 x0) : rd [x0, x1, x2, x3] 0 % 4294967296 = x0 := Int.emod_eq_of_lt h.1 h.2
theorem rd1 (x0 x1 x2 x3 : Int) (h : In32 x1) : rd [x0, x1, x2, x3] 1 % 4294967296 = x1 := Int.emod_eq_of_lt h.1 h.2
theorem rd2 (x0 x1 x2 x3 : Int) (h : In32 x2) : rd [x0, x1, x2, x3] 2 % 4294967296 = x2 := Int.emod_eq_of_lt h.1 h.2
theorem rd3 (x0 x1 x2 x3 : Int) (h : In32 x3) : rd [x0, x1, x2, x3] 3 % 4294967296 = x3 := Int.emod_eq_of_lt h.1 h.2
theorem l0_eq (n : Nat) (k x0 x1 x2 x3 : Int) (h0 : In32 x0) (h1 : In32 x1) (h2 : In32 x2) (h3 : In32 x3) :
    hash_Flow.l0 (n + 5) k [x0, x1, x2, x3] (([x0, x1, x2, x3] : List Int).length : Int) 0 = some (mixI (mixI (mixI (mixI k x0) x1) x2) x3, 0) := by
  have hl : (([x0, x1, x2, x3] : List Int).length : Int) = 4 := by simp
  rw [hl, l0_step (n + 4) k _ 4 0 x0 (by decide) (by decide) (by rw [hl]; decide) (rd0 _ _ _ _ h0)]
  generalize mixI k x0 = k
  rw [wrap64_id (by decide) (by decide), show (0 : Int) + 1 = 1 from rfl, l0_step (n + 3) k _ 4 1 x1 (by decide) (by decide) (by rw [hl]; decide) (rd1 _ _ _ _ h1)]
  generalize mixI k x1 = k
  rw [wrap64_id (by decide) (by decide), show (1 : Int) + 1 = 2 from rfl, l0_step (n + 2) k _ 4 2 x2 (by decide) (by decide) (by rw [hl]; decide) (rd2 _ _ _ _ h2)]
  generalize mixI k x2 = k
  rw [wrap64_id (by decide) (by decide), show (2 : Int) + 1 = 3 from rfl, l0_step (n + 1) k _ 4 3 x3 (by decide) (by decide) (by rw [hl]; decide) (rd3 _ _ _ _ h3)]
  have hi := mixI_in k x3
  generalize mixI k x3 = k at *
  rw [wrap64_id (by decide) (by decide), show (3 : Int) + 1 = 4 from rfl, l0_end n k _ 4 4 (by decide) hi]
theorem Flow_ok (n : Nat) (k a b c d e : Int) (hk : In32 k) (h : flowMayB a b c d e = true) : hash_Flow.f (n + 5) k a b c d e = some (hs k a b c d e, 0) := by
  unfold hash_Flow.f
  obtain ⟨h1, h2, h3, h4, h5⟩ := May_parts h
  have h3' : In32 c := ⟨by omega, by omega⟩
  have e0 := l0_eq n k a b c (d * 65536 + e) h1 h2 h3' ⟨by omega, by omega⟩
  unfold hs
  generalize mixI (mixI (mixI (mixI k a) b) c) (d * 65536 + e) = z at *
  rw [in32, May_eq, h, Option.bind_some, Option.bind_some]
  rw [if_pos (decide_eq_true (show 0 ≤ k ∧ k < 4294967296 from hk)), if_pos rfl, or_shift d e h4 h5, Int.emod_eq_of_lt hk.1 hk.2, Option.bind_some, e0]
theorem Flow_bad (n : Nat) (k a b c d e : Int) (h : ¬ (In32 k ∧ flowMayB a b c d e = true)) : hash_Flow.f n k a b c d e = some (0, 800) := by
  unfold hash_Flow.f
  rw [in32, May_eq]
  rw [Option.bind_some, Option.bind_some]
  by_cases hk : In32 k
  · rw [if_pos (decide_eq_true (show 0 ≤ k ∧ k < 4294967296 from hk)), if_neg (fun x => h ⟨hk, x⟩)]
  · rw [if_neg (by simp; exact fun x => by unfold In32 at *; omega)]
theorem awake_true (n : Nat) : wharfagelaw8_awake.f (n + 5) = some true := by
  unfold wharfagelaw8_awake.f
  rw [Mix_ok 1 2 ⟨by decide, by decide⟩ ⟨by decide, by decide⟩, Mix_bad (-1) 2 (by unfold In32; omega), Flow_bad (n + 5) 0 0 0 0 0 0 (by simp [flowMayB]), Flow_ok n 1 0 0 17 0 0 ⟨by decide, by decide⟩ (by decide)]
  have h1 := mixI_in 1 2
  have h2 := hs_in 1 0 0 17 0 0
  generalize mixI 1 2 = z1 at *
  generalize hs 1 0 0 17 0 0 = z2 at *
  dsimp only [Option.bind_some, wharfagelaw0_Num.f]
  have h3 := h1.1; have h4 := h1.2; have h5 := h2.1; have h6 := h2.2
  rw [if_pos (show z1 ≥ 0 from h3), if_pos (show z1 ≤ 4294967295 by omega), if_pos rfl, if_pos rfl, if_pos rfl, if_pos (show z2 ≥ 0 from h5), if_pos (show z2 ≤ 4294967295 by omega)]
  rfl
end Go.Proofs.Ytdpkfpbdadloaaa.HG
