/- Any key, number, flow: the program's hashes are the document's. -/
import Derived.Test.YtdpkfpbdadloaaaFGWharfagelaw8Hashes
import Derived.Test.YtdpkfpbdadloaaaHashLaws
namespace Go.Proofs.Ytdpkfpbdadloaaa.Pure
open Go Go.RowKit Go.Proofs.Ytdpkfpbdadloaaa.PG Go.Proofs.YtdpkfpbdadloaaaW.PrintWords Go.Proofs.YtdpkfpbdadloaaaW.PrintLast Go.Proofs.YtdpkfpbdadloaaaW.PrintMore Go.Proofs.Ytdpkfpbdadloaaa.Wh Go.Proofs.Ytdpkfpbdadloaaa.HG
theorem within32 (a : Int) : wharfageref1_within.f a 32 = some (decide (0 ≤ a ∧ a < 4294967296)) := by
  unfold wharfageref1_within.f
  have e : shl .i64 1 32 = 4294967296 := by decide
  by_cases h : a ≥ 0
  · rw [if_pos h, if_pos (by decide), e]; congr 1; rw [Bool.eq_iff_iff]; simp; omega
  · rw [if_neg h]; congr 1; symm; simp; omega
theorem within16 (a : Int) : wharfageref1_within.f a 16 = some (decide (0 ≤ a ∧ a < 65536)) := by
  unfold wharfageref1_within.f
  have e : shl .i64 1 16 = 65536 := by decide
  by_cases h : a ≥ 0
  · rw [if_pos h, if_pos (by decide), e]; congr 1; rw [Bool.eq_iff_iff]; simp; omega
  · rw [if_neg h]; congr 1; symm; simp; omega
theorem refMix_ok (a b : Int) (ha : In32 a) (hb : In32 b) : wharfageref1_Mix.f a b = some (mixI a b, 0) := by
  have e : some (wrap64 (mixI a b), (0 : Int)) = some (mixI a b, 0) := by
    have := mixI_in a b
    generalize mixI a b = z at *
    rw [wrap64_id (by have := this.1; omega) (by have := this.2; omega)]
  unfold wharfageref1_Mix.f
  rw [within32, within32]
  rw [Option.bind_some, if_pos (decide_eq_true (show 0 ≤ a ∧ a < 4294967296 from ha)), Option.bind_some, if_pos (decide_eq_true (show 0 ≤ b ∧ b < 4294967296 from hb)), Int.emod_eq_of_lt ha.1 ha.2, Int.emod_eq_of_lt hb.1 hb.2]
  exact e
theorem refMix_bad (a b : Int) (h : ¬ (In32 a ∧ In32 b)) : wharfageref1_Mix.f a b = some (0, 800) := by
  unfold wharfageref1_Mix.f
  rw [within32, within32]
  rw [Option.bind_some, Option.bind_some]
  by_cases ha : In32 a
  · rw [if_pos (decide_eq_true (show 0 ≤ a ∧ a < 4294967296 from ha)), if_neg (by simp; exact fun x => by unfold In32 at *; omega)]
  · rw [if_neg (by simp; exact fun x => by unfold In32 at *; omega)]
theorem refMay_eq (a b c d e : Int) : wharfageref1_FlowMay.f a b c d e = some (flowMayB a b c d e) := by
  unfold wharfageref1_FlowMay.f flowMayB
  rw [within32, within32, within16, within16]
  generalize decide (0 ≤ a ∧ a < 4294967296) = A
  generalize decide (0 ≤ b ∧ b < 4294967296) = B
  generalize decide (0 ≤ d ∧ d < 65536) = D
  generalize decide (0 ≤ e ∧ e < 65536) = E
  by_cases h : c = 6
  · rw [if_pos h, decide_eq_true (show c = 6 ∨ c = 17 from .inl h)]
    cases A <;> cases B <;> cases D <;> cases E <;> rfl
  · rw [if_neg h]
    by_cases h7 : c = 17
    · rw [if_pos h7, decide_eq_true (show c = 6 ∨ c = 17 from .inr h7)]
      cases A <;> cases B <;> cases D <;> cases E <;> rfl
    · rw [if_neg h7, decide_eq_false (show ¬ (c = 6 ∨ c = 17) by omega)]
      cases A <;> cases B <;> cases D <;> cases E <;> rfl
theorem rl0_step (n : Nat) (k : Int) (xs : List Int) (i x : Int) (h : i < 4) (h0 : 0 ≤ i) (h1 : i < (xs.length : Int)) (hx : rd xs i = x) (hk : In32 k) (hi : In32 x) :
    wharfageref1_FlowHash.l0 (n + 1) k xs i = wharfageref1_FlowHash.l0 n (mixI k x) xs (wrap64 (i + 1)) := by
  rw [wharfageref1_FlowHash.l0]
  rw [if_pos h, if_pos h0, if_pos h1, hx, refMix_ok k x hk hi]
  generalize mixI k x = z
  rw [Option.bind_some]
theorem rl0_eq (n : Nat) (k x0 x1 x2 x3 : Int) (hk : In32 k) (h0 : In32 x0) (h1 : In32 x1) (h2 : In32 x2) (h3 : In32 x3) :
    wharfageref1_FlowHash.l0 (n + 5) k [x0, x1, x2, x3] 0 = some (mixI (mixI (mixI (mixI k x0) x1) x2) x3, 0) := by
  have hl : (([x0, x1, x2, x3] : List Int).length : Int) = 4 := by simp
  rw [rl0_step (n + 4) k _ 0 x0 (by decide) (by decide) (by rw [hl]; decide) rfl hk h0]
  have hk := mixI_in k x0
  generalize mixI k x0 = k at *
  rw [wrap64_id (by decide) (by decide), show (0 : Int) + 1 = 1 from rfl, rl0_step (n + 3) k _ 1 x1 (by decide) (by decide) (by rw [hl]; decide) rfl hk h1]
  have hk := mixI_in k x1
  generalize mixI k x1 = k at *
  rw [wrap64_id (by decide) (by decide), show (1 : Int) + 1 = 2 from rfl, rl0_step (n + 2) k _ 2 x2 (by decide) (by decide) (by rw [hl]; decide) rfl hk h2]
  have hk := mixI_in k x2
  generalize mixI k x2 = k at *
  rw [wrap64_id (by decide) (by decide), show (2 : Int) + 1 = 3 from rfl, rl0_step (n + 1) k _ 3 x3 (by decide) (by decide) (by rw [hl]; decide) rfl hk h3]
  generalize mixI k x3 = k at *
  rw [wrap64_id (by decide) (by decide), show (3 : Int) + 1 = 4 from rfl, wharfageref1_FlowHash.l0, if_neg (by decide)]
theorem refFlow_ok (n : Nat) (k a b c d e : Int) (hk : In32 k) (h : flowMayB a b c d e = true) : wharfageref1_FlowHash.f (n + 5) k a b c d e = some (hs k a b c d e, 0) := by
  unfold wharfageref1_FlowHash.f
  obtain ⟨h1, h2, h3, h4, h5⟩ := May_parts h
  have h3' : In32 c := ⟨by omega, by omega⟩
  have e0 := rl0_eq n k a b c (d * 65536 + e) hk h1 h2 h3' ⟨by omega, by omega⟩
  unfold hs
  generalize mixI (mixI (mixI (mixI k a) b) c) (d * 65536 + e) = z at *
  rw [within32, refMay_eq, h, Option.bind_some, Option.bind_some]
  rw [if_pos (decide_eq_true (show 0 ≤ k ∧ k < 4294967296 from hk)), if_pos rfl, wrap64_id (n := d * 65536) (by omega) (by omega), wrap64_id (n := d * 65536 + e) (by omega) (by omega), e0]
theorem refFlow_bad (n : Nat) (k a b c d e : Int) (h : ¬ (In32 k ∧ flowMayB a b c d e = true)) : wharfageref1_FlowHash.f n k a b c d e = some (0, 800) := by
  unfold wharfageref1_FlowHash.f
  rw [within32, refMay_eq]
  rw [Option.bind_some, Option.bind_some]
  by_cases hk : In32 k
  · rw [if_pos (decide_eq_true (show 0 ≤ k ∧ k < 4294967296 from hk)), if_neg (fun x => h ⟨hk, x⟩)]
  · rw [if_neg (by simp; exact fun x => by unfold In32 at *; omega)]
theorem hfin (A B C D : Option (Int × Int)) (W : Option Bool) (p q : Int × Int) (hA : A = some p) (hB : B = some p) (hC : C = some q) (hD : D = some q) (hW : W = some true) :
    (A.bind fun bt162 => (B.bind fun bt164 => (C.bind fun bt166 => (D.bind fun bt168 => (if bt162.1 = bt164.1 then ((wharfagelaw0_Num.f bt162.2).bind fun t170 => (if t170 = bt164.2 then (if bt166.1 = bt168.1 then ((wharfagelaw0_Num.f bt166.2).bind fun t171 => (if t171 = bt168.2 then (W.bind fun t172 => (some t172)) else (none))) else (none)) else (none))) else (none)))))) = some true := by
  subst hA hB hC hD hW
  dsimp only [Option.bind_some, wharfagelaw0_Num.f]
  rw [if_pos rfl, if_pos rfl, if_pos rfl, if_pos rfl]
theorem Hashes (k x a b c d e : Int) (_ : (Lit.int .i64 k).wf = true) (_ : (Lit.int .i64 x).wf = true) (_ : (Lit.int .i64 a).wf = true) (_ : (Lit.int .i64 b).wf = true) (_ : (Lit.int .i64 c).wf = true) (_ : (Lit.int .i64 d).wf = true) (_ : (Lit.int .i64 e).wf = true) : ∃ n, wharfagelaw8_Hashes.f n k x a b c d e = some true := by
  refine ⟨5, ?_⟩
  unfold wharfagelaw8_Hashes.f
  have hw := awake_true 0
  obtain ⟨p, p1, p2⟩ : ∃ p, hash_Mix.f k x = some p ∧ wharfageref1_Mix.f k x = some p := by
    by_cases h : In32 k ∧ In32 x
    · exact ⟨_, Mix_ok k x h.1 h.2, refMix_ok k x h.1 h.2⟩
    · exact ⟨_, Mix_bad k x h, refMix_bad k x h⟩
  obtain ⟨q, q1, q2⟩ : ∃ q, hash_Flow.f 5 k a b c d e = some q ∧ wharfageref1_FlowHash.f 5 k a b c d e = some q := by
    by_cases h : In32 k ∧ flowMayB a b c d e = true
    · exact ⟨_, Flow_ok 0 k a b c d e h.1 h.2, refFlow_ok 0 k a b c d e h.1 h.2⟩
    · exact ⟨_, Flow_bad 5 k a b c d e h, refFlow_bad 5 k a b c d e h⟩
  exact hfin _ _ _ _ _ p q p1 p2 q1 q2 hw
end Go.Proofs.Ytdpkfpbdadloaaa.Pure
