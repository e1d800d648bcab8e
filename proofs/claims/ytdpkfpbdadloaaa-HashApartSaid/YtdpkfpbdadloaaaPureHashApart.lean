/- Flows that differ in their last port alone have unlike hashes. -/
import Derived.Test.YtdpkfpbdadloaaaFGWharfagelaw8HashApart
import Derived.Test.YtdpkfpbdadloaaaHashLaws
namespace Go.Proofs.Ytdpkfpbdadloaaa.Pure
open Go Go.RowKit Go.Proofs.Ytdpkfpbdadloaaa.PG Go.Proofs.YtdpkfpbdadloaaaW.PrintWords Go.Proofs.YtdpkfpbdadloaaaW.PrintLast Go.Proofs.YtdpkfpbdadloaaaW.PrintMore Go.Proofs.Ytdpkfpbdadloaaa.Wh Go.Proofs.Ytdpkfpbdadloaaa.HG
theorem bits_xor_i64 (a b : Nat) (ha : a < 2 ^ 32) (hb : b < 2 ^ 32) : bits .xor .i64 a b = ((a ^^^ b : Nat) : Int) := by
  show IntKind.i64.wrap ((BitVec.ofInt 64 (a : Int) ^^^ BitVec.ofInt 64 (b : Int)).toNat : Int) = _
  rw [BitVec.ofInt_natCast, BitVec.ofInt_natCast, BitVec.toNat_xor, BitVec.toNat_ofNat, BitVec.toNat_ofNat, Nat.mod_eq_of_lt (by omega), Nat.mod_eq_of_lt (by omega), i64_wrap]
  have := Nat.xor_lt_two_pow ha hb
  rw [wrap64_id (by omega) (by omega)]
theorem xor_ne (e m : Int) (he : 0 ≤ e ∧ e < 65536) (hm : 1 ≤ m ∧ m ≤ 1024) : bits .xor .i64 e m ≠ e := by
  obtain ⟨n, rfl⟩ := Int.eq_ofNat_of_zero_le he.1
  obtain ⟨l, rfl⟩ := Int.eq_ofNat_of_zero_le (show 0 ≤ m by omega)
  rw [bits_xor_i64 n l (by omega) (by omega)]
  intro h
  have h1 : n ^^^ l = n := Int.ofNat.inj h
  have h2 : l ^^^ n = 0 ^^^ n := by rw [Nat.xor_comm, h1, Nat.zero_xor]
  have := xor_left_inj' h2
  omega
theorem afin (n : Nat) (A B : Option (Int × Int)) (K a b c d e : Int) (p q : Int × Int) (hA : A = some p) (hB : B = some q) (h : (p.2 = 0 ∧ q.2 = 0 ∧ p.1 ≠ q.1) ∨ p.2 = 800 ∨ (p.2 = 0 ∧ q.2 = 800)) (hF : hash_Flow.f n K a b c d e = A) :
    (A.bind fun bt176 => (B.bind fun bt178 => ((wharfagelaw0_Num.f bt176.2).bind fun t180 => (if t180 = 0 then ((wharfagelaw0_Num.f bt178.2).bind fun t181 => (wharfagelaw8_HashApart.j0 (n + 1) K bt176.1 bt176.2 bt178.1 bt178.2 (t181 != 0) a b c d e)) else (wharfagelaw8_HashApart.j0 (n + 1) K bt176.1 bt176.2 bt178.1 bt178.2 true a b c d e))))) = some true := by
  subst hA hB
  obtain ⟨p1, p2⟩ := p
  obtain ⟨q1, q2⟩ := q
  dsimp only [Option.bind_some, wharfagelaw0_Num.f] at h ⊢
  rcases h with ⟨rfl, rfl, hne⟩ | rfl | ⟨rfl, rfl⟩
  · rw [if_pos rfl, wharfagelaw8_HashApart.j0, if_neg (by decide), hF]
    dsimp only [Option.bind_some, wharfagelaw0_Num.f]
    rw [if_neg hne, if_pos rfl]; simp
  · rw [if_neg (by decide), wharfagelaw8_HashApart.j0, if_pos rfl]
    dsimp only [Option.bind_some, wharfagelaw0_Num.f]
    rw [if_pos rfl]
  · rw [if_pos rfl, wharfagelaw8_HashApart.j0, if_pos (by decide)]
    dsimp only [Option.bind_some, wharfagelaw0_Num.f]
    rw [if_neg (by decide)]; rfl
theorem mono6 (K a b c d e : Int) : hash_Flow.f 6 K a b c d e = hash_Flow.f 5 K a b c d e := by
  by_cases h : In32 K ∧ flowMayB a b c d e = true
  · rw [Flow_ok 0 K a b c d e h.1 h.2, Flow_ok 1 K a b c d e h.1 h.2]
  · rw [Flow_bad 5 K a b c d e h, Flow_bad 6 K a b c d e h]
theorem HashApart (k a b c d e y : Int) (_ : (Lit.int .i64 k).wf = true) (_ : (Lit.int .i64 a).wf = true) (_ : (Lit.int .i64 b).wf = true) (_ : (Lit.int .i64 c).wf = true) (_ : (Lit.int .i64 d).wf = true) (_ : (Lit.int .i64 e).wf = true) (_ : (Lit.int .i64 y).wf = true) : ∃ n, wharfagelaw8_HashApart.f n k a b c d e y = some true := by
  refine ⟨6, ?_⟩
  unfold wharfagelaw8_HashApart.f
  rw [awake_true 1, Option.bind_some, if_pos rfl]
  have hk := mod_in (IntKind.u64.wrap k)
  generalize IntKind.u64.wrap k % 4294967296 = K at *
  obtain ⟨m, hm, m0, m1⟩ : ∃ m, wrap64 (1 + bits .and .i64 y 1023) = m ∧ 1 ≤ m ∧ m ≤ 1024 := by
    refine ⟨_, rfl, ?_⟩
    rw [and_1023, wrap64_id (by omega) (by omega)]; omega
  rw [hm]
  obtain ⟨g, hg⟩ : ∃ g, bits .xor .i64 e m = g := ⟨_, rfl⟩
  rw [hg]
  have hne : 0 ≤ e ∧ e < 65536 → g ≠ e := fun h => by rw [← hg]; exact xor_ne e m h ⟨m0, m1⟩
  by_cases h : flowMayB a b c d e = true
  · have hA := Flow_ok 1 K a b c d e hk h
    obtain ⟨h1, h2, h3, h4, h5⟩ := May_parts h
    by_cases h' : flowMayB a b c d g = true
    · have hB := Flow_ok 1 K a b c d g hk h'
      obtain ⟨_, _, _, _, h6⟩ := May_parts h'
      refine afin 5 _ _ K a b c d e _ _ hA hB (.inl ⟨rfl, rfl, ?_⟩) (mono6 K a b c d e).symm
      show hs K a b c d e ≠ hs K a b c d g
      intro q
      have := mixI_inj_x ⟨by omega, by omega⟩ ⟨by omega, by omega⟩ q
      exact hne h5 (by omega)
    · have hB := Flow_bad 6 K a b c d g (fun x => h' x.2)
      exact afin 5 _ _ K a b c d e _ _ hA hB (.inr (.inr ⟨rfl, rfl⟩)) (mono6 K a b c d e).symm
  · have hA := Flow_bad 6 K a b c d e (fun x => h x.2)
    obtain ⟨q, hB⟩ : ∃ q, hash_Flow.f 6 K a b c d g = some q := by
      by_cases h' : flowMayB a b c d g = true
      · exact ⟨_, Flow_ok 1 K a b c d g hk h'⟩
      · exact ⟨_, Flow_bad 6 K a b c d g (fun x => h' x.2)⟩
    exact afin 5 _ _ K a b c d e _ q hA hB (.inr (.inl rfl)) (mono6 K a b c d e).symm
end Go.Proofs.Ytdpkfpbdadloaaa.Pure
