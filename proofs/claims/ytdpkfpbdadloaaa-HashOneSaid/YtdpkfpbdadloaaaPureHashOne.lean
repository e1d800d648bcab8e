import Derived.Test.YtdpkfpbdadloaaaFGWharfagelaw8HashOne
import Derived.Test.YtdpkfpbdadloaaaHashLaws
namespace Go.Proofs.Ytdpkfpbdadloaaa.Pure
open Go Go.RowKit Go.Proofs.Ytdpkfpbdadloaaa.PG Go.Proofs.YtdpkfpbdadloaaaW.PrintWords Go.Proofs.YtdpkfpbdadloaaaW.PrintLast Go.Proofs.YtdpkfpbdadloaaaW.PrintMore Go.Proofs.Ytdpkfpbdadloaaa.Wh Go.Proofs.Ytdpkfpbdadloaaa.HG
theorem E1 (k a b : Int) (ha : In32 a) (hb : In32 b) : (mixI k a == mixI k b) = (a == b) := by
    rw [Bool.eq_iff_iff, beq_iff_eq, beq_iff_eq]
    exact ⟨mixI_inj_x ha hb, fun h => by rw [h]⟩
theorem E2 (k a b : Int) (hk : In32 k) (ha : In32 a) (hb : In32 b) : (mixI a k == mixI b k) = (a == b) := by
    rw [Bool.eq_iff_iff, beq_iff_eq, beq_iff_eq]
    exact ⟨mixI_inj_k ha hb hk, fun h => by rw [h]⟩
theorem fin (A B C D : Option (Int × Int)) (p1 p2 p3 p4 a b : Int) (hA : A = some (p1, 0)) (hB : B = some (p2, 0)) (hC : C = some (p3, 0)) (hD : D = some (p4, 0)) (e1 : (p1 == p2) = (a == b)) (e2 : (p3 == p4) = (a == b)) :
    (A.bind fun bt131 => (B.bind fun bt133 => (C.bind fun bt135 => (D.bind fun bt137 => ((wharfagelaw0_Num.f bt131.2).bind fun t139 => (if t139 = 0 then ((wharfagelaw0_Num.f bt133.2).bind fun t140 => (if t140 = 0 then ((wharfagelaw0_Num.f bt135.2).bind fun t141 => (if t141 = 0 then ((wharfagelaw0_Num.f bt137.2).bind fun t142 => (if t142 = 0 then (if ((bt131.1 == bt133.1) == (a == b)) = true then (some ((bt135.1 == bt137.1) == (a == b))) else none) else none)) else none)) else none)) else none)))))) = some true := by
  subst hA hB hC hD
  dsimp only [Option.bind_some, wharfagelaw0_Num.f]
  rw [e1, e2, if_pos rfl, if_pos rfl, if_pos rfl, if_pos rfl, if_pos (by simp)]
  simp
theorem HashOne : wharfagelaw8_HashOne.Pure := by
  intro a0 a1 a2 h0 h1 h2
  refine ⟨5, ?_⟩
  unfold wharfagelaw8_HashOne.f
  rw [awake_true 0, Option.bind_some, if_pos rfl]
  have hk := mod_in (IntKind.u64.wrap a0)
  have ha := mod_in (IntKind.u64.wrap a1)
  have hb := mod_in (IntKind.u64.wrap a2)
  generalize IntKind.u64.wrap a0 % 4294967296 = k at *
  generalize IntKind.u64.wrap a1 % 4294967296 = a at *
  generalize IntKind.u64.wrap a2 % 4294967296 = b at *
  exact fin _ _ _ _ _ _ _ _ a b (Mix_ok k a hk ha) (Mix_ok k b hk hb) (Mix_ok a k ha hk) (Mix_ok b k hb hk) (E1 k a b ha hb) (E2 k a b hk ha hb)
end Go.Proofs.Ytdpkfpbdadloaaa.Pure
