import Derived.Test.YtnhbieicjlnakaaIpWhole
import Derived.Test.YtnhbieicjlnakaaFAWharfagelaw2Ips
namespace Go.Proofs.Ytnhbieicjlnakaa.Pure
set_option linter.unusedSimpArgs false
set_option linter.unusedVariables false
open Go Go.RowKit Go.Proofs.Ytnhbieicjlnakaa.PA Go.Proofs.YtnhbieicjlnakaaW.PrintWords Go.Proofs.YtnhbieicjlnakaaW.PrintLast Go.Proofs.YtnhbieicjlnakaaW.PrintMore Go.Proofs.Ytnhbieicjlnakaa.Wh
theorem Ips_step (k : Nat) (hk : 600 ≤ k) (x y : ByteArray) (i : Int) (h : i = 0 ∨ i = 1) : wharfagelaw2_Ips.l0 (k + 1) true [x, y] i = wharfagelaw2_Ips.l0 k true [x, y] (i + 1) := by
  rw [wharfagelaw2_Ips.l0, if_pos (by omega), if_pos (by omega), if_pos (by simp; omega), Get_eq k hk, GetIp_eq k hk]
  generalize getI (rdOf ByteArray.empty [x, y] i) = g
  rw [Option.bind_some, Option.bind_some, if_pos rfl, if_pos (by simp), if_pos rfl, num0, Option.bind_some, beq_self_eq_true, wrap64_id (by omega) (by omega)]
theorem Ips_tail (k : Nat) (hk : 600 ≤ k) (hW : wharfagelaw2_awake.f k = some true) (x y : ByteArray) : wharfagelaw2_Ips.l0 (k + 1 + 1 + 1) true [x, y] 0 = some true := by
  rw [Ips_step (k + 1 + 1) (by omega) x y 0 (.inl rfl), Ips_step (k + 1) (by omega) x y (0 + 1) (.inr rfl), wharfagelaw2_Ips.l0, if_neg (by decide), if_pos rfl, hW, Option.bind_some]
theorem Ips_j (k : Nat) (hk : 600 ≤ k) (hW : wharfagelaw2_awake.f k = some true) (s : ByteArray) (hs : s.size ≤ 140737488351232) : wharfagelaw2_Ips.j0 (k + 1 + 1 + 1 + 1) s true = some true := by
  rw [wharfagelaw2_Ips.j0, whole_eq _ (by omega) s hs, Option.bind_some]
  exact Ips_tail k hk hW _ _
theorem put_both (k : Nat) (hk : 40 ≤ k) (a0 a1 a2 a3 a4 : Int) (a5 : ByteArray) : ∃ q, ip_Put.f k a0 a1 a2 a3 a4 a5 = some q ∧ wharfageref1_PutIp.f k a0 a1 a2 a3 a4 a5 = some q := by
  by_cases ha : mayI a0 a1 a2 a3 a4 a5 = true
  · exact ⟨_, Put_ok k hk ha, PutIp_ok k hk ha⟩
  · exact ⟨_, Put_bad k (by simpa using ha), PutIp_bad k (by simpa using ha)⟩
theorem Ips_at (a0 a1 a2 a3 a4 : Int) (a5 s : ByteArray) (hs : s.size ≤ 140737488351232) : wharfagelaw2_Ips.f (700 + 1 + 1 + 1 + 1) a0 a1 a2 a3 a4 a5 s = some true := by
  have hj := Ips_j 700 (by decide) awakeI s hs
  unfold wharfagelaw2_Ips.f
  obtain ⟨q, h1, h2⟩ := put_both (700 + 1 + 1 + 1 + 1) (by decide) a0 a1 a2 a3 a4 a5
  rw [h1, h2, Option.bind_some, Option.bind_some, if_pos rfl, num0, Option.bind_some, if_pos rfl, May_eq, IpMay_eq, Option.bind_some, Option.bind_some, beq_self_eq_true]
  exact hj
theorem Ips (a0 a1 a2 a3 a4 : Int) (a5 s : ByteArray) (_ : (Lit.int .i64 a0).wf = true) (_ : (Lit.int .i64 a1).wf = true) (_ : (Lit.int .i64 a2).wf = true) (_ : (Lit.int .i64 a3).wf = true) (_ : (Lit.int .i64 a4).wf = true) (hs : s.size ≤ 140737488351232) : ∃ k, wharfagelaw2_Ips.f k a0 a1 a2 a3 a4 a5 s = some true := ⟨_, Ips_at a0 a1 a2 a3 a4 a5 s hs⟩
end Go.Proofs.Ytnhbieicjlnakaa.Pure
