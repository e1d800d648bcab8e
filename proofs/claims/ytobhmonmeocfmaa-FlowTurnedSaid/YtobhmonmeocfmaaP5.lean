/- Plain laws: FlowForms. -/
import Derived.Test.YtobhmonmeocfmaaP4
namespace Go.Proofs.Ytobhmonmeocfmaa.Pu
set_option linter.unusedSimpArgs false
set_option linter.unusedVariables false
open Go Go.RowKit Go.Proofs.Ytobhmonmeocfmaa.Sv Go.Proofs.Ytobhmonmeocfmaa.Lf
attribute [local irreducible] L_ref1_Num L_ip_Bytes L_ip_Number L_ref1_Of L_sum_Sum L_ref1_Sum
theorem noP {f : GFlow} {flags : Int} {body : ByteArray} (h : ¬ okP f flags body) {N : Nat} (hN : 1000 ≤ N) : L_flow_Packet N f flags body = some (ByteArray.empty, 400) := by
  rw [Packet_eq hN, if_neg h]
theorem noS {f : GFlow} {flags : Int} {body : ByteArray} (h : ¬ (kindS f.Proto 0 0 flags ∧ body.size ≤ 256)) : ¬ okP f flags body := fun e =>
  h ⟨(mayS_parts e.2).2.2.2, (mayS_parts e.2).2.2.1⟩
theorem r7 (a b c d e f g : GFlow) (q : Int) (h0 : 0 ≤ q) (h1 : q < 7) : [a, b, c, d, e, f, g].getD q.toNat default = (if q = 0 then a else if q = 1 then b else if q = 2 then c else if q = 3 then d else if q = 4 then e else if q = 5 then f else g) := by
  obtain rfl | rfl | rfl | rfl | rfl | rfl | rfl : q = 0 ∨ q = 1 ∨ q = 2 ∨ q = 3 ∨ q = 4 ∨ q = 5 ∨ q = 6 := by omega
  all_goals rfl
theorem tmodw (x : Int) (k : Int) (hk : 0 < k) (hk2 : k < 1000000) : 0 ≤ IntKind.i64.wrap ((IntKind.u64.wrap x).tmod k) ∧ IntKind.i64.wrap ((IntKind.u64.wrap x).tmod k) < k := by
  rw [wu64]
  have h1 : 0 ≤ x % 18446744073709551616 := Int.emod_nonneg _ (by decide)
  have h2 : 0 ≤ x % 18446744073709551616 % k := Int.emod_nonneg _ (by omega)
  have h3 : x % 18446744073709551616 % k < k := Int.emod_lt_of_pos _ hk
  rw [Int.tmod_eq_emod_of_nonneg h1, w64 (by omega) (by omega)]
  omega
theorem icmp : L_ref1_PutIp 281474976710656 ⟨1, 167772161, 1, 0, 0, ⟨#[49, 50, 51, 52, 53, 54, 55, 56]⟩⟩ = some (putI ⟨1, 167772161, 1, 0, 0, ⟨#[49, 50, 51, 52, 53, 54, 55, 56]⟩⟩, 0) := by
  rw [PutIp_eq (by decide), if_pos (by decide +kernel)]
theorem short : L_ref1_PutIp 281474976710656 ⟨1, 167772161, 17, 0, 0, ⟨#[49, 50, 51, 52, 53, 54, 55]⟩⟩ = some (putI ⟨1, 167772161, 17, 0, 0, ⟨#[49, 50, 51, 52, 53, 54, 55]⟩⟩, 0) := by
  rw [PutIp_eq (by decide), if_pos (by decide +kernel)]
theorem icmpOf : ∃ a b, L_flow_Of 281474976710656 (putI ⟨1, 167772161, 1, 0, 0, ⟨#[49, 50, 51, 52, 53, 54, 55, 56]⟩⟩) = some (a, b, 3) := by
  rw [Of_eq (by decide)]
  have h : (ofF (putI ⟨1, 167772161, 1, 0, 0, ⟨#[49, 50, 51, 52, 53, 54, 55, 56]⟩⟩)).2.2 = 3 := by decide +kernel
  exact ⟨_, _, congrArg some (Prod.ext rfl (Prod.ext rfl h))⟩
theorem shortOf : ∃ a b, L_flow_Of 281474976710656 (putI ⟨1, 167772161, 17, 0, 0, ⟨#[49, 50, 51, 52, 53, 54, 55]⟩⟩) = some (a, b, 1) := by
  rw [Of_eq (by decide)]
  have h : (ofF (putI ⟨1, 167772161, 17, 0, 0, ⟨#[49, 50, 51, 52, 53, 54, 55]⟩⟩)).2.2 = 1 := by decide +kernel
  exact ⟨_, _, congrArg some (Prod.ext rfl (Prod.ext rfl h))⟩
theorem FlowForms (a x : Int) : L_law4_FlowForms 281474976710656 a x = some true := by
  have hN : 1000 ≤ 281474976710656 := by decide
  unfold L_law4_FlowForms L_law4_FlowForms_1
  rw [awake4]
  refine stB rfl (stNTT ?_)
  obtain ⟨d, hd, d0, d1⟩ : ∃ d, IntKind.i64.wrap (1 + bAnd .i64 x 1023) = d ∧ 1 ≤ d ∧ d ≤ 1024 := by
    refine ⟨_, rfl, ?_⟩
    rw [and_1023, w64 (by omega) (by omega)]; omega
  rw [hd]
  obtain ⟨j0, j1⟩ := tmodw a 7 (by decide) (by decide)
  generalize IntKind.i64.wrap ((IntKind.u64.wrap a).tmod 7) = j at *
  refine stVia (stVia ?_)
  rw [w64 (n := 256 + d) (by omega) (by omega), w64 (n := 0 - d) (by omega) (by omega), w64 (n := 4294967295 + d) (by omega) (by omega), w64 (n := 63 + d) (by omega) (by omega), w64 (n := 65535 + d) (by omega) (by omega)]
  have hs : (mkS (List.replicate (256 + d).toNat 0)).size = (256 + d).toNat := by rw [mkS_size, List.length_replicate]
  generalize mkS (List.replicate (256 + d).toNat 0) = body at *
  have hno : ¬ mayF ([(⟨0, 0, 0, 0, 0⟩ : GFlow), ⟨0, 0, 1, 0, 0⟩, ⟨0 - d, 0, 6, 0, 0⟩, ⟨4294967295 + d, 0, 6, 0, 0⟩, ⟨0, 0 - d, 6, 0, 0⟩, ⟨0, 0, 17, 0 - d, 0⟩, ⟨0, 0, 17, 0, 65535 + d⟩].getD j.toNat default) = true := by
    rw [r7 _ _ _ _ _ _ _ j j0 j1]
    intro h
    have := mayF_parts h
    obtain rfl | rfl | rfl | rfl | rfl | rfl | rfl : j = 0 ∨ j = 1 ∨ j = 2 ∨ j = 3 ∨ j = 4 ∨ j = 5 ∨ j = 6 := by omega
    all_goals (dsimp at this; omega)
  generalize [(⟨0, 0, 0, 0, 0⟩ : GFlow), ⟨0, 0, 1, 0, 0⟩, ⟨0 - d, 0, 6, 0, 0⟩, ⟨4294967295 + d, 0, 6, 0, 0⟩, ⟨0, 0 - d, 6, 0, 0⟩, ⟨0, 0, 17, 0 - d, 0⟩, ⟨0, 0, 17, 0, 65535 + d⟩].getD j.toNat default = S at *
  have p0 : L_flow_Packet 281474976710656 S 0 ByteArray.empty = some (ByteArray.empty, 400) := noP (fun h => hno h.1) hN
  have p1 : L_flow_Packet 281474976710656 ⟨1, 167772161, 6, 0, 0⟩ (63 + d) ByteArray.empty = some (ByteArray.empty, 400) := noP (noS (by unfold kindS; dsimp only; omega)) hN
  have p2 : L_flow_Packet 281474976710656 ⟨1, 167772161, 6, 0, 0⟩ (0 - d) ByteArray.empty = some (ByteArray.empty, 400) := noP (noS (by unfold kindS; dsimp only; omega)) hN
  have p3 : L_flow_Packet 281474976710656 ⟨1, 167772161, 6, 0, 0⟩ 0 body = some (ByteArray.empty, 400) := noP (noS (by omega)) hN
  have p4 : L_flow_Packet 281474976710656 ⟨1, 167772161, 17, 0, 0⟩ d ByteArray.empty = some (ByteArray.empty, 400) := noP (noS (by unfold kindS; dsimp only; omega)) hN
  obtain ⟨A, A', hA⟩ := icmpOf
  obtain ⟨B, B', hB⟩ := shortOf
  have hm := FlowMay_eq 281474976710656 S
  rw [Bool.not_eq_true] at hno
  rw [hno] at hm
  refine stIf (by omega) (stB p0 (stB p1 (stB p2 (stIf (by omega) (stB p3 (stB p4 (stB icmp (stB short (stB hA (stB hB (stB hm ?_)))))))))))
  simp only [tl, L_law0_Num, Option.bind_some, beq_self_eq_true, Bool.not_false, cond_true]
end Go.Proofs.Ytobhmonmeocfmaa.Pu
