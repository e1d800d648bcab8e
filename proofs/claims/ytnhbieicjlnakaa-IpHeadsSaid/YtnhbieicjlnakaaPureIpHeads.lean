import Derived.Test.YtnhbieicjlnakaaIpAwake
import Derived.Test.YtnhbieicjlnakaaFAWharfagelaw2IpHeads
namespace Go.Proofs.Ytnhbieicjlnakaa.Pure
set_option linter.unusedSimpArgs false
set_option linter.unusedVariables false
open Go Go.RowKit Go.Proofs.Ytnhbieicjlnakaa.PA Go.Proofs.YtnhbieicjlnakaaW.PrintWords Go.Proofs.YtnhbieicjlnakaaW.PrintLast Go.Proofs.YtnhbieicjlnakaaW.PrintMore Go.Proofs.Ytnhbieicjlnakaa.Wh
theorem or_i64 (i : Nat) (hi : i ≤ 62) (x y : Int) (h0 : 0 ≤ x) (h1 : x % 2 ^ i = 0) (h2 : x < 4294967296) (h3 : 0 ≤ y) (h4 : y < 2 ^ i) (h5 : y < 4294967296) : Go.bits .or .i64 x y = x + y :=
  bits_join .i64 32 (by decide) (fun n h0 h1 => by rw [i64_wrap, wrap64_id (by omega) (by omega)]) i x y h0 h1 (by omega) h3 h4 (by omega)
theorem or2 (s : ByteArray) (i j : Int) : Go.bits .or .i64 (wrap64 (wrap64 (bt s i) * 256)) (wrap64 (bt s j)) = bt s i * 256 + bt s j := by
  have a := bt_range s i; have b := bt_range s j
  rw [wrap64_id (n := bt s i) (by omega) (by omega), wrap64_id (n := bt s i * 256) (by omega) (by omega), wrap64_id (n := bt s j) (by omega) (by omega)]
  exact or_i64 8 (by decide) _ _ (by omega) (by omega) (by omega) (by omega) (by omega) (by omega)
theorem or4 (s : ByteArray) (i j l m : Int) : Go.bits .or .i64 (Go.bits .or .i64 (Go.bits .or .i64 (wrap64 (wrap64 (bt s i) * 16777216)) (wrap64 (wrap64 (bt s j) * 65536))) (wrap64 (wrap64 (bt s l) * 256))) (wrap64 (bt s m)) = ((bt s i * 256 + bt s j) * 256 + bt s l) * 256 + bt s m := by
  have a := bt_range s i; have b := bt_range s j; have c := bt_range s l; have d := bt_range s m
  rw [wrap64_id (n := bt s i) (by omega) (by omega), wrap64_id (n := bt s i * 16777216) (by omega) (by omega), wrap64_id (n := bt s j) (by omega) (by omega), wrap64_id (n := bt s j * 65536) (by omega) (by omega), wrap64_id (n := bt s l) (by omega) (by omega), wrap64_id (n := bt s l * 256) (by omega) (by omega), wrap64_id (n := bt s m) (by omega) (by omega)]
  rw [or_i64 24 (by decide) (bt s i * 16777216) (bt s j * 65536) (by omega) (by omega) (by omega) (by omega) (by omega) (by omega)]
  rw [or_i64 16 (by decide) (bt s i * 16777216 + bt s j * 65536) (bt s l * 256) (by omega) (by omega) (by omega) (by omega) (by omega) (by omega)]
  rw [or_i64 8 (by decide) _ (bt s m) (by omega) (by omega) (by omega) (by omega) (by omega) (by omega)]
  omega
theorem IpHeads_at (a0 a1 a2 a3 a4 : Int) (a5 : ByteArray) : wharfagelaw2_IpHeads.f 700 a0 a1 a2 a3 a4 a5 = some true := by
  unfold wharfagelaw2_IpHeads.f
  rw [awakeI, Option.bind_some, if_pos rfl]
  by_cases ha : mayI a0 a1 a2 a3 a4 a5 = true
  · have hz := putI_size a0 a1 a2 a3 a4 a5
    have hd := put_drop a0 a1 a2 a3 a4 a5
    obtain ⟨h0, h1, h2, h3, h4, h5⟩ := mayI_parts ha
    have b0 : bt (putI a0 a1 a2 a3 a4 a5) 0 = 69 := (bt_put a0 a1 a2 a3 a4 a5 0 (by decide)).trans rfl
    have b6 : bt (putI a0 a1 a2 a3 a4 a5) 6 = 64 := (bt_put a0 a1 a2 a3 a4 a5 6 (by decide)).trans rfl
    have b7 : bt (putI a0 a1 a2 a3 a4 a5) 7 = 0 := (bt_put a0 a1 a2 a3 a4 a5 7 (by decide)).trans rfl
    have b8 : bt (putI a0 a1 a2 a3 a4 a5) 8 = a3 := (bt_put a0 a1 a2 a3 a4 a5 8 (by decide)).trans (show a3 % 256 = a3 by omega)
    have b9 : bt (putI a0 a1 a2 a3 a4 a5) 9 = a2 := (bt_put a0 a1 a2 a3 a4 a5 9 (by decide)).trans (show a2 % 256 = a2 by omega)
    have n2 : bt (putI a0 a1 a2 a3 a4 a5) 2 * 256 + bt (putI a0 a1 a2 a3 a4 a5) 3 = 20 + a5.size := by
      refine (N2_put a0 a1 a2 a3 a4 a5 2 (by decide)).trans ?_
      show (20 + (a5.size : Int)) / 256 % 256 * 256 + (20 + (a5.size : Int)) % 256 = _
      omega
    have n4 : bt (putI a0 a1 a2 a3 a4 a5) 4 * 256 + bt (putI a0 a1 a2 a3 a4 a5) 5 = a4 := by
      refine (N2_put a0 a1 a2 a3 a4 a5 4 (by decide)).trans ?_
      show a4 / 256 % 256 * 256 + a4 % 256 = _
      omega
    have n12 : ((bt (putI a0 a1 a2 a3 a4 a5) 12 * 256 + bt (putI a0 a1 a2 a3 a4 a5) 13) * 256 + bt (putI a0 a1 a2 a3 a4 a5) 14) * 256 + bt (putI a0 a1 a2 a3 a4 a5) 15 = a0 := by
      refine (N4_put a0 a1 a2 a3 a4 a5 12 (by decide)).trans ?_
      show ((a0 / 16777216 % 256 * 256 + a0 / 65536 % 256) * 256 + a0 / 256 % 256) * 256 + a0 % 256 = _
      omega
    have n16 : ((bt (putI a0 a1 a2 a3 a4 a5) 16 * 256 + bt (putI a0 a1 a2 a3 a4 a5) 17) * 256 + bt (putI a0 a1 a2 a3 a4 a5) 18) * 256 + bt (putI a0 a1 a2 a3 a4 a5) 19 = a1 := by
      refine (N4_put a0 a1 a2 a3 a4 a5 16 (by decide)).trans ?_
      show ((a1 / 16777216 % 256 * 256 + a1 / 65536 % 256) * 256 + a1 / 256 % 256) * 256 + a1 % 256 = _
      omega
    rw [Put_ok 700 (by decide) ha, Option.bind_some]
    generalize putI a0 a1 a2 a3 a4 a5 = s at *
    rw [num0, Option.bind_some, if_pos rfl]
    dsimp only
    rw [if_neg (by omega), or2, or2, or4, or4, n2, n4, n12, n16, b0, b6, b7, b8, b9, hd]
    rw [wrap64_id (n := a3) (by omega) (by omega), wrap64_id (n := a2) (by omega) (by omega)]
    rw [if_pos (by omega), if_pos (by omega), if_pos (by omega), if_pos (by omega), if_pos (by omega), if_pos (by omega), if_pos (by omega), if_pos (by omega), if_pos (by omega), if_pos rfl]
    rw [if_pos (by omega), if_pos (by omega), if_pos (by omega), if_pos (by omega), if_pos (by omega), if_pos rfl, if_pos (by omega), if_pos rfl, if_pos (by omega), if_pos rfl, if_pos (by omega), if_pos rfl, if_pos (by omega), if_pos rfl, if_pos rfl, if_pos rfl, if_pos (by omega), beq_refl']
  · rw [Put_bad 700 (by simpa using ha), Option.bind_some, num0, Option.bind_some, if_neg (by decide), empty_toList]; rfl
theorem IpHeads (a0 a1 a2 a3 a4 : Int) (a5 : ByteArray) (_ : (Lit.int .i64 a0).wf = true) (_ : (Lit.int .i64 a1).wf = true) (_ : (Lit.int .i64 a2).wf = true) (_ : (Lit.int .i64 a3).wf = true) (_ : (Lit.int .i64 a4).wf = true) : ∃ k, wharfagelaw2_IpHeads.f k a0 a1 a2 a3 a4 a5 = some true := ⟨_, IpHeads_at a0 a1 a2 a3 a4 a5⟩
end Go.Proofs.Ytnhbieicjlnakaa.Pure
