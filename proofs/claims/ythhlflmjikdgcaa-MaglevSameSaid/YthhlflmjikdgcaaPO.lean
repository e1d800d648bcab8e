/- Plain laws: MaglevMore, MaglevOne, MaglevPicks, MaglevSame. -/
import Derived.Test.YthhlflmjikdgcaaPN
namespace Go.Proofs.Ythhlflmjikdgcaa.Pu
set_option linter.unusedSimpArgs false
set_option linter.unusedVariables false
open Go Go.RowKit Go.Proofs.Ythhlflmjikdgcaa.Sv Go.Proofs.Ythhlflmjikdgcaa.Lf
set_option maxRecDepth 100000 in
theorem awake9 : L_law9_awake 281474976710656 = some true := by decide +kernel
theorem count_next (T : List Int) (x : Int) (i : Nat) (hi : i < T.length) : (T.take (i + 1)).count x = (T.take i).count x + if T.getD i default = x then 1 else 0 := by
  rw [List.take_add_one, List.count_append, List.getD_eq_getElem?_getD, List.getElem?_eq_getElem hi]
  congr 1
  simp only [Option.toList_some, Option.getD_some, List.count_singleton, beq_iff_eq]
theorem turns_dec : ((List.range 16).all fun x => (List.range 9).all fun y => Nat.beq x 0 || (Nat.beq y 0 || L_law9_turns 281474976710656 (x : Int) (y : Int) == some (((rounds [x, y] 31 (31, [0, 0])).getD 0 0 : Nat) : Int))) = true := by decide +kernel
theorem turns_eq {x y : Nat} (hx : 1 ≤ x) (hx2 : x < 16) (hy : 1 ≤ y) (hy2 : y < 9) : L_law9_turns 281474976710656 (x : Int) (y : Int) = some (((rounds [x, y] 31 (31, [0, 0])).getD 0 0 : Nat) : Int) := by
  have h := List.all_eq_true.1 (List.all_eq_true.1 turns_dec x (List.mem_range.2 hx2)) y (List.mem_range.2 hy2)
  simp only [Bool.or_eq_true, Nat.beq_eq, beq_iff_eq] at h
  rcases h with h | h | h
  · omega
  · omega
  · exact h
theorem may2 {a b x y : Int} (ha : 0 ≤ a) (hab : a < b) (hb : b < 256) (hx : 1 ≤ x) (hx2 : x ≤ 16) (hy : 1 ≤ y) (hy2 : y ≤ 16) : mayC [⟨a, x⟩, ⟨b, y⟩] = true := by
  unfold mayC badAt
  simp [List.range']
  omega
theorem two_eq {a b : Int} {x y : Nat} (ha : 0 ≤ a) (hab : a < b) (hb : b < 256) (hx : 1 ≤ x) (hx2 : x ≤ 16) (hy : 1 ≤ y) (hy2 : y ≤ 16) :
    ∃ T, L_maglev_Build 281474976710656 [⟨a, (x : Int)⟩, ⟨b, (y : Int)⟩] = some (T, 0) ∧ T.length = 31 ∧ T.count a = (rounds [x, y] 31 (31, [0, 0])).getD 0 0 := by
  obtain ⟨T, h1, h2, _, h4⟩ := Build_eq (cs := [⟨a, (x : Int)⟩, ⟨b, (y : Int)⟩]) (may2 ha hab hb (by omega) (by omega) (by omega) (by omega)) (by simp)
  exact ⟨T, h1, h2, h4.at_ 0 (by simp)⟩
theorem more_loop (t7 t8 t9 : Int) (T U : List Int) (hT : T.length = 31) (hU : U.length = 31) {r : Option Bool} (N : Nat)
    (hr : (L_law9_turns N t7 t8).bind (fun v1 => bif (v1 == ((T.count 0 : Nat) : Int)) then (L_law9_turns N (IntKind.i64.wrap (t7 + t9)) t8).bind fun v2 => L_law9_MaglevMore_5 N (v2 == ((U.count 0 : Nat) : Int)) else L_law9_MaglevMore_5 N false) = r) :
    ∀ (d fuel i : Nat), 31 = i + d → d < fuel → L_law9_MaglevMore_2 N fuel t7 t8 t9 T U (((T.take i).count 0 : Nat) : Int) (((U.take i).count 0 : Nat) : Int) (i : Int) = r := by
  intro d
  induction d with
  | zero =>
    intro fuel i hi hf
    obtain ⟨fuel, rfl⟩ : ∃ f, fuel = f + 1 := ⟨fuel - 1, by omega⟩
    rw [L_law9_MaglevMore_2]
    refine stDF (by omega) ?_
    rw [List.take_of_length_le (by omega), List.take_of_length_le (by omega)]
    exact hr
  | succ d ih =>
    intro fuel i hi hf
    obtain ⟨fuel, rfl⟩ : ∃ f, fuel = f + 1 := ⟨fuel - 1, by omega⟩
    have hn := ih fuel (i + 1) (by omega) (by omega)
    have c1 := count_next T 0 i (by omega)
    have c2 := count_next U 0 i (by omega)
    have b1 : (T.take i).count 0 ≤ 31 := Nat.le_trans List.count_le_length (by rw [List.length_take]; omega)
    have b2 : (U.take i).count 0 ≤ 31 := Nat.le_trans List.count_le_length (by rw [List.length_take]; omega)
    rw [c1, c2] at hn
    rw [L_law9_MaglevMore_2]
    unfold L_law9_MaglevMore_3 L_law9_MaglevMore_4
    refine stDT (by omega) (stIf (by omega) ?_)
    rw [Int.toNat_natCast, w64 (n := (i : Int) + 1) (by omega) (by omega), w64 (n := (((T.take i).count 0 : Nat) : Int) + 1) (by omega) (by omega), w64 (n := (((U.take i).count 0 : Nat) : Int) + 1) (by omega) (by omega)]
    by_cases e1 : T.getD i default = 0
    · rw [if_pos e1] at hn
      refine stET e1 (stIf (by omega) ?_)
      by_cases e2 : U.getD i default = 0
      · rw [if_pos e2] at hn
        exact stET e2 hn
      · rw [if_neg e2] at hn
        exact stEF e2 hn
    · rw [if_neg e1] at hn
      refine stEF e1 (stIf (by omega) ?_)
      by_cases e2 : U.getD i default = 0
      · rw [if_pos e2] at hn
        exact stET e2 hn
      · rw [if_neg e2] at hn
        exact stEF e2 hn
theorem MaglevMore (a b more : Int) : L_law9_MaglevMore 281474976710656 a b more = some true := by
  unfold L_law9_MaglevMore L_law9_MaglevMore_1
  rw [awake9, and_7, and_7, and_7, w64 (n := 1 + a % 8) (by omega) (by omega), w64 (n := 1 + b % 8) (by omega) (by omega)]
  refine stB rfl (stNTT (stVia (stVia ?_)))
  rw [w64 (n := 1 + a % 8 + more % 8) (by omega) (by omega)]
  obtain ⟨x, hx⟩ := Int.eq_ofNat_of_zero_le (show 0 ≤ 1 + a % 8 by omega)
  obtain ⟨y, hy⟩ := Int.eq_ofNat_of_zero_le (show 0 ≤ 1 + b % 8 by omega)
  obtain ⟨d, hd⟩ := Int.eq_ofNat_of_zero_le (show 0 ≤ more % 8 by omega)
  rw [hx, hy, hd, show ((x : Int) + (d : Int)) = ((x + d : Nat) : Int) by omega]
  obtain ⟨T, t1, t2, t3⟩ := two_eq (a := 0) (b := 1) (x := x) (y := y) (by decide) (by decide) (by decide) (by omega) (by omega) (by omega) (by omega)
  obtain ⟨U, u1, u2, u3⟩ := two_eq (a := 0) (b := 1) (x := x + d) (y := y) (by decide) (by decide) (by decide) (by omega) (by omega) (by omega) (by omega)
  refine stB t1 (stB u1 (stB rfl (stNT rfl (stB rfl (stNT rfl (stNT (by rw [t2]; rfl) ?_))))))
  rw [show (((U.length : Nat) : Int) != 31) = false by rw [u2]; rfl]
  refine stFF (more_loop (x : Int) (y : Int) (d : Int) T U t2 u2 281474976710656 ?_ 31 281474976710656 0 rfl (by decide))
  rw [w64 (n := (x : Int) + (d : Int)) (by omega) (by omega), show ((x : Int) + (d : Int)) = ((x + d : Nat) : Int) by omega]
  refine stB (turns_eq (by omega) (by omega) (by omega) (by omega)) (stET (by rw [t3]) (stB (turns_eq (by omega) (by omega) (by omega) (by omega)) ?_))
  rw [u3]
  exact congrArg some (beq_self_eq_true _)
theorem one_dec : ((List.range 17).all fun w => Nat.beq w 0 || Nat.beq ((rounds [w] 31 (31, [0])).getD 0 0) 31) = true := by decide +kernel
theorem one_eq {a : Int} {w : Nat} (ha : 0 ≤ a) (ha2 : a < 256) (hw : 1 ≤ w) (hw2 : w ≤ 16) : ∃ T, L_maglev_Build 281474976710656 [⟨a, (w : Int)⟩] = some (T, 0) ∧ T.length = 31 ∧ ∀ x ∈ T, x = a := by
  have hm : mayC [⟨a, (w : Int)⟩] = true := by
    unfold mayC badAt
    simp [List.range']
    omega
  obtain ⟨T, h1, h2, _, h4⟩ := Build_eq hm (by simp)
  have hc : T.count a = (rounds [w] 31 (31, [0])).getD 0 0 := h4.at_ 0 (by simp)
  have hd := List.all_eq_true.1 one_dec w (List.mem_range.2 (by omega))
  simp only [Bool.or_eq_true, Nat.beq_eq] at hd
  rw [hd.resolve_left (by omega)] at hc
  refine ⟨T, h1, h2, fun x hx => ?_⟩
  exact (List.count_eq_length.1 (hc.trans h2.symm) x hx).symm
theorem one_loop3 (N : Nat) (t7 t12 m : Int) (hm : (if decide (t12 < t7) = true then t12 else t7) = m) (U : List Int) (hU : U.length = 31) (hc : U.count m = 16) : ∀ (d fuel i : Nat), 31 = i + d → d < fuel → L_law9_MaglevOne_3 N fuel t7 t12 U 0 (((U.take i).count m : Nat) : Int) (i : Int) = some true := by
  intro d
  induction d with
  | zero =>
    intro fuel i hi hf
    obtain ⟨fuel, rfl⟩ : ∃ f, fuel = f + 1 := ⟨fuel - 1, by omega⟩
    rw [L_law9_MaglevOne_3]
    refine stDF (by omega) (stB rfl (stET rfl (stET (by rw [hU]; rfl) ?_)))
    rw [List.take_of_length_le (by omega), hc]
    rfl
  | succ d ih =>
    intro fuel i hi hf
    obtain ⟨fuel, rfl⟩ : ∃ f, fuel = f + 1 := ⟨fuel - 1, by omega⟩
    have hn := ih fuel (i + 1) (by omega) (by omega)
    have c1 := count_next U m i (by omega)
    have b1 : (U.take i).count m ≤ 31 := Nat.le_trans List.count_le_length (by rw [List.length_take]; omega)
    rw [c1] at hn
    rw [L_law9_MaglevOne_3, hm]
    unfold L_law9_MaglevOne_4
    refine stDT (by omega) (stIf (by omega) ?_)
    rw [Int.toNat_natCast, w64 (n := (i : Int) + 1) (by omega) (by omega), w64 (n := (((U.take i).count m : Nat) : Int) + 1) (by omega) (by omega)]
    by_cases e1 : U.getD i default = m
    · rw [if_pos e1] at hn
      exact stET e1 hn
    · rw [if_neg e1] at hn
      exact stEF e1 hn
theorem one_loop2 (t1 a : Int) (T : List Int) (hT : T.length = 31) (hall : ∀ x ∈ T, x = a) (ha : 0 ≤ a) (ha2 : a < 256) : ∀ (d fuel i : Nat), 31 = i + d → d < fuel → L_law9_MaglevOne_2 281474976710656 fuel t1 a T (i : Int) = some true := by
  intro d
  induction d with
  | zero =>
    intro fuel i hi hf
    obtain ⟨fuel, rfl⟩ : ∃ f, fuel = f + 1 := ⟨fuel - 1, by omega⟩
    rw [L_law9_MaglevOne_2, and_255]
    refine stDF (by omega) ?_
    have hb : 0 ≤ t1 % 256 ∧ t1 % 256 < 256 := by omega
    generalize t1 % 256 = b at *
    by_cases e : b = a
    · exact stET e rfl
    · refine stEF e (stVia (stVia ?_))
      have hlo : ∃ lo hi, (if decide (b < a) = true then b else a) = lo ∧ (if decide (b > a) = true then b else a) = hi ∧ 0 ≤ lo ∧ lo < hi ∧ hi < 256 := by
        by_cases c : b < a
        · exact ⟨b, a, if_pos (decide_eq_true c), if_neg (by rw [decide_eq_true_eq]; omega), by omega, c, ha2⟩
        · exact ⟨a, b, if_neg (by rw [decide_eq_true_eq]; exact c), if_pos (decide_eq_true (by omega)), ha, by omega, by omega⟩
      obtain ⟨lo, hi', e1, e2, h0, h1, h2⟩ := hlo
      rw [e1, e2]
      obtain ⟨U, u1, u2, u3⟩ := two_eq (x := 1) (y := 1) h0 h1 h2 (by decide) (by decide) (by decide) (by decide)
      refine stB u1 (one_loop3 _ a b lo e1 U u2 (u3.trans (by decide +kernel)) 31 _ 0 rfl (by decide))
  | succ d ih =>
    intro fuel i hi hf
    obtain ⟨fuel, rfl⟩ : ∃ f, fuel = f + 1 := ⟨fuel - 1, by omega⟩
    have hn := ih fuel (i + 1) (by omega) (by omega)
    rw [L_law9_MaglevOne_2]
    refine stDT (by omega) (stIf (by omega) ?_)
    rw [Int.toNat_natCast, w64 (n := (i : Int) + 1) (by omega) (by omega)]
    refine stNT ?_ hn
    rw [List.getD_eq_getElem?_getD, List.getElem?_eq_getElem (show i < T.length by omega)]
    exact hall _ (List.getElem_mem _)
theorem MaglevOne (id other weight : Int) : L_law9_MaglevOne 281474976710656 id other weight = some true := by
  unfold L_law9_MaglevOne L_law9_MaglevOne_1
  rw [awake9, and_15, and_255, w64 (n := 1 + weight % 16) (by omega) (by omega)]
  obtain ⟨w, hw⟩ := Int.eq_ofNat_of_zero_le (show 0 ≤ 1 + weight % 16 by omega)
  refine stB rfl (stNTT (stVia ?_))
  rw [hw]
  obtain ⟨T, t1, t2, t3⟩ := one_eq (a := id % 256) (w := w) (by omega) (by omega) (by omega) (by omega)
  refine stB t1 (stB rfl (stNT rfl ?_))
  rw [show (((T.length : Nat) : Int) != 31) = false by rw [t2]; rfl]
  exact stFF (one_loop2 other _ T t2 t3 (by omega) (by omega) 31 _ 0 rfl (by decide))
theorem Pick_eq {cs : List GCandidate} {T : List Int} (h : L_maglev_Build 281474976710656 cs = some (T, 0)) (hT : T.length = 31) (x : Int) (hx : 0 ≤ x) : L_maglev_Pick 281474976710656 cs x = some (T.getD (x % 31).toNat default, true, 0) := by
  unfold L_maglev_Pick L_maglev_Pick_1
  refine stB h (stNT rfl ?_)
  rw [decide_eq_false (show ¬ x < 0 by omega), Int.tmod_eq_emod_of_nonneg hx]
  refine stFF (stEF (by dsimp only; omega) (stIf (by dsimp only; omega) rfl))
theorem Pick_bad {cs : List GCandidate} (h : L_maglev_Build 281474976710656 cs = some ([], 900)) (x : Int) : L_maglev_Pick 281474976710656 cs x = some (0, false, 900) := by
  unfold L_maglev_Pick L_maglev_Pick_1
  exact stB h (stNF (by decide) rfl)
theorem Pick_none (x : Int) (hx : 0 ≤ x) : L_maglev_Pick 281474976710656 [] x = some (0, false, 0) := by
  unfold L_maglev_Pick L_maglev_Pick_1
  refine stB Build_none (stNT rfl ?_)
  rw [decide_eq_false (show ¬ x < 0 by omega)]
  rfl
theorem MaglevPicks (cs : List GCandidate) (hash rounds_ : Int) (hc : cs.length ≤ 140737488355328) : L_law9_MaglevPicks 281474976710656 cs hash rounds_ = some true := by
  unfold L_law9_MaglevPicks L_law9_MaglevPicks_1 L_law9_MaglevPicks_2 L_law9_MaglevPicks_3
  rw [awake9, and_65535, and_1023]
  have hh : 0 ≤ hash % 65536 ∧ hash % 65536 < 65536 := by omega
  have hr : 0 ≤ rounds_ % 1024 ∧ rounds_ % 1024 < 1024 := by omega
  generalize hash % 65536 = h at *
  generalize rounds_ % 1024 = q at *
  rw [w64 (n := 31 * q) (by omega) (by omega)]
  simp only [viaE]
  rw [w64 (n := h + 31 * q) (by omega) (by omega)]
  refine stB rfl (stNTT ?_)
  cases hm : mayC cs with
  | false =>
    have hb := Build_bad hc hm
    refine stB hb (stB (Pick_bad hb _) (stB (Pick_bad hb _) (stB rfl (stNF (by decide) (stB rfl (stNF (by decide) (stB rfl rfl)))))))
  | true =>
    by_cases h0 : 0 < cs.length
    · obtain ⟨T, t1, t2, _, _⟩ := Build_eq hm h0
      refine stB t1 (stB (Pick_eq t1 t2 h hh.1) (stB (Pick_eq t1 t2 (h + 31 * q) (by omega)) (stB rfl (stNT rfl (stEF (by omega) (stET (by rw [t2]; rfl) (stTT (stTT (stB rfl (stET rfl (stB rfl (stET rfl ?_))))))))))))
      rw [show (h + 31 * q) % 31 = h % 31 by omega]
      refine stET rfl (stIf ?_ ?_)
      · rw [Int.tmod_eq_emod_of_nonneg hh.1]; dsimp only; omega
      · rw [Int.tmod_eq_emod_of_nonneg hh.1]
        exact congrArg some (beq_self_eq_true _)
    · obtain rfl : cs = [] := List.length_eq_zero_iff.1 (by omega)
      refine stB Build_none (stB (Pick_none h hh.1) (stB (Pick_none (h + 31 * q) (by omega)) (stB rfl (stNT rfl (stET rfl rfl)))))
theorem SameInts_loop (N : Nat) (T : List Int) (hT : T.length ≤ 140737488355328) : ∀ (d fuel i : Nat), T.length = i + d → d < fuel → L_law0_SameInts_1 N fuel T T (i : Int) = some true := by
  intro d
  induction d with
  | zero =>
    intro fuel i hi hf
    obtain ⟨fuel, rfl⟩ : ∃ f, fuel = f + 1 := ⟨fuel - 1, by omega⟩
    rw [L_law0_SameInts_1]
    exact stDF (by omega) rfl
  | succ d ih =>
    intro fuel i hi hf
    obtain ⟨fuel, rfl⟩ : ∃ f, fuel = f + 1 := ⟨fuel - 1, by omega⟩
    rw [L_law0_SameInts_1, w64 (n := (i : Int) + 1) (by omega) (by omega)]
    exact stDT (by omega) (stIf (by omega) (stIf (by omega) (stNT rfl (ih fuel (i + 1) (by omega) (by omega)))))
theorem SameInts_eq {N : Nat} {T : List Int} (hT : T.length ≤ 140737488355328) (hN : T.length < N) : L_law0_SameInts N T T = some true := by
  unfold L_law0_SameInts
  exact stNT rfl (SameInts_loop N T hT T.length N 0 (by omega) hN)
theorem Spoil_loop (N : Nat) : ∀ (d fuel i : Nat) (T : List Int), T.length ≤ 140737488355328 → T.length = i + d → d < fuel → ∃ U, L_law0_SpoilInts_1 N fuel T (i : Int) = some U ∧ U.length = T.length := by
  intro d
  induction d with
  | zero =>
    intro fuel i T hT hi hf
    obtain ⟨fuel, rfl⟩ : ∃ f, fuel = f + 1 := ⟨fuel - 1, by omega⟩
    rw [L_law0_SpoilInts_1]
    exact ⟨T, stDF (by omega) rfl, rfl⟩
  | succ d ih =>
    intro fuel i T hT hi hf
    obtain ⟨fuel, rfl⟩ : ∃ f, fuel = f + 1 := ⟨fuel - 1, by omega⟩
    rw [L_law0_SpoilInts_1, w64 (n := (i : Int) + 1) (by omega) (by omega), Int.toNat_natCast]
    obtain ⟨U, u1, u2⟩ := ih fuel (i + 1) (T.set i (IntKind.i64.wrap ((-9 : Int) - T.getD i default))) (by rw [List.length_set]; exact hT) (by rw [List.length_set]; omega) (by omega)
    exact ⟨U, stDT (by omega) (stIf (by omega) (stVia (stIf (by omega) u1))), u2.trans (by rw [List.length_set])⟩
theorem Spoil_eq {N : Nat} {T : List Int} (hT : T.length ≤ 140737488355328) (hN : T.length < N) : ∃ U, L_law0_SpoilInts N T = some U ∧ U.length = T.length := Spoil_loop N T.length N 0 T hT (by omega) hN
theorem Build_v1 : L_maglev_Build_v1 = L_maglev_Build := by kernel_rfl
theorem MaglevSame (cs : List GCandidate) (hc : cs.length ≤ 140737488355328) : L_law9_MaglevSame 281474976710656 cs = some true := by
  unfold L_law9_MaglevSame L_law9_MaglevSame_1 L_law9_MaglevSame_2
  rw [awake9, Build_v1]
  refine stB rfl (stNTT ?_)
  have hb : ∃ T e, L_maglev_Build 281474976710656 cs = some (T, e) ∧ T.length ≤ 31 := by
    cases hm : mayC cs with
    | false => exact ⟨_, _, Build_bad hc hm, by decide⟩
    | true =>
      by_cases h0 : 0 < cs.length
      · obtain ⟨T, t1, t2, _, _⟩ := Build_eq hm h0
        exact ⟨T, 0, t1, by omega⟩
      · obtain rfl : cs = [] := List.length_eq_zero_iff.1 (by omega)
        exact ⟨_, _, Build_none, by decide⟩
  obtain ⟨T, e, b1, b2⟩ := hb
  obtain ⟨U, u1, u2⟩ := Spoil_eq (N := 281474976710656) (T := T) (by omega) (by omega)
  have hs := SameInts_eq (N := 281474976710656) (T := T) (by omega) (by omega)
  refine stB b1 (stB b1 (stB rfl (stB rfl (stNT rfl (stB hs (stFF ?_))))))
  rw [List.nil_append]
  refine stIf ⟨by dsimp only; omega, by dsimp only; omega⟩ (stB u1 (stIf u2 (stB b1 (stB rfl (stB rfl (stET rfl (stB hs (stTT (stB hs rfl)))))))))
end Go.Proofs.Ythhlflmjikdgcaa.Pu
