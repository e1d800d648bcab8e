import Derived.Test.YtmhlgpdoedbedaaGreatEP0
set_option linter.unusedVariables false
set_option linter.unusedSimpArgs false
namespace Go.Proofs.YtmhlgpdoedbedaaGreat.Pu
open Go Go.RowKit Go.Proofs.YtmhlgpdoedbedaaGreat.Sv Go.Proofs.YtmhlgpdoedbedaaGreat.Lf
attribute [local irreducible] L_ref1_Num L_ip_Bytes L_ip_Number L_ref1_Of L_sum_Sum L_ref1_Sum
theorem below_eq (N : Nat) (a b : Int) : L_addr_below N a b = some (decide (0 ≤ a ∧ a < b)) := by
  unfold L_addr_below L_addr_below_1
  rw [bifS]
  congr 1
  by_cases h : a ≥ 0 <;> by_cases k : a < b <;> simp [h, k] <;> omega
def whoA (a : Int) : Int × Int × Int × Bool :=
  if 167837696 ≤ a ∧ a < 167837698 then (0, 0, a - 167837696, true)
  else if 167903232 ≤ a ∧ a < 167903235 then (1, a - 167903232, 0, true)
  else if 167968768 ≤ a ∧ a < 167969536 ∧ (a - 167968768) % 256 < 4 then (2, (a - 167968768) / 256, (a - 167968768) % 256, true)
  else (0, 0, 0, false)
def RA (a : Int) : Prop := -4611686018427387904 ≤ a ∧ a ≤ 4611686018427387904
theorem Whose_eq (N : Nat) (a : Int) (h : RA a) : L_addr_Whose N a = some (whoA a) := by
  unfold RA at h
  unfold L_addr_Whose L_addr_Whose_1 whoA
  simp only [below_eq, Option.bind_some]
  rw [w64 (n := a - 167837696) (by omega) (by omega), w64 (n := a - 167903232) (by omega) (by omega), w64 (n := a - 167968768) (by omega) (by omega)]
  by_cases c1 : 167837696 ≤ a ∧ a < 167837698
  · rw [if_pos c1, decide_eq_true (show 0 ≤ a - 167837696 ∧ a - 167837696 < 2 by omega)]; rfl
  rw [if_neg c1, decide_eq_false (show ¬ (0 ≤ a - 167837696 ∧ a - 167837696 < 2) by omega)]
  by_cases c2 : 167903232 ≤ a ∧ a < 167903235
  · rw [if_pos c2, decide_eq_true (show 0 ≤ a - 167903232 ∧ a - 167903232 < 3 by omega)]; rfl
  rw [if_neg c2, decide_eq_false (show ¬ (0 ≤ a - 167903232 ∧ a - 167903232 < 3) by omega)]
  by_cases c3 : 0 ≤ a - 167968768 ∧ a - 167968768 < 768
  · rw [decide_eq_true c3, Int.tmod_eq_emod_of_nonneg c3.1, Int.tdiv_eq_ediv_of_nonneg c3.1, w64 (by omega) (by omega)]
    by_cases c4 : (a - 167968768) % 256 < 4
    · rw [if_pos (by omega)]
      refine stFF (stFF (stTT (stVia ?_)))
      rw [decide_eq_true c4]; rfl
    · rw [if_neg (by omega)]
      refine stFF (stFF (stTT (stVia ?_)))
      rw [decide_eq_false c4]; rfl
  · rw [decide_eq_false c3, if_neg (by omega)]; rfl
theorem who3_step (N k : Nat) (r2 : Int → Int → Option (Int × Int × Int × Bool)) (a : Int) (s j : Int) (hs : 0 ≤ s ∧ s < 3) (hj : 0 ≤ j ∧ j < 4) : L_ref1_Whose_3 N r2 (k + 1) a s j = if a = 167968768 + 256 * s + j then some (2, s, j, true) else L_ref1_Whose_3 N r2 k a s (j + 1) := by
  rw [L_ref1_Whose_3, condd, if_pos hj.2, w64 (n := 256 * s) (by omega) (by omega), w64 (n := 167968768 + 256 * s) (by omega) (by omega), viaE, w64 (n := 167968768 + 256 * s + j) (by omega) (by omega), w64 (n := j + 1) (by omega) (by omega), ceq]
theorem who3_end (N k : Nat) (r2 : Int → Int → Option (Int × Int × Int × Bool)) (a : Int) (s j : Int) (hs : 0 ≤ s ∧ s < 3) (hj : j = 4) : L_ref1_Whose_3 N r2 (k + 1) a s j = r2 a (s + 1) := by
  rw [L_ref1_Whose_3, condd, if_neg (by omega), w64 (n := s + 1) (by omega) (by omega)]
theorem who3 {N : Nat} (hN : 1000 ≤ N) (r2 : Int → Int → Option (Int × Int × Int × Bool)) (a : Int) (s : Int) (hs : 0 ≤ s ∧ s < 3) : L_ref1_Whose_3 N r2 N a s 0 = if 0 ≤ a - (167968768 + 256 * s) ∧ a - (167968768 + 256 * s) < 4 then some (2, s, a - (167968768 + 256 * s), true) else r2 a (s + 1) := by
  obtain ⟨k, hk⟩ : ∃ k, N = k + 5 := ⟨N - 5, by omega⟩
  have e : ∀ f, L_ref1_Whose_3 N r2 (f + 5) a s 0 = if 0 ≤ a - (167968768 + 256 * s) ∧ a - (167968768 + 256 * s) < 4 then some (2, s, a - (167968768 + 256 * s), true) else r2 a (s + 1) := by
    intro f
    rw [who3_step N (f + 4) r2 a s 0 hs (by decide), who3_step N (f + 3) r2 a s (0 + 1) hs (by decide), who3_step N (f + 2) r2 a s (0 + 1 + 1) hs (by decide), who3_step N (f + 1) r2 a s (0 + 1 + 1 + 1) hs (by decide), who3_end N f r2 a s _ hs (by decide)]
    generalize 167968768 + 256 * s = b
    by_cases c : 0 ≤ a - b ∧ a - b < 4
    · rw [if_pos c]
      by_cases c0 : a = b + 0
      · rw [if_pos c0]; subst c0; simp
      rw [if_neg c0]
      by_cases c1 : a = b + (0 + 1)
      · rw [if_pos c1]; subst c1; simp; omega
      rw [if_neg c1]
      by_cases c2 : a = b + (0 + 1 + 1)
      · rw [if_pos c2]; subst c2; simp; omega
      rw [if_neg c2, if_pos (by omega)]
      simp; omega
    · rw [if_neg c, if_neg (by omega), if_neg (by omega), if_neg (by omega), if_neg (by omega)]
  rw [show L_ref1_Whose_3 N r2 N a s 0 = L_ref1_Whose_3 N r2 (k + 5) a s 0 by rw [← hk]]
  exact e k
theorem who2_step {N : Nat} (hN : 1000 ≤ N) (k : Nat) (a s : Int) (hs : 0 ≤ s ∧ s < 3) : L_ref1_Whose_2 N (k + 1) a s = if a = 167903232 + s then some (1, s, 0, true) else if 0 ≤ a - (167968768 + 256 * s) ∧ a - (167968768 + 256 * s) < 4 then some (2, s, a - (167968768 + 256 * s), true) else L_ref1_Whose_2 N k a (s + 1) := by
  rw [L_ref1_Whose_2, condd, if_pos hs.2, w64 (n := 167903232 + s) (by omega) (by omega), ceq, who3 hN _ a s hs]
theorem RWhose_eq {N : Nat} (hN : 1000 ≤ N) (a : Int) : L_ref1_Whose N a = some (whoA a) := by
  obtain ⟨k, hk⟩ : ∃ k, N = k + 5 := ⟨N - 5, by omega⟩
  have e1 : ∀ f s, 0 ≤ s ∧ s < 2 → L_ref1_Whose_1 N (f + 1) a s = if a = 167837696 + s then some (0, 0, s, true) else L_ref1_Whose_1 N f a (s + 1) := fun f s hs => by
    rw [L_ref1_Whose_1, condd, if_pos hs.2, w64 (n := 167837696 + s) (by omega) (by omega), w64 (n := s + 1) (by omega) (by omega), ceq]
  have e1' : ∀ f, L_ref1_Whose_1 N (f + 1) a 2 = L_ref1_Whose_2 N N a 0 := fun f => by
    rw [L_ref1_Whose_1, condd, if_neg (by decide)]
  have e2' : ∀ f, L_ref1_Whose_2 N (f + 1) a 3 = some (0, 0, 0, false) := fun f => by
    rw [L_ref1_Whose_2, condd, if_neg (by decide)]
  have e2 : L_ref1_Whose_2 N N a 0 = L_ref1_Whose_2 N (k + 5) a 0 := by rw [← hk]
  have e3 : L_ref1_Whose N a = L_ref1_Whose_1 N (k + 5) a 0 := by unfold L_ref1_Whose; rw [← hk]
  rw [e3, e1 (k + 4) 0 (by decide), e1 (k + 3) (0 + 1) (by decide), show (0 + 1 + 1 : Int) = 2 from rfl, e1' (k + 2), e2, who2_step hN (k + 4) a 0 (by decide), who2_step hN (k + 3) a (0 + 1) (by decide), who2_step hN (k + 2) a (0 + 1 + 1) (by decide), show (0 + 1 + 1 + 1 : Int) = 3 from rfl, e2' (k + 1)]
  simp only [Int.reduceAdd, Int.reduceMul, Int.zero_add, Int.add_zero]
  unfold whoA
  by_cases c1 : 167837696 ≤ a ∧ a < 167837698
  · rw [if_pos c1]
    by_cases x : a = 167837696
    · rw [if_pos x]; subst x; rfl
    · rw [if_neg x, if_pos (by omega)]
      obtain rfl : a = 167837697 := by omega
      rfl
  rw [if_neg c1, if_neg (by omega), if_neg (by omega)]
  by_cases c2 : 167903232 ≤ a ∧ a < 167903235
  · rw [if_pos c2]
    obtain rfl | rfl | rfl : a = 167903232 ∨ a = 167903233 ∨ a = 167903234 := by omega
    all_goals rfl
  rw [if_neg c2, if_neg (by omega)]
  by_cases c3 : 167968768 ≤ a ∧ a < 167969536 ∧ (a - 167968768) % 256 < 4
  · rw [if_pos c3]
    by_cases x : a - 167968768 < 4
    · rw [if_pos (by omega)]
      simp only [Option.some.injEq, Prod.mk.injEq, true_and, and_true]
      omega
    rw [if_neg (by omega), if_neg (by omega)]
    by_cases x : a - 167969024 < 4
    · rw [if_pos (by omega)]
      simp only [Option.some.injEq, Prod.mk.injEq, true_and, and_true]
      omega
    rw [if_neg (by omega), if_neg (by omega), if_pos (by omega)]
    simp only [Option.some.injEq, Prod.mk.injEq, true_and, and_true]
    omega
  · rw [if_neg c3, if_neg (by omega), if_neg (by omega), if_neg (by omega), if_neg (by omega), if_neg (by omega)]
def addrA (role site id : Int) : Int × Int :=
  if role = 0 ∧ site = 0 ∧ 0 ≤ id ∧ id < 2 then (167837696 + id, 0)
  else if role = 1 ∧ id = 0 ∧ 0 ≤ site ∧ site < 3 then (167903232 + site, 0)
  else if role = 2 ∧ 0 ≤ site ∧ site < 3 ∧ 0 ≤ id ∧ id < 4 then (167968768 + 256 * site + id, 0)
  else (0, 500)
theorem Address_eq (N : Nat) (role site id : Int) : L_addr_Address N role site id = some (addrA role site id) := by
  unfold L_addr_Address L_addr_Address_1 L_addr_Address_2 L_addr_Address_3 addrA
  simp only [below_eq, Option.bind_some, viaE]
  by_cases c1 : role = 0 ∧ site = 0 ∧ 0 ≤ id ∧ id < 2
  · rw [if_pos c1, decide_eq_true c1.2.2]
    refine stET c1.1 (stET c1.2.1 (stTT ?_))
    rw [w64 (by omega) (by omega)]
  rw [if_neg c1]
  by_cases c2 : role = 1 ∧ id = 0 ∧ 0 ≤ site ∧ site < 3
  · rw [if_pos c2, decide_eq_true c2.2.2]
    refine stEF (by omega) (stFF (stET c2.1 (stTT ?_)))
    rw [show (id == 0) = true by rw [c2.2.1]; rfl, w64 (by omega) (by omega)]
    rfl
  rw [if_neg c2]
  by_cases c3 : role = 2 ∧ 0 ≤ site ∧ site < 3 ∧ 0 ≤ id ∧ id < 4
  · rw [if_pos c3, decide_eq_true (show 0 ≤ site ∧ site < 3 by omega), decide_eq_true (show 0 ≤ id ∧ id < 4 by omega)]
    refine stEF (by omega) (stFF (stEF (by omega) (stFF (stET c3.1 (stTT (stTT ?_))))))
    rw [w64 (n := 256 * site) (by omega) (by omega), w64 (n := 167968768 + 256 * site) (by omega) (by omega), w64 (by omega) (by omega)]
  rw [if_neg c3]
  by_cases r0 : role = 0
  · refine stET r0 ?_
    by_cases s0 : site = 0
    · rw [decide_eq_false (show ¬ (0 ≤ id ∧ id < 2) by omega)]
      refine stET s0 (stFF (stEF (by omega) (stFF (stEF (by omega) rfl))))
    · refine stEF s0 (stFF (stEF (by omega) (stFF (stEF (by omega) rfl))))
  · refine stEF r0 (stFF ?_)
    by_cases r1 : role = 1
    · refine stET r1 ?_
      by_cases s1 : 0 ≤ site ∧ site < 3
      · rw [decide_eq_true s1, show (id == 0) = false by rw [beq_eq_false_iff_ne]; omega]
        refine stTT (stFF (stEF (by omega) rfl))
      · rw [decide_eq_false s1]
        refine stFF (stFF (stEF (by omega) rfl))
    · refine stEF r1 (stFF ?_)
      by_cases r2 : role = 2
      · refine stET r2 ?_
        by_cases s1 : 0 ≤ site ∧ site < 3
        · rw [decide_eq_true s1, decide_eq_false (show ¬ (0 ≤ id ∧ id < 4) by omega)]
          rfl
        · rw [decide_eq_false s1]
          rfl
      · exact stEF r2 rfl
def Known (a : Int) : Prop := 167837696 ≤ a ∧ a < 167837698 ∨ 167903232 ≤ a ∧ a < 167903235 ∨ 167968768 ≤ a ∧ a < 167969536 ∧ (a - 167968768) % 256 < 4
instance (a : Int) : Decidable (Known a) := by unfold Known; infer_instance
theorem known_range {a : Int} (h : Known a) : 0 ≤ a ∧ a < 4294967296 := by unfold Known at h; omega
theorem whoA_is (a : Int) : (whoA a).2.2.2 = decide (Known a) := by
  unfold whoA
  by_cases c1 : 167837696 ≤ a ∧ a < 167837698
  · rw [if_pos c1, decide_eq_true (show Known a from .inl c1)]
  by_cases c2 : 167903232 ≤ a ∧ a < 167903235
  · rw [if_neg c1, if_pos c2, decide_eq_true (show Known a from .inr (.inl c2))]
  by_cases c3 : 167968768 ≤ a ∧ a < 167969536 ∧ (a - 167968768) % 256 < 4
  · rw [if_neg c1, if_neg c2, if_pos c3, decide_eq_true (show Known a from .inr (.inr c3))]
  · rw [if_neg c1, if_neg c2, if_neg c3, decide_eq_false (show ¬ Known a from fun h => h.elim c1 fun h => h.elim c2 c3)]
def mayG (o : GOuter) : Bool :=
  decide (Known o.Src ∧ Known o.Dst ∧ 1 ≤ o.Tier ∧ o.Tier ≤ 4 ∧ (0 ≤ o.Marker ∧ o.Marker < 256) ∧ (0 ≤ o.Origin ∧ o.Origin < 256) ∧ o.Body.size ≤ 512)
theorem mayG_parts {o : GOuter} (h : mayG o = true) : Known o.Src ∧ Known o.Dst ∧ 1 ≤ o.Tier ∧ o.Tier ≤ 4 ∧ (0 ≤ o.Marker ∧ o.Marker < 256) ∧ (0 ≤ o.Origin ∧ o.Origin < 256) ∧ o.Body.size ≤ 512 := of_decide_eq_true h
theorem node_eq (N : Nat) (a : Int) (h : RA a) : L_gue_node N a = some (decide (Known a)) := by
  unfold L_gue_node
  exact stB (Whose_eq N a h) (by rw [whoA_is])
theorem MayG_eq (N : Nat) (o : GOuter) (hs : RA o.Src) (hd : RA o.Dst) : L_gue_May N o = some (mayG o) := by
  unfold L_gue_May L_gue_May_1
  rw [node_eq N _ hs, node_eq N _ hd]
  simp only [in8, Option.bind_some, bifS]
  congr 1
  rw [Bool.eq_iff_iff]
  unfold mayG
  simp only [bifP, decide_eq_true_eq, decide_eq_false_iff_not, beq_iff_eq, beq_eq_false_iff_ne, bne_iff_ne, Bool.not_eq_true', Bool.not_eq_false', Bool.and_eq_true, Bool.false_eq_true, Bool.true_eq_false, reduceCtorEq, and_false, false_and, or_false, false_or, true_and, and_true, Bool.not_eq_eq_eq_not, Bool.not_true, Bool.not_false]
  generalize Known o.Src = A
  generalize Known o.Dst = B
  by_cases a : A <;> by_cases b : B <;> simp only [a, b, true_and, false_and, and_false, true_iff, false_iff, not_true, not_false_iff, or_false]
  all_goals omega
theorem OuterMay_eq {N : Nat} (hN : 1000 ≤ N) (o : GOuter) : L_ref1_OuterMay N o = some (mayG o) := by
  unfold L_ref1_OuterMay L_ref1_OuterMay_1
  rw [RWhose_eq hN, RWhose_eq hN]
  simp only [within8, Option.bind_some, bifS, whoA_is]
  congr 1
  rw [Bool.eq_iff_iff]
  unfold mayG
  simp only [bifP, decide_eq_true_eq, decide_eq_false_iff_not, beq_iff_eq, beq_eq_false_iff_ne, bne_iff_ne, Bool.not_eq_true', Bool.not_eq_false', Bool.and_eq_true, Bool.false_eq_true, Bool.true_eq_false, reduceCtorEq, and_false, false_and, or_false, false_or, true_and, and_true, Bool.not_eq_eq_eq_not, Bool.not_true, Bool.not_false]
  generalize Known o.Src = A
  generalize Known o.Dst = B
  by_cases a : A <;> by_cases b : B <;> simp only [a, b, true_and, false_and, and_false, true_iff, false_iff, not_true, not_false_iff, or_false]
  all_goals omega
def inG (o : GOuter) : ByteArray := B1 0 ++ B1 o.Tier ++ B1 o.Marker ++ B1 o.Origin ++ B2 o.Body.size ++ B2 0 ++ o.Body
def gueB (o : GOuter) : ByteArray := B2 61440 ++ B2 6080 ++ B2 (16 + o.Body.size) ++ B2 0 ++ inG o
theorem inG_size (o : GOuter) : (inG o).size = 8 + o.Body.size := by
  simp only [inG, ByteArray.size_append, B1_size, B2_size]
theorem gueB_size (o : GOuter) : (gueB o).size = 16 + o.Body.size := by
  simp only [gueB, ByteArray.size_append, B2_size, inG_size]; omega
def ipG (o : GOuter) : GIp := ⟨o.Src, o.Dst, 17, 64, 0, gueB o⟩
def pushI (o : GOuter) : ByteArray := putI (ipG o)
theorem pushI_size (o : GOuter) : (pushI o).size = 36 + o.Body.size := by
  rw [pushI, putI_size]
  show 20 + (gueB o).size = _
  rw [gueB_size]; omega
theorem pushI_may {o : GOuter} (h : mayG o = true) (h2 : o.Body.size ≤ 324) : mayI (ipG o) = true := by
  obtain ⟨h0, h1, _⟩ := mayG_parts h
  have a := known_range h0; have b := known_range h1
  have c := gueB_size o
  rw [mayI_iff]
  unfold ipG
  dsimp only
  omega
abbrev PushR := ByteArray × Int
def pushR (o : GOuter) : PushR := if mayG o = true then if 324 < o.Body.size then (ByteArray.empty, 601) else (pushI o, 0) else (ByteArray.empty, 600)
theorem Push_eq {N : Nat} (hN : 1000 ≤ N) (o : GOuter) (hs : RA o.Src) (hd : RA o.Dst) : L_gue_Push N o = some (pushR o) := by
  unfold L_gue_Push pushR
  refine stB (MayG_eq N o hs hd) ?_
  by_cases h : mayG o = true
  · rw [if_pos h, h]
    have hp := mayG_parts h
    refine stNTT (stVia ?_)
    rw [w64 (n := 36 + (o.Body.size : Int)) (by omega) (by omega)]
    by_cases h2 : 324 < o.Body.size
    · rw [if_pos h2]
      exact stDT (by omega) rfl
    · rw [if_neg h2]
      refine stDF (by omega) ?_
      have hput := Put_eq hN (ipG o)
      rw [if_pos (pushI_may h (by omega))] at hput
      have sz := inG_size o
      unfold inG at sz
      unfold ipG gueB inG at hput
      have e16 : (16 + (o.Body.size : Int)) = 8 + ((B1 0 ++ B1 o.Tier ++ B1 o.Marker ++ B1 o.Origin ++ B2 o.Body.size ++ B2 0 ++ o.Body).size : Int) := by omega
      rw [e16] at hput
      repeat (first | with_reducible refine stB rfl ?_ | with_reducible refine stVia ?_ | (with_reducible refine stIf ?_ ?_; · first | omega | (simp only [ByteArray.size_append, ByteArray.size_extract, B1_size, B2_size, B4_size]; omega)) | (with_reducible refine stDT ?_ ?_; · omega) | (with_reducible refine stDF ?_ ?_; · omega) | (with_reducible refine stET ?_ ?_; · omega) | (with_reducible refine stEF ?_ ?_; · omega) | (with_reducible refine stNT ?_ ?_; · omega) | (with_reducible refine stNF ?_ ?_; · omega) | with_reducible refine stTT ?_ | with_reducible refine stFF ?_ | with_reducible refine stNTT ?_ | with_reducible refine stNFF ?_ | with_reducible refine stB (bytes1 hN _) ?_ | with_reducible refine stB (bytes2 hN _) ?_)
      rw [w64 (n := 8 + ((B1 0 ++ B1 o.Tier ++ B1 o.Marker ++ B1 o.Origin ++ B2 o.Body.size ++ B2 0 ++ o.Body).size : Int)) (by omega) (by omega)]
      refine stB hput ?_
      rw [← e16]
      rfl
  · rw [if_neg h]
    rw [Bool.not_eq_true] at h
    rw [h]; rfl
theorem RPush_eq {N : Nat} (hN : 1000 ≤ N) (o : GOuter) : L_ref1_Push N o = some (pushR o) := by
  unfold L_ref1_Push pushR
  refine stB (OuterMay_eq hN o) ?_
  by_cases h : mayG o = true
  · rw [if_pos h, h]
    have hp := mayG_parts h
    refine stNTT (stVia ?_)
    rw [w64 (n := 16 + (o.Body.size : Int)) (by omega) (by omega), w64 (n := 20 + (16 + (o.Body.size : Int))) (by omega) (by omega)]
    by_cases h2 : 324 < o.Body.size
    · rw [if_pos h2]
      exact stDT (by omega) rfl
    · rw [if_neg h2]
      refine stDF (by omega) ?_
      have hput := PutIp_eq hN (ipG o)
      rw [if_pos (pushI_may h (by omega))] at hput
      have hg : B2 61440 ++ B2 6080 ++ B2 (16 + (o.Body.size : Int)) ++ B2 0 ++ B1 0 ++ B1 o.Tier ++ B1 o.Marker ++ B1 o.Origin ++ B2 (o.Body.size : Int) ++ B2 0 ++ o.Body = gueB o := by
        simp only [gueB, inG, ByteArray.append_assoc]
      unfold ipG at hput
      rw [← hg] at hput
      repeat (first | with_reducible refine stB rfl ?_ | with_reducible refine stVia ?_ | (with_reducible refine stIf ?_ ?_; · first | omega | (simp only [ByteArray.size_append, ByteArray.size_extract, B1_size, B2_size, B4_size]; omega)) | (with_reducible refine stDT ?_ ?_; · omega) | (with_reducible refine stDF ?_ ?_; · omega) | (with_reducible refine stET ?_ ?_; · omega) | (with_reducible refine stEF ?_ ?_; · omega) | (with_reducible refine stNT ?_ ?_; · omega) | (with_reducible refine stNF ?_ ?_; · omega) | with_reducible refine stTT ?_ | with_reducible refine stFF ?_ | with_reducible refine stNTT ?_ | with_reducible refine stNFF ?_ | with_reducible refine stB (num1 hN _) ?_ | with_reducible refine stB (num2 hN _) ?_ | with_reducible refine stB (hput) ?_)
      rfl
  · rw [if_neg h]
    rw [Bool.not_eq_true] at h
    rw [h]; rfl
abbrev OutR := GOuter × Int
def badG : OutR := (⟨0, 0, 0, 0, 0, ByteArray.empty⟩, 600)
def outS (s : ByteArray) : GOuter := ⟨N4 s 12, N4 s 16, bt s 29, bt s 30, bt s 31, s.extract 36 s.size⟩
def popI (s : ByteArray) : OutR :=
  if s.size < 36 then badG
  else if mayG (outS s) = true ∧ s.size ≤ 360 ∧ pushI (outS s) = s then (outS s, 0) else badG
theorem N4_RA (s : ByteArray) (i : Nat) : RA (N4 s i) := by
  have := N4_range s i
  exact ⟨by omega, by omega⟩
theorem pop_end (s : ByteArray) (c : ¬ s.size < 36) : (if (pushR (outS s)).2 = 0 ∧ (pushR (outS s)).1 = s then (outS s, 0) else badG) = popI s := by
  have hb : (outS s).Body.size = s.size - 36 := by unfold outS; dsimp only; rw [ByteArray.size_extract]; omega
  unfold popI
  rw [if_neg c]
  unfold pushR
  by_cases m : mayG (outS s) = true
  · rw [if_pos m]
    by_cases z : 324 < (outS s).Body.size
    · rw [if_pos z, if_neg (fun h => absurd h.1 (by decide)), if_neg (fun h => by omega)]
    · rw [if_neg z]
      by_cases e : pushI (outS s) = s
      · rw [if_pos ⟨rfl, e⟩, if_pos ⟨m, by omega, e⟩]
      · rw [if_neg (fun h => e h.2), if_neg (fun h => e h.2.2)]
  · rw [if_neg m, if_neg (fun h => absurd h.1 (by decide)), if_neg (fun h => m h.1)]
theorem Pop_eq {N : Nat} (hN : 1000 ≤ N) (s : ByteArray) : L_gue_Pop N s = some (popI s) := by
  unfold L_gue_Pop L_gue_Pop_1
  by_cases c : s.size < 36
  · unfold popI
    rw [if_pos c]
    exact stDT (by omega) rfl
  have hg : (s.extract 28 s.size).size = s.size - 28 := by rw [ByteArray.size_extract]; omega
  have e1 : bt (s.extract 28 s.size) 1 = bt s 29 := bt_extract s 28 s.size 1 (by omega) (Nat.le_refl _)
  have e2 : bt (s.extract 28 s.size) 2 = bt s 30 := bt_extract s 28 s.size 2 (by omega) (Nat.le_refl _)
  have e3 : bt (s.extract 28 s.size) 3 = bt s 31 := bt_extract s 28 s.size 3 (by omega) (Nat.le_refl _)
  have e4 := ex_ex s 28 8 (by omega)
  have r1 := bt_range s 29; have r2 := bt_range s 30; have r3 := bt_range s 31
  have hp : L_gue_Push N ⟨N4 s 12, N4 s 16, bt s 29, bt s 30, bt s 31, s.extract (28 + 8) s.size⟩ = some (pushR (outS s)) := Push_eq hN (outS s) (N4_RA s 12) (N4_RA s 16)
  rw [← pop_end s c]
  refine stDF (by omega) ?_
  simp only [viaE]
  rw [e4, e1, e2, e3, w64 (n := bt s 29) (by omega) (by omega), w64 (n := bt s 30) (by omega) (by omega), w64 (n := bt s 31) (by omega) (by omega)]
  by_cases q : (pushR (outS s)).2 = 0
  · repeat (first | with_reducible refine stB rfl ?_ | with_reducible refine stVia ?_ | (with_reducible refine stIf ?_ ?_; · first | omega | (simp only [ByteArray.size_append, ByteArray.size_extract, B1_size, B2_size, B4_size]; omega)) | (with_reducible refine stDT ?_ ?_; · omega) | (with_reducible refine stDF ?_ ?_; · omega) | (with_reducible refine stET ?_ ?_; · omega) | (with_reducible refine stEF ?_ ?_; · omega) | (with_reducible refine stNT ?_ ?_; · omega) | (with_reducible refine stNF ?_ ?_; · omega) | with_reducible refine stTT ?_ | with_reducible refine stFF ?_ | with_reducible refine stNTT ?_ | with_reducible refine stNFF ?_ | with_reducible refine stB (numAt4 hN s 12 16 rfl (by omega)) ?_ | with_reducible refine stB (numAt4 hN s 16 20 rfl (by omega)) ?_ | with_reducible refine stB (hp) ?_)
    rw [toList_beq]
    by_cases e : (pushR (outS s)).1 = s
    · rw [if_pos ⟨q, e⟩, decide_eq_true e]; rfl
    · rw [if_neg (fun h => e h.2), decide_eq_false e]; rfl
  · rw [if_neg (show ¬ ((pushR (outS s)).2 = 0 ∧ (pushR (outS s)).1 = s) from fun h => q h.1)]
    repeat (first | with_reducible refine stB rfl ?_ | with_reducible refine stVia ?_ | (with_reducible refine stIf ?_ ?_; · first | omega | (simp only [ByteArray.size_append, ByteArray.size_extract, B1_size, B2_size, B4_size]; omega)) | (with_reducible refine stDT ?_ ?_; · omega) | (with_reducible refine stDF ?_ ?_; · omega) | (with_reducible refine stET ?_ ?_; · omega) | (with_reducible refine stEF ?_ ?_; · omega) | (with_reducible refine stNT ?_ ?_; · omega) | (with_reducible refine stNF ?_ ?_; · omega) | with_reducible refine stTT ?_ | with_reducible refine stFF ?_ | with_reducible refine stNTT ?_ | with_reducible refine stNFF ?_ | with_reducible refine stB (numAt4 hN s 12 16 rfl (by omega)) ?_ | with_reducible refine stB (numAt4 hN s 16 20 rfl (by omega)) ?_ | with_reducible refine stB (hp) ?_)
    rfl
theorem getI_good (s : ByteArray) (h : (getI s).2.2 = 0 ∧ (getI s).2.1 = 0) : getI s = (⟨N4 s 12, N4 s 16, bt s 9, bt s 8, N2 s 4, s.extract 20 s.size⟩, 0, 0) ∧ 20 ≤ s.size := by
  unfold getI at h ⊢
  unfold badI at h ⊢
  by_cases c1 : s.size < 20 ∨ 512 < s.size
  · rw [if_pos c1] at h; exact absurd h.1 (by decide)
  rw [if_neg c1] at h ⊢
  by_cases c2 : bt s 0 / 16 ≠ 4 ∨ bt s 0 % 16 < 5 ∨ (s.size : Int) < 4 * (bt s 0 % 16)
  · rw [if_pos c2] at h; exact absurd h.1 (by decide)
  rw [if_neg c2] at h ⊢
  by_cases c3 : N2 s 2 ≠ s.size
  · rw [if_pos c3] at h; exact absurd h.1 (by decide)
  rw [if_neg c3] at h ⊢
  by_cases c4 : sumB (s.extract 0 (4 * (bt s 0 % 16)).toNat) ≠ 65535
  · rw [if_pos c4] at h; exact absurd h.1 (by decide)
  rw [if_neg c4] at h ⊢
  by_cases c5 : 5 < bt s 0 % 16
  · rw [if_pos c5] at h; exact absurd h.2 (by decide)
  rw [if_neg c5] at h ⊢
  by_cases c6 : bAnd .i64 (N2 s 6) 49151 ≠ 0
  · rw [if_pos c6] at h; exact absurd h.2 (by decide)
  rw [if_neg c6]
  exact ⟨rfl, by omega⟩
theorem RPop_eq {N : Nat} (hN : 1000 ≤ N) (s : ByteArray) : L_ref1_Pop N s = some (popI s) := by
  unfold L_ref1_Pop L_ref1_Pop_1 L_ref1_Pop_2
  refine stB (GetIp_eq hN s) ?_
  by_cases good : (getI s).2.2 = 0 ∧ (getI s).2.1 = 0
  · obtain ⟨hg, h20⟩ := getI_good s good
    rw [hg]
    have hz : (s.extract 20 s.size).size = s.size - 20 := by rw [ByteArray.size_extract]; omega
    refine stNT rfl (stNT rfl ?_)
    dsimp only
    by_cases c : s.size < 36
    · unfold popI
      rw [decide_eq_true (by rw [hz]; omega), if_pos c]; rfl
    rw [decide_eq_false (by rw [hz]; omega), ← pop_end s c]
    have e1 : bt (s.extract 20 s.size) 9 = bt s 29 := bt_extract s 20 s.size 9 (by omega) (Nat.le_refl _)
    have e2 : bt (s.extract 20 s.size) 10 = bt s 30 := bt_extract s 20 s.size 10 (by omega) (Nat.le_refl _)
    have e3 : bt (s.extract 20 s.size) 11 = bt s 31 := bt_extract s 20 s.size 11 (by omega) (Nat.le_refl _)
    have e4 := ex_ex s 20 16 (by omega)
    have r1 := bt_range s 29; have r2 := bt_range s 30; have r3 := bt_range s 31
    have hp : L_ref1_Push N ⟨N4 s 12, N4 s 16, bt s 29, bt s 30, bt s 31, s.extract (20 + 16) s.size⟩ = some (pushR (outS s)) := RPush_eq hN (outS s)
    rw [e4, e1, e2, e3, w64 (n := bt s 29) (by omega) (by omega), w64 (n := bt s 30) (by omega) (by omega), w64 (n := bt s 31) (by omega) (by omega)]
    by_cases q : (pushR (outS s)).2 = 0
    · repeat (first | with_reducible refine stB rfl ?_ | with_reducible refine stVia ?_ | (with_reducible refine stIf ?_ ?_; · first | omega | (simp only [ByteArray.size_append, ByteArray.size_extract, B1_size, B2_size, B4_size]; omega)) | (with_reducible refine stDT ?_ ?_; · omega) | (with_reducible refine stDF ?_ ?_; · omega) | (with_reducible refine stET ?_ ?_; · omega) | (with_reducible refine stEF ?_ ?_; · omega) | (with_reducible refine stNT ?_ ?_; · omega) | (with_reducible refine stNF ?_ ?_; · omega) | with_reducible refine stTT ?_ | with_reducible refine stFF ?_ | with_reducible refine stNTT ?_ | with_reducible refine stNFF ?_ | with_reducible refine stB (hp) ?_)
      rw [toList_beq]
      by_cases e : (pushR (outS s)).1 = s
      · rw [if_pos ⟨q, e⟩, decide_eq_true e]; rfl
      · rw [if_neg (fun h => e h.2), decide_eq_false e]; rfl
    · rw [if_neg (show ¬ ((pushR (outS s)).2 = 0 ∧ (pushR (outS s)).1 = s) from fun h => q h.1)]
      repeat (first | with_reducible refine stB rfl ?_ | with_reducible refine stVia ?_ | (with_reducible refine stIf ?_ ?_; · first | omega | (simp only [ByteArray.size_append, ByteArray.size_extract, B1_size, B2_size, B4_size]; omega)) | (with_reducible refine stDT ?_ ?_; · omega) | (with_reducible refine stDF ?_ ?_; · omega) | (with_reducible refine stET ?_ ?_; · omega) | (with_reducible refine stEF ?_ ?_; · omega) | (with_reducible refine stNT ?_ ?_; · omega) | (with_reducible refine stNF ?_ ?_; · omega) | with_reducible refine stTT ?_ | with_reducible refine stFF ?_ | with_reducible refine stNTT ?_ | with_reducible refine stNFF ?_ | with_reducible refine stB (hp) ?_)
      rfl
  · have hbad : popI s = badG := by
      unfold popI
      by_cases c : s.size < 36
      · rw [if_pos c]
      rw [if_neg c, if_neg]
      rintro ⟨m, z, e⟩
      apply good
      have hb : (outS s).Body.size = s.size - 36 := by unfold outS; dsimp only; rw [ByteArray.size_extract]; omega
      have := get_put (pushI_may m (by rw [hb]; omega))
      unfold pushI at e
      rw [e] at this
      rw [this]
      exact ⟨rfl, rfl⟩
    rw [hbad]
    by_cases a : (getI s).2.2 = 0
    · exact stNT a (stNF (fun h => good ⟨a, h⟩) rfl)
    · exact stNF a rfl
theorem gueB_list (o : GOuter) : bytesL (gueB o) =
    [240, 0, 23, 192, (16 + (o.Body.size : Int)) / 256 % 256, (16 + (o.Body.size : Int)) % 256, 0, 0, 0, o.Tier % 256, o.Marker % 256, o.Origin % 256, (o.Body.size : Int) / 256 % 256, (o.Body.size : Int) % 256, 0, 0] ++ bytesL o.Body := by
  have e : gueB o = mkS [240, 0, 23, 192, (16 + (o.Body.size : Int)) / 256 % 256, (16 + (o.Body.size : Int)) % 256, 0, 0, 0, o.Tier % 256, o.Marker % 256, o.Origin % 256, (o.Body.size : Int) / 256 % 256, (o.Body.size : Int) % 256, 0, 0] ++ o.Body := by
    unfold gueB inG B1 B2
    rw [← ByteArray.append_assoc]
    simp only [mkS_append, List.cons_append, List.nil_append]
    rfl
  rw [e, bytesL_append, bytesL_mkS _ (by
    intro x hx
    simp only [List.mem_cons, List.not_mem_nil, or_false] at hx
    omega)]
theorem push_drop (o : GOuter) : (pushI o).extract 36 (pushI o).size = o.Body := by
  apply bytesL_inj
  have hz := pushI_size o
  have hl : (bytesL (pushI o)).length = 36 + o.Body.size := by rw [bytesL_len, hz]
  rw [bytesL_ex, List.take_of_length_le (by rw [List.length_drop, hl, hz]; omega)]
  unfold pushI
  rw [bytesL_put]
  show List.drop 36 (headL _ _ ++ bytesL (gueB o)) = _
  rw [gueB_list]
  rfl
theorem pop_push {o : GOuter} (h : mayG o = true) (z : o.Body.size ≤ 324) : popI (pushI o) = (o, 0) := by
  obtain ⟨k1, k2, t1, t2, m1, o1, _⟩ := mayG_parts h
  have r1 := known_range k1; have r2 := known_range k2
  have hz := pushI_size o
  have n12 : N4 (pushI o) 12 = o.Src := by
    refine (N4_put _ 12 (by decide)).trans ?_
    show ((o.Src / 16777216 % 256 * 256 + o.Src / 65536 % 256) * 256 + o.Src / 256 % 256) * 256 + o.Src % 256 = _
    omega
  have n16 : N4 (pushI o) 16 = o.Dst := by
    refine (N4_put _ 16 (by decide)).trans ?_
    show ((o.Dst / 16777216 % 256 * 256 + o.Dst / 65536 % 256) * 256 + o.Dst / 256 % 256) * 256 + o.Dst % 256 = _
    omega
  have hL : bytesL (pushI o) = headL (ipG o) (sumI (ipG o)) ++ ([240, 0, 23, 192, (16 + (o.Body.size : Int)) / 256 % 256, (16 + (o.Body.size : Int)) % 256, 0, 0, 0, o.Tier % 256, o.Marker % 256, o.Origin % 256, (o.Body.size : Int) / 256 % 256, (o.Body.size : Int) % 256, 0, 0] ++ bytesL o.Body) := (bytesL_put (ipG o)).trans (by rw [← gueB_list]; rfl)
  have b29 : bt (pushI o) 29 = o.Tier := (bt_at hL 29).trans (show o.Tier % 256 = o.Tier by omega)
  have b30 : bt (pushI o) 30 = o.Marker := (bt_at hL 30).trans (show o.Marker % 256 = o.Marker by omega)
  have b31 : bt (pushI o) 31 = o.Origin := (bt_at hL 31).trans (show o.Origin % 256 = o.Origin by omega)
  have ho : outS (pushI o) = o := by
    unfold outS
    rw [n12, n16, b29, b30, b31, push_drop]
  unfold popI
  rw [ho, if_neg (by omega), if_pos ⟨h, by omega, rfl⟩]
def evOf (c : Int) : Int := if c = 1 then 2 else if c = 2 then 3 else 4
theorem getI_class (s : ByteArray) : (getI s).2.1 = 0 ∨ (getI s).2.1 = 1 ∨ (getI s).2.1 = 2 ∨ (getI s).2.1 = 3 := by
  unfold getI badI
  repeat' split
  all_goals simp
theorem ofF_class (s : ByteArray) : ((ofF s).2.2 = 0 ∨ (ofF s).2.2 = 1 ∨ (ofF s).2.2 = 2 ∨ (ofF s).2.2 = 3) ∧ ((ofF s).2.2 ≠ 0 → (ofF s).1 = ⟨0, 0, 0, 0, 0⟩) := by
  have h := getI_class s
  unfold ofF noF
  split
  · exact ⟨h, fun _ => rfl⟩
  · split
    · exact ⟨.inr (.inr (.inr rfl)), fun _ => rfl⟩
    · split
      · exact ⟨.inr (.inl rfl), fun _ => rfl⟩
      · exact ⟨.inl rfl, fun h => absurd rfl h⟩
theorem EventOf_eq (N : Nat) (c : Int) : L_event_Of N c = some (evOf c) := by
  unfold L_event_Of evOf
  simp only [ceq]
  by_cases a : c = 1
  · rw [if_pos a, if_pos a]
  · rw [if_neg a, if_neg a]
    by_cases b : c = 2
    · rw [if_pos b, if_pos b]
    · rw [if_neg b, if_neg b]
end Go.Proofs.YtmhlgpdoedbedaaGreat.Pu
