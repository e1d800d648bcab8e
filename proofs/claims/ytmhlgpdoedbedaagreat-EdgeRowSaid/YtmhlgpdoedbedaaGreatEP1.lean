/- Plain laws: packets, flows, heads, of edges. -/
import Derived.Test.YtmhlgpdoedbedaaGreatEP0
namespace Go.Proofs.YtmhlgpdoedbedaaGreat.Pu
set_option linter.unusedSimpArgs false
set_option linter.unusedVariables false
open Go Go.RowKit Go.Proofs.YtmhlgpdoedbedaaGreat.Sv Go.Proofs.YtmhlgpdoedbedaaGreat.Lf
attribute [local irreducible] L_ref1_Num L_ip_Bytes L_ip_Number L_ref1_Of L_sum_Sum L_ref1_Sum
theorem and_lit : bAnd .i64 16384 49151 = 0 := by decide
/-- What is put is told again. -/
theorem get_put {p : GIp} (h : mayI p = true) : getI (putI p) = (p, 0, 0) := by
  obtain ⟨h1, h2, h3, h4, h5, hb⟩ := mayI_parts h
  have b0 : bt (putI p) 0 = 69 := bt_put _ 0 (by decide)
  have b8 : bt (putI p) 8 = p.Ttl % 256 := bt_put _ 8 (by decide)
  have b9 : bt (putI p) 9 = p.Proto % 256 := bt_put _ 9 (by decide)
  have n2 : N2 (putI p) 2 = (20 + (p.Body.size : Int)) / 256 % 256 * 256 + (20 + (p.Body.size : Int)) % 256 := N2_put _ 2 (by decide)
  have n4 : N2 (putI p) 4 = p.Id / 256 % 256 * 256 + p.Id % 256 := N2_put _ 4 (by decide)
  have n6 : N2 (putI p) 6 = 64 * 256 + 0 := N2_put _ 6 (by decide)
  have n12 : N4 (putI p) 12 = ((p.Src / 16777216 % 256 * 256 + p.Src / 65536 % 256) * 256 + p.Src / 256 % 256) * 256 + p.Src % 256 := N4_put _ 12 (by decide)
  have n16 : N4 (putI p) 16 = ((p.Dst / 16777216 % 256 * 256 + p.Dst / 65536 % 256) * 256 + p.Dst / 256 % 256) * 256 + p.Dst % 256 := N4_put _ 16 (by decide)
  have hsz := putI_size p
  unfold getI
  rw [b0, if_neg (by omega), if_neg (by omega), if_neg (by rw [n2, hsz]; omega), show (4 * ((69 : Int) % 16)).toNat = 20 from rfl, put_take, sum_put, if_neg (by decide), if_neg (by decide), n6, show (64 * 256 + 0 : Int) = 16384 from rfl, and_lit, if_neg (by decide), put_drop, b8, b9, n4, n12, n16]
  refine Prod.ext ?_ rfl
  obtain ⟨a, b, c, d, e, g⟩ := p
  simp only [GIp.mk.injEq, and_true] at *
  omega
def Q2 (x : Int) : Int := x / 256 % 256 * 256 + x % 256
def Q4 (x : Int) : Int := x / 16777216 % 256 * 256 + x / 65536 % 256 + (x / 256 % 256 * 256 + x % 256)
def tcpL (g : GSeg) (chk : Int) : List Int :=
  [g.Sport / 256 % 256, g.Sport % 256, g.Dport / 256 % 256, g.Dport % 256, g.Seq / 16777216 % 256, g.Seq / 65536 % 256, g.Seq / 256 % 256, g.Seq % 256, g.Ack / 16777216 % 256, g.Ack / 65536 % 256, g.Ack / 256 % 256, g.Ack % 256, 80, g.Flags % 256, 4, 0, chk / 256 % 256, chk % 256, 0, 0]
def udpL (g : GSeg) (chk : Int) : List Int :=
  [g.Sport / 256 % 256, g.Sport % 256, g.Dport / 256 % 256, g.Dport % 256, (8 + (g.Body.size : Int)) / 256 % 256, (8 + (g.Body.size : Int)) % 256, chk / 256 % 256, chk % 256]
theorem tcp_list (g : GSeg) (chk : Int) : bytesL (tcpT g chk) = tcpL g chk ++ bytesL g.Body := by
  have e : tcpT g chk = mkS (tcpL g chk) ++ g.Body := by
    unfold tcpT B1 B2 B4
    simp only [mkS_append, List.cons_append, List.nil_append]
    rfl
  rw [e, bytesL_append, bytesL_mkS _ (by
    intro x hx
    simp only [tcpL, List.mem_cons, List.not_mem_nil, or_false] at hx
    omega)]
theorem udp_list (g : GSeg) (chk : Int) : bytesL (udpT g chk) = udpL g chk ++ bytesL g.Body := by
  have e : udpT g chk = mkS (udpL g chk) ++ g.Body := by
    unfold udpT B2
    simp only [mkS_append, List.cons_append, List.nil_append]
    rfl
  rw [e, bytesL_append, bytesL_mkS _ (by
    intro x hx
    simp only [udpL, List.mem_cons, List.not_mem_nil, or_false] at hx
    omega)]
theorem ps_list (src dst proto : Int) (n : Nat) : bytesL (psL src dst proto n) = [src / 16777216 % 256, src / 65536 % 256, src / 256 % 256, src % 256, dst / 16777216 % 256, dst / 65536 % 256, dst / 256 % 256, dst % 256, proto / 256 % 256, proto % 256, (n : Int) / 256 % 256, (n : Int) % 256] := by
  have e : psL src dst proto n = mkS [src / 16777216 % 256, src / 65536 % 256, src / 256 % 256, src % 256, dst / 16777216 % 256, dst / 65536 % 256, dst / 256 % 256, dst % 256, proto / 256 % 256, proto % 256, (n : Int) / 256 % 256, (n : Int) % 256] := by
    unfold psL B2 B4
    simp only [mkS_append, List.cons_append, List.nil_append]
  rw [e, bytesL_mkS _ (by
    intro x hx
    simp only [List.mem_cons, List.not_mem_nil, or_false] at hx
    omega)]
theorem sumS_eq (src dst proto : Int) (s : ByteArray) : sumS src dst proto s = foldS (Q4 src + Q4 dst + Q2 proto + Q2 s.size + rawL (bytesL s)) := by
  unfold sumS sumB
  rw [bytesL_append, ps_list]
  congr 1
  simp only [List.cons_append, List.nil_append, rawL, Q4, Q2]
  omega
theorem raw_text (g : GSeg) (chk : Int) : rawL (bytesL (textS g chk)) = rawL (bytesL (textS g 0)) + Q2 chk := by
  unfold textS
  by_cases e : g.Proto = 6
  · rw [if_pos e, if_pos e, tcp_list, tcp_list]
    simp only [tcpL, List.cons_append, List.nil_append, rawL, Q2]
    omega
  · rw [if_neg e, if_neg e, udp_list, udp_list]
    simp only [udpL, List.cons_append, List.nil_append, rawL, Q2]
    omega
theorem Q2_id {x : Int} (h0 : 0 ≤ x) (h1 : x < 65536) : Q2 x = x := by unfold Q2; omega
theorem Q2_pos (x : Int) : 0 ≤ Q2 x := by unfold Q2; omega
theorem Q4_pos (x : Int) : 0 ≤ Q4 x := by unfold Q4; omega
/-- What stands ahead of the sum: with the sum's place empty. -/
def rawS (g : GSeg) (src dst : Int) : Int :=
  Q4 src + Q4 dst + Q2 g.Proto + Q2 (textS g 0).size + rawL (bytesL (textS g 0))
theorem rawS_pos (g : GSeg) (src dst : Int) (hp : g.Proto = 6 ∨ g.Proto = 17) : 0 < rawS g src dst := by
  unfold rawS
  have a := Q4_pos src; have b := Q4_pos dst; have c := Q2_pos (textS g 0).size
  have d := (raw_range (textS g 0)).1
  have e : 0 < Q2 g.Proto := by rcases hp with h | h <;> rw [h] <;> decide
  omega
theorem sum_text (g : GSeg) (chk src dst : Int) (h0 : 0 ≤ chk) (h1 : chk < 65536) :
    sumS src dst g.Proto (textS g chk) = foldS (rawS g src dst + chk) := by
  rw [sumS_eq, raw_text, Q2_id h0 h1, textS_size]
  unfold rawS
  rw [textS_size]
  congr 1
  omega
theorem chk_range (g : GSeg) (src dst : Int) : 0 ≤ chkS g src dst ∧ chkS g src dst < 65536 ∧ (g.Proto = 17 → chkS g src dst ≠ 0) := by
  have h := sumS_range src dst g.Proto (textS g 0)
  unfold chkS
  by_cases c : g.Proto = 17 ∧ 65535 - sumS src dst g.Proto (textS g 0) = 0
  · rw [if_pos c]; omega
  · rw [if_neg c]; omega
theorem chk_sum (g : GSeg) (src dst : Int) (hp : g.Proto = 6 ∨ g.Proto = 17) : foldS (rawS g src dst + chkS g src dst) = 65535 := by
  have hpos := rawS_pos g src dst hp
  have h0 := sum_text g 0 src dst (by decide) (by decide)
  rw [Int.add_zero] at h0
  unfold chkS
  rw [h0]
  generalize rawS g src dst = R at *
  unfold foldS
  rw [if_neg (show ¬ R = 0 by omega)]
  by_cases c : g.Proto = 17 ∧ 65535 - ((R - 1) % 65535 + 1) = 0
  · rw [if_pos c, if_neg (by omega)]; omega
  · rw [if_neg c, if_neg (by omega)]; omega
theorem sum_putS {g : GSeg} (src dst : Int) (hp : g.Proto = 6 ∨ g.Proto = 17) : sumS src dst g.Proto (putS g src dst) = 65535 := by
  obtain ⟨c0, c1, _⟩ := chk_range g src dst
  exact (sum_text g _ src dst c0 c1).trans (chk_sum _ _ _ hp)
theorem below_eq (N : Nat) (a b : Int) : L_addr_below N a b = some (decide (0 ≤ a ∧ a < b)) := by
  unfold L_addr_below L_addr_below_1
  rw [bifS]
  congr 1
  by_cases h : a ≥ 0 <;> by_cases k : a < b <;> simp [h, k] <;> omega
def whoA (a : Int) : Int × Int × Int × Bool :=
  if 167837696 ≤ a ∧ a < 167837698 then (0, 0, a - 167837696, true)
  else if 167903232 ≤ a ∧ a < 167903235 then (1, a - 167903232, 0, true)
  else if 167968768 ≤ a ∧ a < 167969536 ∧ (a - 167968768) % 256 < 4 then (2, (a - 167968768) / 256, (a - 167968768) % 256, true)
  else (0, 0, 0, false)
def RA (a : Int) : Prop := -4611686018427387904 ≤ a ∧ a ≤ 4611686018427387904
theorem Whose_eq (N : Nat) (a : Int) (h : RA a) : L_addr_Whose N a = some (whoA a) := by
  unfold RA at h
  unfold L_addr_Whose L_addr_Whose_1 whoA
  simp only [below_eq, Option.bind_some]
  rw [w64 (n := a - 167837696) (by omega) (by omega), w64 (n := a - 167903232) (by omega) (by omega), w64 (n := a - 167968768) (by omega) (by omega)]
  by_cases c1 : 167837696 ≤ a ∧ a < 167837698
  · rw [if_pos c1, decide_eq_true (show 0 ≤ a - 167837696 ∧ a - 167837696 < 2 by omega)]; rfl
  rw [if_neg c1, decide_eq_false (show ¬ (0 ≤ a - 167837696 ∧ a - 167837696 < 2) by omega)]
  by_cases c2 : 167903232 ≤ a ∧ a < 167903235
  · rw [if_pos c2, decide_eq_true (show 0 ≤ a - 167903232 ∧ a - 167903232 < 3 by omega)]; rfl
  rw [if_neg c2, decide_eq_false (show ¬ (0 ≤ a - 167903232 ∧ a - 167903232 < 3) by omega)]
  by_cases c3 : 0 ≤ a - 167968768 ∧ a - 167968768 < 768
  · rw [decide_eq_true c3, Int.tmod_eq_emod_of_nonneg c3.1, Int.tdiv_eq_ediv_of_nonneg c3.1, w64 (by omega) (by omega)]
    by_cases c4 : (a - 167968768) % 256 < 4
    · rw [if_pos (by omega)]
      refine stFF (stFF (stTT (stVia ?_)))
      rw [decide_eq_true c4]; rfl
    · rw [if_neg (by omega)]
      refine stFF (stFF (stTT (stVia ?_)))
      rw [decide_eq_false c4]; rfl
  · rw [decide_eq_false c3, if_neg (by omega)]; rfl
def addrA (role site id : Int) : Int × Int :=
  if role = 0 ∧ site = 0 ∧ 0 ≤ id ∧ id < 2 then (167837696 + id, 0)
  else if role = 1 ∧ id = 0 ∧ 0 ≤ site ∧ site < 3 then (167903232 + site, 0)
  else if role = 2 ∧ 0 ≤ site ∧ site < 3 ∧ 0 ≤ id ∧ id < 4 then (167968768 + 256 * site + id, 0)
  else (0, 500)
theorem Address_eq (N : Nat) (role site id : Int) : L_addr_Address N role site id = some (addrA role site id) := by
  unfold L_addr_Address L_addr_Address_1 L_addr_Address_2 L_addr_Address_3 addrA
  simp only [below_eq, Option.bind_some, viaE]
  by_cases c1 : role = 0 ∧ site = 0 ∧ 0 ≤ id ∧ id < 2
  · rw [if_pos c1, decide_eq_true c1.2.2]
    refine stET c1.1 (stET c1.2.1 (stTT ?_))
    rw [w64 (by omega) (by omega)]
  rw [if_neg c1]
  by_cases c2 : role = 1 ∧ id = 0 ∧ 0 ≤ site ∧ site < 3
  · rw [if_pos c2, decide_eq_true c2.2.2]
    refine stEF (by omega) (stFF (stET c2.1 (stTT ?_)))
    rw [show (id == 0) = true by rw [c2.2.1]; rfl, w64 (by omega) (by omega)]
    rfl
  rw [if_neg c2]
  by_cases c3 : role = 2 ∧ 0 ≤ site ∧ site < 3 ∧ 0 ≤ id ∧ id < 4
  · rw [if_pos c3, decide_eq_true (show 0 ≤ site ∧ site < 3 by omega), decide_eq_true (show 0 ≤ id ∧ id < 4 by omega)]
    refine stEF (by omega) (stFF (stEF (by omega) (stFF (stET c3.1 (stTT (stTT ?_))))))
    rw [w64 (n := 256 * site) (by omega) (by omega), w64 (n := 167968768 + 256 * site) (by omega) (by omega), w64 (by omega) (by omega)]
  rw [if_neg c3]
  by_cases r0 : role = 0
  · refine stET r0 ?_
    by_cases s0 : site = 0
    · rw [decide_eq_false (show ¬ (0 ≤ id ∧ id < 2) by omega)]
      refine stET s0 (stFF (stEF (by omega) (stFF (stEF (by omega) rfl))))
    · refine stEF s0 (stFF (stEF (by omega) (stFF (stEF (by omega) rfl))))
  · refine stEF r0 (stFF ?_)
    by_cases r1 : role = 1
    · refine stET r1 ?_
      by_cases s1 : 0 ≤ site ∧ site < 3
      · rw [decide_eq_true s1, show (id == 0) = false by rw [beq_eq_false_iff_ne]; omega]
        refine stTT (stFF (stEF (by omega) rfl))
      · rw [decide_eq_false s1]
        refine stFF (stFF (stEF (by omega) rfl))
    · refine stEF r1 (stFF ?_)
      by_cases r2 : role = 2
      · refine stET r2 ?_
        by_cases s1 : 0 ≤ site ∧ site < 3
        · rw [decide_eq_true s1, decide_eq_false (show ¬ (0 ≤ id ∧ id < 4) by omega)]
          rfl
        · rw [decide_eq_false s1]
          rfl
      · exact stEF r2 rfl
def Known (a : Int) : Prop := 167837696 ≤ a ∧ a < 167837698 ∨ 167903232 ≤ a ∧ a < 167903235 ∨ 167968768 ≤ a ∧ a < 167969536 ∧ (a - 167968768) % 256 < 4
instance (a : Int) : Decidable (Known a) := by unfold Known; infer_instance
theorem known_range {a : Int} (h : Known a) : 0 ≤ a ∧ a < 4294967296 := by unfold Known at h; omega
theorem whoA_is (a : Int) : (whoA a).2.2.2 = decide (Known a) := by
  unfold whoA
  by_cases c1 : 167837696 ≤ a ∧ a < 167837698
  · rw [if_pos c1, decide_eq_true (show Known a from .inl c1)]
  by_cases c2 : 167903232 ≤ a ∧ a < 167903235
  · rw [if_neg c1, if_pos c2, decide_eq_true (show Known a from .inr (.inl c2))]
  by_cases c3 : 167968768 ≤ a ∧ a < 167969536 ∧ (a - 167968768) % 256 < 4
  · rw [if_neg c1, if_neg c2, if_pos c3, decide_eq_true (show Known a from .inr (.inr c3))]
  · rw [if_neg c1, if_neg c2, if_neg c3, decide_eq_false (show ¬ Known a from fun h => h.elim c1 fun h => h.elim c2 c3)]
def mayG (o : GOuter) : Bool :=
  decide (Known o.Src ∧ Known o.Dst ∧ 1 ≤ o.Tier ∧ o.Tier ≤ 4 ∧ (0 ≤ o.Marker ∧ o.Marker < 256) ∧ (0 ≤ o.Origin ∧ o.Origin < 256) ∧ o.Body.size ≤ 512)
theorem mayG_parts {o : GOuter} (h : mayG o = true) : Known o.Src ∧ Known o.Dst ∧ 1 ≤ o.Tier ∧ o.Tier ≤ 4 ∧ (0 ≤ o.Marker ∧ o.Marker < 256) ∧ (0 ≤ o.Origin ∧ o.Origin < 256) ∧ o.Body.size ≤ 512 := of_decide_eq_true h
theorem node_eq (N : Nat) (a : Int) (h : RA a) : L_gue_node N a = some (decide (Known a)) := by
  unfold L_gue_node
  exact stB (Whose_eq N a h) (by rw [whoA_is])
theorem MayG_eq (N : Nat) (o : GOuter) (hs : RA o.Src) (hd : RA o.Dst) : L_gue_May N o = some (mayG o) := by
  unfold L_gue_May L_gue_May_1
  rw [node_eq N _ hs, node_eq N _ hd]
  simp only [in8, Option.bind_some, bifS]
  congr 1
  rw [Bool.eq_iff_iff]
  unfold mayG
  simp only [bifP, decide_eq_true_eq, decide_eq_false_iff_not, beq_iff_eq, beq_eq_false_iff_ne, bne_iff_ne, Bool.not_eq_true', Bool.not_eq_false', Bool.and_eq_true, Bool.false_eq_true, Bool.true_eq_false, reduceCtorEq, and_false, false_and, or_false, false_or, true_and, and_true, Bool.not_eq_eq_eq_not, Bool.not_true, Bool.not_false]
  generalize Known o.Src = A
  generalize Known o.Dst = B
  by_cases a : A <;> by_cases b : B <;> simp only [a, b, true_and, false_and, and_false, true_iff, false_iff, not_true, not_false_iff, or_false]
  all_goals omega
def inG (o : GOuter) : ByteArray := B1 0 ++ B1 o.Tier ++ B1 o.Marker ++ B1 o.Origin ++ B2 o.Body.size ++ B2 0 ++ o.Body
def gueB (o : GOuter) : ByteArray := B2 61440 ++ B2 6080 ++ B2 (16 + o.Body.size) ++ B2 0 ++ inG o
theorem inG_size (o : GOuter) : (inG o).size = 8 + o.Body.size := by
  simp only [inG, ByteArray.size_append, B1_size, B2_size]
theorem gueB_size (o : GOuter) : (gueB o).size = 16 + o.Body.size := by
  simp only [gueB, ByteArray.size_append, B2_size, inG_size]; omega
def ipG (o : GOuter) : GIp := ⟨o.Src, o.Dst, 17, 64, 0, gueB o⟩
def pushI (o : GOuter) : ByteArray := putI (ipG o)
theorem pushI_may {o : GOuter} (h : mayG o = true) (h2 : o.Body.size ≤ 324) : mayI (ipG o) = true := by
  obtain ⟨h0, h1, _⟩ := mayG_parts h
  have a := known_range h0; have b := known_range h1
  have c := gueB_size o
  rw [mayI_iff]
  unfold ipG
  dsimp only
  omega
abbrev PushR := ByteArray × Int
def pushR (o : GOuter) : PushR := if mayG o = true then if 324 < o.Body.size then (ByteArray.empty, 601) else (pushI o, 0) else (ByteArray.empty, 600)
theorem Push_eq {N : Nat} (hN : 1000 ≤ N) (o : GOuter) (hs : RA o.Src) (hd : RA o.Dst) : L_gue_Push N o = some (pushR o) := by
  unfold L_gue_Push pushR
  refine stB (MayG_eq N o hs hd) ?_
  by_cases h : mayG o = true
  · rw [if_pos h, h]
    have hp := mayG_parts h
    refine stNTT (stVia ?_)
    rw [w64 (n := 36 + (o.Body.size : Int)) (by omega) (by omega)]
    by_cases h2 : 324 < o.Body.size
    · rw [if_pos h2]
      exact stDT (by omega) rfl
    · rw [if_neg h2]
      refine stDF (by omega) ?_
      have hput := Put_eq hN (ipG o)
      rw [if_pos (pushI_may h (by omega))] at hput
      have sz := inG_size o
      unfold inG at sz
      unfold ipG gueB inG at hput
      have e16 : (16 + (o.Body.size : Int)) = 8 + ((B1 0 ++ B1 o.Tier ++ B1 o.Marker ++ B1 o.Origin ++ B2 o.Body.size ++ B2 0 ++ o.Body).size : Int) := by omega
      rw [e16] at hput
      repeat (first | with_reducible refine stB rfl ?_ | with_reducible refine stVia ?_ | (with_reducible refine stIf ?_ ?_; · first | omega | (simp only [ByteArray.size_append, ByteArray.size_extract, B1_size, B2_size, B4_size]; omega)) | (with_reducible refine stDT ?_ ?_; · omega) | (with_reducible refine stDF ?_ ?_; · omega) | (with_reducible refine stET ?_ ?_; · omega) | (with_reducible refine stEF ?_ ?_; · omega) | (with_reducible refine stNT ?_ ?_; · omega) | (with_reducible refine stNF ?_ ?_; · omega) | with_reducible refine stTT ?_ | with_reducible refine stFF ?_ | with_reducible refine stNTT ?_ | with_reducible refine stNFF ?_ | with_reducible refine stB (bytes1 hN _) ?_ | with_reducible refine stB (bytes2 hN _) ?_)
      rw [w64 (n := 8 + ((B1 0 ++ B1 o.Tier ++ B1 o.Marker ++ B1 o.Origin ++ B2 o.Body.size ++ B2 0 ++ o.Body).size : Int)) (by omega) (by omega)]
      refine stB hput ?_
      rw [← e16]
      rfl
  · rw [if_neg h]
    rw [Bool.not_eq_true] at h
    rw [h]; rfl
def evOf (c : Int) : Int := if c = 1 then 2 else if c = 2 then 3 else 4
theorem EventOf_eq (N : Nat) (c : Int) : L_event_Of N c = some (evOf c) := by
  unfold L_event_Of evOf
  simp only [ceq]
  by_cases a : c = 1
  · rw [if_pos a, if_pos a]
  · rw [if_neg a, if_neg a]
    by_cases b : c = 2
    · rw [if_pos b, if_pos b]
    · rw [if_neg b, if_neg b]
end Go.Proofs.YtmhlgpdoedbedaaGreat.Pu
