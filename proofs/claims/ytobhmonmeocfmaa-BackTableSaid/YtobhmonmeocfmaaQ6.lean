/- Plain laws: sums of what is put; one byte turned. -/
import Derived.Test.YtobhmonmeocfmaaQ4
namespace Go.Proofs.Ytobhmonmeocfmaa.Pu
set_option linter.unusedSimpArgs false
set_option linter.unusedVariables false
open Go Go.RowKit Go.Proofs.Ytobhmonmeocfmaa.Sv Go.Proofs.Ytobhmonmeocfmaa.Lf
theorem mkS_append (a b : List Int) : mkS a ++ mkS b = mkS (a ++ b) := by
  apply ext_list
  simp [mkS, ByteArray.data_append]
theorem bt_left (a b : ByteArray) (i : Nat) (h : i < a.size) : bt (a ++ b) i = bt a i := by
  rw [bt_get, bt_get, bytesL_append]
  simp only [List.getD_eq_getElem?_getD]
  rw [List.getElem?_append_left (by rw [bytesL_len]; exact h)]
def headL (p : GIp) (chk : Int) : List Int :=
  [69, 0, (20 + (p.Body.size : Int)) / 256 % 256, (20 + (p.Body.size : Int)) % 256, p.Id / 256 % 256, p.Id % 256, 64, 0, p.Ttl % 256, p.Proto % 256, chk / 256 % 256, chk % 256,
    p.Src / 16777216 % 256, p.Src / 65536 % 256, p.Src / 256 % 256, p.Src % 256, p.Dst / 16777216 % 256, p.Dst / 65536 % 256, p.Dst / 256 % 256, p.Dst % 256]
theorem headI_mk (p : GIp) (chk : Int) : headI p chk = mkS (headL p chk) := by
  unfold headI B1 B2 B4
  simp only [mkS_append, List.cons_append, List.nil_append]
  rfl
theorem headL_range (p : GIp) (chk : Int) : ∀ x ∈ headL p chk, 0 ≤ x ∧ x ≤ 255 := by
  intro x hx
  simp only [headL, List.mem_cons, List.not_mem_nil, or_false] at hx
  omega
theorem bytesL_head (p : GIp) (chk : Int) : bytesL (headI p chk) = headL p chk := by
  rw [headI_mk, bytesL_mkS _ (headL_range _ _)]
theorem bytesL_put (p : GIp) : bytesL (putI p) = headL p (sumI p) ++ bytesL p.Body := by
  rw [putI, bytesL_append, bytesL_head]
theorem bt_put (p : GIp) (i : Nat) (h : i < 20) : bt (putI p) i = (headL p (sumI p)).getD i 0 := by
  rw [putI, bt_left _ _ _ (by rw [headI_size]; exact h), bt_get, bytesL_head]
theorem put_drop (p : GIp) : (putI p).extract 20 (putI p).size = p.Body := by
  apply ByteArray.extract_append_eq_right
  · rw [headI_size]
  · rw [putI_size, headI_size]
theorem put_take (p : GIp) : (putI p).extract 0 20 = headI p (sumI p) := by
  apply ByteArray.extract_append_eq_left
  rw [headI_size]
/-- The sum with its own sum in its place is whole. -/
theorem foldS_whole (r c : Int) (h0 : 0 < r) (hc : c = 65535 - foldS r) : foldS (r + c) = 65535 := by
  subst hc
  unfold foldS
  rw [if_neg (show ¬ r = 0 by omega)]
  rw [if_neg (by omega)]
  omega
theorem raw_head (p : GIp) (chk : Int) : rawL (headL p chk) = rawL (headL p 0) + (chk / 256 % 256 * 256 + chk % 256) := by
  simp only [headL, rawL]
  omega
theorem raw_head_pos (p : GIp) : 0 < rawL (headL p 0) := by
  have := headL_range p 0
  simp only [headL, List.mem_cons, List.not_mem_nil, or_false, forall_eq_or_imp, forall_eq] at this
  simp only [headL, rawL]
  omega
theorem sum_put (p : GIp) : sumB (headI p (sumI p)) = 65535 := by
  have hr := sumI_range p
  unfold sumB
  rw [bytesL_head, raw_head, show sumI p / 256 % 256 * 256 + sumI p % 256 = sumI p by omega]
  apply foldS_whole _ _ (raw_head_pos _)
  unfold sumI sumB
  rw [bytesL_head]
theorem N2_put (p : GIp) (i : Nat) (h : i + 1 < 20) : N2 (putI p) i = (headL p (sumI p)).getD i 0 * 256 + (headL p (sumI p)).getD (i + 1) 0 := by
  unfold N2
  rw [bt_put _ i (by omega), bt_put _ (i + 1) h]
theorem N4_put (p : GIp) (i : Nat) (h : i + 3 < 20) : N4 (putI p) i =
    (((headL p (sumI p)).getD i 0 * 256 + (headL p (sumI p)).getD (i + 1) 0) * 256 + (headL p (sumI p)).getD (i + 2) 0) * 256 + (headL p (sumI p)).getD (i + 3) 0 := by
  unfold N4
  rw [bt_put _ i (by omega), bt_put _ (i + 1) (by omega), bt_put _ (i + 2) (by omega), bt_put _ (i + 3) h]
theorem and_lit : bAnd .i64 16384 49151 = 0 := by decide
/-- What is put is told again. -/
theorem get_put {p : GIp} (h : mayI p = true) : getI (putI p) = (p, 0, 0) := by
  obtain ⟨h1, h2, h3, h4, h5, hb⟩ := mayI_parts h
  have b0 : bt (putI p) 0 = 69 := bt_put _ 0 (by decide)
  have b8 : bt (putI p) 8 = p.Ttl % 256 := bt_put _ 8 (by decide)
  have b9 : bt (putI p) 9 = p.Proto % 256 := bt_put _ 9 (by decide)
  have n2 : N2 (putI p) 2 = (20 + (p.Body.size : Int)) / 256 % 256 * 256 + (20 + (p.Body.size : Int)) % 256 := N2_put _ 2 (by decide)
  have n4 : N2 (putI p) 4 = p.Id / 256 % 256 * 256 + p.Id % 256 := N2_put _ 4 (by decide)
  have n6 : N2 (putI p) 6 = 64 * 256 + 0 := N2_put _ 6 (by decide)
  have n12 : N4 (putI p) 12 = ((p.Src / 16777216 % 256 * 256 + p.Src / 65536 % 256) * 256 + p.Src / 256 % 256) * 256 + p.Src % 256 := N4_put _ 12 (by decide)
  have n16 : N4 (putI p) 16 = ((p.Dst / 16777216 % 256 * 256 + p.Dst / 65536 % 256) * 256 + p.Dst / 256 % 256) * 256 + p.Dst % 256 := N4_put _ 16 (by decide)
  have hsz := putI_size p
  unfold getI
  rw [b0, if_neg (by omega), if_neg (by omega), if_neg (by rw [n2, hsz]; omega), show (4 * ((69 : Int) % 16)).toNat = 20 from rfl, put_take, sum_put, if_neg (by decide), if_neg (by decide), n6, show (64 * 256 + 0 : Int) = 16384 from rfl, and_lit, if_neg (by decide), put_drop, b8, b9, n4, n12, n16]
  refine Prod.ext ?_ rfl
  obtain ⟨a, b, c, d, e, g⟩ := p
  simp only [GIp.mk.injEq, and_true] at *
  omega
def Q2 (x : Int) : Int := x / 256 % 256 * 256 + x % 256
def Q4 (x : Int) : Int := x / 16777216 % 256 * 256 + x / 65536 % 256 + (x / 256 % 256 * 256 + x % 256)
def tcpL (g : GSeg) (chk : Int) : List Int :=
  [g.Sport / 256 % 256, g.Sport % 256, g.Dport / 256 % 256, g.Dport % 256, g.Seq / 16777216 % 256, g.Seq / 65536 % 256, g.Seq / 256 % 256, g.Seq % 256, g.Ack / 16777216 % 256, g.Ack / 65536 % 256, g.Ack / 256 % 256, g.Ack % 256, 80, g.Flags % 256, 4, 0, chk / 256 % 256, chk % 256, 0, 0]
def udpL (g : GSeg) (chk : Int) : List Int :=
  [g.Sport / 256 % 256, g.Sport % 256, g.Dport / 256 % 256, g.Dport % 256, (8 + (g.Body.size : Int)) / 256 % 256, (8 + (g.Body.size : Int)) % 256, chk / 256 % 256, chk % 256]
theorem tcp_list (g : GSeg) (chk : Int) : bytesL (tcpT g chk) = tcpL g chk ++ bytesL g.Body := by
  have e : tcpT g chk = mkS (tcpL g chk) ++ g.Body := by
    unfold tcpT B1 B2 B4
    simp only [mkS_append, List.cons_append, List.nil_append]
    rfl
  rw [e, bytesL_append, bytesL_mkS _ (by
    intro x hx
    simp only [tcpL, List.mem_cons, List.not_mem_nil, or_false] at hx
    omega)]
theorem udp_list (g : GSeg) (chk : Int) : bytesL (udpT g chk) = udpL g chk ++ bytesL g.Body := by
  have e : udpT g chk = mkS (udpL g chk) ++ g.Body := by
    unfold udpT B2
    simp only [mkS_append, List.cons_append, List.nil_append]
    rfl
  rw [e, bytesL_append, bytesL_mkS _ (by
    intro x hx
    simp only [udpL, List.mem_cons, List.not_mem_nil, or_false] at hx
    omega)]
theorem ps_list (src dst proto : Int) (n : Nat) : bytesL (psL src dst proto n) = [src / 16777216 % 256, src / 65536 % 256, src / 256 % 256, src % 256, dst / 16777216 % 256, dst / 65536 % 256, dst / 256 % 256, dst % 256, proto / 256 % 256, proto % 256, (n : Int) / 256 % 256, (n : Int) % 256] := by
  have e : psL src dst proto n = mkS [src / 16777216 % 256, src / 65536 % 256, src / 256 % 256, src % 256, dst / 16777216 % 256, dst / 65536 % 256, dst / 256 % 256, dst % 256, proto / 256 % 256, proto % 256, (n : Int) / 256 % 256, (n : Int) % 256] := by
    unfold psL B2 B4
    simp only [mkS_append, List.cons_append, List.nil_append]
  rw [e, bytesL_mkS _ (by
    intro x hx
    simp only [List.mem_cons, List.not_mem_nil, or_false] at hx
    omega)]
theorem sumS_eq (src dst proto : Int) (s : ByteArray) : sumS src dst proto s = foldS (Q4 src + Q4 dst + Q2 proto + Q2 s.size + rawL (bytesL s)) := by
  unfold sumS sumB
  rw [bytesL_append, ps_list]
  congr 1
  simp only [List.cons_append, List.nil_append, rawL, Q4, Q2]
  omega
theorem raw_text (g : GSeg) (chk : Int) : rawL (bytesL (textS g chk)) = rawL (bytesL (textS g 0)) + Q2 chk := by
  unfold textS
  by_cases e : g.Proto = 6
  · rw [if_pos e, if_pos e, tcp_list, tcp_list]
    simp only [tcpL, List.cons_append, List.nil_append, rawL, Q2]
    omega
  · rw [if_neg e, if_neg e, udp_list, udp_list]
    simp only [udpL, List.cons_append, List.nil_append, rawL, Q2]
    omega
theorem Q2_id {x : Int} (h0 : 0 ≤ x) (h1 : x < 65536) : Q2 x = x := by unfold Q2; omega
theorem Q2_pos (x : Int) : 0 ≤ Q2 x := by unfold Q2; omega
theorem Q4_pos (x : Int) : 0 ≤ Q4 x := by unfold Q4; omega
/-- What stands ahead of the sum: with the sum's place empty. -/
def rawS (g : GSeg) (src dst : Int) : Int :=
  Q4 src + Q4 dst + Q2 g.Proto + Q2 (textS g 0).size + rawL (bytesL (textS g 0))
theorem rawS_pos (g : GSeg) (src dst : Int) (hp : g.Proto = 6 ∨ g.Proto = 17) : 0 < rawS g src dst := by
  unfold rawS
  have a := Q4_pos src; have b := Q4_pos dst; have c := Q2_pos (textS g 0).size
  have d := (raw_range (textS g 0)).1
  have e : 0 < Q2 g.Proto := by rcases hp with h | h <;> rw [h] <;> decide
  omega
theorem sum_text (g : GSeg) (chk src dst : Int) (h0 : 0 ≤ chk) (h1 : chk < 65536) :
    sumS src dst g.Proto (textS g chk) = foldS (rawS g src dst + chk) := by
  rw [sumS_eq, raw_text, Q2_id h0 h1, textS_size]
  unfold rawS
  rw [textS_size]
  congr 1
  omega
theorem chk_range (g : GSeg) (src dst : Int) : 0 ≤ chkS g src dst ∧ chkS g src dst < 65536 ∧ (g.Proto = 17 → chkS g src dst ≠ 0) := by
  have h := sumS_range src dst g.Proto (textS g 0)
  unfold chkS
  by_cases c : g.Proto = 17 ∧ 65535 - sumS src dst g.Proto (textS g 0) = 0
  · rw [if_pos c]; omega
  · rw [if_neg c]; omega
theorem chk_sum (g : GSeg) (src dst : Int) (hp : g.Proto = 6 ∨ g.Proto = 17) : foldS (rawS g src dst + chkS g src dst) = 65535 := by
  have hpos := rawS_pos g src dst hp
  have h0 := sum_text g 0 src dst (by decide) (by decide)
  rw [Int.add_zero] at h0
  unfold chkS
  rw [h0]
  generalize rawS g src dst = R at *
  unfold foldS
  rw [if_neg (show ¬ R = 0 by omega)]
  by_cases c : g.Proto = 17 ∧ 65535 - ((R - 1) % 65535 + 1) = 0
  · rw [if_pos c, if_neg (by omega)]; omega
  · rw [if_neg c, if_neg (by omega)]; omega
theorem sum_putS {g : GSeg} (src dst : Int) (hp : g.Proto = 6 ∨ g.Proto = 17) : sumS src dst g.Proto (putS g src dst) = 65535 := by
  obtain ⟨c0, c1, _⟩ := chk_range g src dst
  exact (sum_text g _ src dst c0 c1).trans (chk_sum _ _ _ hp)
/-! One byte turned. -/
def turnS (s : ByteArray) (i : Nat) (y : Int) : ByteArray := mkS ((bytesL s).set i y)
theorem turn_list (s : ByteArray) (i : Nat) {y : Int} (hy : 0 ≤ y ∧ y ≤ 255) : bytesL (turnS s i y) = (bytesL s).set i y := by
  unfold turnS
  apply bytesL_mkS
  intro x hx
  rcases List.mem_or_eq_of_mem_set hx with h | rfl
  · exact bytesL_range s x h
  · exact hy
theorem turn_size (s : ByteArray) (i : Nat) (y : Int) : (turnS s i y).size = s.size := by
  unfold turnS
  rw [mkS_size, List.length_set, bytesL_len]
theorem raw_set (y : Int) : ∀ (n : Nat) (L : List Int), L.length ≤ n → ∀ i, i < L.length → rawL (L.set i y) = rawL L + (y - L.getD i 0) * (if i % 2 = 0 then 256 else 1)
  | 0, L, hn, i, hi => by omega
  | n + 1, [], hn, i, hi => by simp at hi
  | n + 1, [a], hn, i, hi => by
    obtain rfl : i = 0 := by simp at hi; omega
    simp [rawL]; omega
  | n + 1, a :: b :: t, hn, 0, hi => by simp [rawL]; omega
  | n + 1, a :: b :: t, hn, 1, hi => by simp [rawL]; omega
  | n + 1, a :: b :: t, hn, i + 2, hi => by
    have ih := raw_set y n t (by simp at hn; omega) i (by simp at hi; omega)
    simp only [List.set_cons_succ, rawL, List.getD_cons_succ]
    rw [ih, show (i + 2) % 2 = i % 2 by omega]
    omega
theorem fold_move {R D : Int} (h : foldS R = 65535) (hD : D ≠ 0) (h1 : -65280 ≤ D) (h2 : D ≤ 65280) : foldS (R + D) ≠ 65535 := by
  unfold foldS at *
  by_cases a : R = 0
  · rw [if_pos a] at h; omega
  rw [if_neg a] at h
  by_cases b : R + D = 0
  · rw [if_pos b]; omega
  · rw [if_neg b]; omega
theorem byte_move (y z : Int) (i : Nat) (hy : 0 ≤ y ∧ y ≤ 255) (hz : 0 ≤ z ∧ z ≤ 255) (h : y ≠ z) : (y - z) * (if i % 2 = 0 then 256 else 1) ≠ 0 ∧ -65280 ≤ (y - z) * (if i % 2 = 0 then 256 else 1) ∧ (y - z) * (if i % 2 = 0 then 256 else 1) ≤ 65280 := by
  by_cases c : i % 2 = 0
  · rw [if_pos c]; omega
  · rw [if_neg c]; omega
theorem bt_turn_ne (s : ByteArray) (i j : Nat) {y : Int} (hy : 0 ≤ y ∧ y ≤ 255) (h : j ≠ i) : bt (turnS s i y) j = bt s j := by
  rw [bt_get, bt_get, turn_list s i hy, List.getD_eq_getElem?_getD, List.getD_eq_getElem?_getD, List.getElem?_set_ne (fun e => h e.symm)]
theorem bt_turn_eq (s : ByteArray) (i : Nat) {y : Int} (hy : 0 ≤ y ∧ y ≤ 255) (h : i < s.size) : bt (turnS s i y) i = y := by
  rw [bt_get, turn_list s i hy, List.getD_eq_getElem?_getD, List.getElem?_set_self (by rw [bytesL_len]; exact h)]
  rfl
theorem bxor_byte (a c : Int) (ha : 0 ≤ a ∧ a ≤ 255) (hc : 1 ≤ c ∧ c ≤ 128) : (0 ≤ bXor .u8 a c ∧ bXor .u8 a c ≤ 255) ∧ bXor .u8 a c ≠ a := by
  obtain ⟨n, rfl⟩ := Int.eq_ofNat_of_zero_le ha.1
  obtain ⟨m, rfl⟩ := Int.eq_ofNat_of_zero_le (show 0 ≤ c by omega)
  have hn : n < 256 := by omega
  have hm : m < 256 := by omega
  have hx : (n ^^^ m) < 256 := Nat.xor_lt_two_pow (n := 8) hn hm
  have e : bXor .u8 (n : Int) (m : Int) = ((n ^^^ m : Nat) : Int) := by
    show IntKind.u8.wrap ((BitVec.ofInt 8 (n : Int) ^^^ BitVec.ofInt 8 (m : Int)).toNat : Int) = _
    rw [BitVec.toNat_xor, BitVec.ofInt_natCast, BitVec.ofInt_natCast, BitVec.toNat_ofNat, BitVec.toNat_ofNat, Nat.mod_eq_of_lt (show n < 2 ^ 8 from hn), Nat.mod_eq_of_lt (show m < 2 ^ 8 from hm), wu8]
    omega
  rw [e]
  refine ⟨by omega, ?_⟩
  intro h
  have h' : n ^^^ m = n := Int.ofNat.inj h
  have : m = 0 := by
    have e : n ^^^ (n ^^^ m) = n ^^^ n := by rw [h']
    rw [← Nat.xor_assoc, Nat.xor_self, Nat.zero_xor] at e
    exact e
  omega
theorem seg_turned {g : GSeg} (h : mayS g = true) (src dst : Int) (i : Nat) (hi : i < (putS g src dst).size) {y : Int} (hy : 0 ≤ y ∧ y ≤ 255) (hne : y ≠ bt (putS g src dst) i)
    (hok : (getS g.Proto (turnS (putS g src dst) i y) src dst).2 = 0) : g.Proto = 17 ∧ bt (turnS (putS g src dst) i y) (6 : Nat) = 0 ∧ bt (turnS (putS g src dst) i y) (7 : Nat) = 0 ∧ (getS g.Proto (turnS (putS g src dst) i y) src dst).1.Sport = N2 (turnS (putS g src dst) i y) 0 ∧ (getS g.Proto (turnS (putS g src dst) i y) src dst).1.Dport = N2 (turnS (putS g src dst) i y) 2 := by
  have hs := sum_putS (g := g) src dst (kind_of h)
  generalize putS g src dst = s at *
  have hn : sumS src dst g.Proto (turnS s i y) ≠ 65535 := by
    rw [sumS_eq] at hs ⊢
    rw [turn_size, turn_list _ _ hy, raw_set _ _ _ (Nat.le_refl _) i (by rw [bytesL_len]; exact hi), ← bt_get, ← Int.add_assoc]
    obtain ⟨q1, q2, q3⟩ := byte_move y (bt s i) i hy (bt_range s i) hne
    exact fold_move hs q1 q2 q3
  generalize turnS s i y = t at *
  have nb : (badS).2 = 0 → False := by decide
  rcases kind_of h with e | e
  · exfalso
    by_cases c : t.size < 20 ∨ bt t 12 ≠ 80
    · rw [getS_6bad e c] at hok; exact nb hok
    · rw [getS_6 e (fun h => c (.inl h)) (Decidable.byContradiction fun h => c (.inr h))] at hok
      unfold okS at hok
      rw [if_neg (fun hh => by rcases hh.2.2.2 with q | q; cases q; exact hn q)] at hok
      exact nb hok
  · by_cases c : t.size < 8 ∨ N2 t 4 ≠ t.size
    · rw [getS_17bad e c] at hok; exact (nb hok).elim
    · rw [getS_17 e (fun h => c (.inl h)) (Decidable.byContradiction fun h => c (.inr h))] at hok ⊢
      unfold okS at hok ⊢
      by_cases z : N2 t 6 = 0
      · have b6 := bt_range t ((6 : Nat) : Int); have b7 := bt_range t ((6 + 1 : Nat) : Int)
        have z' : bt t ((6 : Nat) : Int) * 256 + bt t ((6 + 1 : Nat) : Int) = 0 := z
        split at hok
        · rename_i d
          rw [if_pos d]
          exact ⟨e, by omega, show bt t ((6 + 1 : Nat) : Int) = 0 by omega, rfl, rfl⟩
        · exact (nb hok).elim
      · rw [if_neg (fun hh => by rcases hh.2.2.2 with q | q; exact z (by simpa using q); exact hn q)] at hok
        exact (nb hok).elim
end Go.Proofs.Ytobhmonmeocfmaa.Pu
