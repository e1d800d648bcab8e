/- Plain laws: packets of flows are told again. -/
import Derived.Test.YtmhlgpdoedbedaaGreatEP1
namespace Go.Proofs.YtmhlgpdoedbedaaGreat.Pu
set_option linter.unusedSimpArgs false
set_option linter.unusedVariables false
open Go Go.RowKit Go.Proofs.YtmhlgpdoedbedaaGreat.Sv Go.Proofs.YtmhlgpdoedbedaaGreat.Lf
theorem drop_app (a b : ByteArray) (n : Nat) (h : a.size = n) : (a ++ b).extract n (a ++ b).size = b := by
  rw [ByteArray.size_append, ByteArray.extract_append, ByteArray.extract_eq_empty_iff.2 (by omega), ByteArray.empty_append]
  simp [h]
theorem tcp_drop (g : GSeg) (chk : Int) : (tcpT g chk).extract 20 (tcpT g chk).size = g.Body := drop_app _ _ 20 (by simp only [ByteArray.size_append, B1_size, B2_size, B4_size])
theorem udp_drop (g : GSeg) (chk : Int) : (udpT g chk).extract 8 (udpT g chk).size = g.Body := drop_app _ _ 8 (by simp only [ByteArray.size_append, B1_size, B2_size, B4_size])
theorem get_putS {g : GSeg} (h : mayS g = true) {src dst : Int} (he : mayE src dst = true) : getS g.Proto (putS g src dst) src dst = (g, 0) := by
  obtain ⟨p1, p2, p3, p4⟩ := mayS_parts h
  have hp := kind_of h
  have hsum := sum_putS (g := g) src dst hp
  obtain ⟨c0, c1, c2⟩ := chk_range g src dst
  unfold getS
  rcases p4 with ⟨e, q1, q2, q3⟩ | ⟨e, q1, q2, q3⟩
  · rw [if_pos e]
    have hs : putS g src dst = tcpT g (chkS g src dst) := by unfold putS textS; rw [if_pos e]
    have hL := tcp_list g (chkS g src dst)
    have hz := tcpT_size g (chkS g src dst)
    have hd := tcp_drop g (chkS g src dst)
    rw [e] at hsum
    rw [hs] at hsum ⊢
    generalize tcpT g (chkS g src dst) = t at *
    generalize chkS g src dst = c at *
    have b12 : bt t 12 = 80 := bt_at hL (i := 12)
    have b13 : bt t 13 = g.Flags % 256 := bt_at hL (i := 13)
    have n0 : N2 t 0 = g.Sport := by unfold N2; rw [bt_at hL, bt_at hL]; show g.Sport / 256 % 256 * 256 + g.Sport % 256 = _; omega
    have n2 : N2 t 2 = g.Dport := by unfold N2; rw [bt_at hL, bt_at hL]; show g.Dport / 256 % 256 * 256 + g.Dport % 256 = _; omega
    have n4 : N4 t 4 = g.Seq := by unfold N4; rw [bt_at hL, bt_at hL, bt_at hL, bt_at hL]; show ((g.Seq / 16777216 % 256 * 256 + g.Seq / 65536 % 256) * 256 + g.Seq / 256 % 256) * 256 + g.Seq % 256 = _; omega
    have n8 : N4 t 8 = g.Ack := by unfold N4; rw [bt_at hL, bt_at hL, bt_at hL, bt_at hL]; show ((g.Ack / 16777216 % 256 * 256 + g.Ack / 65536 % 256) * 256 + g.Ack / 256 % 256) * 256 + g.Ack % 256 = _; omega
    rw [if_neg (by omega), b13, n0, n2, n4, n8, hd, show g.Flags % 256 = g.Flags by omega]
    have eg : (⟨6, g.Sport, g.Dport, g.Seq, g.Ack, g.Flags, g.Body⟩ : GSeg) = g := by rw [← e]
    unfold okS
    rw [eg, if_pos ⟨rfl, h, he, .inr hsum⟩]
  · rw [if_neg (by omega), if_pos e]
    have hs : putS g src dst = udpT g (chkS g src dst) := by unfold putS textS; rw [if_neg (by omega)]
    have hL := udp_list g (chkS g src dst)
    have hz := udpT_size g (chkS g src dst)
    have hd := udp_drop g (chkS g src dst)
    rw [e] at hsum
    rw [hs] at hsum ⊢
    generalize udpT g (chkS g src dst) = t at *
    generalize chkS g src dst = c at *
    have n0 : N2 t 0 = g.Sport := by unfold N2; rw [bt_at hL, bt_at hL]; show g.Sport / 256 % 256 * 256 + g.Sport % 256 = _; omega
    have n2 : N2 t 2 = g.Dport := by unfold N2; rw [bt_at hL, bt_at hL]; show g.Dport / 256 % 256 * 256 + g.Dport % 256 = _; omega
    have n4 : N2 t 4 = (t.size : Int) := by unfold N2; rw [bt_at hL, bt_at hL]; show (8 + (g.Body.size : Int)) / 256 % 256 * 256 + (8 + (g.Body.size : Int)) % 256 = _; omega
    rw [if_neg (by omega), n0, n2, hd]
    have eg : (⟨17, g.Sport, g.Dport, 0, 0, 0, g.Body⟩ : GSeg) = g := by
      obtain ⟨a, b, c', d, e', f', g'⟩ := g
      simp only at *
      subst e q1 q2 q3
      rfl
    unfold okS
    rw [eg, if_pos ⟨rfl, h, he, .inr hsum⟩]
/-- A flow's packet tells its flow. -/
theorem of_pack {f : GFlow} {flags : Int} {body : ByteArray} (h : okP f flags body) (hd : f.Dst = 167772161) : ofF (packF f flags body) = (f, segOf f flags body, 0) := by
  have g := get_put (pack_may h)
  have he := mayF_E h.1
  have gs := get_putS h.2 he
  have hp := (mayF_parts h.1).2.2.1
  unfold ofF packF
  rw [g]
  dsimp only
  rw [if_neg (fun h => h rfl), if_neg (by rintro (q | q); exact q hp; exact q hd)]
  have e1 : (segOf f flags body).Proto = f.Proto := rfl
  rw [e1] at gs
  rw [gs, if_neg (fun h => h rfl)]
  obtain ⟨a, b, c, d, e⟩ := f
  rfl
theorem pack_size {f : GFlow} {flags : Int} {body : ByteArray} (h : okP f flags body) : (packF f flags body).size ≤ 40 + body.size := by
  unfold packF putS textS
  rw [putI_size]
  dsimp only
  split
  · rw [tcpT_size]; unfold segOf; dsimp only; omega
  · rw [udpT_size]; unfold segOf; dsimp only; omega
end Go.Proofs.YtmhlgpdoedbedaaGreat.Pu
