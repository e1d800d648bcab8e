/- What a flow's packet is. -/
import Derived.Test.YtobhmonmeocfmaaSegI
import Derived.Test.YtobhmonmeocfmaaFAFlowPacket
namespace Go.Proofs.Ytobhmonmeocfmaa.Pure
set_option linter.unusedSimpArgs false
set_option linter.unusedVariables false
open Go Go.RowKit Go.Proofs.Ytobhmonmeocfmaa.PA Go.Proofs.YtobhmonmeocfmaaW.PrintWords Go.Proofs.YtobhmonmeocfmaaW.PrintLast Go.Proofs.YtobhmonmeocfmaaW.PrintMore Go.Proofs.Ytobhmonmeocfmaa.Wh
theorem FlowMay_ok {src dst proto sport dport flags : Int} {body : ByteArray} (h : mayS proto sport dport 0 0 flags body = true) (he : mayE src dst = true) : flow_May.f src dst proto sport dport = some true := by
  obtain ⟨p1, p2, _, p4⟩ := mayS_parts h
  obtain ⟨e1, e2⟩ := mayE_parts he
  unfold flow_May.f
  rw [in32, Option.bind_some, if_pos (decide_eq_true e1), in32, Option.bind_some, if_pos (decide_eq_true e2)]
  have hh : flow_handled.f proto = some true := by
    rcases p4 with ⟨rfl, _⟩ | ⟨rfl, _⟩ <;> rfl
  rw [hh, Option.bind_some, if_pos rfl, in16, Option.bind_some, if_pos (decide_eq_true p1), in16, Option.bind_some, decide_eq_true p2]
def packI (src dst proto sport dport flags : Int) (body : ByteArray) : ByteArray := putI src dst proto 64 0 (putS proto sport dport 0 0 flags body src dst)
theorem putS_size {proto sport dport seq ack flags : Int} {body : ByteArray} (h : mayS proto sport dport seq ack flags body = true) (src dst : Int) : (putS proto sport dport seq ack flags body src dst).size ≤ 276 := by
  have := (mayS_parts h).2.2.1
  unfold putS
  rw [textS_size]
  by_cases e : proto = 6 <;> simp [e] <;> omega
theorem pack_may {src dst proto sport dport flags : Int} {body : ByteArray} (h : mayS proto sport dport 0 0 flags body = true) (he : mayE src dst = true) : mayI src dst proto 64 0 (putS proto sport dport 0 0 flags body src dst) = true := by
  have z := putS_size h src dst
  obtain ⟨e1, e2⟩ := mayE_parts he
  have hk := kind_of h
  unfold mayI
  simp only [Bool.and_eq_true, decide_eq_true_eq]
  omega
theorem Packet_ok (k : Nat) (hk : 600 ≤ k) {src dst proto sport dport flags : Int} {body : ByteArray} (h : mayS proto sport dport 0 0 flags body = true) (he : mayE src dst = true) : flow_Packet.f k src dst proto sport dport flags body = some (packI src dst proto sport dport flags body, 0) := by
  have hp := Put_ok k (by omega) (pack_may h he)
  unfold flow_Packet.f
  rw [SegPut_ok k hk h he, Option.bind_some, if_pos rfl, FlowMay_ok h he, Option.bind_some, if_pos rfl, hp, Option.bind_some]
  rfl
theorem Packet_bad (k : Nat) (hk : 2 ≤ k) {src dst proto sport dport flags : Int} {body : ByteArray} (h : mayS proto sport dport 0 0 flags body = false ∨ mayE src dst = false) : flow_Packet.f k src dst proto sport dport flags body = some ((⟨#[]⟩ : ByteArray), 400) := by
  unfold flow_Packet.f
  rw [SegPut_bad k hk h, Option.bind_some, if_neg (by decide)]
theorem Packet_ways (k : Nat) (hk : 600 ≤ k) (src dst proto sport dport flags : Int) (body : ByteArray) :
    (mayS proto sport dport 0 0 flags body = true ∧ mayE src dst = true ∧ flow_Packet.f k src dst proto sport dport flags body = some (packI src dst proto sport dport flags body, 0)) ∨ flow_Packet.f k src dst proto sport dport flags body = some ((⟨#[]⟩ : ByteArray), 400) := by
  by_cases h : mayS proto sport dport 0 0 flags body = true
  · by_cases e : mayE src dst = true
    · exact .inl ⟨h, e, Packet_ok k hk h e⟩
    · exact .inr (Packet_bad k (by omega) (.inr (by simpa using e)))
  · exact .inr (Packet_bad k (by omega) (.inl (by simpa using h)))
theorem pack_inj {src dst proto sport dport : Int} {src' dst' proto' sport' dport' : Int} {flags flags' : Int} {body body' : ByteArray} (h : mayS proto sport dport 0 0 flags body = true) (he : mayE src dst = true) (h' : mayS proto' sport' dport' 0 0 flags' body' = true) (he' : mayE src' dst' = true)
    (e : packI src dst proto sport dport flags body = packI src' dst' proto' sport' dport' flags' body') : src = src' ∧ dst = dst' ∧ proto = proto' ∧ sport = sport' ∧ dport = dport' := by
  obtain ⟨rfl, rfl, rfl, _, _, e6⟩ := put_inj (pack_may h he) (pack_may h' he') e
  have g := get_putS h he
  rw [e6, get_putS h' he'] at g
  simp only [Prod.mk.injEq, and_true] at g
  exact ⟨rfl, rfl, rfl, g.2.1.symm, g.2.2.1.symm⟩
end Go.Proofs.Ytobhmonmeocfmaa.Pure
