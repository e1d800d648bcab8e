import Derived.Test.YtobhmonmeocfmaaNetAll
import Derived.Test.YtobhmonmeocfmaaFASegPut
import Derived.Test.YtobhmonmeocfmaaFASegGet
namespace Go.Proofs.Ytobhmonmeocfmaa.Pure
set_option linter.unusedSimpArgs false
set_option linter.unusedVariables false
open Go Go.RowKit Go.Proofs.Ytobhmonmeocfmaa.PA Go.Proofs.YtobhmonmeocfmaaW.PrintWords Go.Proofs.YtobhmonmeocfmaaW.PrintLast Go.Proofs.YtobhmonmeocfmaaW.PrintMore Go.Proofs.Ytobhmonmeocfmaa.Wh
theorem in6 (a : Int) : ip_In.f a 6 = some (decide (0 ≤ a ∧ a < 64)) := in_eq a 6 (by decide)
def kindS (proto seq ack flags : Int) : Prop := (proto = 6 ∧ (0 ≤ seq ∧ seq < 4294967296) ∧ (0 ≤ ack ∧ ack < 4294967296) ∧ (0 ≤ flags ∧ flags < 64)) ∨ (proto = 17 ∧ seq = 0 ∧ ack = 0 ∧ flags = 0)
instance (a b c d : Int) : Decidable (kindS a b c d) := by unfold kindS; infer_instance
def mayS (proto sport dport seq ack flags : Int) (body : ByteArray) : Bool :=
  decide (((0 ≤ sport ∧ sport < 65536) ∧ (0 ≤ dport ∧ dport < 65536) ∧ (body.size : Int) ≤ 256) ∧ kindS proto seq ack flags)
theorem mayS_parts {proto sport dport seq ack flags : Int} {body : ByteArray} (h : mayS proto sport dport seq ack flags body = true) :
    (0 ≤ sport ∧ sport < 65536) ∧ (0 ≤ dport ∧ dport < 65536) ∧ body.size ≤ 256 ∧ kindS proto seq ack flags := by
  simp only [mayS, decide_eq_true_eq] at h
  exact ⟨h.1.1, h.1.2.1, by omega, h.2⟩
theorem segmay_j (k : Nat) (c : Bool) (proto sport dport seq ack flags : Int) (body : ByteArray) : seg_May.j0 (k + 1) c proto sport dport seq ack flags body = some (c && decide (kindS proto seq ack flags)) := by
  rw [seg_May.j0, in32, in32, in6]
  simp only [Option.bind_some]
  cases c
  · by_cases h6 : proto = 6
    · rw [if_pos h6]; rfl
    · rw [if_neg h6]
      by_cases h17 : proto = 17
      · rw [if_pos h17]; rfl
      · rw [if_neg h17]; rfl
  · by_cases h6 : proto = 6
    · rw [if_pos h6, if_pos rfl, if_and, if_and, Bool.true_and]
      congr 1
      rw [Bool.eq_iff_iff]
      simp only [Bool.and_eq_true, decide_eq_true_eq]
      unfold kindS
      omega
    · rw [if_neg h6]
      by_cases h17 : proto = 17
      · rw [if_pos h17, if_pos rfl, Bool.true_and]
        by_cases a : seq = 0
        · rw [if_pos a]
          by_cases b : ack = 0
          · rw [if_pos b]
            congr 1
            rw [Bool.eq_iff_iff]
            simp only [beq_iff_eq, decide_eq_true_eq]
            unfold kindS
            omega
          · rw [if_neg b]; congr 1; symm; rw [decide_eq_false_iff_not]; unfold kindS; omega
        · rw [if_neg a]; congr 1; symm; rw [decide_eq_false_iff_not]; unfold kindS; omega
      · rw [if_neg h17, Bool.true_and]; congr 1; symm; rw [decide_eq_false_iff_not]; unfold kindS; omega
theorem SegMay_eq (k : Nat) (hk : 1 ≤ k) (proto sport dport seq ack flags : Int) (body : ByteArray) : seg_May.f k proto sport dport seq ack flags body = some (mayS proto sport dport seq ack flags body) := by
  obtain ⟨k, rfl⟩ : ∃ m, k = m + 1 := ⟨k - 1, by omega⟩
  unfold seg_May.f
  rw [in16, in16, Option.bind_some, Option.bind_some, segmay_j, segmay_j]
  by_cases a : 0 ≤ sport ∧ sport < 65536
  · rw [if_pos (decide_eq_true a)]
    by_cases b : 0 ≤ dport ∧ dport < 65536
    · rw [if_pos (decide_eq_true b)]
      congr 1
      rw [Bool.eq_iff_iff]
      simp only [mayS, Bool.and_eq_true, decide_eq_true_eq, a, b, true_and]
    · rw [if_neg (by simpa using b)]; congr 1; rw [Bool.eq_iff_iff]; simp only [mayS, Bool.and_eq_true, decide_eq_true_eq, a, b]; simp
  · rw [if_neg (by simpa using a)]; congr 1; rw [Bool.eq_iff_iff]; simp only [mayS, Bool.and_eq_true, decide_eq_true_eq, a]; simp
def mayE (src dst : Int) : Bool := decide (0 ≤ src ∧ src < 4294967296) && decide (0 ≤ dst ∧ dst < 4294967296)
theorem mayE_parts {src dst : Int} (h : mayE src dst = true) : (0 ≤ src ∧ src < 4294967296) ∧ (0 ≤ dst ∧ dst < 4294967296) := by simpa [mayE] using h
theorem EndsMay_eq (src dst : Int) : seg_ends_may.f src dst = some (mayE src dst) := by
  unfold seg_ends_may.f
  rw [in32, in32]
  simp only [Option.bind_some, if_and]; rfl
def tcpT (sport dport seq ack flags chk : Int) (body : ByteArray) : ByteArray := B2 sport ++ B2 dport ++ B4 seq ++ B4 ack ++ B1 80 ++ B1 flags ++ B2 1024 ++ B2 chk ++ B2 0 ++ body
def udpT (sport dport chk : Int) (body : ByteArray) : ByteArray := B2 sport ++ B2 dport ++ B2 (8 + body.size) ++ B2 chk ++ body
def textS (proto sport dport seq ack flags chk : Int) (body : ByteArray) : ByteArray := if proto = 6 then tcpT sport dport seq ack flags chk body else udpT sport dport chk body
theorem tcpT_size (sport dport seq ack flags chk : Int) (body : ByteArray) : (tcpT sport dport seq ack flags chk body).size = 20 + body.size := by
  simp only [tcpT, ByteArray.size_append, B1_size, B2_size, B4_size]
theorem udpT_size (sport dport chk : Int) (body : ByteArray) : (udpT sport dport chk body).size = 8 + body.size := by
  simp only [udpT, ByteArray.size_append, B2_size]
theorem textS_size (proto sport dport seq ack flags chk : Int) (body : ByteArray) : (textS proto sport dport seq ack flags chk body).size = (if proto = 6 then 20 else 8) + body.size := by
  unfold textS
  by_cases h : proto = 6
  · rw [if_pos h, if_pos h, tcpT_size]
  · rw [if_neg h, if_neg h, udpT_size]
theorem text_eq (k : Nat) (hk : 10 ≤ k) (proto sport dport seq ack flags chk : Int) (body : ByteArray) (hb : body.size ≤ 1000) :
    seg_text.f k proto sport dport seq ack flags body chk = some (textS proto sport dport seq ack flags chk body, proto, sport, dport, seq, ack, flags, body) := by
  obtain ⟨k, rfl⟩ : ∃ m, k = m + 10 := ⟨k - 10, by omega⟩
  have n0 : ∀ x, ip_Bytes.f (k + 10) x 1 = some (B1 x) := fun x => bytes1 (k + 8) x
  have n1 : ∀ x, ip_Bytes.f (k + 10) x 2 = some (B2 x) := fun x => bytes2 (k + 7) x
  have n2 : ∀ x, ip_Bytes.f (k + 10) x 4 = some (B4 x) := fun x => bytes4 (k + 5) x
  unfold seg_text.f
  rw [n1, Option.bind_some, n1, Option.bind_some, if_pos (by simp only [B2_size]; omega)]
  unfold textS
  by_cases h : proto = 6
  · rw [if_pos h, if_pos h]
    rw [n2, Option.bind_some, if_pos (by simp only [ByteArray.size_append, B1_size, B2_size, B4_size]; omega), n2, Option.bind_some, if_pos (by simp only [ByteArray.size_append, B1_size, B2_size, B4_size]; omega)]
    rw [n0, Option.bind_some, if_pos (by simp only [ByteArray.size_append, B1_size, B2_size, B4_size]; omega), n0, Option.bind_some, if_pos (by simp only [ByteArray.size_append, B1_size, B2_size, B4_size]; omega)]
    rw [n1, Option.bind_some, if_pos (by simp only [ByteArray.size_append, B1_size, B2_size, B4_size]; omega), n1, Option.bind_some, if_pos (by simp only [ByteArray.size_append, B1_size, B2_size, B4_size]; omega), n1, Option.bind_some, if_pos (by simp only [ByteArray.size_append, B1_size, B2_size, B4_size]; omega), if_pos (by simp only [ByteArray.size_append, B1_size, B2_size, B4_size]; omega)]
    rfl
  · rw [if_neg h, if_neg h, wrap64_id (n := 8 + (body.size : Int)) (by omega) (by omega)]
    rw [n1, Option.bind_some, if_pos (by simp only [ByteArray.size_append, B1_size, B2_size, B4_size]; omega), n1, Option.bind_some, if_pos (by simp only [ByteArray.size_append, B1_size, B2_size, B4_size]; omega), if_pos (by simp only [ByteArray.size_append, B1_size, B2_size, B4_size]; omega)]
    rfl
def psL (src dst proto : Int) (n : Nat) : ByteArray := B4 src ++ B4 dst ++ B2 proto ++ B2 n
theorem psL_size (src dst proto : Int) (n : Nat) : (psL src dst proto n).size = 12 := by
  simp only [psL, ByteArray.size_append, B2_size, B4_size]
def sumS (src dst proto : Int) (s : ByteArray) : Int := sumB (psL src dst proto s.size ++ s)
theorem sumS_range (src dst proto : Int) (s : ByteArray) : 0 ≤ sumS src dst proto s ∧ sumS src dst proto s < 65536 := sumB_range _
theorem EndsSum_eq (src dst proto : Int) (s : ByteArray) (hs : s.size ≤ 140737488351232) (k : Nat) (hk : s.size + 30 ≤ k) : seg_ends_sum.f k src dst proto s = some (sumS src dst proto s) := by
  have hz := psL_size src dst proto s.size
  have hsum := psum_eq (psL src dst proto s.size ++ s) (by rw [ByteArray.size_append, hz]; omega) k (by rw [ByteArray.size_append, hz]; omega)
  have he : B4 src ++ B4 dst ++ B2 proto ++ B2 (s.size : Int) = psL src dst proto s.size := rfl
  obtain ⟨k, rfl⟩ : ∃ m, k = m + 10 := ⟨k - 10, by omega⟩
  have n1 : ∀ x, ip_Bytes.f (k + 10) x 2 = some (B2 x) := fun x => bytes2 (k + 7) x
  have n2 : ∀ x, ip_Bytes.f (k + 10) x 4 = some (B4 x) := fun x => bytes4 (k + 5) x
  unfold seg_ends_sum.f
  rw [n2, Option.bind_some, n2, Option.bind_some, if_pos (by simp only [B4_size]; omega), n1, Option.bind_some, if_pos (by simp only [ByteArray.size_append, B2_size, B4_size]; omega), n1, Option.bind_some, if_pos (by simp only [ByteArray.size_append, B2_size, B4_size]; omega)]
  rw [he, if_pos (by rw [hz]; omega), hsum, Option.bind_some]
  rfl
/-- The sum that a segment gets. -/
def chkS (proto sport dport seq ack flags : Int) (body : ByteArray) (src dst : Int) : Int :=
  if proto = 17 ∧ 65535 - sumS src dst proto (textS proto sport dport seq ack flags 0 body) = 0 then 65535 else 65535 - sumS src dst proto (textS proto sport dport seq ack flags 0 body)
def putS (proto sport dport seq ack flags : Int) (body : ByteArray) (src dst : Int) : ByteArray := textS proto sport dport seq ack flags (chkS proto sport dport seq ack flags body src dst) body
theorem SegPut_ok (k : Nat) (hk : 600 ≤ k) {proto sport dport seq ack flags : Int} {body : ByteArray} {src dst : Int} (h : mayS proto sport dport seq ack flags body = true) (he : mayE src dst = true) :
    seg_Put.f k proto sport dport seq ack flags body src dst = some (putS proto sport dport seq ack flags body src dst, 0) := by
  obtain ⟨_, _, hb, _⟩ := mayS_parts h
  have hz := textS_size proto sport dport seq ack flags 0 body
  have hz' : (textS proto sport dport seq ack flags 0 body).size ≤ 276 := by rw [hz]; by_cases e : proto = 6 <;> simp [e] <;> omega
  obtain ⟨k, rfl⟩ : ∃ m, k = m + 1 := ⟨k - 1, by omega⟩
  have hr := sumS_range src dst proto (textS proto sport dport seq ack flags 0 body)
  unfold seg_Put.f
  rw [SegMay_eq _ (by omega), h, Option.bind_some, if_pos rfl, EndsMay_eq, he, Option.bind_some, Bool.not_true, seg_Put.j0, if_neg (by decide), text_eq k (by omega) _ _ _ _ _ _ _ _ (by omega), Option.bind_some]
  dsimp only
  rw [EndsSum_eq _ _ _ _ (by omega) _ (by omega), Option.bind_some]
  unfold putS chkS
  generalize sumS src dst proto (textS proto sport dport seq ack flags 0 body) = c at *
  rw [wrap64_id (n := 65535 - c) (by omega) (by omega)]
  by_cases e : proto = 17
  · rw [if_pos e]
    by_cases z : 65535 - c = 0
    · rw [if_pos z, if_pos ⟨e, z⟩, text_eq k (by omega) _ _ _ _ _ _ _ _ (by omega), Option.bind_some]
    · rw [if_neg z, if_neg (fun hh => z hh.2), text_eq k (by omega) _ _ _ _ _ _ _ _ (by omega), Option.bind_some]
  · rw [if_neg e, if_neg (fun hh => e hh.1), text_eq k (by omega) _ _ _ _ _ _ _ _ (by omega), Option.bind_some]
theorem SegPut_bad (k : Nat) (hk : 2 ≤ k) {proto sport dport seq ack flags : Int} {body : ByteArray} {src dst : Int} (h : mayS proto sport dport seq ack flags body = false ∨ mayE src dst = false) :
    seg_Put.f k proto sport dport seq ack flags body src dst = some ((⟨#[]⟩ : ByteArray), 300) := by
  obtain ⟨k, rfl⟩ : ∃ m, k = m + 1 := ⟨k - 1, by omega⟩
  unfold seg_Put.f
  rw [SegMay_eq _ (by omega), Option.bind_some]
  by_cases a : mayS proto sport dport seq ack flags body = true
  · rw [if_pos a, EndsMay_eq, h.resolve_left (by rw [a]; decide), Option.bind_some, seg_Put.j0, Bool.not_false, if_pos rfl]
  · rw [if_neg a, seg_Put.j0, if_pos rfl]
theorem B1_80 : (⟨#[80]⟩ : ByteArray) = B1 80 := by decide +kernel
end Go.Proofs.Ytobhmonmeocfmaa.Pure
namespace Go.Proofs.Ytobhmonmeocfmaa.Pure
set_option linter.unusedSimpArgs false
set_option linter.unusedVariables false
open Go Go.RowKit Go.Proofs.Ytobhmonmeocfmaa.PA Go.Proofs.YtobhmonmeocfmaaW.PrintWords Go.Proofs.YtobhmonmeocfmaaW.PrintLast Go.Proofs.YtobhmonmeocfmaaW.PrintMore Go.Proofs.Ytobhmonmeocfmaa.Wh
abbrev SegR := Int × Int × Int × Int × Int × Int × ByteArray × Int
def badS : SegR := (0, 0, 0, 0, 0, 0, (⟨#[]⟩ : ByteArray), 300)
def okS (proto : Int) (s : ByteArray) (src dst : Int) (is un : Bool) (p sp dp sq ak fl : Int) (body : ByteArray) : SegR :=
  if is = true ∧ mayS p sp dp sq ak fl body = true ∧ mayE src dst = true ∧ (un = true ∨ sumS src dst proto s = 65535) then (p, sp, dp, sq, ak, fl, body, 0) else badS
def getS (proto : Int) (s : ByteArray) (src dst : Int) : SegR :=
  if proto = 6 then
    if s.size < 20 ∨ bt s 12 ≠ 80 then badS
    else okS 6 s src dst true false 6 (N2 s 0) (N2 s 2) (N4 s 4) (N4 s 8) (bt s 13) (s.extract 20 s.size)
  else if proto = 17 then
    if s.size < 8 ∨ N2 s 4 ≠ s.size then badS
    else okS 17 s src dst true (decide (N2 s 6 = 0)) 17 (N2 s 0) (N2 s 2) 0 0 0 (s.extract 8 s.size)
  else badS
theorem okS_false (proto : Int) (s : ByteArray) (src dst : Int) (un : Bool) (p sp dp sq ak fl : Int) (body : ByteArray) : okS proto s src dst false un p sp dp sq ak fl body = badS := by
  unfold okS; rw [if_neg (fun h => by cases h.1)]
theorem get_j (k : Nat) (hk : 600 ≤ k) (proto : Int) (s : ByteArray) (src dst : Int) (is un : Bool) (p sp dp sq ak fl : Int) (body : ByteArray) (hs : is = true → mayS p sp dp sq ak fl body = true → s.size ≤ 500) :
    seg_Get.j0 (k + 1) proto s is un src dst p sp dp sq ak fl body = some (okS proto s src dst is un p sp dp sq ak fl body) := by
  rw [seg_Get.j0]
  cases is
  · rw [if_neg (by decide), okS_false]; rfl
  · rw [if_pos rfl, SegMay_eq _ (by omega), Option.bind_some]
    unfold okS
    by_cases a : mayS p sp dp sq ak fl body = true
    · have hz := hs rfl a
      rw [if_pos a, EndsMay_eq, Option.bind_some]
      by_cases b : mayE src dst = true
      · rw [if_pos b]
        cases un
        · rw [if_neg (by decide), EndsSum_eq _ _ _ _ (by omega) _ (by omega), Option.bind_some]
          by_cases c : sumS src dst proto s = 65535
          · rw [if_pos c, if_pos ⟨rfl, a, b, .inr c⟩]
          · rw [if_neg c, if_neg (fun h => by rcases h.2.2.2 with e | e; cases e; exact c e)]; rfl
        · rw [if_pos rfl, if_pos ⟨rfl, a, b, .inl rfl⟩]
      · rw [if_neg b, if_neg (fun h => b h.2.2.1)]; rfl
    · rw [if_neg a, if_neg (fun h => a h.2.1)]; rfl
theorem tcp_bad (k : Nat) (hk : 1 ≤ k) (s : ByteArray) (h : s.size < 20 ∨ bt s 12 ≠ 80) : seg_tcp.f k s = some (0, 0, 0, 0, 0, 0, (⟨#[]⟩ : ByteArray), false) := by
  obtain ⟨k, rfl⟩ : ∃ m, k = m + 1 := ⟨k - 1, by omega⟩
  unfold seg_tcp.f
  by_cases c : s.size < 20
  · rw [if_pos (by omega), seg_tcp.j0, if_pos rfl]
  · rw [if_neg (by omega), if_pos (by omega), bne_iff_ne.mpr (h.resolve_left c), seg_tcp.j0, if_pos rfl]
theorem tcp_ok (k : Nat) (hk : 20 ≤ k) (s : ByteArray) (h : ¬ s.size < 20) (h2 : bt s 12 = 80) : seg_tcp.f k s = some (6, N2 s 0, N2 s 2, N4 s 4, N4 s 8, bt s 13, s.extract 20 s.size, true) := by
  obtain ⟨k, rfl⟩ : ∃ m, k = m + 10 + 1 := ⟨k - 11, by omega⟩
  have hb := bt_range s 13
  unfold seg_tcp.f
  rw [if_neg (by omega), if_pos (by omega), h2, show ((80 : Int) != 80) = false from rfl, seg_tcp.j0, if_neg (by decide), if_pos (by decide), if_pos (by omega)]
  rw [number2 (k + 7) _ (by simp [ByteArray.size_extract]; omega), N2_extract s 0 (by omega), Option.bind_some, if_pos (by decide), if_pos (by omega)]
  rw [number2 (k + 7) _ (by simp [ByteArray.size_extract]; omega), N2_extract s 2 (by omega), Option.bind_some, if_pos (by decide), if_pos (by omega)]
  rw [number4 (k + 5) _ (by simp [ByteArray.size_extract]; omega), N4_extract s 4 (by omega), Option.bind_some, if_pos (by decide), if_pos (by omega)]
  rw [number4 (k + 5) _ (by simp [ByteArray.size_extract]; omega), N4_extract s 8 (by omega), Option.bind_some, if_pos (by omega), if_pos (by omega), wrap64_id (by omega) (by omega)]
theorem udp_bad (k : Nat) (hk : 20 ≤ k) (s : ByteArray) (h : s.size < 8 ∨ N2 s 4 ≠ s.size) : seg_udp.f k s = some (0, 0, 0, 0, 0, 0, (⟨#[]⟩ : ByteArray), false) := by
  obtain ⟨k, rfl⟩ : ∃ m, k = m + 10 + 1 := ⟨k - 11, by omega⟩
  unfold seg_udp.f
  by_cases c : s.size < 8
  · rw [if_pos (by omega), seg_udp.j0, if_pos rfl]
  · rw [if_neg (by omega), if_pos (by decide), if_pos (by omega), number2 (k + 8) _ (by simp [ByteArray.size_extract]; omega), N2_extract s 4 (by omega), Option.bind_some, bne_iff_ne.mpr (h.resolve_left c), seg_udp.j0, if_pos rfl]
theorem udp_ok (k : Nat) (hk : 20 ≤ k) (s : ByteArray) (h : ¬ s.size < 8) (h2 : N2 s 4 = s.size) : seg_udp.f k s = some (17, N2 s 0, N2 s 2, 0, 0, 0, s.extract 8 s.size, true) := by
  obtain ⟨k, rfl⟩ : ∃ m, k = m + 10 + 1 := ⟨k - 11, by omega⟩
  unfold seg_udp.f
  rw [if_neg (by omega), if_pos (by decide), if_pos (by omega), number2 (k + 8) _ (by simp [ByteArray.size_extract]; omega), N2_extract s 4 (by omega), Option.bind_some, h2, bne_self_eq_false, seg_udp.j0, if_neg (by decide), if_pos (by decide), if_pos (by omega)]
  rw [number2 (k + 7) _ (by simp [ByteArray.size_extract]; omega), N2_extract s 0 (by omega), Option.bind_some, if_pos (by decide), if_pos (by omega)]
  rw [number2 (k + 7) _ (by simp [ByteArray.size_extract]; omega), N2_extract s 2 (by omega), Option.bind_some, if_pos (by omega)]
theorem zero_two (s : ByteArray) (h : ¬ s.size < 8) : ((s.extract 6 8).toList == ([0, 0] : List UInt8)) = decide (N2 s 6 = 0) := by
  have hz : (s.extract 6 8).size = 2 := by rw [ByteArray.size_extract]; omega
  have e := N2_extract s 6 (by omega)
  rw [← e]
  generalize s.extract 6 8 = t at *
  have hl := bytesOf_length t
  rw [ByteArray.toList_eq]
  unfold bytesOf at hl
  have hb0 : bt t ((0 : Nat) : Int) = ((t.data.toList.map fun b => (b.toNat : Int)).getD 0 0) := bt_get t 0
  have hb1 : bt t ((0 + 1 : Nat) : Int) = ((t.data.toList.map fun b => (b.toNat : Int)).getD 1 0) := bt_get t 1
  unfold N2
  rw [hb0, hb1]
  generalize t.data.toList = L at *
  rw [hz, List.length_map] at hl
  match L, hl with
  | [a, b], _ =>
    rw [Bool.eq_iff_iff]
    simp only [beq_iff_eq, List.cons.injEq, and_true, decide_eq_true_eq, List.map_cons, List.map_nil, List.getD_cons_zero, List.getD_cons_succ]
    constructor
    · rintro ⟨rfl, rfl⟩; rfl
    · intro h
      have h1 : a.toNat = 0 := by omega
      have h2 : b.toNat = 0 := by omega
      exact ⟨UInt8.toNat_inj.mp h1, UInt8.toNat_inj.mp h2⟩
theorem SegGet_eq (k : Nat) (hk : 601 ≤ k) (proto : Int) (s : ByteArray) (src dst : Int) : seg_Get.f k proto s src dst = some (getS proto s src dst) := by
  obtain ⟨k, rfl⟩ : ∃ m, k = m + 1 := ⟨k - 1, by omega⟩
  unfold seg_Get.f getS
  by_cases e : proto = 6
  · subst e
    rw [if_pos rfl, if_pos rfl]
    by_cases c : s.size < 20 ∨ bt s 12 ≠ 80
    · rw [if_pos c, tcp_bad _ (by omega) s c, Option.bind_some, get_j k (by omega) _ _ _ _ _ _ _ _ _ _ _ _ _ (fun h => by cases h), okS_false]
    · have c1 : ¬ s.size < 20 := fun h => c (.inl h)
      have c2 : bt s 12 = 80 := Decidable.byContradiction fun h => c (.inr h)
      rw [if_neg c, tcp_ok _ (by omega) s c1 c2, Option.bind_some]
      dsimp only
      rw [get_j k (by omega) _ _ _ _ _ _ _ _ _ _ _ _ _ (fun _ h => by have := (mayS_parts h).2.2.1; rw [ByteArray.size_extract] at this; omega)]
  · rw [if_neg e, if_neg e]
    by_cases e2 : proto = 17
    · subst e2
      rw [if_pos rfl, if_pos rfl]
      by_cases c : s.size < 8 ∨ N2 s 4 ≠ s.size
      · rw [if_pos c, udp_bad _ (by omega) s c, Option.bind_some, if_neg (by decide), get_j k (by omega) _ _ _ _ _ _ _ _ _ _ _ _ _ (fun h => by cases h), okS_false]
      · have c1 : ¬ s.size < 8 := fun h => c (.inl h)
        have c2 : N2 s 4 = s.size := Decidable.byContradiction fun h => c (.inr h)
        rw [if_neg c, udp_ok _ (by omega) s c1 c2, Option.bind_some]
        dsimp only
        rw [if_pos rfl, if_pos (by decide), if_pos (by omega), zero_two s c1]
        rw [get_j k (by omega) _ _ _ _ _ _ _ _ _ _ _ _ _ (fun _ h => by have := (mayS_parts h).2.2.1; rw [ByteArray.size_extract] at this; omega)]
    · rw [if_neg e2, if_neg e2, get_j k (by omega) _ _ _ _ _ _ _ _ _ _ _ _ _ (fun h => by cases h), okS_false]
end Go.Proofs.Ytobhmonmeocfmaa.Pure
namespace Go.Proofs.Ytobhmonmeocfmaa.Pure
set_option linter.unusedSimpArgs false
set_option linter.unusedVariables false
open Go Go.RowKit Go.Proofs.Ytobhmonmeocfmaa.PA Go.Proofs.YtobhmonmeocfmaaW.PrintWords Go.Proofs.YtobhmonmeocfmaaW.PrintLast Go.Proofs.YtobhmonmeocfmaaW.PrintMore Go.Proofs.Ytobhmonmeocfmaa.Wh
def P2 (x : Int) : Int := x / 256 % 256 * 256 + x % 256
def P4 (x : Int) : Int := x / 16777216 % 256 * 256 + x / 65536 % 256 + (x / 256 % 256 * 256 + x % 256)
def tcpL (sport dport seq ack flags chk : Int) : List Int :=
  [sport / 256 % 256, sport % 256, dport / 256 % 256, dport % 256, seq / 16777216 % 256, seq / 65536 % 256, seq / 256 % 256, seq % 256, ack / 16777216 % 256, ack / 65536 % 256, ack / 256 % 256, ack % 256, 80, flags % 256, 4, 0, chk / 256 % 256, chk % 256, 0, 0]
def udpL (sport dport : Int) (n : Nat) (chk : Int) : List Int :=
  [sport / 256 % 256, sport % 256, dport / 256 % 256, dport % 256, (8 + (n : Int)) / 256 % 256, (8 + (n : Int)) % 256, chk / 256 % 256, chk % 256]
theorem tcp_list (sport dport seq ack flags chk : Int) (body : ByteArray) : bytesOf (tcpT sport dport seq ack flags chk body) = tcpL sport dport seq ack flags chk ++ bytesOf body := by
  have e : tcpT sport dport seq ack flags chk body = strOfNums (tcpL sport dport seq ack flags chk) ++ body := by
    unfold tcpT B1 B2 B4
    simp only [nums_append', List.cons_append, List.nil_append]
    rfl
  rw [e, bytesOf_append, bytesOf_nums _ (by
    intro x hx
    simp only [tcpL, List.mem_cons, List.not_mem_nil, or_false] at hx
    omega)]
theorem udp_list (sport dport chk : Int) (body : ByteArray) : bytesOf (udpT sport dport chk body) = udpL sport dport body.size chk ++ bytesOf body := by
  have e : udpT sport dport chk body = strOfNums (udpL sport dport body.size chk) ++ body := by
    unfold udpT B2
    simp only [nums_append', List.cons_append, List.nil_append]
    rfl
  rw [e, bytesOf_append, bytesOf_nums _ (by
    intro x hx
    simp only [udpL, List.mem_cons, List.not_mem_nil, or_false] at hx
    omega)]
theorem ps_list (src dst proto : Int) (n : Nat) : bytesOf (psL src dst proto n) = [src / 16777216 % 256, src / 65536 % 256, src / 256 % 256, src % 256, dst / 16777216 % 256, dst / 65536 % 256, dst / 256 % 256, dst % 256, proto / 256 % 256, proto % 256, (n : Int) / 256 % 256, (n : Int) % 256] := by
  have e : psL src dst proto n = strOfNums [src / 16777216 % 256, src / 65536 % 256, src / 256 % 256, src % 256, dst / 16777216 % 256, dst / 65536 % 256, dst / 256 % 256, dst % 256, proto / 256 % 256, proto % 256, (n : Int) / 256 % 256, (n : Int) % 256] := by
    unfold psL B2 B4
    simp only [nums_append', List.cons_append, List.nil_append]
  rw [e, bytesOf_nums _ (by
    intro x hx
    simp only [List.mem_cons, List.not_mem_nil, or_false] at hx
    omega)]
theorem sumS_eq (src dst proto : Int) (s : ByteArray) : sumS src dst proto s = foldS (P4 src + P4 dst + P2 proto + P2 s.size + rawL (bytesOf s)) := by
  unfold sumS sumB
  rw [bytesOf_append, ps_list]
  congr 1
  simp only [List.cons_append, List.nil_append, rawL, P4, P2]
  omega
theorem raw_text (proto sport dport seq ack flags chk : Int) (body : ByteArray) : rawL (bytesOf (textS proto sport dport seq ack flags chk body)) = rawL (bytesOf (textS proto sport dport seq ack flags 0 body)) + P2 chk := by
  unfold textS
  by_cases e : proto = 6
  · rw [if_pos e, if_pos e, tcp_list, tcp_list]
    simp only [tcpL, List.cons_append, List.nil_append, rawL, P2]
    omega
  · rw [if_neg e, if_neg e, udp_list, udp_list]
    simp only [udpL, List.cons_append, List.nil_append, rawL, P2]
    omega
theorem P2_id {x : Int} (h0 : 0 ≤ x) (h1 : x < 65536) : P2 x = x := by unfold P2; omega
theorem P4_eq {x : Int} (h0 : 0 ≤ x) (h1 : x < 4294967296) : P4 x = x / 65536 + x % 65536 := by
  unfold P4
  have a : x / 16777216 % 256 * 256 + x / 65536 % 256 = x / 65536 := by omega
  have b : x / 256 % 256 * 256 + x % 256 = x % 65536 := by omega
  rw [a, b]
theorem P2_pos (x : Int) : 0 ≤ P2 x := by unfold P2; omega
theorem P4_pos (x : Int) : 0 ≤ P4 x := by unfold P4; omega
/-- What stands ahead of the sum: with the sum's place empty. -/
def rawS (proto sport dport seq ack flags : Int) (body : ByteArray) (src dst : Int) : Int :=
  P4 src + P4 dst + P2 proto + P2 (textS proto sport dport seq ack flags 0 body).size + rawL (bytesOf (textS proto sport dport seq ack flags 0 body))
theorem rawS_pos (proto sport dport seq ack flags : Int) (body : ByteArray) (src dst : Int) (hp : proto = 6 ∨ proto = 17) : 0 < rawS proto sport dport seq ack flags body src dst := by
  unfold rawS
  have a := P4_pos src; have b := P4_pos dst; have c := P2_pos (textS proto sport dport seq ack flags 0 body).size
  have d := (raw_range (textS proto sport dport seq ack flags 0 body)).1
  have e : 0 < P2 proto := by rcases hp with rfl | rfl <;> decide
  omega
theorem sum_text (proto sport dport seq ack flags chk : Int) (body : ByteArray) (src dst : Int) (h0 : 0 ≤ chk) (h1 : chk < 65536) :
    sumS src dst proto (textS proto sport dport seq ack flags chk body) = foldS (rawS proto sport dport seq ack flags body src dst + chk) := by
  rw [sumS_eq, raw_text, P2_id h0 h1, textS_size]
  unfold rawS
  rw [textS_size]
  congr 1
  omega
theorem chk_range (proto sport dport seq ack flags : Int) (body : ByteArray) (src dst : Int) (hp : proto = 6 ∨ proto = 17) : 0 ≤ chkS proto sport dport seq ack flags body src dst ∧ chkS proto sport dport seq ack flags body src dst < 65536 ∧ (proto = 17 → chkS proto sport dport seq ack flags body src dst ≠ 0) := by
  have h := sumS_range src dst proto (textS proto sport dport seq ack flags 0 body)
  unfold chkS
  by_cases c : proto = 17 ∧ 65535 - sumS src dst proto (textS proto sport dport seq ack flags 0 body) = 0
  · rw [if_pos c]; omega
  · rw [if_neg c]; omega
theorem chk_sum (proto sport dport seq ack flags : Int) (body : ByteArray) (src dst : Int) (hp : proto = 6 ∨ proto = 17) : foldS (rawS proto sport dport seq ack flags body src dst + chkS proto sport dport seq ack flags body src dst) = 65535 := by
  have hpos := rawS_pos proto sport dport seq ack flags body src dst hp
  have h0 := sum_text proto sport dport seq ack flags 0 body src dst (by decide) (by decide)
  rw [Int.add_zero] at h0
  unfold chkS
  rw [h0]
  generalize rawS proto sport dport seq ack flags body src dst = R at *
  unfold foldS
  rw [if_neg (show ¬ R = 0 by omega)]
  by_cases c : proto = 17 ∧ 65535 - ((R - 1) % 65535 + 1) = 0
  · rw [if_pos c, if_neg (by omega)]; omega
  · rw [if_neg c, if_neg (by omega)]; omega
/-- Bytes of a segment: what is told of them. -/
theorem get_text {proto sport dport seq ack flags : Int} {body : ByteArray} (h : mayS proto sport dport seq ack flags body = true) (src dst chk : Int) (h0 : 0 ≤ chk) (h1 : chk < 65536) :
    getS proto (textS proto sport dport seq ack flags chk body) src dst =
      if mayE src dst = true ∧ ((proto = 17 ∧ chk = 0) ∨ foldS (rawS proto sport dport seq ack flags body src dst + chk) = 65535) then (proto, sport, dport, seq, ack, flags, body, 0) else badS := by
  rw [← sum_text proto sport dport seq ack flags chk body src dst h0 h1]
  have hm := h
  obtain ⟨p1, p2, p3, p4⟩ := mayS_parts h
  rcases p4 with ⟨rfl, p5, p6, p7⟩ | ⟨rfl, rfl, rfl, rfl⟩
  · have ht : textS 6 sport dport seq ack flags chk body = tcpT sport dport seq ack flags chk body := by unfold textS; rw [if_pos rfl]
    have hL := tcp_list sport dport seq ack flags chk body
    have hz := tcpT_size sport dport seq ack flags chk body
    have hd : (tcpT sport dport seq ack flags chk body).extract 20 (tcpT sport dport seq ack flags chk body).size = body := by
      apply ByteArray.extract_append_eq_right
      · simp only [ByteArray.size_append, B1_size, B2_size, B4_size]
      · rw [hz]; simp only [ByteArray.size_append, B1_size, B2_size, B4_size]
    rw [ht]
    generalize tcpT sport dport seq ack flags chk body = t at *
    have n0 : N2 t 0 = sport := by unfold N2; rw [bt_at hL, bt_at hL]; show sport / 256 % 256 * 256 + sport % 256 = _; omega
    have n2 : N2 t 2 = dport := by unfold N2; rw [bt_at hL, bt_at hL]; show dport / 256 % 256 * 256 + dport % 256 = _; omega
    have n4 : N4 t 4 = seq := by unfold N4; rw [bt_at hL, bt_at hL, bt_at hL, bt_at hL]; show ((seq / 16777216 % 256 * 256 + seq / 65536 % 256) * 256 + seq / 256 % 256) * 256 + seq % 256 = _; omega
    have n8 : N4 t 8 = ack := by unfold N4; rw [bt_at hL, bt_at hL, bt_at hL, bt_at hL]; show ((ack / 16777216 % 256 * 256 + ack / 65536 % 256) * 256 + ack / 256 % 256) * 256 + ack % 256 = _; omega
    have n12 : bt t 12 = 80 := bt_at hL 12
    have n13 : bt t 13 = flags := (bt_at hL 13).trans (show flags % 256 = flags by omega)
    unfold getS okS
    rw [if_pos rfl, n12, if_neg (by omega), n0, n2, n4, n8, n13, hd]
    refine ite_congr (propext ⟨fun hh => ⟨hh.2.2.1, hh.2.2.2.elim (fun e => by cases e) .inr⟩, fun hh => ⟨rfl, hm, hh.1, .inr (hh.2.resolve_left (by omega))⟩⟩) (fun _ => rfl) (fun _ => rfl)
  · have ht : textS 17 sport dport 0 0 0 chk body = udpT sport dport chk body := by unfold textS; rw [if_neg (by decide)]
    have hL := udp_list sport dport chk body
    have hz := udpT_size sport dport chk body
    have hd : (udpT sport dport chk body).extract 8 (udpT sport dport chk body).size = body := by
      apply ByteArray.extract_append_eq_right
      · simp only [ByteArray.size_append, B1_size, B2_size, B4_size]
      · rw [hz]; simp only [ByteArray.size_append, B1_size, B2_size, B4_size]
    rw [ht]
    generalize udpT sport dport chk body = t at *
    have n0 : N2 t 0 = sport := by unfold N2; rw [bt_at hL, bt_at hL]; show sport / 256 % 256 * 256 + sport % 256 = _; omega
    have n2 : N2 t 2 = dport := by unfold N2; rw [bt_at hL, bt_at hL]; show dport / 256 % 256 * 256 + dport % 256 = _; omega
    have n4 : N2 t 4 = 8 + body.size := by unfold N2; rw [bt_at hL, bt_at hL]; show (8 + (body.size : Int)) / 256 % 256 * 256 + (8 + (body.size : Int)) % 256 = _; omega
    have n6 : N2 t 6 = chk := by unfold N2; rw [bt_at hL, bt_at hL]; show chk / 256 % 256 * 256 + chk % 256 = _; omega
    unfold getS okS
    rw [if_neg (by decide), if_pos rfl, n4, hz, if_neg (by omega), n0, n2, n6]
    rw [hz] at hd
    rw [hd]
    refine ite_congr (propext ⟨fun hh => ⟨hh.2.2.1, hh.2.2.2.imp (fun e => ⟨rfl, by simpa using e⟩) id⟩, fun hh => ⟨rfl, hm, hh.1, hh.2.imp (fun e => decide_eq_true e.2) id⟩⟩) (fun _ => rfl) (fun _ => rfl)
theorem kind_of {proto sport dport seq ack flags : Int} {body : ByteArray} (h : mayS proto sport dport seq ack flags body = true) : proto = 6 ∨ proto = 17 := by
  obtain ⟨_, _, _, p4⟩ := mayS_parts h
  rcases p4 with ⟨rfl, _⟩ | ⟨rfl, _⟩
  · exact .inl rfl
  · exact .inr rfl
/-- What is put, told of other addresses. -/
theorem get_put' {proto sport dport seq ack flags : Int} {body : ByteArray} (h : mayS proto sport dport seq ack flags body = true) (src dst src' dst' : Int) :
    getS proto (putS proto sport dport seq ack flags body src dst) src' dst' =
      if mayE src' dst' = true ∧ foldS (rawS proto sport dport seq ack flags body src' dst' + chkS proto sport dport seq ack flags body src dst) = 65535 then (proto, sport, dport, seq, ack, flags, body, 0) else badS := by
  obtain ⟨c0, c1, c2⟩ := chk_range proto sport dport seq ack flags body src dst (kind_of h)
  unfold putS
  rw [get_text h src' dst' _ c0 c1]
  exact ite_congr (propext ⟨fun hh => ⟨hh.1, hh.2.resolve_left (fun e => c2 e.1 e.2)⟩, fun hh => ⟨hh.1, .inr hh.2⟩⟩) (fun _ => rfl) (fun _ => rfl)
theorem get_putS {proto sport dport seq ack flags : Int} {body : ByteArray} (h : mayS proto sport dport seq ack flags body = true) {src dst : Int} (he : mayE src dst = true) :
    getS proto (putS proto sport dport seq ack flags body src dst) src dst = (proto, sport, dport, seq, ack, flags, body, 0) := by
  rw [get_put' h, if_pos ⟨he, chk_sum _ _ _ _ _ _ _ _ _ (kind_of h)⟩]
/-- Where the addresses' sum is another one. -/
theorem rawS_move (proto sport dport seq ack flags : Int) (body : ByteArray) (src dst src' dst' : Int) : rawS proto sport dport seq ack flags body src' dst' = rawS proto sport dport seq ack flags body src dst + (P4 src' + P4 dst' - P4 src - P4 dst) := by
  unfold rawS; omega
end Go.Proofs.Ytobhmonmeocfmaa.Pure
