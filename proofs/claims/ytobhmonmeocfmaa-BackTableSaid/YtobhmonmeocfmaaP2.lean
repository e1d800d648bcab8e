/- Plain laws: segments. -/
import Derived.Test.YtobhmonmeocfmaaP1
namespace Go.Proofs.Ytobhmonmeocfmaa.Pu
set_option linter.unusedSimpArgs false
set_option linter.unusedVariables false
open Go Go.RowKit Go.Proofs.Ytobhmonmeocfmaa.Sv Go.Proofs.Ytobhmonmeocfmaa.Lf
attribute [local irreducible] L_ref1_Num L_ip_Bytes L_ip_Number L_ref1_Of L_sum_Sum L_ref1_Sum
theorem bifS {α : Type} (c : Bool) (x y : α) : (bif c then some x else some y) = some (bif c then x else y) := by cases c <;> rfl
theorem bifP {c p q : Bool} : (bif c then p else q) = true ↔ (c = true ∧ p = true) ∨ (c = false ∧ q = true) := by cases c <;> simp
def kindS (proto seq ack flags : Int) : Prop := (proto = 6 ∧ (0 ≤ seq ∧ seq < 4294967296) ∧ (0 ≤ ack ∧ ack < 4294967296) ∧ (0 ≤ flags ∧ flags < 64)) ∨ (proto = 17 ∧ seq = 0 ∧ ack = 0 ∧ flags = 0)
instance (a b c d : Int) : Decidable (kindS a b c d) := by unfold kindS; infer_instance
def mayS (g : GSeg) : Bool :=
  decide (((0 ≤ g.Sport ∧ g.Sport < 65536) ∧ (0 ≤ g.Dport ∧ g.Dport < 65536) ∧ (g.Body.size : Int) ≤ 256) ∧ kindS g.Proto g.Seq g.Ack g.Flags)
theorem mayS_parts {g : GSeg} (h : mayS g = true) :
    (0 ≤ g.Sport ∧ g.Sport < 65536) ∧ (0 ≤ g.Dport ∧ g.Dport < 65536) ∧ g.Body.size ≤ 256 ∧ kindS g.Proto g.Seq g.Ack g.Flags := by
  simp only [mayS, decide_eq_true_eq] at h
  exact ⟨h.1.1, h.1.2.1, by omega, h.2⟩
theorem SegMay_eq (N : Nat) (g : GSeg) : L_seg_May N g = some (mayS g) := by
  unfold L_seg_May L_seg_May_1 L_seg_May_2 L_seg_May_3
  simp only [in32, in16, in6, Option.bind_some, bifS]
  congr 1
  rw [Bool.eq_iff_iff]
  unfold mayS kindS
  simp only [bifP, decide_eq_true_eq, decide_eq_false_iff_not, beq_iff_eq, beq_eq_false_iff_ne, bne_iff_ne, Bool.not_eq_true', Bool.not_eq_false', Bool.and_eq_true, Bool.false_eq_true, Bool.true_eq_false, reduceCtorEq, and_false, false_and, or_false, false_or, true_and, and_true, Bool.not_eq_eq_eq_not, Bool.not_true, Bool.not_false]
  omega
theorem RSegMay_eq (N : Nat) (g : GSeg) : L_ref1_SegMay N g = some (mayS g) := by
  unfold L_ref1_SegMay L_ref1_SegMay_1 L_ref1_SegMay_2 L_ref1_SegMay_3
  simp only [within32, within16, within6, Option.bind_some, bifS]
  congr 1
  rw [Bool.eq_iff_iff]
  unfold mayS kindS
  simp only [bifP, decide_eq_true_eq, decide_eq_false_iff_not, beq_iff_eq, beq_eq_false_iff_ne, bne_iff_ne, Bool.not_eq_true', Bool.not_eq_false', Bool.and_eq_true, Bool.false_eq_true, Bool.true_eq_false, reduceCtorEq, and_false, false_and, or_false, false_or, true_and, and_true, Bool.not_eq_eq_eq_not, Bool.not_true, Bool.not_false]
  omega
def mayE (src dst : Int) : Bool := decide (0 ≤ src ∧ src < 4294967296) && decide (0 ≤ dst ∧ dst < 4294967296)
theorem mayE_parts {src dst : Int} (h : mayE src dst = true) : (0 ≤ src ∧ src < 4294967296) ∧ (0 ≤ dst ∧ dst < 4294967296) := by simpa [mayE] using h
theorem EndsMay_eq (N : Nat) (src dst : Int) : L_seg_ends_may N ⟨src, dst⟩ = some (mayE src dst) := by
  unfold L_seg_ends_may L_seg_ends_may_1
  simp only [in32, Option.bind_some, bifAnd]; rfl
def tcpT (g : GSeg) (chk : Int) : ByteArray := B2 g.Sport ++ B2 g.Dport ++ B4 g.Seq ++ B4 g.Ack ++ B1 80 ++ B1 g.Flags ++ B2 1024 ++ B2 chk ++ B2 0 ++ g.Body
def udpT (g : GSeg) (chk : Int) : ByteArray := B2 g.Sport ++ B2 g.Dport ++ B2 (8 + g.Body.size) ++ B2 chk ++ g.Body
def textS (g : GSeg) (chk : Int) : ByteArray := if g.Proto = 6 then tcpT g chk else udpT g chk
theorem tcpT_size (g : GSeg) (chk : Int) : (tcpT g chk).size = 20 + g.Body.size := by
  simp only [tcpT, ByteArray.size_append, B1_size, B2_size, B4_size]
theorem udpT_size (g : GSeg) (chk : Int) : (udpT g chk).size = 8 + g.Body.size := by
  simp only [udpT, ByteArray.size_append, B2_size]
theorem textS_size (g : GSeg) (chk : Int) : (textS g chk).size = (if g.Proto = 6 then 20 else 8) + g.Body.size := by
  unfold textS
  by_cases h : g.Proto = 6
  · rw [if_pos h, if_pos h, tcpT_size]
  · rw [if_neg h, if_neg h, udpT_size]
theorem textS_le (g : GSeg) (chk : Int) : (textS g chk).size ≤ 20 + g.Body.size := by
  rw [textS_size]; split <;> omega
theorem text_eq {N : Nat} (hN : 1000 ≤ N) (g : GSeg) (chk : Int) (hb : g.Body.size ≤ 1000) : L_seg_text N g chk = some (textS g chk) := by
  unfold L_seg_text textS
  by_cases h : g.Proto = 6
  · rw [if_pos h]
    repeat (first | with_reducible refine stB rfl ?_ | with_reducible refine stVia ?_ | (with_reducible refine stIf ?_ ?_; · first | omega | (simp only [ByteArray.size_append, ByteArray.size_extract, B1_size, B2_size, B4_size]; omega)) | (with_reducible refine stDT ?_ ?_; · omega) | (with_reducible refine stDF ?_ ?_; · omega) | (with_reducible refine stET ?_ ?_; · omega) | (with_reducible refine stEF ?_ ?_; · omega) | (with_reducible refine stNT ?_ ?_; · omega) | (with_reducible refine stNF ?_ ?_; · omega) | with_reducible refine stTT ?_ | with_reducible refine stFF ?_ | with_reducible refine stNTT ?_ | with_reducible refine stNFF ?_ | with_reducible refine stB (bytes1 hN _) ?_ | with_reducible refine stB (bytes2 hN _) ?_ | with_reducible refine stB (bytes4 hN _) ?_)
    rfl
  · rw [if_neg h]
    repeat (first | with_reducible refine stB rfl ?_ | with_reducible refine stVia ?_ | (with_reducible refine stIf ?_ ?_; · first | omega | (simp only [ByteArray.size_append, ByteArray.size_extract, B1_size, B2_size, B4_size]; omega)) | (with_reducible refine stDT ?_ ?_; · omega) | (with_reducible refine stDF ?_ ?_; · omega) | (with_reducible refine stET ?_ ?_; · omega) | (with_reducible refine stEF ?_ ?_; · omega) | (with_reducible refine stNT ?_ ?_; · omega) | (with_reducible refine stNF ?_ ?_; · omega) | with_reducible refine stTT ?_ | with_reducible refine stFF ?_ | with_reducible refine stNTT ?_ | with_reducible refine stNFF ?_ | with_reducible refine stB (bytes1 hN _) ?_ | with_reducible refine stB (bytes2 hN _) ?_ | with_reducible refine stB (bytes4 hN _) ?_)
    rw [w64 (by omega) (by omega)]
    rfl
def psL (src dst proto : Int) (n : Nat) : ByteArray := B4 src ++ B4 dst ++ B2 proto ++ B2 n
theorem psL_size (src dst proto : Int) (n : Nat) : (psL src dst proto n).size = 12 := by
  simp only [psL, ByteArray.size_append, B2_size, B4_size]
def sumS (src dst proto : Int) (s : ByteArray) : Int := sumB (psL src dst proto s.size ++ s)
theorem sumS_range (src dst proto : Int) (s : ByteArray) : 0 ≤ sumS src dst proto s ∧ sumS src dst proto s < 65536 := sumB_range _
theorem EndsSum_eq {N : Nat} (hN : 1000 ≤ N) (src dst proto : Int) (s : ByteArray) (hs : s.size ≤ 140737488351232) (hk : s.size + 30 ≤ N) : L_seg_ends_sum N ⟨src, dst⟩ proto s = some (sumS src dst proto s) := by
  have hz := psL_size src dst proto s.size
  have hsum := psum_eq hN (psL src dst proto s.size ++ s) (by rw [ByteArray.size_append, hz]; omega) (by rw [ByteArray.size_append, hz]; omega)
  unfold psL at hsum
  unfold L_seg_ends_sum
  repeat (first | with_reducible refine stB rfl ?_ | with_reducible refine stVia ?_ | (with_reducible refine stIf ?_ ?_; · first | omega | (simp only [ByteArray.size_append, ByteArray.size_extract, B1_size, B2_size, B4_size]; omega)) | (with_reducible refine stDT ?_ ?_; · omega) | (with_reducible refine stDF ?_ ?_; · omega) | (with_reducible refine stET ?_ ?_; · omega) | (with_reducible refine stEF ?_ ?_; · omega) | (with_reducible refine stNT ?_ ?_; · omega) | (with_reducible refine stNF ?_ ?_; · omega) | with_reducible refine stTT ?_ | with_reducible refine stFF ?_ | with_reducible refine stNTT ?_ | with_reducible refine stNFF ?_ | with_reducible refine stB (bytes2 hN _) ?_ | with_reducible refine stB (bytes4 hN _) ?_ | with_reducible refine stB (hsum) ?_)
  rfl
theorem Pseudo_eq {N : Nat} (hN : 1000 ≤ N) (src dst proto : Int) (s : ByteArray) (hs : s.size ≤ 140737488351232) (hk : s.size + 30 ≤ N) : L_ref1_pseudo N proto s src dst = some (sumS src dst proto s) := by
  have hz := psL_size src dst proto s.size
  have hsum := rsum_eq hN (psL src dst proto s.size ++ s) (by rw [ByteArray.size_append, hz]; omega) (by rw [ByteArray.size_append, hz]; omega)
  unfold psL at hsum
  unfold L_ref1_pseudo
  repeat (first | with_reducible refine stB rfl ?_ | with_reducible refine stVia ?_ | (with_reducible refine stIf ?_ ?_; · first | omega | (simp only [ByteArray.size_append, ByteArray.size_extract, B1_size, B2_size, B4_size]; omega)) | (with_reducible refine stDT ?_ ?_; · omega) | (with_reducible refine stDF ?_ ?_; · omega) | (with_reducible refine stET ?_ ?_; · omega) | (with_reducible refine stEF ?_ ?_; · omega) | (with_reducible refine stNT ?_ ?_; · omega) | (with_reducible refine stNF ?_ ?_; · omega) | with_reducible refine stTT ?_ | with_reducible refine stFF ?_ | with_reducible refine stNTT ?_ | with_reducible refine stNFF ?_ | with_reducible refine stB (num2 hN _) ?_ | with_reducible refine stB (num4 hN _) ?_ | with_reducible refine stB (hsum) ?_)
  rfl
/-- The sum that a segment gets. -/
def chkS (g : GSeg) (src dst : Int) : Int :=
  if g.Proto = 17 ∧ 65535 - sumS src dst g.Proto (textS g 0) = 0 then 65535 else 65535 - sumS src dst g.Proto (textS g 0)
def putS (g : GSeg) (src dst : Int) : ByteArray := textS g (chkS g src dst)
theorem SegPut_eq {N : Nat} (hN : 1000 ≤ N) (g : GSeg) (src dst : Int) : L_seg_Put N g src dst = some (if mayS g = true ∧ mayE src dst = true then (putS g src dst, 0) else (ByteArray.empty, 300)) := by
  unfold L_seg_Put L_seg_Put_1 L_seg_Put_2 L_seg_Put_3
  rw [SegMay_eq, Option.bind_some]
  by_cases h : mayS g = true
  · rw [h]
    by_cases he : mayE src dst = true
    · rw [if_pos (show true = true ∧ mayE src dst = true from ⟨rfl, he⟩)]
      obtain ⟨_, _, hb, _⟩ := mayS_parts h
      have hz := textS_le g 0
      have hr := sumS_range src dst g.Proto (textS g 0)
      have hem := EndsMay_eq N src dst
      rw [he] at hem
      have w : IntKind.i64.wrap (65535 - sumS src dst g.Proto (textS g 0)) = 65535 - sumS src dst g.Proto (textS g 0) := w64 (by omega) (by omega)
      have es := EndsSum_eq hN src dst g.Proto (textS g 0) (by omega) (by omega)
      have t0 : L_seg_text N ⟨g.Proto, g.Sport, g.Dport, g.Seq, g.Ack, g.Flags, g.Body⟩ 0 = some (textS g 0) := text_eq hN g 0 (by omega)
      have t1 : ∀ c, L_seg_text N ⟨g.Proto, g.Sport, g.Dport, g.Seq, g.Ack, g.Flags, g.Body⟩ c = some (textS g c) := fun c => text_eq hN g c (by omega)
      unfold putS chkS
      by_cases e : g.Proto = 17
      · by_cases z : 65535 - sumS src dst g.Proto (textS g 0) = 0
        · rw [if_pos ⟨e, z⟩]
          repeat (first | with_reducible refine stB rfl ?_ | with_reducible refine stVia ?_ | (with_reducible refine stIf ?_ ?_; · first | omega | (simp only [ByteArray.size_append, ByteArray.size_extract, B1_size, B2_size, B4_size]; omega)) | (with_reducible refine stDT ?_ ?_; · omega) | (with_reducible refine stDF ?_ ?_; · omega) | (with_reducible refine stET ?_ ?_; · omega) | (with_reducible refine stEF ?_ ?_; · omega) | (with_reducible refine stNT ?_ ?_; · omega) | (with_reducible refine stNF ?_ ?_; · omega) | with_reducible refine stTT ?_ | with_reducible refine stFF ?_ | with_reducible refine stNTT ?_ | with_reducible refine stNFF ?_ | with_reducible refine stB (hem) ?_ | with_reducible refine stB (t0) ?_ | with_reducible refine stB (es) ?_ | with_reducible refine stB (t1 _) ?_)
          rfl
        · rw [if_neg (fun hh => z hh.2)]
          repeat (first | with_reducible refine stB rfl ?_ | with_reducible refine stVia ?_ | (with_reducible refine stIf ?_ ?_; · first | omega | (simp only [ByteArray.size_append, ByteArray.size_extract, B1_size, B2_size, B4_size]; omega)) | (with_reducible refine stDT ?_ ?_; · omega) | (with_reducible refine stDF ?_ ?_; · omega) | (with_reducible refine stET ?_ ?_; · omega) | (with_reducible refine stEF ?_ ?_; · omega) | (with_reducible refine stNT ?_ ?_; · omega) | (with_reducible refine stNF ?_ ?_; · omega) | with_reducible refine stTT ?_ | with_reducible refine stFF ?_ | with_reducible refine stNTT ?_ | with_reducible refine stNFF ?_ | with_reducible refine stB (hem) ?_ | with_reducible refine stB (t0) ?_ | with_reducible refine stB (es) ?_ | with_reducible refine stB (t1 _) ?_)
          rw [w]
      · rw [if_neg (fun hh => e hh.1)]
        repeat (first | with_reducible refine stB rfl ?_ | with_reducible refine stVia ?_ | (with_reducible refine stIf ?_ ?_; · first | omega | (simp only [ByteArray.size_append, ByteArray.size_extract, B1_size, B2_size, B4_size]; omega)) | (with_reducible refine stDT ?_ ?_; · omega) | (with_reducible refine stDF ?_ ?_; · omega) | (with_reducible refine stET ?_ ?_; · omega) | (with_reducible refine stEF ?_ ?_; · omega) | (with_reducible refine stNT ?_ ?_; · omega) | (with_reducible refine stNF ?_ ?_; · omega) | with_reducible refine stTT ?_ | with_reducible refine stFF ?_ | with_reducible refine stNTT ?_ | with_reducible refine stNFF ?_ | with_reducible refine stB (hem) ?_ | with_reducible refine stB (t0) ?_ | with_reducible refine stB (es) ?_ | with_reducible refine stB (t1 _) ?_)
        rw [w]
    · rw [if_neg (fun hh => he hh.2)]
      have hem := EndsMay_eq N src dst
      rw [Bool.not_eq_true] at he
      rw [he] at hem
      repeat (first | with_reducible refine stB rfl ?_ | with_reducible refine stVia ?_ | (with_reducible refine stIf ?_ ?_; · first | omega | (simp only [ByteArray.size_append, ByteArray.size_extract, B1_size, B2_size, B4_size]; omega)) | (with_reducible refine stDT ?_ ?_; · omega) | (with_reducible refine stDF ?_ ?_; · omega) | (with_reducible refine stET ?_ ?_; · omega) | (with_reducible refine stEF ?_ ?_; · omega) | (with_reducible refine stNT ?_ ?_; · omega) | (with_reducible refine stNF ?_ ?_; · omega) | with_reducible refine stTT ?_ | with_reducible refine stFF ?_ | with_reducible refine stNTT ?_ | with_reducible refine stNFF ?_ | with_reducible refine stB (hem) ?_)
      rfl
  · rw [if_neg (fun hh => h hh.1)]
    rw [Bool.not_eq_true] at h
    rw [h]
    repeat (first | with_reducible refine stB rfl ?_ | with_reducible refine stVia ?_ | (with_reducible refine stIf ?_ ?_; · first | omega | (simp only [ByteArray.size_append, ByteArray.size_extract, B1_size, B2_size, B4_size]; omega)) | (with_reducible refine stDT ?_ ?_; · omega) | (with_reducible refine stDF ?_ ?_; · omega) | (with_reducible refine stET ?_ ?_; · omega) | (with_reducible refine stEF ?_ ?_; · omega) | (with_reducible refine stNT ?_ ?_; · omega) | (with_reducible refine stNF ?_ ?_; · omega) | with_reducible refine stTT ?_ | with_reducible refine stFF ?_ | with_reducible refine stNTT ?_ | with_reducible refine stNFF ?_)
    rfl
end Go.Proofs.Ytobhmonmeocfmaa.Pu
