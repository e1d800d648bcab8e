/- Plain laws: flows. -/
import Derived.Test.YtobhmonmeocfmaaP3
namespace Go.Proofs.Ytobhmonmeocfmaa.Pu
set_option linter.unusedSimpArgs false
set_option linter.unusedVariables false
open Go Go.RowKit Go.Proofs.Ytobhmonmeocfmaa.Sv Go.Proofs.Ytobhmonmeocfmaa.Lf
attribute [local irreducible] L_ref1_Num L_ip_Bytes L_ip_Number L_ref1_Of L_sum_Sum L_ref1_Sum
def mayF (f : GFlow) : Bool := decide ((0 ≤ f.Src ∧ f.Src < 4294967296) ∧ (0 ≤ f.Dst ∧ f.Dst < 4294967296) ∧ (f.Proto = 6 ∨ f.Proto = 17) ∧ (0 ≤ f.Sport ∧ f.Sport < 65536) ∧ (0 ≤ f.Dport ∧ f.Dport < 65536))
theorem handled_eq (N : Nat) (p : Int) : L_flow_handled N p = some (decide (p = 6 ∨ p = 17)) := by
  unfold L_flow_handled L_flow_handled_1
  simp only [bifS]
  congr 1
  rw [Bool.eq_iff_iff]
  simp only [bifP, decide_eq_true_eq, decide_eq_false_iff_not, beq_iff_eq, beq_eq_false_iff_ne, bne_iff_ne, Bool.not_eq_true', Bool.not_eq_false', Bool.and_eq_true, Bool.false_eq_true, Bool.true_eq_false, reduceCtorEq, and_false, false_and, or_false, false_or, true_and, and_true, Bool.not_eq_eq_eq_not, Bool.not_true, Bool.not_false]
  all_goals omega
theorem FlowMay_eq (N : Nat) (f : GFlow) : L_flow_May N f = some (mayF f) := by
  unfold L_flow_May L_flow_May_1
  simp only [in32, in16, handled_eq, Option.bind_some, bifS]
  congr 1
  rw [Bool.eq_iff_iff]
  unfold mayF
  simp only [bifP, decide_eq_true_eq, decide_eq_false_iff_not, beq_iff_eq, beq_eq_false_iff_ne, bne_iff_ne, Bool.not_eq_true', Bool.not_eq_false', Bool.and_eq_true, Bool.false_eq_true, Bool.true_eq_false, reduceCtorEq, and_false, false_and, or_false, false_or, true_and, and_true, Bool.not_eq_eq_eq_not, Bool.not_true, Bool.not_false]
  all_goals omega
theorem RFlowMay_eq (N : Nat) (f : GFlow) : L_ref1_FlowMay N f = some (mayF f) := by
  unfold L_ref1_FlowMay L_ref1_FlowMay_1
  simp only [within32, within16, Option.bind_some, bifS]
  congr 1
  rw [Bool.eq_iff_iff]
  unfold mayF
  simp only [bifP, decide_eq_true_eq, decide_eq_false_iff_not, beq_iff_eq, beq_eq_false_iff_ne, bne_iff_ne, Bool.not_eq_true', Bool.not_eq_false', Bool.and_eq_true, Bool.false_eq_true, Bool.true_eq_false, reduceCtorEq, and_false, false_and, or_false, false_or, true_and, and_true, Bool.not_eq_eq_eq_not, Bool.not_true, Bool.not_false]
  all_goals omega
theorem getI_body {s : ByteArray} (h : (getI s).2.1 = 0) : (getI s).1.Body.size ≤ 492 := by
  unfold getI at h ⊢
  unfold badI at h ⊢
  repeat' split at h
  all_goals (try (simp at h; done))
  rename_i c _ _ _ _ _
  rw [if_neg (by assumption), if_neg (by assumption), if_neg (by assumption), if_neg (by assumption), if_neg (by assumption), if_neg (by assumption)]
  simp only [ByteArray.size_extract]
  omega
abbrev FlowR := GFlow × GSeg × Int
def noF (c : Int) : FlowR := (⟨0, 0, 0, 0, 0⟩, ⟨0, 0, 0, 0, 0, 0, ByteArray.empty⟩, c)
def ofF (s : ByteArray) : FlowR :=
  if (getI s).2.1 ≠ 0 then noF (getI s).2.1
  else if ¬ ((getI s).1.Proto = 6 ∨ (getI s).1.Proto = 17) ∨ (getI s).1.Dst ≠ 167772161 then noF 3
  else if (getS (getI s).1.Proto (getI s).1.Body (getI s).1.Src (getI s).1.Dst).2 ≠ 0 then noF 1
  else (⟨(getI s).1.Src, (getI s).1.Dst, (getI s).1.Proto, (getS (getI s).1.Proto (getI s).1.Body (getI s).1.Src (getI s).1.Dst).1.Sport, (getS (getI s).1.Proto (getI s).1.Body (getI s).1.Src (getI s).1.Dst).1.Dport⟩,
    (getS (getI s).1.Proto (getI s).1.Body (getI s).1.Src (getI s).1.Dst).1, 0)
theorem Of_eq {N : Nat} (hN : 1000 ≤ N) (s : ByteArray) : L_flow_Of N s = some (ofF s) := by
  unfold L_flow_Of L_flow_Of_1 ofF
  have h0 := getI_body (s := s)
  refine stB (Get_eq hN s) ?_
  generalize getI s = r at *
  obtain ⟨p, c, e⟩ := r
  dsimp only at *
  by_cases c0 : c = 0
  · have hz := h0 c0
    rw [if_neg (not_not_intro c0), handled_eq]
    by_cases hp : p.Proto = 6 ∨ p.Proto = 17
    · rw [decide_eq_true hp]
      by_cases hd : p.Dst = 167772161
      · rw [if_neg (by omega), show (p.Dst != 167772161) = false by rw [hd]; rfl]
        by_cases he : (getS p.Proto p.Body p.Src p.Dst).2 = 0
        · rw [if_neg (not_not_intro he)]
          repeat (first | with_reducible refine stB rfl ?_ | with_reducible refine stVia ?_ | (with_reducible refine stIf ?_ ?_; · first | omega | (simp only [ByteArray.size_append, ByteArray.size_extract, B1_size, B2_size, B4_size]; omega)) | (with_reducible refine stDT ?_ ?_; · omega) | (with_reducible refine stDF ?_ ?_; · omega) | (with_reducible refine stET ?_ ?_; · omega) | (with_reducible refine stEF ?_ ?_; · omega) | (with_reducible refine stNT ?_ ?_; · omega) | (with_reducible refine stNF ?_ ?_; · omega) | with_reducible refine stTT ?_ | with_reducible refine stFF ?_ | with_reducible refine stNTT ?_ | with_reducible refine stNFF ?_ | with_reducible refine stB (SegGet_eq hN _ _ _ _ (by omega)) ?_)
          rfl
        · rw [if_pos he]
          repeat (first | with_reducible refine stB rfl ?_ | with_reducible refine stVia ?_ | (with_reducible refine stIf ?_ ?_; · first | omega | (simp only [ByteArray.size_append, ByteArray.size_extract, B1_size, B2_size, B4_size]; omega)) | (with_reducible refine stDT ?_ ?_; · omega) | (with_reducible refine stDF ?_ ?_; · omega) | (with_reducible refine stET ?_ ?_; · omega) | (with_reducible refine stEF ?_ ?_; · omega) | (with_reducible refine stNT ?_ ?_; · omega) | (with_reducible refine stNF ?_ ?_; · omega) | with_reducible refine stTT ?_ | with_reducible refine stFF ?_ | with_reducible refine stNTT ?_ | with_reducible refine stNFF ?_ | with_reducible refine stB (SegGet_eq hN _ _ _ _ (by omega)) ?_)
          rfl
      · rw [if_pos (.inr hd), show (p.Dst != 167772161) = true by rw [bne_iff_ne]; exact hd]
        repeat (first | with_reducible refine stB rfl ?_ | with_reducible refine stVia ?_ | (with_reducible refine stIf ?_ ?_; · first | omega | (simp only [ByteArray.size_append, ByteArray.size_extract, B1_size, B2_size, B4_size]; omega)) | (with_reducible refine stDT ?_ ?_; · omega) | (with_reducible refine stDF ?_ ?_; · omega) | (with_reducible refine stET ?_ ?_; · omega) | (with_reducible refine stEF ?_ ?_; · omega) | (with_reducible refine stNT ?_ ?_; · omega) | (with_reducible refine stNF ?_ ?_; · omega) | with_reducible refine stTT ?_ | with_reducible refine stFF ?_ | with_reducible refine stNTT ?_ | with_reducible refine stNFF ?_)
        rfl
    · rw [if_pos (.inl hp), decide_eq_false hp]
      repeat (first | with_reducible refine stB rfl ?_ | with_reducible refine stVia ?_ | (with_reducible refine stIf ?_ ?_; · first | omega | (simp only [ByteArray.size_append, ByteArray.size_extract, B1_size, B2_size, B4_size]; omega)) | (with_reducible refine stDT ?_ ?_; · omega) | (with_reducible refine stDF ?_ ?_; · omega) | (with_reducible refine stET ?_ ?_; · omega) | (with_reducible refine stEF ?_ ?_; · omega) | (with_reducible refine stNT ?_ ?_; · omega) | (with_reducible refine stNF ?_ ?_; · omega) | with_reducible refine stTT ?_ | with_reducible refine stFF ?_ | with_reducible refine stNTT ?_ | with_reducible refine stNFF ?_)
      rfl
  · rw [if_pos c0]
    repeat (first | with_reducible refine stB rfl ?_ | with_reducible refine stVia ?_ | (with_reducible refine stIf ?_ ?_; · first | omega | (simp only [ByteArray.size_append, ByteArray.size_extract, B1_size, B2_size, B4_size]; omega)) | (with_reducible refine stDT ?_ ?_; · omega) | (with_reducible refine stDF ?_ ?_; · omega) | (with_reducible refine stET ?_ ?_; · omega) | (with_reducible refine stEF ?_ ?_; · omega) | (with_reducible refine stNT ?_ ?_; · omega) | (with_reducible refine stNF ?_ ?_; · omega) | with_reducible refine stTT ?_ | with_reducible refine stFF ?_ | with_reducible refine stNTT ?_ | with_reducible refine stNFF ?_)
    rfl
theorem ROf_eq {N : Nat} (hN : 1000 ≤ N) (s : ByteArray) : L_ref1_FlowOf N s = some (ofF s) := by
  unfold L_ref1_FlowOf L_ref1_FlowOf_1 ofF
  have h0 := getI_body (s := s)
  refine stB (GetIp_eq hN s) ?_
  generalize getI s = r at *
  obtain ⟨p, c, e⟩ := r
  dsimp only at *
  by_cases c0 : c = 0
  · have hz := h0 c0
    rw [if_neg (not_not_intro c0)]
    by_cases hp : p.Proto = 6 ∨ p.Proto = 17
    · by_cases hd : p.Dst = 167772161
      · rw [if_neg (by omega), show (p.Dst != 167772161) = false by rw [hd]; rfl]
        by_cases he : (getS p.Proto p.Body p.Src p.Dst).2 = 0
        · rw [if_neg (not_not_intro he)]
          by_cases p6 : p.Proto = 6
          · repeat (first | with_reducible refine stB rfl ?_ | with_reducible refine stVia ?_ | (with_reducible refine stIf ?_ ?_; · first | omega | (simp only [ByteArray.size_append, ByteArray.size_extract, B1_size, B2_size, B4_size]; omega)) | (with_reducible refine stDT ?_ ?_; · omega) | (with_reducible refine stDF ?_ ?_; · omega) | (with_reducible refine stET ?_ ?_; · omega) | (with_reducible refine stEF ?_ ?_; · omega) | (with_reducible refine stNT ?_ ?_; · omega) | (with_reducible refine stNF ?_ ?_; · omega) | with_reducible refine stTT ?_ | with_reducible refine stFF ?_ | with_reducible refine stNTT ?_ | with_reducible refine stNFF ?_ | with_reducible refine stB (RGetSeg_eq hN _ _ _ _ (by omega)) ?_)
            rfl
          · repeat (first | with_reducible refine stB rfl ?_ | with_reducible refine stVia ?_ | (with_reducible refine stIf ?_ ?_; · first | omega | (simp only [ByteArray.size_append, ByteArray.size_extract, B1_size, B2_size, B4_size]; omega)) | (with_reducible refine stDT ?_ ?_; · omega) | (with_reducible refine stDF ?_ ?_; · omega) | (with_reducible refine stET ?_ ?_; · omega) | (with_reducible refine stEF ?_ ?_; · omega) | (with_reducible refine stNT ?_ ?_; · omega) | (with_reducible refine stNF ?_ ?_; · omega) | with_reducible refine stTT ?_ | with_reducible refine stFF ?_ | with_reducible refine stNTT ?_ | with_reducible refine stNFF ?_ | with_reducible refine stB (RGetSeg_eq hN _ _ _ _ (by omega)) ?_)
            rfl
        · rw [if_pos he]
          by_cases p6 : p.Proto = 6
          · repeat (first | with_reducible refine stB rfl ?_ | with_reducible refine stVia ?_ | (with_reducible refine stIf ?_ ?_; · first | omega | (simp only [ByteArray.size_append, ByteArray.size_extract, B1_size, B2_size, B4_size]; omega)) | (with_reducible refine stDT ?_ ?_; · omega) | (with_reducible refine stDF ?_ ?_; · omega) | (with_reducible refine stET ?_ ?_; · omega) | (with_reducible refine stEF ?_ ?_; · omega) | (with_reducible refine stNT ?_ ?_; · omega) | (with_reducible refine stNF ?_ ?_; · omega) | with_reducible refine stTT ?_ | with_reducible refine stFF ?_ | with_reducible refine stNTT ?_ | with_reducible refine stNFF ?_ | with_reducible refine stB (RGetSeg_eq hN _ _ _ _ (by omega)) ?_)
            rfl
          · repeat (first | with_reducible refine stB rfl ?_ | with_reducible refine stVia ?_ | (with_reducible refine stIf ?_ ?_; · first | omega | (simp only [ByteArray.size_append, ByteArray.size_extract, B1_size, B2_size, B4_size]; omega)) | (with_reducible refine stDT ?_ ?_; · omega) | (with_reducible refine stDF ?_ ?_; · omega) | (with_reducible refine stET ?_ ?_; · omega) | (with_reducible refine stEF ?_ ?_; · omega) | (with_reducible refine stNT ?_ ?_; · omega) | (with_reducible refine stNF ?_ ?_; · omega) | with_reducible refine stTT ?_ | with_reducible refine stFF ?_ | with_reducible refine stNTT ?_ | with_reducible refine stNFF ?_ | with_reducible refine stB (RGetSeg_eq hN _ _ _ _ (by omega)) ?_)
            rfl
      · rw [if_pos (.inr hd), show (p.Dst != 167772161) = true by rw [bne_iff_ne]; exact hd]
        by_cases p6 : p.Proto = 6
        · repeat (first | with_reducible refine stB rfl ?_ | with_reducible refine stVia ?_ | (with_reducible refine stIf ?_ ?_; · first | omega | (simp only [ByteArray.size_append, ByteArray.size_extract, B1_size, B2_size, B4_size]; omega)) | (with_reducible refine stDT ?_ ?_; · omega) | (with_reducible refine stDF ?_ ?_; · omega) | (with_reducible refine stET ?_ ?_; · omega) | (with_reducible refine stEF ?_ ?_; · omega) | (with_reducible refine stNT ?_ ?_; · omega) | (with_reducible refine stNF ?_ ?_; · omega) | with_reducible refine stTT ?_ | with_reducible refine stFF ?_ | with_reducible refine stNTT ?_ | with_reducible refine stNFF ?_)
          rfl
        · repeat (first | with_reducible refine stB rfl ?_ | with_reducible refine stVia ?_ | (with_reducible refine stIf ?_ ?_; · first | omega | (simp only [ByteArray.size_append, ByteArray.size_extract, B1_size, B2_size, B4_size]; omega)) | (with_reducible refine stDT ?_ ?_; · omega) | (with_reducible refine stDF ?_ ?_; · omega) | (with_reducible refine stET ?_ ?_; · omega) | (with_reducible refine stEF ?_ ?_; · omega) | (with_reducible refine stNT ?_ ?_; · omega) | (with_reducible refine stNF ?_ ?_; · omega) | with_reducible refine stTT ?_ | with_reducible refine stFF ?_ | with_reducible refine stNTT ?_ | with_reducible refine stNFF ?_)
          rfl
    · rw [if_pos (.inl hp)]
      repeat (first | with_reducible refine stB rfl ?_ | with_reducible refine stVia ?_ | (with_reducible refine stIf ?_ ?_; · first | omega | (simp only [ByteArray.size_append, ByteArray.size_extract, B1_size, B2_size, B4_size]; omega)) | (with_reducible refine stDT ?_ ?_; · omega) | (with_reducible refine stDF ?_ ?_; · omega) | (with_reducible refine stET ?_ ?_; · omega) | (with_reducible refine stEF ?_ ?_; · omega) | (with_reducible refine stNT ?_ ?_; · omega) | (with_reducible refine stNF ?_ ?_; · omega) | with_reducible refine stTT ?_ | with_reducible refine stFF ?_ | with_reducible refine stNTT ?_ | with_reducible refine stNFF ?_)
      rfl
  · rw [if_pos c0]
    repeat (first | with_reducible refine stB rfl ?_ | with_reducible refine stVia ?_ | (with_reducible refine stIf ?_ ?_; · first | omega | (simp only [ByteArray.size_append, ByteArray.size_extract, B1_size, B2_size, B4_size]; omega)) | (with_reducible refine stDT ?_ ?_; · omega) | (with_reducible refine stDF ?_ ?_; · omega) | (with_reducible refine stET ?_ ?_; · omega) | (with_reducible refine stEF ?_ ?_; · omega) | (with_reducible refine stNT ?_ ?_; · omega) | (with_reducible refine stNF ?_ ?_; · omega) | with_reducible refine stTT ?_ | with_reducible refine stFF ?_ | with_reducible refine stNTT ?_ | with_reducible refine stNFF ?_)
    rfl
def segOf (f : GFlow) (flags : Int) (body : ByteArray) : GSeg := ⟨f.Proto, f.Sport, f.Dport, 0, 0, flags, body⟩
def packF (f : GFlow) (flags : Int) (body : ByteArray) : ByteArray := putI ⟨f.Src, f.Dst, f.Proto, 64, 0, putS (segOf f flags body) f.Src f.Dst⟩
def okP (f : GFlow) (flags : Int) (body : ByteArray) : Prop := mayF f = true ∧ mayS (segOf f flags body) = true
instance (f : GFlow) (flags : Int) (body : ByteArray) : Decidable (okP f flags body) := by unfold okP; infer_instance
theorem mayF_parts {f : GFlow} (h : mayF f = true) : (0 ≤ f.Src ∧ f.Src < 4294967296) ∧ (0 ≤ f.Dst ∧ f.Dst < 4294967296) ∧ (f.Proto = 6 ∨ f.Proto = 17) ∧ (0 ≤ f.Sport ∧ f.Sport < 65536) ∧ (0 ≤ f.Dport ∧ f.Dport < 65536) := of_decide_eq_true h
theorem mayF_E {f : GFlow} (h : mayF f = true) : mayE f.Src f.Dst = true := by
  obtain ⟨a, b, _⟩ := mayF_parts h
  unfold mayE; rw [decide_eq_true a, decide_eq_true b]; rfl
theorem pack_may {f : GFlow} {flags : Int} {body : ByteArray} (h : okP f flags body) : mayI ⟨f.Src, f.Dst, f.Proto, 64, 0, putS (segOf f flags body) f.Src f.Dst⟩ = true := by
  obtain ⟨a, b, c, d, e⟩ := mayF_parts h.1
  obtain ⟨_, _, hb, _⟩ := mayS_parts h.2
  have hz := textS_le (segOf f flags body) (chkS (segOf f flags body) f.Src f.Dst)
  unfold segOf at hb
  rw [mayI_iff]
  refine ⟨a, b, ?_, (⟨by decide, by decide⟩ : (0:Int) ≤ 64 ∧ (64:Int) < 256), (⟨by decide, by decide⟩ : (0:Int) ≤ 0 ∧ (0:Int) < 65536), ?_⟩
  · dsimp only; omega
  · show (textS _ _).size ≤ 492
    refine Nat.le_trans hz ?_
    show 20 + body.size ≤ 492
    dsimp only at hb
    omega
theorem Packet_eq {N : Nat} (hN : 1000 ≤ N) (f : GFlow) (flags : Int) (body : ByteArray) : L_flow_Packet N f flags body = some (if okP f flags body then (packF f flags body, 0) else (ByteArray.empty, 400)) := by
  unfold L_flow_Packet L_flow_Packet_1
  refine stB (SegPut_eq hN (segOf f flags body) f.Src f.Dst) ?_
  by_cases h1 : mayS (segOf f flags body) = true ∧ mayE f.Src f.Dst = true
  · rw [if_pos h1]
    by_cases h2 : mayF f = true
    · rw [if_pos ⟨h2, h1.1⟩]
      have hp := Put_eq hN ⟨f.Src, f.Dst, f.Proto, 64, 0, putS (segOf f flags body) f.Src f.Dst⟩
      rw [if_pos (pack_may ⟨h2, h1.1⟩)] at hp
      have hf := FlowMay_eq N f
      rw [h2] at hf
      repeat (first | with_reducible refine stB rfl ?_ | with_reducible refine stVia ?_ | (with_reducible refine stIf ?_ ?_; · first | omega | (simp only [ByteArray.size_append, ByteArray.size_extract, B1_size, B2_size, B4_size]; omega)) | (with_reducible refine stDT ?_ ?_; · omega) | (with_reducible refine stDF ?_ ?_; · omega) | (with_reducible refine stET ?_ ?_; · omega) | (with_reducible refine stEF ?_ ?_; · omega) | (with_reducible refine stNT ?_ ?_; · omega) | (with_reducible refine stNF ?_ ?_; · omega) | with_reducible refine stTT ?_ | with_reducible refine stFF ?_ | with_reducible refine stNTT ?_ | with_reducible refine stNFF ?_ | with_reducible refine stB (hf) ?_ | with_reducible refine stB (hp) ?_)
      rfl
    · rw [if_neg (fun h => h2 h.1)]
      have hf := FlowMay_eq N f
      rw [Bool.not_eq_true] at h2
      rw [h2] at hf
      repeat (first | with_reducible refine stB rfl ?_ | with_reducible refine stVia ?_ | (with_reducible refine stIf ?_ ?_; · first | omega | (simp only [ByteArray.size_append, ByteArray.size_extract, B1_size, B2_size, B4_size]; omega)) | (with_reducible refine stDT ?_ ?_; · omega) | (with_reducible refine stDF ?_ ?_; · omega) | (with_reducible refine stET ?_ ?_; · omega) | (with_reducible refine stEF ?_ ?_; · omega) | (with_reducible refine stNT ?_ ?_; · omega) | (with_reducible refine stNF ?_ ?_; · omega) | with_reducible refine stTT ?_ | with_reducible refine stFF ?_ | with_reducible refine stNTT ?_ | with_reducible refine stNFF ?_ | with_reducible refine stB (hf) ?_)
      rfl
  · rw [if_neg h1, if_neg (fun h => h1 ⟨h.2, mayF_E h.1⟩)]
    repeat (first | with_reducible refine stB rfl ?_ | with_reducible refine stVia ?_ | (with_reducible refine stIf ?_ ?_; · first | omega | (simp only [ByteArray.size_append, ByteArray.size_extract, B1_size, B2_size, B4_size]; omega)) | (with_reducible refine stDT ?_ ?_; · omega) | (with_reducible refine stDF ?_ ?_; · omega) | (with_reducible refine stET ?_ ?_; · omega) | (with_reducible refine stEF ?_ ?_; · omega) | (with_reducible refine stNT ?_ ?_; · omega) | (with_reducible refine stNF ?_ ?_; · omega) | with_reducible refine stTT ?_ | with_reducible refine stFF ?_ | with_reducible refine stNTT ?_ | with_reducible refine stNFF ?_)
    rfl
theorem PacketOf_eq {N : Nat} (hN : 1000 ≤ N) (f : GFlow) (flags : Int) (body : ByteArray) : L_ref1_PacketOf N f flags body = some (if okP f flags body then (packF f flags body, 0) else (ByteArray.empty, 400)) := by
  unfold L_ref1_PacketOf L_ref1_PacketOf_1
  rw [RFlowMay_eq, show (⟨f.Proto, f.Sport, f.Dport, 0, 0, flags, body⟩ : GSeg) = segOf f flags body from rfl, RSegMay_eq, Option.bind_some]
  by_cases h2 : mayF f = true
  · rw [h2]
    by_cases h1 : mayS (segOf f flags body) = true
    · have hq := PutSeg_eq hN (segOf f flags body) f.Src f.Dst
      rw [if_pos ⟨h1, mayF_E h2⟩] at hq
      have hp := PutIp_eq hN ⟨f.Src, f.Dst, f.Proto, 64, 0, putS (segOf f flags body) f.Src f.Dst⟩
      rw [if_pos (pack_may ⟨h2, h1⟩)] at hp
      rw [if_pos ⟨h2, h1⟩, h1]
      repeat (first | with_reducible refine stB rfl ?_ | with_reducible refine stVia ?_ | (with_reducible refine stIf ?_ ?_; · first | omega | (simp only [ByteArray.size_append, ByteArray.size_extract, B1_size, B2_size, B4_size]; omega)) | (with_reducible refine stDT ?_ ?_; · omega) | (with_reducible refine stDF ?_ ?_; · omega) | (with_reducible refine stET ?_ ?_; · omega) | (with_reducible refine stEF ?_ ?_; · omega) | (with_reducible refine stNT ?_ ?_; · omega) | (with_reducible refine stNF ?_ ?_; · omega) | with_reducible refine stTT ?_ | with_reducible refine stFF ?_ | with_reducible refine stNTT ?_ | with_reducible refine stNFF ?_ | with_reducible refine stB (hq) ?_ | with_reducible refine stB (hp) ?_)
      rfl
    · rw [if_neg (fun h => h1 h.2)]
      rw [Bool.not_eq_true] at h1
      rw [h1]
      rfl
  · rw [if_neg (fun h => h2 h.1)]
    rw [Bool.not_eq_true] at h2
    rw [h2]
    rfl
theorem tl (a : ByteArray) : (a.toList == a.toList) = true := by rw [beq_iff_eq]
end Go.Proofs.Ytobhmonmeocfmaa.Pu
