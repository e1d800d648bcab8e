/- Plain laws: segments told, flows. -/
import Derived.Test.YtobhmonmeocfmaaP2
namespace Go.Proofs.Ytobhmonmeocfmaa.Pu
set_option linter.unusedSimpArgs false
set_option linter.unusedVariables false
open Go Go.RowKit Go.Proofs.Ytobhmonmeocfmaa.Sv Go.Proofs.Ytobhmonmeocfmaa.Lf
attribute [local irreducible] L_ref1_Num L_ip_Bytes L_ip_Number L_ref1_Of L_sum_Sum L_ref1_Sum
theorem B1_80 : (⟨#[80]⟩ : ByteArray) = B1 80 := by decide +kernel
theorem kind_of {g : GSeg} (h : mayS g = true) : g.Proto = 6 ∨ g.Proto = 17 := by
  obtain ⟨_, _, _, p4⟩ := mayS_parts h
  unfold kindS at p4
  omega
theorem PutSeg_eq {N : Nat} (hN : 1000 ≤ N) (g : GSeg) (src dst : Int) : L_ref1_PutSeg N g src dst = some (if mayS g = true ∧ mayE src dst = true then (putS g src dst, 0) else (ByteArray.empty, 300)) := by
  unfold L_ref1_PutSeg L_ref1_PutSeg_1 L_ref1_PutSeg_2
  rw [RSegMay_eq, Option.bind_some]
  by_cases h : mayS g = true
  · rw [h, within32, within32]
    by_cases he : mayE src dst = true
    · rw [if_pos (show true = true ∧ mayE src dst = true from ⟨rfl, he⟩)]
      obtain ⟨_, _, hb, _⟩ := mayS_parts h
      obtain ⟨e1, e2⟩ := mayE_parts he
      have hk := kind_of h
      rw [decide_eq_true e1, decide_eq_true e2]
      have hz := textS_le g 0
      have hr := sumS_range src dst g.Proto (textS g 0)
      have w : IntKind.i64.wrap (65535 - sumS src dst g.Proto (textS g 0)) = 65535 - sumS src dst g.Proto (textS g 0) := w64 (by omega) (by omega)
      have es := Pseudo_eq hN src dst g.Proto (textS g 0) (by omega) (by omega)
      have w8 : IntKind.i64.wrap (8 + (g.Body.size : Int)) = 8 + (g.Body.size : Int) := w64 (by omega) (by omega)
      rw [B1_80, B2_lit0, w8]
      unfold putS chkS
      by_cases e : g.Proto = 17
      · have et : textS g 0 = B2 g.Sport ++ B2 g.Dport ++ B2 (8 + g.Body.size) ++ B2 0 ++ g.Body := by unfold textS udpT; rw [if_neg (by omega)]
        have es' : L_ref1_pseudo N g.Proto (B2 g.Sport ++ B2 g.Dport ++ B2 (8 + g.Body.size) ++ B2 0 ++ g.Body) src dst = some (sumS src dst g.Proto (textS g 0)) := by rw [← et]; exact es
        by_cases z : 65535 - sumS src dst g.Proto (textS g 0) = 0
        · rw [if_pos ⟨e, z⟩]
          repeat (first | with_reducible refine stB rfl ?_ | with_reducible refine stVia ?_ | (with_reducible refine stIf ?_ ?_; · first | omega | (simp only [ByteArray.size_append, ByteArray.size_extract, B1_size, B2_size, B4_size]; omega)) | (with_reducible refine stDT ?_ ?_; · omega) | (with_reducible refine stDF ?_ ?_; · omega) | (with_reducible refine stET ?_ ?_; · omega) | (with_reducible refine stEF ?_ ?_; · omega) | (with_reducible refine stNT ?_ ?_; · omega) | (with_reducible refine stNF ?_ ?_; · omega) | with_reducible refine stTT ?_ | with_reducible refine stFF ?_ | with_reducible refine stNTT ?_ | with_reducible refine stNFF ?_ | with_reducible refine stB (num1 hN _) ?_ | with_reducible refine stB (num2 hN _) ?_ | with_reducible refine stB (num4 hN _) ?_ | with_reducible refine stB (es') ?_)
          unfold textS udpT
          rw [if_neg (by omega)]
        · rw [if_neg (fun hh => z hh.2)]
          repeat (first | with_reducible refine stB rfl ?_ | with_reducible refine stVia ?_ | (with_reducible refine stIf ?_ ?_; · first | omega | (simp only [ByteArray.size_append, ByteArray.size_extract, B1_size, B2_size, B4_size]; omega)) | (with_reducible refine stDT ?_ ?_; · omega) | (with_reducible refine stDF ?_ ?_; · omega) | (with_reducible refine stET ?_ ?_; · omega) | (with_reducible refine stEF ?_ ?_; · omega) | (with_reducible refine stNT ?_ ?_; · omega) | (with_reducible refine stNF ?_ ?_; · omega) | with_reducible refine stTT ?_ | with_reducible refine stFF ?_ | with_reducible refine stNTT ?_ | with_reducible refine stNFF ?_ | with_reducible refine stB (num1 hN _) ?_ | with_reducible refine stB (num2 hN _) ?_ | with_reducible refine stB (num4 hN _) ?_ | with_reducible refine stB (es') ?_)
          rw [w]
          show some (_, _) = some (textS g _, _)
          generalize 65535 - sumS src dst g.Proto (textS g 0) = c
          unfold textS udpT
          rw [if_neg (show ¬ g.Proto = 6 by omega)]
      · have e6 : g.Proto = 6 := by omega
        have ea : tcpT g 0 = B2 g.Sport ++ B2 g.Dport ++ B4 g.Seq ++ B4 g.Ack ++ B1 80 ++ B1 g.Flags ++ B2 1024 ++ B2 0 ++ (B2 0 ++ g.Body) := by
          unfold tcpT; simp only [ByteArray.append_assoc]
        have et : textS g 0 = tcpT g 0 := by unfold textS; rw [if_pos e6]
        have es' : L_ref1_pseudo N g.Proto (B2 g.Sport ++ B2 g.Dport ++ B4 g.Seq ++ B4 g.Ack ++ B1 80 ++ B1 g.Flags ++ B2 1024 ++ B2 0 ++ (B2 0 ++ g.Body)) src dst = some (sumS src dst g.Proto (textS g 0)) := by rw [← ea, ← et]; exact es
        rw [if_neg (fun hh => e hh.1)]
        repeat (first | with_reducible refine stB rfl ?_ | with_reducible refine stVia ?_ | (with_reducible refine stIf ?_ ?_; · first | omega | (simp only [ByteArray.size_append, ByteArray.size_extract, B1_size, B2_size, B4_size]; omega)) | (with_reducible refine stDT ?_ ?_; · omega) | (with_reducible refine stDF ?_ ?_; · omega) | (with_reducible refine stET ?_ ?_; · omega) | (with_reducible refine stEF ?_ ?_; · omega) | (with_reducible refine stNT ?_ ?_; · omega) | (with_reducible refine stNF ?_ ?_; · omega) | with_reducible refine stTT ?_ | with_reducible refine stFF ?_ | with_reducible refine stNTT ?_ | with_reducible refine stNFF ?_ | with_reducible refine stB (num1 hN _) ?_ | with_reducible refine stB (num2 hN _) ?_ | with_reducible refine stB (num4 hN _) ?_ | with_reducible refine stB (es') ?_)
        rw [w]
        show some (_, _) = some (textS g _, _)
        generalize 65535 - sumS src dst g.Proto (textS g 0) = c
        unfold textS tcpT
        rw [if_pos e6]
        simp only [ByteArray.append_assoc]
    · rw [if_neg (fun hh => he hh.2)]
      by_cases e1 : 0 ≤ src ∧ src < 4294967296
      · have e2 : ¬ (0 ≤ dst ∧ dst < 4294967296) := fun h => he (by unfold mayE; rw [decide_eq_true e1, decide_eq_true h]; rfl)
        rw [decide_eq_true e1, decide_eq_false e2]
        rfl
      · rw [decide_eq_false e1]
        rfl
  · rw [if_neg (fun hh => h hh.1)]
    rw [Bool.not_eq_true] at h
    rw [h]
    rfl
abbrev SegR := GSeg × Int
def badS : SegR := (⟨0, 0, 0, 0, 0, 0, ByteArray.empty⟩, 300)
def okS (proto : Int) (s : ByteArray) (src dst : Int) (is un : Bool) (g : GSeg) : SegR :=
  if is = true ∧ mayS g = true ∧ mayE src dst = true ∧ (un = true ∨ sumS src dst proto s = 65535) then (g, 0) else badS
def getS (proto : Int) (s : ByteArray) (src dst : Int) : SegR :=
  if proto = 6 then
    if s.size < 20 ∨ bt s 12 ≠ 80 then badS
    else okS 6 s src dst true false ⟨6, N2 s 0, N2 s 2, N4 s 4, N4 s 8, bt s 13, s.extract 20 s.size⟩
  else if proto = 17 then
    if s.size < 8 ∨ N2 s 4 ≠ s.size then badS
    else okS 17 s src dst true (decide (N2 s 6 = 0)) ⟨17, N2 s 0, N2 s 2, 0, 0, 0, s.extract 8 s.size⟩
  else badS
theorem okS_false (proto : Int) (s : ByteArray) (src dst : Int) (un : Bool) (g : GSeg) : okS proto s src dst false un g = badS := by
  unfold okS; rw [if_neg (fun h => by cases h.1)]
theorem get_j {N : Nat} (hN : 1000 ≤ N) (proto : Int) (s : ByteArray) (src dst : Int) (is un : Bool) (g : GSeg) (hs : s.size ≤ 512) :
    L_seg_Get_1 N proto s 0 0 0 0 0 0 ByteArray.empty src dst g.Proto g.Sport g.Dport g.Seq g.Ack g.Flags g.Body is un = some (okS proto s src dst is un g) := by
  unfold L_seg_Get_1 L_seg_Get_2
  cases is
  · rw [okS_false]; rfl
  · rw [show (⟨g.Proto, g.Sport, g.Dport, g.Seq, g.Ack, g.Flags, g.Body⟩ : GSeg) = g from rfl, SegMay_eq]
    unfold okS
    by_cases a : mayS g = true
    · rw [a, EndsMay_eq]
      by_cases b : mayE src dst = true
      · rw [b]
        cases un
        · have es := EndsSum_eq hN src dst proto s (by omega) (by omega)
          by_cases c : sumS src dst proto s = 65535
          · rw [if_pos ⟨rfl, rfl, rfl, .inr c⟩]
            repeat (first | with_reducible refine stB rfl ?_ | with_reducible refine stVia ?_ | (with_reducible refine stIf ?_ ?_; · first | omega | (simp only [ByteArray.size_append, ByteArray.size_extract, B1_size, B2_size, B4_size]; omega)) | (with_reducible refine stDT ?_ ?_; · omega) | (with_reducible refine stDF ?_ ?_; · omega) | (with_reducible refine stET ?_ ?_; · omega) | (with_reducible refine stEF ?_ ?_; · omega) | (with_reducible refine stNT ?_ ?_; · omega) | (with_reducible refine stNF ?_ ?_; · omega) | with_reducible refine stTT ?_ | with_reducible refine stFF ?_ | with_reducible refine stNTT ?_ | with_reducible refine stNFF ?_ | with_reducible refine stB (es) ?_ | with_reducible refine stB (rfl) ?_)
            rfl
          · rw [if_neg (fun h => by rcases h.2.2.2 with e | e; cases e; exact c e)]
            repeat (first | with_reducible refine stB rfl ?_ | with_reducible refine stVia ?_ | (with_reducible refine stIf ?_ ?_; · first | omega | (simp only [ByteArray.size_append, ByteArray.size_extract, B1_size, B2_size, B4_size]; omega)) | (with_reducible refine stDT ?_ ?_; · omega) | (with_reducible refine stDF ?_ ?_; · omega) | (with_reducible refine stET ?_ ?_; · omega) | (with_reducible refine stEF ?_ ?_; · omega) | (with_reducible refine stNT ?_ ?_; · omega) | (with_reducible refine stNF ?_ ?_; · omega) | with_reducible refine stTT ?_ | with_reducible refine stFF ?_ | with_reducible refine stNTT ?_ | with_reducible refine stNFF ?_ | with_reducible refine stB (es) ?_ | with_reducible refine stB (rfl) ?_)
            rfl
        · rw [if_pos ⟨rfl, rfl, rfl, .inl rfl⟩]; rfl
      · rw [if_neg (fun h => b h.2.2.1)]
        rw [Bool.not_eq_true] at b
        rw [b]; rfl
    · rw [if_neg (fun h => a h.2.1)]
      rw [Bool.not_eq_true] at a
      rw [a]; rfl
theorem zero_two (s : ByteArray) (h : ¬ s.size < 8) : ((s.extract 6 8).toList == (ByteArray.mk #[0, 0]).toList) = decide (N2 s 6 = 0) := by
  have hz : (s.extract 6 8).size = 2 := by rw [ByteArray.size_extract]; omega
  have e := N2_extract s 6 (by omega)
  rw [toList_beq, ← e]
  generalize s.extract 6 8 = t at *
  have hl := bytesL_len t
  have hr := bytesL_range t
  rw [Bool.eq_iff_iff, decide_eq_true_iff, decide_eq_true_iff]
  unfold N2
  rw [bt_get, bt_get]
  constructor
  · rintro rfl; rfl
  · intro h
    apply bytesL_inj
    rw [show bytesL (ByteArray.mk #[0, 0]) = [0, 0] from rfl]
    generalize bytesL t = L at *
    rw [hz] at hl
    match L, hl with
    | [a, b], _ =>
      have r1 := hr a (by simp); have r2 := hr b (by simp)
      simp only [List.getD_cons_zero, List.getD_cons_succ] at h
      rw [show a = 0 by omega, show b = 0 by omega]
theorem SegGet_eq {N : Nat} (hN : 1000 ≤ N) (proto : Int) (s : ByteArray) (src dst : Int) (hs : s.size ≤ 512) : L_seg_Get N proto s src dst = some (getS proto s src dst) := by
  have hb := bt_range s 13
  unfold L_seg_Get L_seg_tcp L_seg_udp L_seg_tcp_1 L_seg_udp_1 getS
  by_cases e : proto = 6
  · subst e
    rw [if_pos rfl]
    by_cases c1 : s.size < 20
    · rw [if_pos (show s.size < 20 ∨ bt s 12 ≠ 80 from .inl c1), ← okS_false 6 s src dst false ⟨0, 0, 0, 0, 0, 0, ByteArray.empty⟩, ← get_j hN _ _ _ _ _ _ _ hs]
      refine stET rfl (stB (x := (⟨0, 0, 0, 0, 0, 0, ByteArray.empty⟩, false)) ?_ rfl)
      repeat (first | with_reducible refine stB rfl ?_ | with_reducible refine stVia ?_ | (with_reducible refine stIf ?_ ?_; · first | omega | (simp only [ByteArray.size_append, ByteArray.size_extract, B1_size, B2_size, B4_size]; omega)) | (with_reducible refine stDT ?_ ?_; · omega) | (with_reducible refine stDF ?_ ?_; · omega) | (with_reducible refine stET ?_ ?_; · omega) | (with_reducible refine stEF ?_ ?_; · omega) | (with_reducible refine stNT ?_ ?_; · omega) | (with_reducible refine stNF ?_ ?_; · omega) | with_reducible refine stTT ?_ | with_reducible refine stFF ?_ | with_reducible refine stNTT ?_ | with_reducible refine stNFF ?_)
      rfl
    · by_cases c2 : bt s 12 = 80
      · rw [if_neg (show ¬ (s.size < 20 ∨ bt s 12 ≠ 80) by omega), ← get_j hN _ _ _ _ _ _ _ hs]
        refine stET rfl (stB (x := (⟨6, N2 s 0, N2 s 2, N4 s 4, N4 s 8, bt s 13, s.extract 20 s.size⟩, true)) ?_ rfl)
        rw [show (bt s 12 != 80) = false by rw [c2]; rfl]
        repeat (first | with_reducible refine stB rfl ?_ | with_reducible refine stVia ?_ | (with_reducible refine stIf ?_ ?_; · first | omega | (simp only [ByteArray.size_append, ByteArray.size_extract, B1_size, B2_size, B4_size]; omega)) | (with_reducible refine stDT ?_ ?_; · omega) | (with_reducible refine stDF ?_ ?_; · omega) | (with_reducible refine stET ?_ ?_; · omega) | (with_reducible refine stEF ?_ ?_; · omega) | (with_reducible refine stNT ?_ ?_; · omega) | (with_reducible refine stNF ?_ ?_; · omega) | with_reducible refine stTT ?_ | with_reducible refine stFF ?_ | with_reducible refine stNTT ?_ | with_reducible refine stNFF ?_ | with_reducible refine stB (numAt2 hN s 0 2 rfl (by omega)) ?_ | with_reducible refine stB (numAt2 hN s 2 4 rfl (by omega)) ?_ | with_reducible refine stB (numAt4 hN s 4 8 rfl (by omega)) ?_ | with_reducible refine stB (numAt4 hN s 8 12 rfl (by omega)) ?_)
        rw [w64 (by omega) (by omega)]
      · rw [if_pos (show s.size < 20 ∨ bt s 12 ≠ 80 from .inr c2), ← okS_false 6 s src dst false ⟨0, 0, 0, 0, 0, 0, ByteArray.empty⟩, ← get_j hN _ _ _ _ _ _ _ hs]
        refine stET rfl (stB (x := (⟨0, 0, 0, 0, 0, 0, ByteArray.empty⟩, false)) ?_ rfl)
        rw [show (bt s 12 != 80) = true by rw [bne_iff_ne]; exact c2]
        repeat (first | with_reducible refine stB rfl ?_ | with_reducible refine stVia ?_ | (with_reducible refine stIf ?_ ?_; · first | omega | (simp only [ByteArray.size_append, ByteArray.size_extract, B1_size, B2_size, B4_size]; omega)) | (with_reducible refine stDT ?_ ?_; · omega) | (with_reducible refine stDF ?_ ?_; · omega) | (with_reducible refine stET ?_ ?_; · omega) | (with_reducible refine stEF ?_ ?_; · omega) | (with_reducible refine stNT ?_ ?_; · omega) | (with_reducible refine stNF ?_ ?_; · omega) | with_reducible refine stTT ?_ | with_reducible refine stFF ?_ | with_reducible refine stNTT ?_ | with_reducible refine stNFF ?_)
        rfl
  · rw [if_neg e]
    refine stEF e ?_
    by_cases e2 : proto = 17
    · subst e2
      rw [if_pos rfl]
      refine stET rfl ?_
      by_cases c1 : s.size < 8
      · rw [if_pos (show s.size < 8 ∨ N2 s 4 ≠ s.size from .inl c1), ← okS_false 17 s src dst false ⟨0, 0, 0, 0, 0, 0, ByteArray.empty⟩, ← get_j hN _ _ _ _ _ _ _ hs]
        refine stB (x := (⟨0, 0, 0, 0, 0, 0, ByteArray.empty⟩, false)) ?_ rfl
        repeat (first | with_reducible refine stB rfl ?_ | with_reducible refine stVia ?_ | (with_reducible refine stIf ?_ ?_; · first | omega | (simp only [ByteArray.size_append, ByteArray.size_extract, B1_size, B2_size, B4_size]; omega)) | (with_reducible refine stDT ?_ ?_; · omega) | (with_reducible refine stDF ?_ ?_; · omega) | (with_reducible refine stET ?_ ?_; · omega) | (with_reducible refine stEF ?_ ?_; · omega) | (with_reducible refine stNT ?_ ?_; · omega) | (with_reducible refine stNF ?_ ?_; · omega) | with_reducible refine stTT ?_ | with_reducible refine stFF ?_ | with_reducible refine stNTT ?_ | with_reducible refine stNFF ?_)
        rfl
      · by_cases c2 : N2 s 4 = s.size
        · rw [if_neg (show ¬ (s.size < 8 ∨ N2 s 4 ≠ s.size) by omega), ← get_j hN _ _ _ _ _ _ _ hs]
          refine stB (x := (⟨17, N2 s 0, N2 s 2, 0, 0, 0, s.extract 8 s.size⟩, true)) ?_ ?_
          · repeat (first | with_reducible refine stB rfl ?_ | with_reducible refine stVia ?_ | (with_reducible refine stIf ?_ ?_; · first | omega | (simp only [ByteArray.size_append, ByteArray.size_extract, B1_size, B2_size, B4_size]; omega)) | (with_reducible refine stDT ?_ ?_; · omega) | (with_reducible refine stDF ?_ ?_; · omega) | (with_reducible refine stET ?_ ?_; · omega) | (with_reducible refine stEF ?_ ?_; · omega) | (with_reducible refine stNT ?_ ?_; · omega) | (with_reducible refine stNF ?_ ?_; · omega) | with_reducible refine stTT ?_ | with_reducible refine stFF ?_ | with_reducible refine stNTT ?_ | with_reducible refine stNFF ?_ | with_reducible refine stB (numAt2 hN s 4 6 rfl (by omega)) ?_ | with_reducible refine stB (numAt2 hN s 0 2 rfl (by omega)) ?_ | with_reducible refine stB (numAt2 hN s 2 4 rfl (by omega)) ?_)
            rfl
          · repeat (first | with_reducible refine stB rfl ?_ | with_reducible refine stVia ?_ | (with_reducible refine stIf ?_ ?_; · first | omega | (simp only [ByteArray.size_append, ByteArray.size_extract, B1_size, B2_size, B4_size]; omega)) | (with_reducible refine stDT ?_ ?_; · omega) | (with_reducible refine stDF ?_ ?_; · omega) | (with_reducible refine stET ?_ ?_; · omega) | (with_reducible refine stEF ?_ ?_; · omega) | (with_reducible refine stNT ?_ ?_; · omega) | (with_reducible refine stNF ?_ ?_; · omega) | with_reducible refine stTT ?_ | with_reducible refine stFF ?_ | with_reducible refine stNTT ?_ | with_reducible refine stNFF ?_)
            rw [zero_two s c1]
        · rw [if_pos (show s.size < 8 ∨ N2 s 4 ≠ s.size from .inr c2), ← okS_false 17 s src dst false ⟨0, 0, 0, 0, 0, 0, ByteArray.empty⟩, ← get_j hN _ _ _ _ _ _ _ hs]
          refine stB (x := (⟨0, 0, 0, 0, 0, 0, ByteArray.empty⟩, false)) ?_ rfl
          repeat (first | with_reducible refine stB rfl ?_ | with_reducible refine stVia ?_ | (with_reducible refine stIf ?_ ?_; · first | omega | (simp only [ByteArray.size_append, ByteArray.size_extract, B1_size, B2_size, B4_size]; omega)) | (with_reducible refine stDT ?_ ?_; · omega) | (with_reducible refine stDF ?_ ?_; · omega) | (with_reducible refine stET ?_ ?_; · omega) | (with_reducible refine stEF ?_ ?_; · omega) | (with_reducible refine stNT ?_ ?_; · omega) | (with_reducible refine stNF ?_ ?_; · omega) | with_reducible refine stTT ?_ | with_reducible refine stFF ?_ | with_reducible refine stNTT ?_ | with_reducible refine stNFF ?_ | with_reducible refine stB (numAt2 hN s 4 6 rfl (by omega)) ?_)
          rfl
    · rw [if_neg e2, ← okS_false proto s src dst false ⟨0, 0, 0, 0, 0, 0, ByteArray.empty⟩, ← get_j hN _ _ _ _ _ _ _ hs]
      exact stEF e2 rfl
theorem getS_E {proto : Int} {s : ByteArray} {src dst : Int} (h : ¬ mayE src dst = true) : getS proto s src dst = badS := by
  unfold getS okS
  split
  · split
    · rfl
    · rw [if_neg (fun hh => h hh.2.2.1)]
  · split
    · split
      · rfl
      · rw [if_neg (fun hh => h hh.2.2.1)]
    · rfl
theorem RGet_3 (N : Nat) (g : GSeg) (ok : Bool) : L_ref1_GetSeg_3 N 0 0 0 0 0 0 ByteArray.empty g.Proto g.Sport g.Dport g.Seq g.Ack g.Flags g.Body ok = some (if ok = true ∧ mayS g = true then (g, 0) else badS) := by
  unfold L_ref1_GetSeg_3 L_ref1_GetSeg_4
  cases ok
  · rw [if_neg (fun hh => by cases hh.1)]; rfl
  · rw [show (⟨g.Proto, g.Sport, g.Dport, g.Seq, g.Ack, g.Flags, g.Body⟩ : GSeg) = g from rfl, RSegMay_eq]
    by_cases a : mayS g = true
    · rw [if_pos ⟨rfl, a⟩, a]; rfl
    · rw [if_neg (fun hh => a hh.2)]
      rw [Bool.not_eq_true] at a
      rw [a]; rfl
theorem getS_6bad {proto : Int} {s : ByteArray} {src dst : Int} (p : proto = 6) (h : s.size < 20 ∨ bt s 12 ≠ 80) : getS proto s src dst = badS := by
  unfold getS; rw [if_pos p]; exact if_pos h
theorem getS_6 {proto : Int} {s : ByteArray} {src dst : Int} (p : proto = 6) (h : ¬ s.size < 20) (h2 : bt s 12 = 80) : getS proto s src dst = okS proto s src dst true false ⟨proto, N2 s 0, N2 s 2, N4 s 4, N4 s 8, bt s 13, s.extract 20 s.size⟩ := by
  subst p; unfold getS; rw [if_pos rfl]; exact if_neg (by omega)
theorem getS_17bad {proto : Int} {s : ByteArray} {src dst : Int} (p : proto = 17) (h : s.size < 8 ∨ N2 s 4 ≠ s.size) : getS proto s src dst = badS := by
  subst p; unfold getS; rw [if_neg (by decide), if_pos rfl]; exact if_pos h
theorem getS_17 {proto : Int} {s : ByteArray} {src dst : Int} (p : proto = 17) (h : ¬ s.size < 8) (h2 : N2 s 4 = s.size) : getS proto s src dst = okS proto s src dst true (decide (N2 s 6 = 0)) ⟨proto, N2 s 0, N2 s 2, 0, 0, 0, s.extract 8 s.size⟩ := by
  subst p; unfold getS; rw [if_neg (by decide), if_pos rfl]; exact if_neg (by omega)
theorem getS_no {proto : Int} {s : ByteArray} {src dst : Int} (p : ¬ proto = 6) (q : ¬ proto = 17) : getS proto s src dst = badS := by
  unfold getS; rw [if_neg p, if_neg q]
theorem okS_if {proto : Int} {s : ByteArray} {src dst : Int} {un : Bool} {g : GSeg} (he : mayE src dst = true) : okS proto s src dst true un g = if (un || sumS src dst proto s == 65535) = true ∧ mayS g = true then (g, 0) else badS := by
  unfold okS
  refine ite_congr (propext ⟨fun hh => ⟨by simpa using hh.2.2.2, hh.2.1⟩, fun hh => ⟨rfl, hh.2, he, by simpa using hh.1⟩⟩) (fun _ => rfl) (fun _ => rfl)
theorem RGetSeg_eq {N : Nat} (hN : 1000 ≤ N) (proto : Int) (s : ByteArray) (src dst : Int) (hs : s.size ≤ 512) : L_ref1_GetSeg N proto s src dst = some (getS proto s src dst) := by
  have hb := bt_range s 13
  unfold L_ref1_GetSeg L_ref1_GetSeg_1 L_ref1_GetSeg_2
  rw [within32, within32]
  by_cases e1 : 0 ≤ src ∧ src < 4294967296
  · by_cases e2 : 0 ≤ dst ∧ dst < 4294967296
    · have he : mayE src dst = true := by unfold mayE; rw [decide_eq_true e1, decide_eq_true e2]; rfl
      rw [decide_eq_true e1, decide_eq_true e2]
      by_cases c0 : s.size < 8
      · rw [show getS proto s src dst = badS by
          by_cases p6 : proto = 6
          · exact getS_6bad p6 (.inl (by omega))
          · by_cases p17 : proto = 17
            · exact getS_17bad p17 (.inl c0)
            · exact getS_no p6 p17, decide_eq_true (show (s.size : Int) < 8 by omega)]
        rfl
      rw [decide_eq_false (show ¬ (s.size : Int) < 8 by omega)]
      have ps := Pseudo_eq hN src dst proto s (by omega) (by omega)
      by_cases p6 : proto = 6
      · by_cases c1 : s.size < 20
        · rw [getS_6bad p6 (.inl c1), decide_eq_false (show ¬ (s.size : Int) ≥ 20 by omega)]
          repeat (first | with_reducible refine stB rfl ?_ | with_reducible refine stVia ?_ | (with_reducible refine stIf ?_ ?_; · first | omega | (simp only [ByteArray.size_append, ByteArray.size_extract, B1_size, B2_size, B4_size]; omega)) | (with_reducible refine stDT ?_ ?_; · omega) | (with_reducible refine stDF ?_ ?_; · omega) | (with_reducible refine stET ?_ ?_; · omega) | (with_reducible refine stEF ?_ ?_; · omega) | (with_reducible refine stNT ?_ ?_; · omega) | (with_reducible refine stNF ?_ ?_; · omega) | with_reducible refine stTT ?_ | with_reducible refine stFF ?_ | with_reducible refine stNTT ?_ | with_reducible refine stNFF ?_ | with_reducible refine stB (ofAt2 hN s 0 2 rfl (by omega)) ?_ | with_reducible refine stB (ofAt2 hN s 2 4 rfl (by omega)) ?_)
          rfl
        · rw [decide_eq_true (show (s.size : Int) ≥ 20 by omega)]
          by_cases c2 : bt s 12 = 80
          · have h3 := RGet_3 N ⟨proto, N2 s 0, N2 s 2, N4 s 4, N4 s 8, bt s 13, s.extract 20 s.size⟩ (sumS src dst proto s == 65535)
            repeat (first | with_reducible refine stB rfl ?_ | with_reducible refine stVia ?_ | (with_reducible refine stIf ?_ ?_; · first | omega | (simp only [ByteArray.size_append, ByteArray.size_extract, B1_size, B2_size, B4_size]; omega)) | (with_reducible refine stDT ?_ ?_; · omega) | (with_reducible refine stDF ?_ ?_; · omega) | (with_reducible refine stET ?_ ?_; · omega) | (with_reducible refine stEF ?_ ?_; · omega) | (with_reducible refine stNT ?_ ?_; · omega) | (with_reducible refine stNF ?_ ?_; · omega) | with_reducible refine stTT ?_ | with_reducible refine stFF ?_ | with_reducible refine stNTT ?_ | with_reducible refine stNFF ?_ | with_reducible refine stB (ofAt2 hN s 0 2 rfl (by omega)) ?_ | with_reducible refine stB (ofAt2 hN s 2 4 rfl (by omega)) ?_ | with_reducible refine stB (ofAt4 hN s 4 8 rfl (by omega)) ?_ | with_reducible refine stB (ofAt4 hN s 8 12 rfl (by omega)) ?_ | with_reducible refine stB (ps) ?_)
            rw [w64 (by omega) (by omega)]
            refine h3.trans ?_
            rw [getS_6 p6 c1 c2, okS_if he, Bool.false_or]
          · have h3 := RGet_3 N ⟨proto, N2 s 0, N2 s 2, N4 s 4, N4 s 8, bt s 13, s.extract 20 s.size⟩ false
            repeat (first | with_reducible refine stB rfl ?_ | with_reducible refine stVia ?_ | (with_reducible refine stIf ?_ ?_; · first | omega | (simp only [ByteArray.size_append, ByteArray.size_extract, B1_size, B2_size, B4_size]; omega)) | (with_reducible refine stDT ?_ ?_; · omega) | (with_reducible refine stDF ?_ ?_; · omega) | (with_reducible refine stET ?_ ?_; · omega) | (with_reducible refine stEF ?_ ?_; · omega) | (with_reducible refine stNT ?_ ?_; · omega) | (with_reducible refine stNF ?_ ?_; · omega) | with_reducible refine stTT ?_ | with_reducible refine stFF ?_ | with_reducible refine stNTT ?_ | with_reducible refine stNFF ?_ | with_reducible refine stB (ofAt2 hN s 0 2 rfl (by omega)) ?_ | with_reducible refine stB (ofAt2 hN s 2 4 rfl (by omega)) ?_ | with_reducible refine stB (ofAt4 hN s 4 8 rfl (by omega)) ?_ | with_reducible refine stB (ofAt4 hN s 8 12 rfl (by omega)) ?_)
            rw [w64 (by omega) (by omega)]
            refine h3.trans ?_
            rw [if_neg (fun hh => by cases hh.1), getS_6bad p6 (.inr c2)]
      · by_cases p17 : proto = 17
        · by_cases c2 : N2 s 4 = s.size
          · by_cases c3 : N2 s 6 = 0
            · have h3 := RGet_3 N ⟨proto, N2 s 0, N2 s 2, 0, 0, 0, s.extract 8 s.size⟩ true
              repeat (first | with_reducible refine stB rfl ?_ | with_reducible refine stVia ?_ | (with_reducible refine stIf ?_ ?_; · first | omega | (simp only [ByteArray.size_append, ByteArray.size_extract, B1_size, B2_size, B4_size]; omega)) | (with_reducible refine stDT ?_ ?_; · omega) | (with_reducible refine stDF ?_ ?_; · omega) | (with_reducible refine stET ?_ ?_; · omega) | (with_reducible refine stEF ?_ ?_; · omega) | (with_reducible refine stNT ?_ ?_; · omega) | (with_reducible refine stNF ?_ ?_; · omega) | with_reducible refine stTT ?_ | with_reducible refine stFF ?_ | with_reducible refine stNTT ?_ | with_reducible refine stNFF ?_ | with_reducible refine stB (ofAt2 hN s 0 2 rfl (by omega)) ?_ | with_reducible refine stB (ofAt2 hN s 2 4 rfl (by omega)) ?_ | with_reducible refine stB (ofAt2 hN s 4 6 rfl (by omega)) ?_ | with_reducible refine stB (ofAt2 hN s 6 8 rfl (by omega)) ?_ | with_reducible refine stB (ps) ?_)
              refine h3.trans ?_
              rw [getS_17 p17 c0 c2, okS_if he, decide_eq_true c3, Bool.true_or]
            · have h3 := RGet_3 N ⟨proto, N2 s 0, N2 s 2, 0, 0, 0, s.extract 8 s.size⟩ (sumS src dst proto s == 65535)
              repeat (first | with_reducible refine stB rfl ?_ | with_reducible refine stVia ?_ | (with_reducible refine stIf ?_ ?_; · first | omega | (simp only [ByteArray.size_append, ByteArray.size_extract, B1_size, B2_size, B4_size]; omega)) | (with_reducible refine stDT ?_ ?_; · omega) | (with_reducible refine stDF ?_ ?_; · omega) | (with_reducible refine stET ?_ ?_; · omega) | (with_reducible refine stEF ?_ ?_; · omega) | (with_reducible refine stNT ?_ ?_; · omega) | (with_reducible refine stNF ?_ ?_; · omega) | with_reducible refine stTT ?_ | with_reducible refine stFF ?_ | with_reducible refine stNTT ?_ | with_reducible refine stNFF ?_ | with_reducible refine stB (ofAt2 hN s 0 2 rfl (by omega)) ?_ | with_reducible refine stB (ofAt2 hN s 2 4 rfl (by omega)) ?_ | with_reducible refine stB (ofAt2 hN s 4 6 rfl (by omega)) ?_ | with_reducible refine stB (ofAt2 hN s 6 8 rfl (by omega)) ?_ | with_reducible refine stB (ps) ?_)
              refine h3.trans ?_
              rw [getS_17 p17 c0 c2, okS_if he, decide_eq_false c3, Bool.false_or]
          · have h3 := RGet_3 N ⟨proto, N2 s 0, N2 s 2, 0, 0, 0, s.extract 8 s.size⟩ false
            repeat (first | with_reducible refine stB rfl ?_ | with_reducible refine stVia ?_ | (with_reducible refine stIf ?_ ?_; · first | omega | (simp only [ByteArray.size_append, ByteArray.size_extract, B1_size, B2_size, B4_size]; omega)) | (with_reducible refine stDT ?_ ?_; · omega) | (with_reducible refine stDF ?_ ?_; · omega) | (with_reducible refine stET ?_ ?_; · omega) | (with_reducible refine stEF ?_ ?_; · omega) | (with_reducible refine stNT ?_ ?_; · omega) | (with_reducible refine stNF ?_ ?_; · omega) | with_reducible refine stTT ?_ | with_reducible refine stFF ?_ | with_reducible refine stNTT ?_ | with_reducible refine stNFF ?_ | with_reducible refine stB (ofAt2 hN s 0 2 rfl (by omega)) ?_ | with_reducible refine stB (ofAt2 hN s 2 4 rfl (by omega)) ?_ | with_reducible refine stB (ofAt2 hN s 4 6 rfl (by omega)) ?_)
            refine h3.trans ?_
            rw [if_neg (fun hh => by cases hh.1), getS_17bad p17 (.inr c2)]
        · rw [getS_no p6 p17]
          have h3 := RGet_3 N ⟨proto, N2 s 0, N2 s 2, 0, 0, 0, ByteArray.empty⟩ false
          repeat (first | with_reducible refine stB rfl ?_ | with_reducible refine stVia ?_ | (with_reducible refine stIf ?_ ?_; · first | omega | (simp only [ByteArray.size_append, ByteArray.size_extract, B1_size, B2_size, B4_size]; omega)) | (with_reducible refine stDT ?_ ?_; · omega) | (with_reducible refine stDF ?_ ?_; · omega) | (with_reducible refine stET ?_ ?_; · omega) | (with_reducible refine stEF ?_ ?_; · omega) | (with_reducible refine stNT ?_ ?_; · omega) | (with_reducible refine stNF ?_ ?_; · omega) | with_reducible refine stTT ?_ | with_reducible refine stFF ?_ | with_reducible refine stNTT ?_ | with_reducible refine stNFF ?_ | with_reducible refine stB (ofAt2 hN s 0 2 rfl (by omega)) ?_ | with_reducible refine stB (ofAt2 hN s 2 4 rfl (by omega)) ?_)
          refine h3.trans ?_
          rw [if_neg (fun hh => by cases hh.1)]
    · rw [getS_E (fun h => e2 (mayE_parts h).2), decide_eq_true e1, decide_eq_false e2]
      rfl
  · rw [getS_E (fun h => e1 (mayE_parts h).1), decide_eq_false e1]
    rfl
end Go.Proofs.Ytobhmonmeocfmaa.Pu
