/- Plain laws: packets, flows, heads, of edges. -/
import Derived.Test.YtmhlgpdoedbedaaGreatP1
namespace Go.Proofs.YtmhlgpdoedbedaaGreat.Pu
set_option linter.unusedSimpArgs false
set_option linter.unusedVariables false
open Go Go.RowKit Go.Proofs.YtmhlgpdoedbedaaGreat.Sv Go.Proofs.YtmhlgpdoedbedaaGreat.Lf
attribute [local irreducible] L_ref1_Num L_ip_Bytes L_ip_Number L_ref1_Of L_sum_Sum L_ref1_Sum
theorem bifS {α : Type} (c : Bool) (x y : α) : (bif c then some x else some y) = some (bif c then x else y) := by cases c <;> rfl
theorem bifP {c p q : Bool} : (bif c then p else q) = true ↔ (c = true ∧ p = true) ∨ (c = false ∧ q = true) := by cases c <;> simp
def kindS (proto seq ack flags : Int) : Prop := (proto = 6 ∧ (0 ≤ seq ∧ seq < 4294967296) ∧ (0 ≤ ack ∧ ack < 4294967296) ∧ (0 ≤ flags ∧ flags < 64)) ∨ (proto = 17 ∧ seq = 0 ∧ ack = 0 ∧ flags = 0)
instance (a b c d : Int) : Decidable (kindS a b c d) := by unfold kindS; infer_instance
def mayS (g : GSeg) : Bool :=
  decide (((0 ≤ g.Sport ∧ g.Sport < 65536) ∧ (0 ≤ g.Dport ∧ g.Dport < 65536) ∧ (g.Body.size : Int) ≤ 256) ∧ kindS g.Proto g.Seq g.Ack g.Flags)
theorem SegMay_eq (N : Nat) (g : GSeg) : L_seg_May N g = some (mayS g) := by
  unfold L_seg_May L_seg_May_1 L_seg_May_2 L_seg_May_3
  simp only [in32, in16, in6, Option.bind_some, bifS]
  congr 1
  rw [Bool.eq_iff_iff]
  unfold mayS kindS
  simp only [bifP, decide_eq_true_eq, decide_eq_false_iff_not, beq_iff_eq, beq_eq_false_iff_ne, bne_iff_ne, Bool.not_eq_true', Bool.not_eq_false', Bool.and_eq_true, Bool.false_eq_true, Bool.true_eq_false, reduceCtorEq, and_false, false_and, or_false, false_or, true_and, and_true, Bool.not_eq_eq_eq_not, Bool.not_true, Bool.not_false]
  omega
def mayE (src dst : Int) : Bool := decide (0 ≤ src ∧ src < 4294967296) && decide (0 ≤ dst ∧ dst < 4294967296)
theorem EndsMay_eq (N : Nat) (src dst : Int) : L_seg_ends_may N ⟨src, dst⟩ = some (mayE src dst) := by
  unfold L_seg_ends_may L_seg_ends_may_1
  simp only [in32, Option.bind_some, bifAnd]; rfl
def psL (src dst proto : Int) (n : Nat) : ByteArray := B4 src ++ B4 dst ++ B2 proto ++ B2 n
theorem psL_size (src dst proto : Int) (n : Nat) : (psL src dst proto n).size = 12 := by
  simp only [psL, ByteArray.size_append, B2_size, B4_size]
def sumS (src dst proto : Int) (s : ByteArray) : Int := sumB (psL src dst proto s.size ++ s)
theorem EndsSum_eq {N : Nat} (hN : 1000 ≤ N) (src dst proto : Int) (s : ByteArray) (hs : s.size ≤ 140737488351232) (hk : s.size + 30 ≤ N) : L_seg_ends_sum N ⟨src, dst⟩ proto s = some (sumS src dst proto s) := by
  have hz := psL_size src dst proto s.size
  have hsum := psum_eq hN (psL src dst proto s.size ++ s) (by rw [ByteArray.size_append, hz]; omega) (by rw [ByteArray.size_append, hz]; omega)
  unfold psL at hsum
  unfold L_seg_ends_sum
  repeat (first | with_reducible refine stB rfl ?_ | with_reducible refine stVia ?_ | (with_reducible refine stIf ?_ ?_; · first | omega | (simp only [ByteArray.size_append, ByteArray.size_extract, B1_size, B2_size, B4_size]; omega)) | (with_reducible refine stDT ?_ ?_; · omega) | (with_reducible refine stDF ?_ ?_; · omega) | (with_reducible refine stET ?_ ?_; · omega) | (with_reducible refine stEF ?_ ?_; · omega) | (with_reducible refine stNT ?_ ?_; · omega) | (with_reducible refine stNF ?_ ?_; · omega) | with_reducible refine stTT ?_ | with_reducible refine stFF ?_ | with_reducible refine stNTT ?_ | with_reducible refine stNFF ?_ | with_reducible refine stB (bytes2 hN _) ?_ | with_reducible refine stB (bytes4 hN _) ?_ | with_reducible refine stB (hsum) ?_)
  rfl
abbrev SegR := GSeg × Int
def badS : SegR := (⟨0, 0, 0, 0, 0, 0, ByteArray.empty⟩, 300)
def okS (proto : Int) (s : ByteArray) (src dst : Int) (is un : Bool) (g : GSeg) : SegR :=
  if is = true ∧ mayS g = true ∧ mayE src dst = true ∧ (un = true ∨ sumS src dst proto s = 65535) then (g, 0) else badS
def getS (proto : Int) (s : ByteArray) (src dst : Int) : SegR :=
  if proto = 6 then
    if s.size < 20 ∨ bt s 12 ≠ 80 then badS
    else okS 6 s src dst true false ⟨6, N2 s 0, N2 s 2, N4 s 4, N4 s 8, bt s 13, s.extract 20 s.size⟩
  else if proto = 17 then
    if s.size < 8 ∨ N2 s 4 ≠ s.size then badS
    else okS 17 s src dst true (decide (N2 s 6 = 0)) ⟨17, N2 s 0, N2 s 2, 0, 0, 0, s.extract 8 s.size⟩
  else badS
theorem okS_false (proto : Int) (s : ByteArray) (src dst : Int) (un : Bool) (g : GSeg) : okS proto s src dst false un g = badS := by
  unfold okS; rw [if_neg (fun h => by cases h.1)]
theorem get_j {N : Nat} (hN : 1000 ≤ N) (proto : Int) (s : ByteArray) (src dst : Int) (is un : Bool) (g : GSeg) (hs : s.size ≤ 512) :
    L_seg_Get_1 N proto s 0 0 0 0 0 0 ByteArray.empty src dst g.Proto g.Sport g.Dport g.Seq g.Ack g.Flags g.Body is un = some (okS proto s src dst is un g) := by
  unfold L_seg_Get_1 L_seg_Get_2
  cases is
  · rw [okS_false]; rfl
  · rw [show (⟨g.Proto, g.Sport, g.Dport, g.Seq, g.Ack, g.Flags, g.Body⟩ : GSeg) = g from rfl, SegMay_eq]
    unfold okS
    by_cases a : mayS g = true
    · rw [a, EndsMay_eq]
      by_cases b : mayE src dst = true
      · rw [b]
        cases un
        · have es := EndsSum_eq hN src dst proto s (by omega) (by omega)
          by_cases c : sumS src dst proto s = 65535
          · rw [if_pos ⟨rfl, rfl, rfl, .inr c⟩]
            repeat (first | with_reducible refine stB rfl ?_ | with_reducible refine stVia ?_ | (with_reducible refine stIf ?_ ?_; · first | omega | (simp only [ByteArray.size_append, ByteArray.size_extract, B1_size, B2_size, B4_size]; omega)) | (with_reducible refine stDT ?_ ?_; · omega) | (with_reducible refine stDF ?_ ?_; · omega) | (with_reducible refine stET ?_ ?_; · omega) | (with_reducible refine stEF ?_ ?_; · omega) | (with_reducible refine stNT ?_ ?_; · omega) | (with_reducible refine stNF ?_ ?_; · omega) | with_reducible refine stTT ?_ | with_reducible refine stFF ?_ | with_reducible refine stNTT ?_ | with_reducible refine stNFF ?_ | with_reducible refine stB (es) ?_ | with_reducible refine stB (rfl) ?_)
            rfl
          · rw [if_neg (fun h => by rcases h.2.2.2 with e | e; cases e; exact c e)]
            repeat (first | with_reducible refine stB rfl ?_ | with_reducible refine stVia ?_ | (with_reducible refine stIf ?_ ?_; · first | omega | (simp only [ByteArray.size_append, ByteArray.size_extract, B1_size, B2_size, B4_size]; omega)) | (with_reducible refine stDT ?_ ?_; · omega) | (with_reducible refine stDF ?_ ?_; · omega) | (with_reducible refine stET ?_ ?_; · omega) | (with_reducible refine stEF ?_ ?_; · omega) | (with_reducible refine stNT ?_ ?_; · omega) | (with_reducible refine stNF ?_ ?_; · omega) | with_reducible refine stTT ?_ | with_reducible refine stFF ?_ | with_reducible refine stNTT ?_ | with_reducible refine stNFF ?_ | with_reducible refine stB (es) ?_ | with_reducible refine stB (rfl) ?_)
            rfl
        · rw [if_pos ⟨rfl, rfl, rfl, .inl rfl⟩]; rfl
      · rw [if_neg (fun h => b h.2.2.1)]
        rw [Bool.not_eq_true] at b
        rw [b]; rfl
    · rw [if_neg (fun h => a h.2.1)]
      rw [Bool.not_eq_true] at a
      rw [a]; rfl
theorem zero_two (s : ByteArray) (h : ¬ s.size < 8) : ((s.extract 6 8).toList == (ByteArray.mk #[0, 0]).toList) = decide (N2 s 6 = 0) := by
  have hz : (s.extract 6 8).size = 2 := by rw [ByteArray.size_extract]; omega
  have e := N2_extract s 6 (by omega)
  rw [toList_beq, ← e]
  generalize s.extract 6 8 = t at *
  have hl := bytesL_len t
  have hr := bytesL_range t
  rw [Bool.eq_iff_iff, decide_eq_true_iff, decide_eq_true_iff]
  unfold N2
  rw [bt_get, bt_get]
  constructor
  · rintro rfl; rfl
  · intro h
    apply bytesL_inj
    rw [show bytesL (ByteArray.mk #[0, 0]) = [0, 0] from rfl]
    generalize bytesL t = L at *
    rw [hz] at hl
    match L, hl with
    | [a, b], _ =>
      have r1 := hr a (by simp); have r2 := hr b (by simp)
      simp only [List.getD_cons_zero, List.getD_cons_succ] at h
      rw [show a = 0 by omega, show b = 0 by omega]
theorem SegGet_eq {N : Nat} (hN : 1000 ≤ N) (proto : Int) (s : ByteArray) (src dst : Int) (hs : s.size ≤ 512) : L_seg_Get N proto s src dst = some (getS proto s src dst) := by
  have hb := bt_range s 13
  unfold L_seg_Get L_seg_tcp L_seg_udp L_seg_tcp_1 L_seg_udp_1 getS
  by_cases e : proto = 6
  · subst e
    rw [if_pos rfl]
    by_cases c1 : s.size < 20
    · rw [if_pos (show s.size < 20 ∨ bt s 12 ≠ 80 from .inl c1), ← okS_false 6 s src dst false ⟨0, 0, 0, 0, 0, 0, ByteArray.empty⟩, ← get_j hN _ _ _ _ _ _ _ hs]
      refine stET rfl (stB (x := (⟨0, 0, 0, 0, 0, 0, ByteArray.empty⟩, false)) ?_ rfl)
      repeat (first | with_reducible refine stB rfl ?_ | with_reducible refine stVia ?_ | (with_reducible refine stIf ?_ ?_; · first | omega | (simp only [ByteArray.size_append, ByteArray.size_extract, B1_size, B2_size, B4_size]; omega)) | (with_reducible refine stDT ?_ ?_; · omega) | (with_reducible refine stDF ?_ ?_; · omega) | (with_reducible refine stET ?_ ?_; · omega) | (with_reducible refine stEF ?_ ?_; · omega) | (with_reducible refine stNT ?_ ?_; · omega) | (with_reducible refine stNF ?_ ?_; · omega) | with_reducible refine stTT ?_ | with_reducible refine stFF ?_ | with_reducible refine stNTT ?_ | with_reducible refine stNFF ?_)
      rfl
    · by_cases c2 : bt s 12 = 80
      · rw [if_neg (show ¬ (s.size < 20 ∨ bt s 12 ≠ 80) by omega), ← get_j hN _ _ _ _ _ _ _ hs]
        refine stET rfl (stB (x := (⟨6, N2 s 0, N2 s 2, N4 s 4, N4 s 8, bt s 13, s.extract 20 s.size⟩, true)) ?_ rfl)
        rw [show (bt s 12 != 80) = false by rw [c2]; rfl]
        repeat (first | with_reducible refine stB rfl ?_ | with_reducible refine stVia ?_ | (with_reducible refine stIf ?_ ?_; · first | omega | (simp only [ByteArray.size_append, ByteArray.size_extract, B1_size, B2_size, B4_size]; omega)) | (with_reducible refine stDT ?_ ?_; · omega) | (with_reducible refine stDF ?_ ?_; · omega) | (with_reducible refine stET ?_ ?_; · omega) | (with_reducible refine stEF ?_ ?_; · omega) | (with_reducible refine stNT ?_ ?_; · omega) | (with_reducible refine stNF ?_ ?_; · omega) | with_reducible refine stTT ?_ | with_reducible refine stFF ?_ | with_reducible refine stNTT ?_ | with_reducible refine stNFF ?_ | with_reducible refine stB (numAt2 hN s 0 2 rfl (by omega)) ?_ | with_reducible refine stB (numAt2 hN s 2 4 rfl (by omega)) ?_ | with_reducible refine stB (numAt4 hN s 4 8 rfl (by omega)) ?_ | with_reducible refine stB (numAt4 hN s 8 12 rfl (by omega)) ?_)
        rw [w64 (by omega) (by omega)]
      · rw [if_pos (show s.size < 20 ∨ bt s 12 ≠ 80 from .inr c2), ← okS_false 6 s src dst false ⟨0, 0, 0, 0, 0, 0, ByteArray.empty⟩, ← get_j hN _ _ _ _ _ _ _ hs]
        refine stET rfl (stB (x := (⟨0, 0, 0, 0, 0, 0, ByteArray.empty⟩, false)) ?_ rfl)
        rw [show (bt s 12 != 80) = true by rw [bne_iff_ne]; exact c2]
        repeat (first | with_reducible refine stB rfl ?_ | with_reducible refine stVia ?_ | (with_reducible refine stIf ?_ ?_; · first | omega | (simp only [ByteArray.size_append, ByteArray.size_extract, B1_size, B2_size, B4_size]; omega)) | (with_reducible refine stDT ?_ ?_; · omega) | (with_reducible refine stDF ?_ ?_; · omega) | (with_reducible refine stET ?_ ?_; · omega) | (with_reducible refine stEF ?_ ?_; · omega) | (with_reducible refine stNT ?_ ?_; · omega) | (with_reducible refine stNF ?_ ?_; · omega) | with_reducible refine stTT ?_ | with_reducible refine stFF ?_ | with_reducible refine stNTT ?_ | with_reducible refine stNFF ?_)
        rfl
  · rw [if_neg e]
    refine stEF e ?_
    by_cases e2 : proto = 17
    · subst e2
      rw [if_pos rfl]
      refine stET rfl ?_
      by_cases c1 : s.size < 8
      · rw [if_pos (show s.size < 8 ∨ N2 s 4 ≠ s.size from .inl c1), ← okS_false 17 s src dst false ⟨0, 0, 0, 0, 0, 0, ByteArray.empty⟩, ← get_j hN _ _ _ _ _ _ _ hs]
        refine stB (x := (⟨0, 0, 0, 0, 0, 0, ByteArray.empty⟩, false)) ?_ rfl
        repeat (first | with_reducible refine stB rfl ?_ | with_reducible refine stVia ?_ | (with_reducible refine stIf ?_ ?_; · first | omega | (simp only [ByteArray.size_append, ByteArray.size_extract, B1_size, B2_size, B4_size]; omega)) | (with_reducible refine stDT ?_ ?_; · omega) | (with_reducible refine stDF ?_ ?_; · omega) | (with_reducible refine stET ?_ ?_; · omega) | (with_reducible refine stEF ?_ ?_; · omega) | (with_reducible refine stNT ?_ ?_; · omega) | (with_reducible refine stNF ?_ ?_; · omega) | with_reducible refine stTT ?_ | with_reducible refine stFF ?_ | with_reducible refine stNTT ?_ | with_reducible refine stNFF ?_)
        rfl
      · by_cases c2 : N2 s 4 = s.size
        · rw [if_neg (show ¬ (s.size < 8 ∨ N2 s 4 ≠ s.size) by omega), ← get_j hN _ _ _ _ _ _ _ hs]
          refine stB (x := (⟨17, N2 s 0, N2 s 2, 0, 0, 0, s.extract 8 s.size⟩, true)) ?_ ?_
          · repeat (first | with_reducible refine stB rfl ?_ | with_reducible refine stVia ?_ | (with_reducible refine stIf ?_ ?_; · first | omega | (simp only [ByteArray.size_append, ByteArray.size_extract, B1_size, B2_size, B4_size]; omega)) | (with_reducible refine stDT ?_ ?_; · omega) | (with_reducible refine stDF ?_ ?_; · omega) | (with_reducible refine stET ?_ ?_; · omega) | (with_reducible refine stEF ?_ ?_; · omega) | (with_reducible refine stNT ?_ ?_; · omega) | (with_reducible refine stNF ?_ ?_; · omega) | with_reducible refine stTT ?_ | with_reducible refine stFF ?_ | with_reducible refine stNTT ?_ | with_reducible refine stNFF ?_ | with_reducible refine stB (numAt2 hN s 4 6 rfl (by omega)) ?_ | with_reducible refine stB (numAt2 hN s 0 2 rfl (by omega)) ?_ | with_reducible refine stB (numAt2 hN s 2 4 rfl (by omega)) ?_)
            rfl
          · repeat (first | with_reducible refine stB rfl ?_ | with_reducible refine stVia ?_ | (with_reducible refine stIf ?_ ?_; · first | omega | (simp only [ByteArray.size_append, ByteArray.size_extract, B1_size, B2_size, B4_size]; omega)) | (with_reducible refine stDT ?_ ?_; · omega) | (with_reducible refine stDF ?_ ?_; · omega) | (with_reducible refine stET ?_ ?_; · omega) | (with_reducible refine stEF ?_ ?_; · omega) | (with_reducible refine stNT ?_ ?_; · omega) | (with_reducible refine stNF ?_ ?_; · omega) | with_reducible refine stTT ?_ | with_reducible refine stFF ?_ | with_reducible refine stNTT ?_ | with_reducible refine stNFF ?_)
            rw [zero_two s c1]
        · rw [if_pos (show s.size < 8 ∨ N2 s 4 ≠ s.size from .inr c2), ← okS_false 17 s src dst false ⟨0, 0, 0, 0, 0, 0, ByteArray.empty⟩, ← get_j hN _ _ _ _ _ _ _ hs]
          refine stB (x := (⟨0, 0, 0, 0, 0, 0, ByteArray.empty⟩, false)) ?_ rfl
          repeat (first | with_reducible refine stB rfl ?_ | with_reducible refine stVia ?_ | (with_reducible refine stIf ?_ ?_; · first | omega | (simp only [ByteArray.size_append, ByteArray.size_extract, B1_size, B2_size, B4_size]; omega)) | (with_reducible refine stDT ?_ ?_; · omega) | (with_reducible refine stDF ?_ ?_; · omega) | (with_reducible refine stET ?_ ?_; · omega) | (with_reducible refine stEF ?_ ?_; · omega) | (with_reducible refine stNT ?_ ?_; · omega) | (with_reducible refine stNF ?_ ?_; · omega) | with_reducible refine stTT ?_ | with_reducible refine stFF ?_ | with_reducible refine stNTT ?_ | with_reducible refine stNFF ?_ | with_reducible refine stB (numAt2 hN s 4 6 rfl (by omega)) ?_)
          rfl
    · rw [if_neg e2, ← okS_false proto s src dst false ⟨0, 0, 0, 0, 0, 0, ByteArray.empty⟩, ← get_j hN _ _ _ _ _ _ _ hs]
      exact stEF e2 rfl
def mayF (f : GFlow) : Bool := decide ((0 ≤ f.Src ∧ f.Src < 4294967296) ∧ (0 ≤ f.Dst ∧ f.Dst < 4294967296) ∧ (f.Proto = 6 ∨ f.Proto = 17) ∧ (0 ≤ f.Sport ∧ f.Sport < 65536) ∧ (0 ≤ f.Dport ∧ f.Dport < 65536))
theorem handled_eq (N : Nat) (p : Int) : L_flow_handled N p = some (decide (p = 6 ∨ p = 17)) := by
  unfold L_flow_handled L_flow_handled_1
  simp only [bifS]
  congr 1
  rw [Bool.eq_iff_iff]
  simp only [bifP, decide_eq_true_eq, decide_eq_false_iff_not, beq_iff_eq, beq_eq_false_iff_ne, bne_iff_ne, Bool.not_eq_true', Bool.not_eq_false', Bool.and_eq_true, Bool.false_eq_true, Bool.true_eq_false, reduceCtorEq, and_false, false_and, or_false, false_or, true_and, and_true, Bool.not_eq_eq_eq_not, Bool.not_true, Bool.not_false]
  all_goals omega
theorem FlowMay_eq (N : Nat) (f : GFlow) : L_flow_May N f = some (mayF f) := by
  unfold L_flow_May L_flow_May_1
  simp only [in32, in16, handled_eq, Option.bind_some, bifS]
  congr 1
  rw [Bool.eq_iff_iff]
  unfold mayF
  simp only [bifP, decide_eq_true_eq, decide_eq_false_iff_not, beq_iff_eq, beq_eq_false_iff_ne, bne_iff_ne, Bool.not_eq_true', Bool.not_eq_false', Bool.and_eq_true, Bool.false_eq_true, Bool.true_eq_false, reduceCtorEq, and_false, false_and, or_false, false_or, true_and, and_true, Bool.not_eq_eq_eq_not, Bool.not_true, Bool.not_false]
  all_goals omega
theorem getI_body {s : ByteArray} (h : (getI s).2.1 = 0) : (getI s).1.Body.size ≤ 492 := by
  unfold getI at h ⊢
  unfold badI at h ⊢
  repeat' split at h
  all_goals (try (simp at h; done))
  rename_i c _ _ _ _ _
  rw [if_neg (by assumption), if_neg (by assumption), if_neg (by assumption), if_neg (by assumption), if_neg (by assumption), if_neg (by assumption)]
  simp only [ByteArray.size_extract]
  omega
abbrev FlowR := GFlow × GSeg × Int
def noF (c : Int) : FlowR := (⟨0, 0, 0, 0, 0⟩, ⟨0, 0, 0, 0, 0, 0, ByteArray.empty⟩, c)
def ofF (s : ByteArray) : FlowR :=
  if (getI s).2.1 ≠ 0 then noF (getI s).2.1
  else if ¬ ((getI s).1.Proto = 6 ∨ (getI s).1.Proto = 17) ∨ (getI s).1.Dst ≠ 167772161 then noF 3
  else if (getS (getI s).1.Proto (getI s).1.Body (getI s).1.Src (getI s).1.Dst).2 ≠ 0 then noF 1
  else (⟨(getI s).1.Src, (getI s).1.Dst, (getI s).1.Proto, (getS (getI s).1.Proto (getI s).1.Body (getI s).1.Src (getI s).1.Dst).1.Sport, (getS (getI s).1.Proto (getI s).1.Body (getI s).1.Src (getI s).1.Dst).1.Dport⟩,
    (getS (getI s).1.Proto (getI s).1.Body (getI s).1.Src (getI s).1.Dst).1, 0)
theorem Of_eq {N : Nat} (hN : 1000 ≤ N) (s : ByteArray) : L_flow_Of N s = some (ofF s) := by
  unfold L_flow_Of L_flow_Of_1 ofF
  have h0 := getI_body (s := s)
  refine stB (Get_eq hN s) ?_
  generalize getI s = r at *
  obtain ⟨p, c, e⟩ := r
  dsimp only at *
  by_cases c0 : c = 0
  · have hz := h0 c0
    rw [if_neg (not_not_intro c0), handled_eq]
    by_cases hp : p.Proto = 6 ∨ p.Proto = 17
    · rw [decide_eq_true hp]
      by_cases hd : p.Dst = 167772161
      · rw [if_neg (by omega), show (p.Dst != 167772161) = false by rw [hd]; rfl]
        by_cases he : (getS p.Proto p.Body p.Src p.Dst).2 = 0
        · rw [if_neg (not_not_intro he)]
          repeat (first | with_reducible refine stB rfl ?_ | with_reducible refine stVia ?_ | (with_reducible refine stIf ?_ ?_; · first | omega | (simp only [ByteArray.size_append, ByteArray.size_extract, B1_size, B2_size, B4_size]; omega)) | (with_reducible refine stDT ?_ ?_; · omega) | (with_reducible refine stDF ?_ ?_; · omega) | (with_reducible refine stET ?_ ?_; · omega) | (with_reducible refine stEF ?_ ?_; · omega) | (with_reducible refine stNT ?_ ?_; · omega) | (with_reducible refine stNF ?_ ?_; · omega) | with_reducible refine stTT ?_ | with_reducible refine stFF ?_ | with_reducible refine stNTT ?_ | with_reducible refine stNFF ?_ | with_reducible refine stB (SegGet_eq hN _ _ _ _ (by omega)) ?_)
          rfl
        · rw [if_pos he]
          repeat (first | with_reducible refine stB rfl ?_ | with_reducible refine stVia ?_ | (with_reducible refine stIf ?_ ?_; · first | omega | (simp only [ByteArray.size_append, ByteArray.size_extract, B1_size, B2_size, B4_size]; omega)) | (with_reducible refine stDT ?_ ?_; · omega) | (with_reducible refine stDF ?_ ?_; · omega) | (with_reducible refine stET ?_ ?_; · omega) | (with_reducible refine stEF ?_ ?_; · omega) | (with_reducible refine stNT ?_ ?_; · omega) | (with_reducible refine stNF ?_ ?_; · omega) | with_reducible refine stTT ?_ | with_reducible refine stFF ?_ | with_reducible refine stNTT ?_ | with_reducible refine stNFF ?_ | with_reducible refine stB (SegGet_eq hN _ _ _ _ (by omega)) ?_)
          rfl
      · rw [if_pos (.inr hd), show (p.Dst != 167772161) = true by rw [bne_iff_ne]; exact hd]
        repeat (first | with_reducible refine stB rfl ?_ | with_reducible refine stVia ?_ | (with_reducible refine stIf ?_ ?_; · first | omega | (simp only [ByteArray.size_append, ByteArray.size_extract, B1_size, B2_size, B4_size]; omega)) | (with_reducible refine stDT ?_ ?_; · omega) | (with_reducible refine stDF ?_ ?_; · omega) | (with_reducible refine stET ?_ ?_; · omega) | (with_reducible refine stEF ?_ ?_; · omega) | (with_reducible refine stNT ?_ ?_; · omega) | (with_reducible refine stNF ?_ ?_; · omega) | with_reducible refine stTT ?_ | with_reducible refine stFF ?_ | with_reducible refine stNTT ?_ | with_reducible refine stNFF ?_)
        rfl
    · rw [if_pos (.inl hp), decide_eq_false hp]
      repeat (first | with_reducible refine stB rfl ?_ | with_reducible refine stVia ?_ | (with_reducible refine stIf ?_ ?_; · first | omega | (simp only [ByteArray.size_append, ByteArray.size_extract, B1_size, B2_size, B4_size]; omega)) | (with_reducible refine stDT ?_ ?_; · omega) | (with_reducible refine stDF ?_ ?_; · omega) | (with_reducible refine stET ?_ ?_; · omega) | (with_reducible refine stEF ?_ ?_; · omega) | (with_reducible refine stNT ?_ ?_; · omega) | (with_reducible refine stNF ?_ ?_; · omega) | with_reducible refine stTT ?_ | with_reducible refine stFF ?_ | with_reducible refine stNTT ?_ | with_reducible refine stNFF ?_)
      rfl
  · rw [if_pos c0]
    repeat (first | with_reducible refine stB rfl ?_ | with_reducible refine stVia ?_ | (with_reducible refine stIf ?_ ?_; · first | omega | (simp only [ByteArray.size_append, ByteArray.size_extract, B1_size, B2_size, B4_size]; omega)) | (with_reducible refine stDT ?_ ?_; · omega) | (with_reducible refine stDF ?_ ?_; · omega) | (with_reducible refine stET ?_ ?_; · omega) | (with_reducible refine stEF ?_ ?_; · omega) | (with_reducible refine stNT ?_ ?_; · omega) | (with_reducible refine stNF ?_ ?_; · omega) | with_reducible refine stTT ?_ | with_reducible refine stFF ?_ | with_reducible refine stNTT ?_ | with_reducible refine stNFF ?_)
    rfl
end Go.Proofs.YtmhlgpdoedbedaaGreat.Pu
