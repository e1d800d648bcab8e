import Derived.Test.YtmhlgpdoedbedaaGreatP1
set_option linter.unusedVariables false
set_option linter.unusedSimpArgs false
namespace Go.Proofs.YtmhlgpdoedbedaaGreat.Pu
open Go Go.RowKit Go.Proofs.YtmhlgpdoedbedaaGreat.Sv Go.Proofs.YtmhlgpdoedbedaaGreat.Lf
attribute [local irreducible] L_ref1_Num L_ip_Bytes L_ip_Number L_ref1_Of L_sum_Sum L_ref1_Sum
theorem bifS {α : Type} (c : Bool) (x y : α) : (bif c then some x else some y) = some (bif c then x else y) := by cases c <;> rfl
theorem bifP {c p q : Bool} : (bif c then p else q) = true ↔ (c = true ∧ p = true) ∨ (c = false ∧ q = true) := by cases c <;> simp
def kindS (proto seq ack flags : Int) : Prop := (proto = 6 ∧ (0 ≤ seq ∧ seq < 4294967296) ∧ (0 ≤ ack ∧ ack < 4294967296) ∧ (0 ≤ flags ∧ flags < 64)) ∨ (proto = 17 ∧ seq = 0 ∧ ack = 0 ∧ flags = 0)
instance (a b c d : Int) : Decidable (kindS a b c d) := by unfold kindS; infer_instance
def mayS (g : GSeg) : Bool :=
  decide (((0 ≤ g.Sport ∧ g.Sport < 65536) ∧ (0 ≤ g.Dport ∧ g.Dport < 65536) ∧ (g.Body.size : Int) ≤ 256) ∧ kindS g.Proto g.Seq g.Ack g.Flags)
theorem SegMay_eq (N : Nat) (g : GSeg) : L_seg_May N g = some (mayS g) := by
  unfold L_seg_May L_seg_May_1 L_seg_May_2 L_seg_May_3
  simp only [in32, in16, in6, Option.bind_some, bifS]
  congr 1
  rw [Bool.eq_iff_iff]
  unfold mayS kindS
  simp only [bifP, decide_eq_true_eq, decide_eq_false_iff_not, beq_iff_eq, beq_eq_false_iff_ne, bne_iff_ne, Bool.not_eq_true', Bool.not_eq_false', Bool.and_eq_true, Bool.false_eq_true, Bool.true_eq_false, reduceCtorEq, and_false, false_and, or_false, false_or, true_and, and_true, Bool.not_eq_eq_eq_not, Bool.not_true, Bool.not_false]
  omega
theorem RSegMay_eq (N : Nat) (g : GSeg) : L_ref1_SegMay N g = some (mayS g) := by
  unfold L_ref1_SegMay L_ref1_SegMay_1 L_ref1_SegMay_2 L_ref1_SegMay_3
  simp only [within32, within16, within6, Option.bind_some, bifS]
  congr 1
  rw [Bool.eq_iff_iff]
  unfold mayS kindS
  simp only [bifP, decide_eq_true_eq, decide_eq_false_iff_not, beq_iff_eq, beq_eq_false_iff_ne, bne_iff_ne, Bool.not_eq_true', Bool.not_eq_false', Bool.and_eq_true, Bool.false_eq_true, Bool.true_eq_false, reduceCtorEq, and_false, false_and, or_false, false_or, true_and, and_true, Bool.not_eq_eq_eq_not, Bool.not_true, Bool.not_false]
  omega
def mayE (src dst : Int) : Bool := decide (0 ≤ src ∧ src < 4294967296) && decide (0 ≤ dst ∧ dst < 4294967296)
theorem mayE_parts {src dst : Int} (h : mayE src dst = true) : (0 ≤ src ∧ src < 4294967296) ∧ (0 ≤ dst ∧ dst < 4294967296) := by simpa [mayE] using h
theorem EndsMay_eq (N : Nat) (src dst : Int) : L_seg_ends_may N ⟨src, dst⟩ = some (mayE src dst) := by
  unfold L_seg_ends_may L_seg_ends_may_1
  simp only [in32, Option.bind_some, bifAnd]; rfl
def psL (src dst proto : Int) (n : Nat) : ByteArray := B4 src ++ B4 dst ++ B2 proto ++ B2 n
theorem psL_size (src dst proto : Int) (n : Nat) : (psL src dst proto n).size = 12 := by
  simp only [psL, ByteArray.size_append, B2_size, B4_size]
def sumS (src dst proto : Int) (s : ByteArray) : Int := sumB (psL src dst proto s.size ++ s)
theorem EndsSum_eq {N : Nat} (hN : 1000 ≤ N) (src dst proto : Int) (s : ByteArray) (hs : s.size ≤ 140737488351232) (hk : s.size + 30 ≤ N) : L_seg_ends_sum N ⟨src, dst⟩ proto s = some (sumS src dst proto s) := by
  have hz := psL_size src dst proto s.size
  have hsum := psum_eq hN (psL src dst proto s.size ++ s) (by rw [ByteArray.size_append, hz]; omega) (by rw [ByteArray.size_append, hz]; omega)
  unfold psL at hsum
  unfold L_seg_ends_sum
  repeat (first | with_reducible refine stB rfl ?_ | with_reducible refine stVia ?_ | (with_reducible refine stIf ?_ ?_; · first | omega | (simp only [ByteArray.size_append, ByteArray.size_extract, B1_size, B2_size, B4_size]; omega)) | (with_reducible refine stDT ?_ ?_; · omega) | (with_reducible refine stDF ?_ ?_; · omega) | (with_reducible refine stET ?_ ?_; · omega) | (with_reducible refine stEF ?_ ?_; · omega) | (with_reducible refine stNT ?_ ?_; · omega) | (with_reducible refine stNF ?_ ?_; · omega) | with_reducible refine stTT ?_ | with_reducible refine stFF ?_ | with_reducible refine stNTT ?_ | with_reducible refine stNFF ?_ | with_reducible refine stB (bytes2 hN _) ?_ | with_reducible refine stB (bytes4 hN _) ?_ | with_reducible refine stB (hsum) ?_)
  rfl
theorem Pseudo_eq {N : Nat} (hN : 1000 ≤ N) (src dst proto : Int) (s : ByteArray) (hs : s.size ≤ 140737488351232) (hk : s.size + 30 ≤ N) : L_ref1_pseudo N proto s src dst = some (sumS src dst proto s) := by
  have hz := psL_size src dst proto s.size
  have hsum := rsum_eq hN (psL src dst proto s.size ++ s) (by rw [ByteArray.size_append, hz]; omega) (by rw [ByteArray.size_append, hz]; omega)
  unfold psL at hsum
  unfold L_ref1_pseudo
  repeat (first | with_reducible refine stB rfl ?_ | with_reducible refine stVia ?_ | (with_reducible refine stIf ?_ ?_; · first | omega | (simp only [ByteArray.size_append, ByteArray.size_extract, B1_size, B2_size, B4_size]; omega)) | (with_reducible refine stDT ?_ ?_; · omega) | (with_reducible refine stDF ?_ ?_; · omega) | (with_reducible refine stET ?_ ?_; · omega) | (with_reducible refine stEF ?_ ?_; · omega) | (with_reducible refine stNT ?_ ?_; · omega) | (with_reducible refine stNF ?_ ?_; · omega) | with_reducible refine stTT ?_ | with_reducible refine stFF ?_ | with_reducible refine stNTT ?_ | with_reducible refine stNFF ?_ | with_reducible refine stB (num2 hN _) ?_ | with_reducible refine stB (num4 hN _) ?_ | with_reducible refine stB (hsum) ?_)
  rfl
abbrev SegR := GSeg × Int
def badS : SegR := (⟨0, 0, 0, 0, 0, 0, ByteArray.empty⟩, 300)
def okS (proto : Int) (s : ByteArray) (src dst : Int) (is un : Bool) (g : GSeg) : SegR :=
  if is = true ∧ mayS g = true ∧ mayE src dst = true ∧ (un = true ∨ sumS src dst proto s = 65535) then (g, 0) else badS
def getS (proto : Int) (s : ByteArray) (src dst : Int) : SegR :=
  if proto = 6 then
    if s.size < 20 ∨ bt s 12 ≠ 80 then badS
    else okS 6 s src dst true false ⟨6, N2 s 0, N2 s 2, N4 s 4, N4 s 8, bt s 13, s.extract 20 s.size⟩
  else if proto = 17 then
    if s.size < 8 ∨ N2 s 4 ≠ s.size then badS
    else okS 17 s src dst true (decide (N2 s 6 = 0)) ⟨17, N2 s 0, N2 s 2, 0, 0, 0, s.extract 8 s.size⟩
  else badS
theorem okS_false (proto : Int) (s : ByteArray) (src dst : Int) (un : Bool) (g : GSeg) : okS proto s src dst false un g = badS := by
  unfold okS; rw [if_neg (fun h => by cases h.1)]
theorem get_j {N : Nat} (hN : 1000 ≤ N) (proto : Int) (s : ByteArray) (src dst : Int) (is un : Bool) (g : GSeg) (hs : s.size ≤ 512) :
    L_seg_Get_1 N proto s 0 0 0 0 0 0 ByteArray.empty src dst g.Proto g.Sport g.Dport g.Seq g.Ack g.Flags g.Body is un = some (okS proto s src dst is un g) := by
  unfold L_seg_Get_1 L_seg_Get_2
  cases is
  · rw [okS_false]; rfl
  · rw [show (⟨g.Proto, g.Sport, g.Dport, g.Seq, g.Ack, g.Flags, g.Body⟩ : GSeg) = g from rfl, SegMay_eq]
    unfold okS
    by_cases a : mayS g = true
    · rw [a, EndsMay_eq]
      by_cases b : mayE src dst = true
      · rw [b]
        cases un
        · have es := EndsSum_eq hN src dst proto s (by omega) (by omega)
          by_cases c : sumS src dst proto s = 65535
          · rw [if_pos ⟨rfl, rfl, rfl, .inr c⟩]
            repeat (first | with_reducible refine stB rfl ?_ | with_reducible refine stVia ?_ | (with_reducible refine stIf ?_ ?_; · first | omega | (simp only [ByteArray.size_append, ByteArray.size_extract, B1_size, B2_size, B4_size]; omega)) | (with_reducible refine stDT ?_ ?_; · omega) | (with_reducible refine stDF ?_ ?_; · omega) | (with_reducible refine stET ?_ ?_; · omega) | (with_reducible refine stEF ?_ ?_; · omega) | (with_reducible refine stNT ?_ ?_; · omega) | (with_reducible refine stNF ?_ ?_; · omega) | with_reducible refine stTT ?_ | with_reducible refine stFF ?_ | with_reducible refine stNTT ?_ | with_reducible refine stNFF ?_ | with_reducible refine stB (es) ?_ | with_reducible refine stB (rfl) ?_)
            rfl
          · rw [if_neg (fun h => by rcases h.2.2.2 with e | e; cases e; exact c e)]
            repeat (first | with_reducible refine stB rfl ?_ | with_reducible refine stVia ?_ | (with_reducible refine stIf ?_ ?_; · first | omega | (simp only [ByteArray.size_append, ByteArray.size_extract, B1_size, B2_size, B4_size]; omega)) | (with_reducible refine stDT ?_ ?_; · omega) | (with_reducible refine stDF ?_ ?_; · omega) | (with_reducible refine stET ?_ ?_; · omega) | (with_reducible refine stEF ?_ ?_; · omega) | (with_reducible refine stNT ?_ ?_; · omega) | (with_reducible refine stNF ?_ ?_; · omega) | with_reducible refine stTT ?_ | with_reducible refine stFF ?_ | with_reducible refine stNTT ?_ | with_reducible refine stNFF ?_ | with_reducible refine stB (es) ?_ | with_reducible refine stB (rfl) ?_)
            rfl
        · rw [if_pos ⟨rfl, rfl, rfl, .inl rfl⟩]; rfl
      · rw [if_neg (fun h => b h.2.2.1)]
        rw [Bool.not_eq_true] at b
        rw [b]; rfl
    · rw [if_neg (fun h => a h.2.1)]
      rw [Bool.not_eq_true] at a
      rw [a]; rfl
theorem zero_two (s : ByteArray) (h : ¬ s.size < 8) : ((s.extract 6 8).toList == (ByteArray.mk #[0, 0]).toList) = decide (N2 s 6 = 0) := by
  have hz : (s.extract 6 8).size = 2 := by rw [ByteArray.size_extract]; omega
  have e := N2_extract s 6 (by omega)
  rw [toList_beq, ← e]
  generalize s.extract 6 8 = t at *
  have hl := bytesL_len t
  have hr := bytesL_range t
  rw [Bool.eq_iff_iff, decide_eq_true_iff, decide_eq_true_iff]
  unfold N2
  rw [bt_get, bt_get]
  constructor
  · rintro rfl; rfl
  · intro h
    apply bytesL_inj
    rw [show bytesL (ByteArray.mk #[0, 0]) = [0, 0] from rfl]
    generalize bytesL t = L at *
    rw [hz] at hl
    match L, hl with
    | [a, b], _ =>
      have r1 := hr a (by simp); have r2 := hr b (by simp)
      simp only [List.getD_cons_zero, List.getD_cons_succ] at h
      rw [show a = 0 by omega, show b = 0 by omega]
theorem SegGet_eq {N : Nat} (hN : 1000 ≤ N) (proto : Int) (s : ByteArray) (src dst : Int) (hs : s.size ≤ 512) : L_seg_Get N proto s src dst = some (getS proto s src dst) := by
  have hb := bt_range s 13
  unfold L_seg_Get L_seg_tcp L_seg_udp L_seg_tcp_1 L_seg_udp_1 getS
  by_cases e : proto = 6
  · subst e
    rw [if_pos rfl]
    by_cases c1 : s.size < 20
    · rw [if_pos (show s.size < 20 ∨ bt s 12 ≠ 80 from .inl c1), ← okS_false 6 s src dst false ⟨0, 0, 0, 0, 0, 0, ByteArray.empty⟩, ← get_j hN _ _ _ _ _ _ _ hs]
      refine stET rfl (stB (x := (⟨0, 0, 0, 0, 0, 0, ByteArray.empty⟩, false)) ?_ rfl)
      repeat (first | with_reducible refine stB rfl ?_ | with_reducible refine stVia ?_ | (with_reducible refine stIf ?_ ?_; · first | omega | (simp only [ByteArray.size_append, ByteArray.size_extract, B1_size, B2_size, B4_size]; omega)) | (with_reducible refine stDT ?_ ?_; · omega) | (with_reducible refine stDF ?_ ?_; · omega) | (with_reducible refine stET ?_ ?_; · omega) | (with_reducible refine stEF ?_ ?_; · omega) | (with_reducible refine stNT ?_ ?_; · omega) | (with_reducible refine stNF ?_ ?_; · omega) | with_reducible refine stTT ?_ | with_reducible refine stFF ?_ | with_reducible refine stNTT ?_ | with_reducible refine stNFF ?_)
      rfl
    · by_cases c2 : bt s 12 = 80
      · rw [if_neg (show ¬ (s.size < 20 ∨ bt s 12 ≠ 80) by omega), ← get_j hN _ _ _ _ _ _ _ hs]
        refine stET rfl (stB (x := (⟨6, N2 s 0, N2 s 2, N4 s 4, N4 s 8, bt s 13, s.extract 20 s.size⟩, true)) ?_ rfl)
        rw [show (bt s 12 != 80) = false by rw [c2]; rfl]
        repeat (first | with_reducible refine stB rfl ?_ | with_reducible refine stVia ?_ | (with_reducible refine stIf ?_ ?_; · first | omega | (simp only [ByteArray.size_append, ByteArray.size_extract, B1_size, B2_size, B4_size]; omega)) | (with_reducible refine stDT ?_ ?_; · omega) | (with_reducible refine stDF ?_ ?_; · omega) | (with_reducible refine stET ?_ ?_; · omega) | (with_reducible refine stEF ?_ ?_; · omega) | (with_reducible refine stNT ?_ ?_; · omega) | (with_reducible refine stNF ?_ ?_; · omega) | with_reducible refine stTT ?_ | with_reducible refine stFF ?_ | with_reducible refine stNTT ?_ | with_reducible refine stNFF ?_ | with_reducible refine stB (numAt2 hN s 0 2 rfl (by omega)) ?_ | with_reducible refine stB (numAt2 hN s 2 4 rfl (by omega)) ?_ | with_reducible refine stB (numAt4 hN s 4 8 rfl (by omega)) ?_ | with_reducible refine stB (numAt4 hN s 8 12 rfl (by omega)) ?_)
        rw [w64 (by omega) (by omega)]
      · rw [if_pos (show s.size < 20 ∨ bt s 12 ≠ 80 from .inr c2), ← okS_false 6 s src dst false ⟨0, 0, 0, 0, 0, 0, ByteArray.empty⟩, ← get_j hN _ _ _ _ _ _ _ hs]
        refine stET rfl (stB (x := (⟨0, 0, 0, 0, 0, 0, ByteArray.empty⟩, false)) ?_ rfl)
        rw [show (bt s 12 != 80) = true by rw [bne_iff_ne]; exact c2]
        repeat (first | with_reducible refine stB rfl ?_ | with_reducible refine stVia ?_ | (with_reducible refine stIf ?_ ?_; · first | omega | (simp only [ByteArray.size_append, ByteArray.size_extract, B1_size, B2_size, B4_size]; omega)) | (with_reducible refine stDT ?_ ?_; · omega) | (with_reducible refine stDF ?_ ?_; · omega) | (with_reducible refine stET ?_ ?_; · omega) | (with_reducible refine stEF ?_ ?_; · omega) | (with_reducible refine stNT ?_ ?_; · omega) | (with_reducible refine stNF ?_ ?_; · omega) | with_reducible refine stTT ?_ | with_reducible refine stFF ?_ | with_reducible refine stNTT ?_ | with_reducible refine stNFF ?_)
        rfl
  · rw [if_neg e]
    refine stEF e ?_
    by_cases e2 : proto = 17
    · subst e2
      rw [if_pos rfl]
      refine stET rfl ?_
      by_cases c1 : s.size < 8
      · rw [if_pos (show s.size < 8 ∨ N2 s 4 ≠ s.size from .inl c1), ← okS_false 17 s src dst false ⟨0, 0, 0, 0, 0, 0, ByteArray.empty⟩, ← get_j hN _ _ _ _ _ _ _ hs]
        refine stB (x := (⟨0, 0, 0, 0, 0, 0, ByteArray.empty⟩, false)) ?_ rfl
        repeat (first | with_reducible refine stB rfl ?_ | with_reducible refine stVia ?_ | (with_reducible refine stIf ?_ ?_; · first | omega | (simp only [ByteArray.size_append, ByteArray.size_extract, B1_size, B2_size, B4_size]; omega)) | (with_reducible refine stDT ?_ ?_; · omega) | (with_reducible refine stDF ?_ ?_; · omega) | (with_reducible refine stET ?_ ?_; · omega) | (with_reducible refine stEF ?_ ?_; · omega) | (with_reducible refine stNT ?_ ?_; · omega) | (with_reducible refine stNF ?_ ?_; · omega) | with_reducible refine stTT ?_ | with_reducible refine stFF ?_ | with_reducible refine stNTT ?_ | with_reducible refine stNFF ?_)
        rfl
      · by_cases c2 : N2 s 4 = s.size
        · rw [if_neg (show ¬ (s.size < 8 ∨ N2 s 4 ≠ s.size) by omega), ← get_j hN _ _ _ _ _ _ _ hs]
          refine stB (x := (⟨17, N2 s 0, N2 s 2, 0, 0, 0, s.extract 8 s.size⟩, true)) ?_ ?_
          · repeat (first | with_reducible refine stB rfl ?_ | with_reducible refine stVia ?_ | (with_reducible refine stIf ?_ ?_; · first | omega | (simp only [ByteArray.size_append, ByteArray.size_extract, B1_size, B2_size, B4_size]; omega)) | (with_reducible refine stDT ?_ ?_; · omega) | (with_reducible refine stDF ?_ ?_; · omega) | (with_reducible refine stET ?_ ?_; · omega) | (with_reducible refine stEF ?_ ?_; · omega) | (with_reducible refine stNT ?_ ?_; · omega) | (with_reducible refine stNF ?_ ?_; · omega) | with_reducible refine stTT ?_ | with_reducible refine stFF ?_ | with_reducible refine stNTT ?_ | with_reducible refine stNFF ?_ | with_reducible refine stB (numAt2 hN s 4 6 rfl (by omega)) ?_ | with_reducible refine stB (numAt2 hN s 0 2 rfl (by omega)) ?_ | with_reducible refine stB (numAt2 hN s 2 4 rfl (by omega)) ?_)
            rfl
          · repeat (first | with_reducible refine stB rfl ?_ | with_reducible refine stVia ?_ | (with_reducible refine stIf ?_ ?_; · first | omega | (simp only [ByteArray.size_append, ByteArray.size_extract, B1_size, B2_size, B4_size]; omega)) | (with_reducible refine stDT ?_ ?_; · omega) | (with_reducible refine stDF ?_ ?_; · omega) | (with_reducible refine stET ?_ ?_; · omega) | (with_reducible refine stEF ?_ ?_; · omega) | (with_reducible refine stNT ?_ ?_; · omega) | (with_reducible refine stNF ?_ ?_; · omega) | with_reducible refine stTT ?_ | with_reducible refine stFF ?_ | with_reducible refine stNTT ?_ | with_reducible refine stNFF ?_)
            rw [zero_two s c1]
        · rw [if_pos (show s.size < 8 ∨ N2 s 4 ≠ s.size from .inr c2), ← okS_false 17 s src dst false ⟨0, 0, 0, 0, 0, 0, ByteArray.empty⟩, ← get_j hN _ _ _ _ _ _ _ hs]
          refine stB (x := (⟨0, 0, 0, 0, 0, 0, ByteArray.empty⟩, false)) ?_ rfl
          repeat (first | with_reducible refine stB rfl ?_ | with_reducible refine stVia ?_ | (with_reducible refine stIf ?_ ?_; · first | omega | (simp only [ByteArray.size_append, ByteArray.size_extract, B1_size, B2_size, B4_size]; omega)) | (with_reducible refine stDT ?_ ?_; · omega) | (with_reducible refine stDF ?_ ?_; · omega) | (with_reducible refine stET ?_ ?_; · omega) | (with_reducible refine stEF ?_ ?_; · omega) | (with_reducible refine stNT ?_ ?_; · omega) | (with_reducible refine stNF ?_ ?_; · omega) | with_reducible refine stTT ?_ | with_reducible refine stFF ?_ | with_reducible refine stNTT ?_ | with_reducible refine stNFF ?_ | with_reducible refine stB (numAt2 hN s 4 6 rfl (by omega)) ?_)
          rfl
    · rw [if_neg e2, ← okS_false proto s src dst false ⟨0, 0, 0, 0, 0, 0, ByteArray.empty⟩, ← get_j hN _ _ _ _ _ _ _ hs]
      exact stEF e2 rfl
theorem getS_E {proto : Int} {s : ByteArray} {src dst : Int} (h : ¬ mayE src dst = true) : getS proto s src dst = badS := by
  unfold getS okS
  split
  · split
    · rfl
    · rw [if_neg (fun hh => h hh.2.2.1)]
  · split
    · split
      · rfl
      · rw [if_neg (fun hh => h hh.2.2.1)]
    · rfl
theorem RGet_3 (N : Nat) (g : GSeg) (ok : Bool) : L_ref1_GetSeg_3 N 0 0 0 0 0 0 ByteArray.empty g.Proto g.Sport g.Dport g.Seq g.Ack g.Flags g.Body ok = some (if ok = true ∧ mayS g = true then (g, 0) else badS) := by
  unfold L_ref1_GetSeg_3 L_ref1_GetSeg_4
  cases ok
  · rw [if_neg (fun hh => by cases hh.1)]; rfl
  · rw [show (⟨g.Proto, g.Sport, g.Dport, g.Seq, g.Ack, g.Flags, g.Body⟩ : GSeg) = g from rfl, RSegMay_eq]
    by_cases a : mayS g = true
    · rw [if_pos ⟨rfl, a⟩, a]; rfl
    · rw [if_neg (fun hh => a hh.2)]
      rw [Bool.not_eq_true] at a
      rw [a]; rfl
theorem getS_6bad {proto : Int} {s : ByteArray} {src dst : Int} (p : proto = 6) (h : s.size < 20 ∨ bt s 12 ≠ 80) : getS proto s src dst = badS := by
  unfold getS; rw [if_pos p]; exact if_pos h
theorem getS_6 {proto : Int} {s : ByteArray} {src dst : Int} (p : proto = 6) (h : ¬ s.size < 20) (h2 : bt s 12 = 80) : getS proto s src dst = okS proto s src dst true false ⟨proto, N2 s 0, N2 s 2, N4 s 4, N4 s 8, bt s 13, s.extract 20 s.size⟩ := by
  subst p; unfold getS; rw [if_pos rfl]; exact if_neg (by omega)
theorem getS_17bad {proto : Int} {s : ByteArray} {src dst : Int} (p : proto = 17) (h : s.size < 8 ∨ N2 s 4 ≠ s.size) : getS proto s src dst = badS := by
  subst p; unfold getS; rw [if_neg (by decide), if_pos rfl]; exact if_pos h
theorem getS_17 {proto : Int} {s : ByteArray} {src dst : Int} (p : proto = 17) (h : ¬ s.size < 8) (h2 : N2 s 4 = s.size) : getS proto s src dst = okS proto s src dst true (decide (N2 s 6 = 0)) ⟨proto, N2 s 0, N2 s 2, 0, 0, 0, s.extract 8 s.size⟩ := by
  subst p; unfold getS; rw [if_neg (by decide), if_pos rfl]; exact if_neg (by omega)
theorem getS_no {proto : Int} {s : ByteArray} {src dst : Int} (p : ¬ proto = 6) (q : ¬ proto = 17) : getS proto s src dst = badS := by
  unfold getS; rw [if_neg p, if_neg q]
theorem okS_if {proto : Int} {s : ByteArray} {src dst : Int} {un : Bool} {g : GSeg} (he : mayE src dst = true) : okS proto s src dst true un g = if (un || sumS src dst proto s == 65535) = true ∧ mayS g = true then (g, 0) else badS := by
  unfold okS
  refine ite_congr (propext ⟨fun hh => ⟨by simpa using hh.2.2.2, hh.2.1⟩, fun hh => ⟨rfl, hh.2, he, by simpa using hh.1⟩⟩) (fun _ => rfl) (fun _ => rfl)
theorem RGetSeg_eq {N : Nat} (hN : 1000 ≤ N) (proto : Int) (s : ByteArray) (src dst : Int) (hs : s.size ≤ 512) : L_ref1_GetSeg N proto s src dst = some (getS proto s src dst) := by
  have hb := bt_range s 13
  unfold L_ref1_GetSeg L_ref1_GetSeg_1 L_ref1_GetSeg_2
  rw [within32, within32]
  by_cases e1 : 0 ≤ src ∧ src < 4294967296
  · by_cases e2 : 0 ≤ dst ∧ dst < 4294967296
    · have he : mayE src dst = true := by unfold mayE; rw [decide_eq_true e1, decide_eq_true e2]; rfl
      rw [decide_eq_true e1, decide_eq_true e2]
      by_cases c0 : s.size < 8
      · rw [show getS proto s src dst = badS by
          by_cases p6 : proto = 6
          · exact getS_6bad p6 (.inl (by omega))
          · by_cases p17 : proto = 17
            · exact getS_17bad p17 (.inl c0)
            · exact getS_no p6 p17, decide_eq_true (show (s.size : Int) < 8 by omega)]
        rfl
      rw [decide_eq_false (show ¬ (s.size : Int) < 8 by omega)]
      have ps := Pseudo_eq hN src dst proto s (by omega) (by omega)
      by_cases p6 : proto = 6
      · by_cases c1 : s.size < 20
        · rw [getS_6bad p6 (.inl c1), decide_eq_false (show ¬ (s.size : Int) ≥ 20 by omega)]
          repeat (first | with_reducible refine stB rfl ?_ | with_reducible refine stVia ?_ | (with_reducible refine stIf ?_ ?_; · first | omega | (simp only [ByteArray.size_append, ByteArray.size_extract, B1_size, B2_size, B4_size]; omega)) | (with_reducible refine stDT ?_ ?_; · omega) | (with_reducible refine stDF ?_ ?_; · omega) | (with_reducible refine stET ?_ ?_; · omega) | (with_reducible refine stEF ?_ ?_; · omega) | (with_reducible refine stNT ?_ ?_; · omega) | (with_reducible refine stNF ?_ ?_; · omega) | with_reducible refine stTT ?_ | with_reducible refine stFF ?_ | with_reducible refine stNTT ?_ | with_reducible refine stNFF ?_ | with_reducible refine stB (ofAt2 hN s 0 2 rfl (by omega)) ?_ | with_reducible refine stB (ofAt2 hN s 2 4 rfl (by omega)) ?_)
          rfl
        · rw [decide_eq_true (show (s.size : Int) ≥ 20 by omega)]
          by_cases c2 : bt s 12 = 80
          · have h3 := RGet_3 N ⟨proto, N2 s 0, N2 s 2, N4 s 4, N4 s 8, bt s 13, s.extract 20 s.size⟩ (sumS src dst proto s == 65535)
            repeat (first | with_reducible refine stB rfl ?_ | with_reducible refine stVia ?_ | (with_reducible refine stIf ?_ ?_; · first | omega | (simp only [ByteArray.size_append, ByteArray.size_extract, B1_size, B2_size, B4_size]; omega)) | (with_reducible refine stDT ?_ ?_; · omega) | (with_reducible refine stDF ?_ ?_; · omega) | (with_reducible refine stET ?_ ?_; · omega) | (with_reducible refine stEF ?_ ?_; · omega) | (with_reducible refine stNT ?_ ?_; · omega) | (with_reducible refine stNF ?_ ?_; · omega) | with_reducible refine stTT ?_ | with_reducible refine stFF ?_ | with_reducible refine stNTT ?_ | with_reducible refine stNFF ?_ | with_reducible refine stB (ofAt2 hN s 0 2 rfl (by omega)) ?_ | with_reducible refine stB (ofAt2 hN s 2 4 rfl (by omega)) ?_ | with_reducible refine stB (ofAt4 hN s 4 8 rfl (by omega)) ?_ | with_reducible refine stB (ofAt4 hN s 8 12 rfl (by omega)) ?_ | with_reducible refine stB (ps) ?_)
            rw [w64 (by omega) (by omega)]
            refine h3.trans ?_
            rw [getS_6 p6 c1 c2, okS_if he, Bool.false_or]
          · have h3 := RGet_3 N ⟨proto, N2 s 0, N2 s 2, N4 s 4, N4 s 8, bt s 13, s.extract 20 s.size⟩ false
            repeat (first | with_reducible refine stB rfl ?_ | with_reducible refine stVia ?_ | (with_reducible refine stIf ?_ ?_; · first | omega | (simp only [ByteArray.size_append, ByteArray.size_extract, B1_size, B2_size, B4_size]; omega)) | (with_reducible refine stDT ?_ ?_; · omega) | (with_reducible refine stDF ?_ ?_; · omega) | (with_reducible refine stET ?_ ?_; · omega) | (with_reducible refine stEF ?_ ?_; · omega) | (with_reducible refine stNT ?_ ?_; · omega) | (with_reducible refine stNF ?_ ?_; · omega) | with_reducible refine stTT ?_ | with_reducible refine stFF ?_ | with_reducible refine stNTT ?_ | with_reducible refine stNFF ?_ | with_reducible refine stB (ofAt2 hN s 0 2 rfl (by omega)) ?_ | with_reducible refine stB (ofAt2 hN s 2 4 rfl (by omega)) ?_ | with_reducible refine stB (ofAt4 hN s 4 8 rfl (by omega)) ?_ | with_reducible refine stB (ofAt4 hN s 8 12 rfl (by omega)) ?_)
            rw [w64 (by omega) (by omega)]
            refine h3.trans ?_
            rw [if_neg (fun hh => by cases hh.1), getS_6bad p6 (.inr c2)]
      · by_cases p17 : proto = 17
        · by_cases c2 : N2 s 4 = s.size
          · by_cases c3 : N2 s 6 = 0
            · have h3 := RGet_3 N ⟨proto, N2 s 0, N2 s 2, 0, 0, 0, s.extract 8 s.size⟩ true
              repeat (first | with_reducible refine stB rfl ?_ | with_reducible refine stVia ?_ | (with_reducible refine stIf ?_ ?_; · first | omega | (simp only [ByteArray.size_append, ByteArray.size_extract, B1_size, B2_size, B4_size]; omega)) | (with_reducible refine stDT ?_ ?_; · omega) | (with_reducible refine stDF ?_ ?_; · omega) | (with_reducible refine stET ?_ ?_; · omega) | (with_reducible refine stEF ?_ ?_; · omega) | (with_reducible refine stNT ?_ ?_; · omega) | (with_reducible refine stNF ?_ ?_; · omega) | with_reducible refine stTT ?_ | with_reducible refine stFF ?_ | with_reducible refine stNTT ?_ | with_reducible refine stNFF ?_ | with_reducible refine stB (ofAt2 hN s 0 2 rfl (by omega)) ?_ | with_reducible refine stB (ofAt2 hN s 2 4 rfl (by omega)) ?_ | with_reducible refine stB (ofAt2 hN s 4 6 rfl (by omega)) ?_ | with_reducible refine stB (ofAt2 hN s 6 8 rfl (by omega)) ?_ | with_reducible refine stB (ps) ?_)
              refine h3.trans ?_
              rw [getS_17 p17 c0 c2, okS_if he, decide_eq_true c3, Bool.true_or]
            · have h3 := RGet_3 N ⟨proto, N2 s 0, N2 s 2, 0, 0, 0, s.extract 8 s.size⟩ (sumS src dst proto s == 65535)
              repeat (first | with_reducible refine stB rfl ?_ | with_reducible refine stVia ?_ | (with_reducible refine stIf ?_ ?_; · first | omega | (simp only [ByteArray.size_append, ByteArray.size_extract, B1_size, B2_size, B4_size]; omega)) | (with_reducible refine stDT ?_ ?_; · omega) | (with_reducible refine stDF ?_ ?_; · omega) | (with_reducible refine stET ?_ ?_; · omega) | (with_reducible refine stEF ?_ ?_; · omega) | (with_reducible refine stNT ?_ ?_; · omega) | (with_reducible refine stNF ?_ ?_; · omega) | with_reducible refine stTT ?_ | with_reducible refine stFF ?_ | with_reducible refine stNTT ?_ | with_reducible refine stNFF ?_ | with_reducible refine stB (ofAt2 hN s 0 2 rfl (by omega)) ?_ | with_reducible refine stB (ofAt2 hN s 2 4 rfl (by omega)) ?_ | with_reducible refine stB (ofAt2 hN s 4 6 rfl (by omega)) ?_ | with_reducible refine stB (ofAt2 hN s 6 8 rfl (by omega)) ?_ | with_reducible refine stB (ps) ?_)
              refine h3.trans ?_
              rw [getS_17 p17 c0 c2, okS_if he, decide_eq_false c3, Bool.false_or]
          · have h3 := RGet_3 N ⟨proto, N2 s 0, N2 s 2, 0, 0, 0, s.extract 8 s.size⟩ false
            repeat (first | with_reducible refine stB rfl ?_ | with_reducible refine stVia ?_ | (with_reducible refine stIf ?_ ?_; · first | omega | (simp only [ByteArray.size_append, ByteArray.size_extract, B1_size, B2_size, B4_size]; omega)) | (with_reducible refine stDT ?_ ?_; · omega) | (with_reducible refine stDF ?_ ?_; · omega) | (with_reducible refine stET ?_ ?_; · omega) | (with_reducible refine stEF ?_ ?_; · omega) | (with_reducible refine stNT ?_ ?_; · omega) | (with_reducible refine stNF ?_ ?_; · omega) | with_reducible refine stTT ?_ | with_reducible refine stFF ?_ | with_reducible refine stNTT ?_ | with_reducible refine stNFF ?_ | with_reducible refine stB (ofAt2 hN s 0 2 rfl (by omega)) ?_ | with_reducible refine stB (ofAt2 hN s 2 4 rfl (by omega)) ?_ | with_reducible refine stB (ofAt2 hN s 4 6 rfl (by omega)) ?_)
            refine h3.trans ?_
            rw [if_neg (fun hh => by cases hh.1), getS_17bad p17 (.inr c2)]
        · rw [getS_no p6 p17]
          have h3 := RGet_3 N ⟨proto, N2 s 0, N2 s 2, 0, 0, 0, ByteArray.empty⟩ false
          repeat (first | with_reducible refine stB rfl ?_ | with_reducible refine stVia ?_ | (with_reducible refine stIf ?_ ?_; · first | omega | (simp only [ByteArray.size_append, ByteArray.size_extract, B1_size, B2_size, B4_size]; omega)) | (with_reducible refine stDT ?_ ?_; · omega) | (with_reducible refine stDF ?_ ?_; · omega) | (with_reducible refine stET ?_ ?_; · omega) | (with_reducible refine stEF ?_ ?_; · omega) | (with_reducible refine stNT ?_ ?_; · omega) | (with_reducible refine stNF ?_ ?_; · omega) | with_reducible refine stTT ?_ | with_reducible refine stFF ?_ | with_reducible refine stNTT ?_ | with_reducible refine stNFF ?_ | with_reducible refine stB (ofAt2 hN s 0 2 rfl (by omega)) ?_ | with_reducible refine stB (ofAt2 hN s 2 4 rfl (by omega)) ?_)
          refine h3.trans ?_
          rw [if_neg (fun hh => by cases hh.1)]
    · rw [getS_E (fun h => e2 (mayE_parts h).2), decide_eq_true e1, decide_eq_false e2]
      rfl
  · rw [getS_E (fun h => e1 (mayE_parts h).1), decide_eq_false e1]
    rfl
def mayF (f : GFlow) : Bool := decide ((0 ≤ f.Src ∧ f.Src < 4294967296) ∧ (0 ≤ f.Dst ∧ f.Dst < 4294967296) ∧ (f.Proto = 6 ∨ f.Proto = 17) ∧ (0 ≤ f.Sport ∧ f.Sport < 65536) ∧ (0 ≤ f.Dport ∧ f.Dport < 65536))
theorem handled_eq (N : Nat) (p : Int) : L_flow_handled N p = some (decide (p = 6 ∨ p = 17)) := by
  unfold L_flow_handled L_flow_handled_1
  simp only [bifS]
  congr 1
  rw [Bool.eq_iff_iff]
  simp only [bifP, decide_eq_true_eq, decide_eq_false_iff_not, beq_iff_eq, beq_eq_false_iff_ne, bne_iff_ne, Bool.not_eq_true', Bool.not_eq_false', Bool.and_eq_true, Bool.false_eq_true, Bool.true_eq_false, reduceCtorEq, and_false, false_and, or_false, false_or, true_and, and_true, Bool.not_eq_eq_eq_not, Bool.not_true, Bool.not_false]
  all_goals omega
theorem FlowMay_eq (N : Nat) (f : GFlow) : L_flow_May N f = some (mayF f) := by
  unfold L_flow_May L_flow_May_1
  simp only [in32, in16, handled_eq, Option.bind_some, bifS]
  congr 1
  rw [Bool.eq_iff_iff]
  unfold mayF
  simp only [bifP, decide_eq_true_eq, decide_eq_false_iff_not, beq_iff_eq, beq_eq_false_iff_ne, bne_iff_ne, Bool.not_eq_true', Bool.not_eq_false', Bool.and_eq_true, Bool.false_eq_true, Bool.true_eq_false, reduceCtorEq, and_false, false_and, or_false, false_or, true_and, and_true, Bool.not_eq_eq_eq_not, Bool.not_true, Bool.not_false]
  all_goals omega
theorem RFlowMay_eq (N : Nat) (f : GFlow) : L_ref1_FlowMay N f = some (mayF f) := by
  unfold L_ref1_FlowMay L_ref1_FlowMay_1
  simp only [within32, within16, Option.bind_some, bifS]
  congr 1
  rw [Bool.eq_iff_iff]
  unfold mayF
  simp only [bifP, decide_eq_true_eq, decide_eq_false_iff_not, beq_iff_eq, beq_eq_false_iff_ne, bne_iff_ne, Bool.not_eq_true', Bool.not_eq_false', Bool.and_eq_true, Bool.false_eq_true, Bool.true_eq_false, reduceCtorEq, and_false, false_and, or_false, false_or, true_and, and_true, Bool.not_eq_eq_eq_not, Bool.not_true, Bool.not_false]
  all_goals omega
theorem getI_body {s : ByteArray} (h : (getI s).2.1 = 0) : (getI s).1.Body.size ≤ 492 := by
  unfold getI at h ⊢
  unfold badI at h ⊢
  repeat' split at h
  all_goals (try (simp at h; done))
  rename_i c _ _ _ _ _
  rw [if_neg (by assumption), if_neg (by assumption), if_neg (by assumption), if_neg (by assumption), if_neg (by assumption), if_neg (by assumption)]
  simp only [ByteArray.size_extract]
  omega
abbrev FlowR := GFlow × GSeg × Int
def noF (c : Int) : FlowR := (⟨0, 0, 0, 0, 0⟩, ⟨0, 0, 0, 0, 0, 0, ByteArray.empty⟩, c)
def ofF (s : ByteArray) : FlowR :=
  if (getI s).2.1 ≠ 0 then noF (getI s).2.1
  else if ¬ ((getI s).1.Proto = 6 ∨ (getI s).1.Proto = 17) ∨ (getI s).1.Dst ≠ 167772161 then noF 3
  else if (getS (getI s).1.Proto (getI s).1.Body (getI s).1.Src (getI s).1.Dst).2 ≠ 0 then noF 1
  else (⟨(getI s).1.Src, (getI s).1.Dst, (getI s).1.Proto, (getS (getI s).1.Proto (getI s).1.Body (getI s).1.Src (getI s).1.Dst).1.Sport, (getS (getI s).1.Proto (getI s).1.Body (getI s).1.Src (getI s).1.Dst).1.Dport⟩,
    (getS (getI s).1.Proto (getI s).1.Body (getI s).1.Src (getI s).1.Dst).1, 0)
theorem Of_eq {N : Nat} (hN : 1000 ≤ N) (s : ByteArray) : L_flow_Of N s = some (ofF s) := by
  unfold L_flow_Of L_flow_Of_1 ofF
  have h0 := getI_body (s := s)
  refine stB (Get_eq hN s) ?_
  generalize getI s = r at *
  obtain ⟨p, c, e⟩ := r
  dsimp only at *
  by_cases c0 : c = 0
  · have hz := h0 c0
    rw [if_neg (not_not_intro c0), handled_eq]
    by_cases hp : p.Proto = 6 ∨ p.Proto = 17
    · rw [decide_eq_true hp]
      by_cases hd : p.Dst = 167772161
      · rw [if_neg (by omega), show (p.Dst != 167772161) = false by rw [hd]; rfl]
        by_cases he : (getS p.Proto p.Body p.Src p.Dst).2 = 0
        · rw [if_neg (not_not_intro he)]
          repeat (first | with_reducible refine stB rfl ?_ | with_reducible refine stVia ?_ | (with_reducible refine stIf ?_ ?_; · first | omega | (simp only [ByteArray.size_append, ByteArray.size_extract, B1_size, B2_size, B4_size]; omega)) | (with_reducible refine stDT ?_ ?_; · omega) | (with_reducible refine stDF ?_ ?_; · omega) | (with_reducible refine stET ?_ ?_; · omega) | (with_reducible refine stEF ?_ ?_; · omega) | (with_reducible refine stNT ?_ ?_; · omega) | (with_reducible refine stNF ?_ ?_; · omega) | with_reducible refine stTT ?_ | with_reducible refine stFF ?_ | with_reducible refine stNTT ?_ | with_reducible refine stNFF ?_ | with_reducible refine stB (SegGet_eq hN _ _ _ _ (by omega)) ?_)
          rfl
        · rw [if_pos he]
          repeat (first | with_reducible refine stB rfl ?_ | with_reducible refine stVia ?_ | (with_reducible refine stIf ?_ ?_; · first | omega | (simp only [ByteArray.size_append, ByteArray.size_extract, B1_size, B2_size, B4_size]; omega)) | (with_reducible refine stDT ?_ ?_; · omega) | (with_reducible refine stDF ?_ ?_; · omega) | (with_reducible refine stET ?_ ?_; · omega) | (with_reducible refine stEF ?_ ?_; · omega) | (with_reducible refine stNT ?_ ?_; · omega) | (with_reducible refine stNF ?_ ?_; · omega) | with_reducible refine stTT ?_ | with_reducible refine stFF ?_ | with_reducible refine stNTT ?_ | with_reducible refine stNFF ?_ | with_reducible refine stB (SegGet_eq hN _ _ _ _ (by omega)) ?_)
          rfl
      · rw [if_pos (.inr hd), show (p.Dst != 167772161) = true by rw [bne_iff_ne]; exact hd]
        repeat (first | with_reducible refine stB rfl ?_ | with_reducible refine stVia ?_ | (with_reducible refine stIf ?_ ?_; · first | omega | (simp only [ByteArray.size_append, ByteArray.size_extract, B1_size, B2_size, B4_size]; omega)) | (with_reducible refine stDT ?_ ?_; · omega) | (with_reducible refine stDF ?_ ?_; · omega) | (with_reducible refine stET ?_ ?_; · omega) | (with_reducible refine stEF ?_ ?_; · omega) | (with_reducible refine stNT ?_ ?_; · omega) | (with_reducible refine stNF ?_ ?_; · omega) | with_reducible refine stTT ?_ | with_reducible refine stFF ?_ | with_reducible refine stNTT ?_ | with_reducible refine stNFF ?_)
        rfl
    · rw [if_pos (.inl hp), decide_eq_false hp]
      repeat (first | with_reducible refine stB rfl ?_ | with_reducible refine stVia ?_ | (with_reducible refine stIf ?_ ?_; · first | omega | (simp only [ByteArray.size_append, ByteArray.size_extract, B1_size, B2_size, B4_size]; omega)) | (with_reducible refine stDT ?_ ?_; · omega) | (with_reducible refine stDF ?_ ?_; · omega) | (with_reducible refine stET ?_ ?_; · omega) | (with_reducible refine stEF ?_ ?_; · omega) | (with_reducible refine stNT ?_ ?_; · omega) | (with_reducible refine stNF ?_ ?_; · omega) | with_reducible refine stTT ?_ | with_reducible refine stFF ?_ | with_reducible refine stNTT ?_ | with_reducible refine stNFF ?_)
      rfl
  · rw [if_pos c0]
    repeat (first | with_reducible refine stB rfl ?_ | with_reducible refine stVia ?_ | (with_reducible refine stIf ?_ ?_; · first | omega | (simp only [ByteArray.size_append, ByteArray.size_extract, B1_size, B2_size, B4_size]; omega)) | (with_reducible refine stDT ?_ ?_; · omega) | (with_reducible refine stDF ?_ ?_; · omega) | (with_reducible refine stET ?_ ?_; · omega) | (with_reducible refine stEF ?_ ?_; · omega) | (with_reducible refine stNT ?_ ?_; · omega) | (with_reducible refine stNF ?_ ?_; · omega) | with_reducible refine stTT ?_ | with_reducible refine stFF ?_ | with_reducible refine stNTT ?_ | with_reducible refine stNFF ?_)
    rfl
theorem ROf_eq {N : Nat} (hN : 1000 ≤ N) (s : ByteArray) : L_ref1_FlowOf N s = some (ofF s) := by
  unfold L_ref1_FlowOf L_ref1_FlowOf_1 ofF
  have h0 := getI_body (s := s)
  refine stB (GetIp_eq hN s) ?_
  generalize getI s = r at *
  obtain ⟨p, c, e⟩ := r
  dsimp only at *
  by_cases c0 : c = 0
  · have hz := h0 c0
    rw [if_neg (not_not_intro c0)]
    by_cases hp : p.Proto = 6 ∨ p.Proto = 17
    · by_cases hd : p.Dst = 167772161
      · rw [if_neg (by omega), show (p.Dst != 167772161) = false by rw [hd]; rfl]
        by_cases he : (getS p.Proto p.Body p.Src p.Dst).2 = 0
        · rw [if_neg (not_not_intro he)]
          by_cases p6 : p.Proto = 6
          · repeat (first | with_reducible refine stB rfl ?_ | with_reducible refine stVia ?_ | (with_reducible refine stIf ?_ ?_; · first | omega | (simp only [ByteArray.size_append, ByteArray.size_extract, B1_size, B2_size, B4_size]; omega)) | (with_reducible refine stDT ?_ ?_; · omega) | (with_reducible refine stDF ?_ ?_; · omega) | (with_reducible refine stET ?_ ?_; · omega) | (with_reducible refine stEF ?_ ?_; · omega) | (with_reducible refine stNT ?_ ?_; · omega) | (with_reducible refine stNF ?_ ?_; · omega) | with_reducible refine stTT ?_ | with_reducible refine stFF ?_ | with_reducible refine stNTT ?_ | with_reducible refine stNFF ?_ | with_reducible refine stB (RGetSeg_eq hN _ _ _ _ (by omega)) ?_)
            rfl
          · repeat (first | with_reducible refine stB rfl ?_ | with_reducible refine stVia ?_ | (with_reducible refine stIf ?_ ?_; · first | omega | (simp only [ByteArray.size_append, ByteArray.size_extract, B1_size, B2_size, B4_size]; omega)) | (with_reducible refine stDT ?_ ?_; · omega) | (with_reducible refine stDF ?_ ?_; · omega) | (with_reducible refine stET ?_ ?_; · omega) | (with_reducible refine stEF ?_ ?_; · omega) | (with_reducible refine stNT ?_ ?_; · omega) | (with_reducible refine stNF ?_ ?_; · omega) | with_reducible refine stTT ?_ | with_reducible refine stFF ?_ | with_reducible refine stNTT ?_ | with_reducible refine stNFF ?_ | with_reducible refine stB (RGetSeg_eq hN _ _ _ _ (by omega)) ?_)
            rfl
        · rw [if_pos he]
          by_cases p6 : p.Proto = 6
          · repeat (first | with_reducible refine stB rfl ?_ | with_reducible refine stVia ?_ | (with_reducible refine stIf ?_ ?_; · first | omega | (simp only [ByteArray.size_append, ByteArray.size_extract, B1_size, B2_size, B4_size]; omega)) | (with_reducible refine stDT ?_ ?_; · omega) | (with_reducible refine stDF ?_ ?_; · omega) | (with_reducible refine stET ?_ ?_; · omega) | (with_reducible refine stEF ?_ ?_; · omega) | (with_reducible refine stNT ?_ ?_; · omega) | (with_reducible refine stNF ?_ ?_; · omega) | with_reducible refine stTT ?_ | with_reducible refine stFF ?_ | with_reducible refine stNTT ?_ | with_reducible refine stNFF ?_ | with_reducible refine stB (RGetSeg_eq hN _ _ _ _ (by omega)) ?_)
            rfl
          · repeat (first | with_reducible refine stB rfl ?_ | with_reducible refine stVia ?_ | (with_reducible refine stIf ?_ ?_; · first | omega | (simp only [ByteArray.size_append, ByteArray.size_extract, B1_size, B2_size, B4_size]; omega)) | (with_reducible refine stDT ?_ ?_; · omega) | (with_reducible refine stDF ?_ ?_; · omega) | (with_reducible refine stET ?_ ?_; · omega) | (with_reducible refine stEF ?_ ?_; · omega) | (with_reducible refine stNT ?_ ?_; · omega) | (with_reducible refine stNF ?_ ?_; · omega) | with_reducible refine stTT ?_ | with_reducible refine stFF ?_ | with_reducible refine stNTT ?_ | with_reducible refine stNFF ?_ | with_reducible refine stB (RGetSeg_eq hN _ _ _ _ (by omega)) ?_)
            rfl
      · rw [if_pos (.inr hd), show (p.Dst != 167772161) = true by rw [bne_iff_ne]; exact hd]
        by_cases p6 : p.Proto = 6
        · repeat (first | with_reducible refine stB rfl ?_ | with_reducible refine stVia ?_ | (with_reducible refine stIf ?_ ?_; · first | omega | (simp only [ByteArray.size_append, ByteArray.size_extract, B1_size, B2_size, B4_size]; omega)) | (with_reducible refine stDT ?_ ?_; · omega) | (with_reducible refine stDF ?_ ?_; · omega) | (with_reducible refine stET ?_ ?_; · omega) | (with_reducible refine stEF ?_ ?_; · omega) | (with_reducible refine stNT ?_ ?_; · omega) | (with_reducible refine stNF ?_ ?_; · omega) | with_reducible refine stTT ?_ | with_reducible refine stFF ?_ | with_reducible refine stNTT ?_ | with_reducible refine stNFF ?_)
          rfl
        · repeat (first | with_reducible refine stB rfl ?_ | with_reducible refine stVia ?_ | (with_reducible refine stIf ?_ ?_; · first | omega | (simp only [ByteArray.size_append, ByteArray.size_extract, B1_size, B2_size, B4_size]; omega)) | (with_reducible refine stDT ?_ ?_; · omega) | (with_reducible refine stDF ?_ ?_; · omega) | (with_reducible refine stET ?_ ?_; · omega) | (with_reducible refine stEF ?_ ?_; · omega) | (with_reducible refine stNT ?_ ?_; · omega) | (with_reducible refine stNF ?_ ?_; · omega) | with_reducible refine stTT ?_ | with_reducible refine stFF ?_ | with_reducible refine stNTT ?_ | with_reducible refine stNFF ?_)
          rfl
    · rw [if_pos (.inl hp)]
      repeat (first | with_reducible refine stB rfl ?_ | with_reducible refine stVia ?_ | (with_reducible refine stIf ?_ ?_; · first | omega | (simp only [ByteArray.size_append, ByteArray.size_extract, B1_size, B2_size, B4_size]; omega)) | (with_reducible refine stDT ?_ ?_; · omega) | (with_reducible refine stDF ?_ ?_; · omega) | (with_reducible refine stET ?_ ?_; · omega) | (with_reducible refine stEF ?_ ?_; · omega) | (with_reducible refine stNT ?_ ?_; · omega) | (with_reducible refine stNF ?_ ?_; · omega) | with_reducible refine stTT ?_ | with_reducible refine stFF ?_ | with_reducible refine stNTT ?_ | with_reducible refine stNFF ?_)
      rfl
  · rw [if_pos c0]
    repeat (first | with_reducible refine stB rfl ?_ | with_reducible refine stVia ?_ | (with_reducible refine stIf ?_ ?_; · first | omega | (simp only [ByteArray.size_append, ByteArray.size_extract, B1_size, B2_size, B4_size]; omega)) | (with_reducible refine stDT ?_ ?_; · omega) | (with_reducible refine stDF ?_ ?_; · omega) | (with_reducible refine stET ?_ ?_; · omega) | (with_reducible refine stEF ?_ ?_; · omega) | (with_reducible refine stNT ?_ ?_; · omega) | (with_reducible refine stNF ?_ ?_; · omega) | with_reducible refine stTT ?_ | with_reducible refine stFF ?_ | with_reducible refine stNTT ?_ | with_reducible refine stNFF ?_)
    rfl
theorem mkS_append (a b : List Int) : mkS a ++ mkS b = mkS (a ++ b) := by
  apply ext_list
  simp [mkS, ByteArray.data_append]
theorem bt_left (a b : ByteArray) (i : Nat) (h : i < a.size) : bt (a ++ b) i = bt a i := by
  rw [bt_get, bt_get, bytesL_append]
  simp only [List.getD_eq_getElem?_getD]
  rw [List.getElem?_append_left (by rw [bytesL_len]; exact h)]
def headL (p : GIp) (chk : Int) : List Int :=
  [69, 0, (20 + (p.Body.size : Int)) / 256 % 256, (20 + (p.Body.size : Int)) % 256, p.Id / 256 % 256, p.Id % 256, 64, 0, p.Ttl % 256, p.Proto % 256, chk / 256 % 256, chk % 256,
    p.Src / 16777216 % 256, p.Src / 65536 % 256, p.Src / 256 % 256, p.Src % 256, p.Dst / 16777216 % 256, p.Dst / 65536 % 256, p.Dst / 256 % 256, p.Dst % 256]
theorem headI_mk (p : GIp) (chk : Int) : headI p chk = mkS (headL p chk) := by
  unfold headI B1 B2 B4
  simp only [mkS_append, List.cons_append, List.nil_append]
  rfl
theorem headL_range (p : GIp) (chk : Int) : ∀ x ∈ headL p chk, 0 ≤ x ∧ x ≤ 255 := by
  intro x hx
  simp only [headL, List.mem_cons, List.not_mem_nil, or_false] at hx
  omega
theorem bytesL_head (p : GIp) (chk : Int) : bytesL (headI p chk) = headL p chk := by
  rw [headI_mk, bytesL_mkS _ (headL_range _ _)]
theorem bytesL_put (p : GIp) : bytesL (putI p) = headL p (sumI p) ++ bytesL p.Body := by
  rw [putI, bytesL_append, bytesL_head]
theorem bt_put (p : GIp) (i : Nat) (h : i < 20) : bt (putI p) i = (headL p (sumI p)).getD i 0 := by
  rw [putI, bt_left _ _ _ (by rw [headI_size]; exact h), bt_get, bytesL_head]
theorem put_drop (p : GIp) : (putI p).extract 20 (putI p).size = p.Body := by
  apply ByteArray.extract_append_eq_right
  · rw [headI_size]
  · rw [putI_size, headI_size]
theorem put_take (p : GIp) : (putI p).extract 0 20 = headI p (sumI p) := by
  apply ByteArray.extract_append_eq_left
  rw [headI_size]
theorem foldS_whole (r c : Int) (h0 : 0 < r) (hc : c = 65535 - foldS r) : foldS (r + c) = 65535 := by
  subst hc
  unfold foldS
  rw [if_neg (show ¬ r = 0 by omega)]
  rw [if_neg (by omega)]
  omega
theorem raw_head (p : GIp) (chk : Int) : rawL (headL p chk) = rawL (headL p 0) + (chk / 256 % 256 * 256 + chk % 256) := by
  simp only [headL, rawL]
  omega
theorem raw_head_pos (p : GIp) : 0 < rawL (headL p 0) := by
  have := headL_range p 0
  simp only [headL, List.mem_cons, List.not_mem_nil, or_false, forall_eq_or_imp, forall_eq] at this
  simp only [headL, rawL]
  omega
theorem sum_put (p : GIp) : sumB (headI p (sumI p)) = 65535 := by
  have hr := sumI_range p
  unfold sumB
  rw [bytesL_head, raw_head, show sumI p / 256 % 256 * 256 + sumI p % 256 = sumI p by omega]
  apply foldS_whole _ _ (raw_head_pos _)
  unfold sumI sumB
  rw [bytesL_head]
theorem N2_put (p : GIp) (i : Nat) (h : i + 1 < 20) : N2 (putI p) i = (headL p (sumI p)).getD i 0 * 256 + (headL p (sumI p)).getD (i + 1) 0 := by
  unfold N2
  rw [bt_put _ i (by omega), bt_put _ (i + 1) h]
theorem N4_put (p : GIp) (i : Nat) (h : i + 3 < 20) : N4 (putI p) i =
    (((headL p (sumI p)).getD i 0 * 256 + (headL p (sumI p)).getD (i + 1) 0) * 256 + (headL p (sumI p)).getD (i + 2) 0) * 256 + (headL p (sumI p)).getD (i + 3) 0 := by
  unfold N4
  rw [bt_put _ i (by omega), bt_put _ (i + 1) (by omega), bt_put _ (i + 2) (by omega), bt_put _ (i + 3) h]
theorem and_lit : bAnd .i64 16384 49151 = 0 := by decide
theorem get_put {p : GIp} (h : mayI p = true) : getI (putI p) = (p, 0, 0) := by
  obtain ⟨h1, h2, h3, h4, h5, hb⟩ := mayI_parts h
  have b0 : bt (putI p) 0 = 69 := bt_put _ 0 (by decide)
  have b8 : bt (putI p) 8 = p.Ttl % 256 := bt_put _ 8 (by decide)
  have b9 : bt (putI p) 9 = p.Proto % 256 := bt_put _ 9 (by decide)
  have n2 : N2 (putI p) 2 = (20 + (p.Body.size : Int)) / 256 % 256 * 256 + (20 + (p.Body.size : Int)) % 256 := N2_put _ 2 (by decide)
  have n4 : N2 (putI p) 4 = p.Id / 256 % 256 * 256 + p.Id % 256 := N2_put _ 4 (by decide)
  have n6 : N2 (putI p) 6 = 64 * 256 + 0 := N2_put _ 6 (by decide)
  have n12 : N4 (putI p) 12 = ((p.Src / 16777216 % 256 * 256 + p.Src / 65536 % 256) * 256 + p.Src / 256 % 256) * 256 + p.Src % 256 := N4_put _ 12 (by decide)
  have n16 : N4 (putI p) 16 = ((p.Dst / 16777216 % 256 * 256 + p.Dst / 65536 % 256) * 256 + p.Dst / 256 % 256) * 256 + p.Dst % 256 := N4_put _ 16 (by decide)
  have hsz := putI_size p
  unfold getI
  rw [b0, if_neg (by omega), if_neg (by omega), if_neg (by rw [n2, hsz]; omega), show (4 * ((69 : Int) % 16)).toNat = 20 from rfl, put_take, sum_put, if_neg (by decide), if_neg (by decide), n6, show (64 * 256 + 0 : Int) = 16384 from rfl, and_lit, if_neg (by decide), put_drop, b8, b9, n4, n12, n16]
  refine Prod.ext ?_ rfl
  obtain ⟨a, b, c, d, e, g⟩ := p
  simp only [GIp.mk.injEq, and_true] at *
  omega
end Go.Proofs.YtmhlgpdoedbedaaGreat.Pu
