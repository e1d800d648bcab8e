import Derived.Test.YtobhmonmeocfmaaNetG
import Derived.Test.YtobhmonmeocfmaaFAAddrWhose
import Derived.Test.YtobhmonmeocfmaaFAWharfageref1Whose
import Derived.Test.YtobhmonmeocfmaaFAGuePush
import Derived.Test.YtobhmonmeocfmaaFAGuePop
namespace Go.Proofs.Ytobhmonmeocfmaa.Pure
set_option linter.unusedSimpArgs false
set_option linter.unusedVariables false
open Go Go.RowKit Go.Proofs.Ytobhmonmeocfmaa.PA Go.Proofs.YtobhmonmeocfmaaW.PrintWords Go.Proofs.YtobhmonmeocfmaaW.PrintLast Go.Proofs.YtobhmonmeocfmaaW.PrintMore Go.Proofs.Ytobhmonmeocfmaa.Wh
theorem below_eq (a b : Int) : addr_below.f a b = some (decide (0 ≤ a ∧ a < b)) := by
  unfold addr_below.f
  by_cases h : a ≥ 0
  · rw [if_pos h]; congr 1; simp; omega
  · rw [if_neg h]; congr 1; simp; omega
def Known (a : Int) : Prop := 167837696 ≤ a ∧ a < 167837698 ∨ 167903232 ≤ a ∧ a < 167903235 ∨ 167968768 ≤ a ∧ a < 167969536 ∧ (a - 167968768) % 256 < 4
instance (a : Int) : Decidable (Known a) := by unfold Known; infer_instance
theorem whose_none (a : Int) (l : -9223372036854775808 ≤ a) (u : a ≤ 9223372036854775807) (h : ¬ Known a) : addr_Whose.f a = some (0, 0, 0, false) := by
  unfold Known at h
  unfold addr_Whose.f
  simp only [below_eq, Option.bind_some]
  rw [if_neg (by simp; unfold wrap64; omega), if_neg (by simp; unfold wrap64; omega)]
  by_cases c : 0 ≤ wrap64 (a - 167968768) ∧ wrap64 (a - 167968768) < 768
  · rw [if_pos (by simpa using c), Int.tmod_eq_emod_of_nonneg c.1, if_neg (by unfold wrap64 at *; omega)]
  · rw [if_neg (by simpa using c)]
theorem wr (x y : Int) (h : x + 1 = y) (l : -9223372036854775808 ≤ y) (u : y ≤ 9223372036854775807) : wrap64 (x + 1) = y := by rw [h, wrap64_id l u]
theorem refWhose_none (a : Int) (h : ¬ Known a) : wharfageref1_Whose.f 60 a = some (0, 0, 0, false) := by
  unfold Known at h
  unfold wharfageref1_Whose.f
  have e59 : ∀ k, wharfageref1_Whose.l0 (k + 1) a 0 = wharfageref1_Whose.l0 k a 1 := by
    intro k; simp only [wharfageref1_Whose.l0]; rw [if_pos (by decide), if_neg (by unfold wrap64; omega)]
    first | done | exact congrArg _ (wr _ _ rfl (by decide) (by decide))
  have e58 : ∀ k, wharfageref1_Whose.l0 (k + 1) a 1 = wharfageref1_Whose.l0 k a 2 := by
    intro k; simp only [wharfageref1_Whose.l0]; rw [if_pos (by decide), if_neg (by unfold wrap64; omega)]
    first | done | exact congrArg _ (wr _ _ rfl (by decide) (by decide))
  have e57 : ∀ k, wharfageref1_Whose.l0 (k + 1) a 2 = wharfageref1_Whose.l1 k a 0 := by
    intro k; simp only [wharfageref1_Whose.l0]; rw [if_neg (by decide)]
    first | done | exact congrArg _ (wr _ _ rfl (by decide) (by decide))
  have e56 : ∀ k, wharfageref1_Whose.l1 (k + 1) a 0 = wharfageref1_Whose.l2 k a 0 0 := by
    intro k; simp only [wharfageref1_Whose.l1]; rw [if_pos (by decide), if_neg (by unfold wrap64; omega)]
    first | done | exact congrArg _ (wr _ _ rfl (by decide) (by decide))
  have e55 : ∀ k, wharfageref1_Whose.l2 (k + 1) a 0 0 = wharfageref1_Whose.l2 k a 0 1 := by
    intro k; simp only [wharfageref1_Whose.l2]; rw [if_pos (by decide), if_neg (by unfold wrap64; omega)]
    first | done | exact congrArg _ (wr _ _ rfl (by decide) (by decide))
  have e54 : ∀ k, wharfageref1_Whose.l2 (k + 1) a 0 1 = wharfageref1_Whose.l2 k a 0 2 := by
    intro k; simp only [wharfageref1_Whose.l2]; rw [if_pos (by decide), if_neg (by unfold wrap64; omega)]
    first | done | exact congrArg _ (wr _ _ rfl (by decide) (by decide))
  have e53 : ∀ k, wharfageref1_Whose.l2 (k + 1) a 0 2 = wharfageref1_Whose.l2 k a 0 3 := by
    intro k; simp only [wharfageref1_Whose.l2]; rw [if_pos (by decide), if_neg (by unfold wrap64; omega)]
    first | done | exact congrArg _ (wr _ _ rfl (by decide) (by decide))
  have e52 : ∀ k, wharfageref1_Whose.l2 (k + 1) a 0 3 = wharfageref1_Whose.l2 k a 0 4 := by
    intro k; simp only [wharfageref1_Whose.l2]; rw [if_pos (by decide), if_neg (by unfold wrap64; omega)]
    first | done | exact congrArg _ (wr _ _ rfl (by decide) (by decide))
  have e51 : ∀ k, wharfageref1_Whose.l2 (k + 1) a 0 4 = wharfageref1_Whose.l1 k a 1 := by
    intro k; simp only [wharfageref1_Whose.l2]; rw [if_neg (by decide)]
    first | done | exact congrArg _ (wr _ _ rfl (by decide) (by decide))
  have e50 : ∀ k, wharfageref1_Whose.l1 (k + 1) a 1 = wharfageref1_Whose.l2 k a 1 0 := by
    intro k; simp only [wharfageref1_Whose.l1]; rw [if_pos (by decide), if_neg (by unfold wrap64; omega)]
    first | done | exact congrArg _ (wr _ _ rfl (by decide) (by decide))
  have e49 : ∀ k, wharfageref1_Whose.l2 (k + 1) a 1 0 = wharfageref1_Whose.l2 k a 1 1 := by
    intro k; simp only [wharfageref1_Whose.l2]; rw [if_pos (by decide), if_neg (by unfold wrap64; omega)]
    first | done | exact congrArg _ (wr _ _ rfl (by decide) (by decide))
  have e48 : ∀ k, wharfageref1_Whose.l2 (k + 1) a 1 1 = wharfageref1_Whose.l2 k a 1 2 := by
    intro k; simp only [wharfageref1_Whose.l2]; rw [if_pos (by decide), if_neg (by unfold wrap64; omega)]
    first | done | exact congrArg _ (wr _ _ rfl (by decide) (by decide))
  have e47 : ∀ k, wharfageref1_Whose.l2 (k + 1) a 1 2 = wharfageref1_Whose.l2 k a 1 3 := by
    intro k; simp only [wharfageref1_Whose.l2]; rw [if_pos (by decide), if_neg (by unfold wrap64; omega)]
    first | done | exact congrArg _ (wr _ _ rfl (by decide) (by decide))
  have e46 : ∀ k, wharfageref1_Whose.l2 (k + 1) a 1 3 = wharfageref1_Whose.l2 k a 1 4 := by
    intro k; simp only [wharfageref1_Whose.l2]; rw [if_pos (by decide), if_neg (by unfold wrap64; omega)]
    first | done | exact congrArg _ (wr _ _ rfl (by decide) (by decide))
  have e45 : ∀ k, wharfageref1_Whose.l2 (k + 1) a 1 4 = wharfageref1_Whose.l1 k a 2 := by
    intro k; simp only [wharfageref1_Whose.l2]; rw [if_neg (by decide)]
    first | done | exact congrArg _ (wr _ _ rfl (by decide) (by decide))
  have e44 : ∀ k, wharfageref1_Whose.l1 (k + 1) a 2 = wharfageref1_Whose.l2 k a 2 0 := by
    intro k; simp only [wharfageref1_Whose.l1]; rw [if_pos (by decide), if_neg (by unfold wrap64; omega)]
    first | done | exact congrArg _ (wr _ _ rfl (by decide) (by decide))
  have e43 : ∀ k, wharfageref1_Whose.l2 (k + 1) a 2 0 = wharfageref1_Whose.l2 k a 2 1 := by
    intro k; simp only [wharfageref1_Whose.l2]; rw [if_pos (by decide), if_neg (by unfold wrap64; omega)]
    first | done | exact congrArg _ (wr _ _ rfl (by decide) (by decide))
  have e42 : ∀ k, wharfageref1_Whose.l2 (k + 1) a 2 1 = wharfageref1_Whose.l2 k a 2 2 := by
    intro k; simp only [wharfageref1_Whose.l2]; rw [if_pos (by decide), if_neg (by unfold wrap64; omega)]
    first | done | exact congrArg _ (wr _ _ rfl (by decide) (by decide))
  have e41 : ∀ k, wharfageref1_Whose.l2 (k + 1) a 2 2 = wharfageref1_Whose.l2 k a 2 3 := by
    intro k; simp only [wharfageref1_Whose.l2]; rw [if_pos (by decide), if_neg (by unfold wrap64; omega)]
    first | done | exact congrArg _ (wr _ _ rfl (by decide) (by decide))
  have e40 : ∀ k, wharfageref1_Whose.l2 (k + 1) a 2 3 = wharfageref1_Whose.l2 k a 2 4 := by
    intro k; simp only [wharfageref1_Whose.l2]; rw [if_pos (by decide), if_neg (by unfold wrap64; omega)]
    first | done | exact congrArg _ (wr _ _ rfl (by decide) (by decide))
  have e39 : ∀ k, wharfageref1_Whose.l2 (k + 1) a 2 4 = wharfageref1_Whose.l1 k a 3 := by
    intro k; simp only [wharfageref1_Whose.l2]; rw [if_neg (by decide)]
    first | done | exact congrArg _ (wr _ _ rfl (by decide) (by decide))
  have z : ∀ k, wharfageref1_Whose.l1 (k + 1) a 3 = some (0, 0, 0, false) := by intro k; simp only [wharfageref1_Whose.l1]; rw [if_neg (by decide)]
  exact (e59 _).trans ((e58 _).trans ((e57 _).trans ((e56 _).trans ((e55 _).trans ((e54 _).trans ((e53 _).trans ((e52 _).trans ((e51 _).trans ((e50 _).trans ((e49 _).trans ((e48 _).trans ((e47 _).trans ((e46 _).trans ((e45 _).trans ((e44 _).trans ((e43 _).trans ((e42 _).trans ((e41 _).trans ((e40 _).trans ((e39 _).trans (z _)))))))))))))))))))))
theorem whoseUp (a : Int) (r : Int × Int × Int × Bool) (h : wharfageref1_Whose.f 60 a = some r) (n : Nat) : wharfageref1_Whose.f (60 + n) a = some r := by
  induction n with
  | zero => exact h
  | succ n ih => exact wharfageref1_Whose.mono a (60 + n) r ih
theorem whose_same (a : Int) (l : -9223372036854775808 ≤ a) (u : a ≤ 9223372036854775807) : addr_Whose.f a = wharfageref1_Whose.f 60 a ∧ (addr_Whose.f a).map (fun x => x.2.2.2) = some (decide (Known a)) := by
  by_cases h : Known a
  · have hh : a = 167837696 ∨ a = 167837697 ∨ a = 167903232 ∨ a = 167903233 ∨ a = 167903234 ∨ a = 167968768 ∨ a = 167968769 ∨ a = 167968770 ∨ a = 167968771 ∨ a = 167969024 ∨ a = 167969025 ∨ a = 167969026 ∨ a = 167969027 ∨ a = 167969280 ∨ a = 167969281 ∨ a = 167969282 ∨ a = 167969283 := by
      unfold Known at h; omega
    rcases hh with rfl | rfl | rfl | rfl | rfl | rfl | rfl | rfl | rfl | rfl | rfl | rfl | rfl | rfl | rfl | rfl | rfl
    all_goals decide +kernel
  · rw [whose_none a l u h, refWhose_none a h, decide_eq_false h]; exact ⟨rfl, rfl⟩
/-- Whose an address is: what is told of it, by both. -/
theorem whose_eq (k : Nat) (hk : 60 ≤ k) (a : Int) (l : -9223372036854775808 ≤ a) (u : a ≤ 9223372036854775807) : ∃ x y z, addr_Whose.f a = some (x, y, z, decide (Known a)) ∧ wharfageref1_Whose.f k a = some (x, y, z, decide (Known a)) := by
  obtain ⟨h1, h2⟩ := whose_same a l u
  obtain ⟨⟨x, y, z, b⟩, h3, h4⟩ := Option.map_eq_some_iff.1 h2
  subst h4
  obtain ⟨n, rfl⟩ : ∃ n, k = 60 + n := ⟨k - 60, by omega⟩
  exact ⟨x, y, z, h3, whoseUp a _ (h1 ▸ h3) n⟩
theorem known_range {a : Int} (h : Known a) : 0 ≤ a ∧ a < 4294967296 := by unfold Known at h; omega
end Go.Proofs.Ytobhmonmeocfmaa.Pure
namespace Go.Proofs.Ytobhmonmeocfmaa.Pure
set_option linter.unusedSimpArgs false
set_option linter.unusedVariables false
open Go Go.RowKit Go.Proofs.Ytobhmonmeocfmaa.PA Go.Proofs.YtobhmonmeocfmaaW.PrintWords Go.Proofs.YtobhmonmeocfmaaW.PrintLast Go.Proofs.YtobhmonmeocfmaaW.PrintMore Go.Proofs.Ytobhmonmeocfmaa.Wh
def R64 (a : Int) : Prop := -9223372036854775808 ≤ a ∧ a ≤ 9223372036854775807
def mayG (src dst tier marker origin : Int) (body : ByteArray) : Bool :=
  decide (Known src ∧ Known dst ∧ 1 ≤ tier ∧ tier ≤ 4 ∧ (0 ≤ marker ∧ marker < 256) ∧ (0 ≤ origin ∧ origin < 256) ∧ body.size ≤ 512)
theorem mayG_parts {src dst tier marker origin : Int} {body : ByteArray} (h : mayG src dst tier marker origin body = true) : Known src ∧ Known dst ∧ 1 ≤ tier ∧ tier ≤ 4 ∧ (0 ≤ marker ∧ marker < 256) ∧ (0 ≤ origin ∧ origin < 256) ∧ body.size ≤ 512 := by
  simpa [mayG] using h
theorem node_eq (a : Int) (h : R64 a) : gue_node.f a = some (decide (Known a)) := by
  obtain ⟨x, y, z, h1, _⟩ := whose_eq 60 (Nat.le_refl _) a h.1 h.2
  unfold gue_node.f
  rw [h1, Option.bind_some]
theorem ite_fs {c : Prop} [Decidable c] {a : Option Bool} {b : Bool} (h : c → a = some b) : (if c then a else some false) = some (decide c && b) := by
  by_cases e : c
  · rw [if_pos e, h e, decide_eq_true e, Bool.true_and]
  · rw [if_neg e, decide_eq_false e, Bool.false_and]
theorem MayG_eq (src dst tier marker origin : Int) (body : ByteArray) (hs : R64 src) (hd : R64 dst) : gue_May.f src dst tier marker origin body = some (mayG src dst tier marker origin body) := by
  unfold gue_May.f
  rw [node_eq src hs, node_eq dst hd, in8, in8]
  simp only [Option.bind_some]
  rw [ite_fs (b := _) (fun _ => ite_fs (b := _) (fun _ => ite_fs (b := _) (fun _ => ite_fs (b := _) (fun _ => ite_fs (b := _) (fun _ => ite_fs (b := _) (fun _ => rfl))))))]
  congr 1
  rw [Bool.eq_iff_iff]
  simp only [mayG, Bool.and_eq_true, decide_eq_true_eq, ge_iff_le]
  constructor <;> (rintro ⟨h1, h2, h3, h4, h5, h6, h7⟩; exact ⟨h1, h2, h3, h4, h5, h6, by omega⟩)
def inG (tier marker origin : Int) (body : ByteArray) : ByteArray := B1 0 ++ B1 tier ++ B1 marker ++ B1 origin ++ B2 body.size ++ B2 0 ++ body
def gueB (tier marker origin : Int) (body : ByteArray) : ByteArray := B2 61440 ++ B2 6080 ++ B2 (16 + body.size) ++ B2 0 ++ inG tier marker origin body
theorem inG_size (tier marker origin : Int) (body : ByteArray) : (inG tier marker origin body).size = 8 + body.size := by
  simp only [inG, ByteArray.size_append, B1_size, B2_size]
theorem gueB_size (tier marker origin : Int) (body : ByteArray) : (gueB tier marker origin body).size = 16 + body.size := by
  simp only [gueB, ByteArray.size_append, B2_size, inG_size]; omega
def pushI (src dst tier marker origin : Int) (body : ByteArray) : ByteArray := putI src dst 17 64 0 (gueB tier marker origin body)
theorem pushI_may {src dst tier marker origin : Int} {body : ByteArray} (h : mayG src dst tier marker origin body = true) (h2 : body.size ≤ 324) : mayI src dst 17 64 0 (gueB tier marker origin body) = true := by
  obtain ⟨h0, h1, _⟩ := mayG_parts h
  have a := known_range h0; have b := known_range h1
  have c := gueB_size tier marker origin body
  unfold mayI
  simp only [Bool.and_eq_true, decide_eq_true_eq]
  omega
theorem Push_bad (k : Nat) {src dst tier marker origin : Int} {body : ByteArray} (hs : R64 src) (hd : R64 dst) (h : mayG src dst tier marker origin body = false) : gue_Push.f k src dst tier marker origin body = some ((⟨#[]⟩ : ByteArray), 600) := by
  unfold gue_Push.f
  rw [MayG_eq _ _ _ _ _ _ hs hd, h, Option.bind_some, if_neg (by decide)]
theorem Push_big (k : Nat) {src dst tier marker origin : Int} {body : ByteArray} (hs : R64 src) (hd : R64 dst) (h : mayG src dst tier marker origin body = true) (h2 : 324 < body.size) : gue_Push.f k src dst tier marker origin body = some ((⟨#[]⟩ : ByteArray), 601) := by
  have hp := mayG_parts h
  unfold gue_Push.f
  rw [MayG_eq _ _ _ _ _ _ hs hd, h, Option.bind_some, if_pos rfl, wrap64_id (by omega) (by omega), if_pos (by omega)]
theorem Push_ok (k : Nat) (hk : 40 ≤ k) {src dst tier marker origin : Int} {body : ByteArray} (hs : R64 src) (hd : R64 dst) (h : mayG src dst tier marker origin body = true) (h2 : body.size ≤ 324) : gue_Push.f k src dst tier marker origin body = some (pushI src dst tier marker origin body, 0) := by
  have hput := Put_ok k hk (pushI_may h h2)
  have hi : B1 0 ++ B1 tier ++ B1 marker ++ B1 origin ++ B2 (body.size : Int) ++ B2 0 ++ body = inG tier marker origin body := rfl
  have hg : B2 61440 ++ B2 6080 ++ B2 (16 + (body.size : Int)) ++ B2 0 ++ inG tier marker origin body = gueB tier marker origin body := rfl
  obtain ⟨k, rfl⟩ : ∃ m, k = m + 40 := ⟨k - 40, by omega⟩
  have n0 : ∀ x, ip_Bytes.f (k + 40) x 1 = some (B1 x) := fun x => bytes1 (k + 38) x
  have n1 : ∀ x, ip_Bytes.f (k + 40) x 2 = some (B2 x) := fun x => bytes2 (k + 37) x
  have sz := inG_size tier marker origin body
  unfold gue_Push.f
  rw [MayG_eq _ _ _ _ _ _ hs hd, h, Option.bind_some, if_pos rfl, wrap64_id (n := 36 + (body.size : Int)) (by omega) (by omega), if_neg (by omega)]
  rw [n0, Option.bind_some, n0, Option.bind_some, if_pos (by simp only [B1_size]; omega), n0, Option.bind_some, if_pos (by simp only [ByteArray.size_append, B1_size]; omega), n0, Option.bind_some, if_pos (by simp only [ByteArray.size_append, B1_size]; omega), n1, Option.bind_some, if_pos (by simp only [ByteArray.size_append, B1_size, B2_size]; omega), n1, Option.bind_some, if_pos (by simp only [ByteArray.size_append, B1_size, B2_size]; omega), if_pos (by simp only [ByteArray.size_append, B1_size, B2_size]; omega)]
  rw [hi]
  generalize inG tier marker origin body = I at *
  rw [n1, Option.bind_some, n1, Option.bind_some, if_pos (by simp only [B2_size]; omega), wrap64_id (n := 8 + (I.size : Int)) (by omega) (by omega), show (8 + (I.size : Int)) = 16 + (body.size : Int) by omega, n1, Option.bind_some, if_pos (by simp only [ByteArray.size_append, B2_size]; omega), Option.bind_some, if_pos (by simp only [ByteArray.size_append, B2_size]; omega), if_pos (by simp only [ByteArray.size_append, B2_size]; omega)]
  rw [hg, hput, Option.bind_some]
  rfl
end Go.Proofs.Ytobhmonmeocfmaa.Pure
namespace Go.Proofs.Ytobhmonmeocfmaa.Pure
set_option linter.unusedSimpArgs false
set_option linter.unusedVariables false
open Go Go.RowKit Go.Proofs.Ytobhmonmeocfmaa.PA Go.Proofs.YtobhmonmeocfmaaW.PrintWords Go.Proofs.YtobhmonmeocfmaaW.PrintLast Go.Proofs.YtobhmonmeocfmaaW.PrintMore Go.Proofs.Ytobhmonmeocfmaa.Wh
abbrev OutR := Int × Int × Int × Int × Int × ByteArray × Int
def badG : OutR := (0, 0, 0, 0, 0, (⟨#[]⟩ : ByteArray), 600)
def popI (s : ByteArray) : OutR :=
  if s.size < 36 then badG
  else if mayG (N4 s 12) (N4 s 16) (bt s 29) (bt s 30) (bt s 31) (s.extract 36 s.size) = true ∧ s.size ≤ 360 ∧ pushI (N4 s 12) (N4 s 16) (bt s 29) (bt s 30) (bt s 31) (s.extract 36 s.size) = s
    then (N4 s 12, N4 s 16, bt s 29, bt s 30, bt s 31, s.extract 36 s.size, 0) else badG
theorem N4_R64 (s : ByteArray) (i : Nat) : R64 (N4 s i) := by
  have := N4_range s i
  exact ⟨by omega, by omega⟩
theorem Pop_eq (k : Nat) (hk : 160 ≤ k) (s : ByteArray) : gue_Pop.f k s = some (popI s) := by
  unfold gue_Pop.f popI
  by_cases c : s.size < 36
  · rw [if_pos (by omega), if_pos c]; rfl
  have hg : (s.extract 28 s.size).size = s.size - 28 := by rw [ByteArray.size_extract]; omega
  have hb : (s.extract 36 s.size).size = s.size - 36 := by rw [ByteArray.size_extract]; omega
  have e1 : bt (s.extract 28 s.size) 1 = bt s 29 := bt_extract s 28 s.size 1 (by omega) (Nat.le_refl _)
  have e2 : bt (s.extract 28 s.size) 2 = bt s 30 := bt_extract s 28 s.size 2 (by omega) (Nat.le_refl _)
  have e3 : bt (s.extract 28 s.size) 3 = bt s 31 := bt_extract s 28 s.size 3 (by omega) (Nat.le_refl _)
  have e4 := ex_ex s 28 8 (by omega)
  have r1 := bt_range s 29; have r2 := bt_range s 30; have r3 := bt_range s 31
  have hs := N4_R64 s 12; have hd := N4_R64 s 16
  obtain ⟨k, rfl⟩ : ∃ m, k = m + 100 := ⟨k - 100, by omega⟩
  rw [if_neg (by omega), if_neg c, if_pos (by omega), if_pos (by decide), if_pos (by omega), number4 (k + 95) _ (by simp [ByteArray.size_extract]; omega), N4_extract s 12 (by omega), Option.bind_some, if_pos (by decide), if_pos (by omega), number4 (k + 95) _ (by simp [ByteArray.size_extract]; omega), N4_extract s 16 (by omega), Option.bind_some]
  rw [e4, e1, e2, e3, hg, if_pos (by omega), if_pos (by omega), if_pos (by omega), if_pos (by omega), wrap64_id (n := bt s 29) (by omega) (by omega), wrap64_id (n := bt s 30) (by omega) (by omega), wrap64_id (n := bt s 31) (by omega) (by omega)]
  by_cases m : mayG (N4 s 12) (N4 s 16) (bt s 29) (bt s 30) (bt s 31) (s.extract 36 s.size) = true
  · by_cases z : s.size ≤ 360
    · rw [Push_ok (k + 100) (by omega) hs hd m (by rw [hb]; omega), Option.bind_some, if_pos rfl]
      by_cases e : pushI (N4 s 12) (N4 s 16) (bt s 29) (bt s 30) (bt s 31) (s.extract 36 s.size) = s
      · rw [if_pos ((toList_iff _ _).mpr e), if_pos ⟨m, z, e⟩]
      · rw [if_neg (fun h => e ((toList_iff _ _).mp h)), if_neg (fun h => e h.2.2)]; rfl
    · rw [Push_big (k + 100) hs hd m (by rw [hb]; omega), Option.bind_some, if_neg (by decide), if_neg (fun h => z h.2.1)]; rfl
  · rw [Push_bad (k + 100) hs hd (by simpa using m), Option.bind_some, if_neg (by decide), if_neg (fun h => m h.1)]; rfl
end Go.Proofs.Ytobhmonmeocfmaa.Pure
