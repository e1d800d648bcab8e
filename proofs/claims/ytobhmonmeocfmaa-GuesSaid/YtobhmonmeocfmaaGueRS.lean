import Derived.Test.YtobhmonmeocfmaaGueIS
import Derived.Test.YtobhmonmeocfmaaNetGetRS
import Derived.Test.YtobhmonmeocfmaaFAWharfageref1Pop
namespace Go.Proofs.Ytobhmonmeocfmaa.Pure
set_option linter.unusedSimpArgs false
set_option linter.unusedVariables false
open Go Go.RowKit Go.Proofs.Ytobhmonmeocfmaa.PA Go.Proofs.YtobhmonmeocfmaaW.PrintWords Go.Proofs.YtobhmonmeocfmaaW.PrintLast Go.Proofs.YtobhmonmeocfmaaW.PrintMore Go.Proofs.Ytobhmonmeocfmaa.Wh
theorem OuterMay_eq (k : Nat) (hk : 60 ≤ k) (src dst tier marker origin : Int) (body : ByteArray) (hs : R64 src) (hd : R64 dst) : wharfageref1_OuterMay.f k src dst tier marker origin body = some (mayG src dst tier marker origin body) := by
  obtain ⟨x, y, z, _, h1⟩ := whose_eq k hk src hs.1 hs.2
  obtain ⟨x', y', z', _, h2⟩ := whose_eq k hk dst hd.1 hd.2
  unfold wharfageref1_OuterMay.f
  rw [h1, h2, within8, within8]
  simp only [Option.bind_some]
  rw [ite_fs (b := _) (fun _ => ite_fs (b := _) (fun _ => ite_fs (b := _) (fun _ => ite_fs (b := _) (fun _ => ite_fs (b := _) (fun _ => ite_fs (b := _) (fun _ => rfl))))))]
  congr 1
  rw [Bool.eq_iff_iff]
  simp only [mayG, Bool.and_eq_true, decide_eq_true_eq, ge_iff_le]
  constructor <;> (rintro ⟨h1, h2, h3, h4, h5, h6, h7⟩; exact ⟨h1, h2, h3, h4, h5, h6, by omega⟩)
theorem RPush_bad (k : Nat) (hk : 60 ≤ k) {src dst tier marker origin : Int} {body : ByteArray} (hs : R64 src) (hd : R64 dst) (h : mayG src dst tier marker origin body = false) : wharfageref1_Push.f k src dst tier marker origin body = some ((⟨#[]⟩ : ByteArray), 600) := by
  unfold wharfageref1_Push.f
  rw [OuterMay_eq k hk _ _ _ _ _ _ hs hd, h, Option.bind_some, if_neg (by decide)]
theorem RPush_big (k : Nat) (hk : 60 ≤ k) {src dst tier marker origin : Int} {body : ByteArray} (hs : R64 src) (hd : R64 dst) (h : mayG src dst tier marker origin body = true) (h2 : 324 < body.size) : wharfageref1_Push.f k src dst tier marker origin body = some ((⟨#[]⟩ : ByteArray), 601) := by
  have hp := mayG_parts h
  unfold wharfageref1_Push.f
  rw [OuterMay_eq k hk _ _ _ _ _ _ hs hd, h, Option.bind_some, if_pos rfl, wrap64_id (n := 16 + (body.size : Int)) (by omega) (by omega), wrap64_id (by omega) (by omega), if_pos (by omega)]
theorem RPush_ok (k : Nat) (hk : 60 ≤ k) {src dst tier marker origin : Int} {body : ByteArray} (hs : R64 src) (hd : R64 dst) (h : mayG src dst tier marker origin body = true) (h2 : body.size ≤ 324) : wharfageref1_Push.f k src dst tier marker origin body = some (pushI src dst tier marker origin body, 0) := by
  have hput := PutIp_ok k (by omega) (pushI_may h h2)
  have hg : B2 61440 ++ B2 6080 ++ B2 (16 + (body.size : Int)) ++ B2 0 ++ B1 0 ++ B1 tier ++ B1 marker ++ B1 origin ++ B2 (body.size : Int) ++ B2 0 ++ body = gueB tier marker origin body := by
    simp only [gueB, inG, ByteArray.append_assoc]
  have hM := OuterMay_eq k hk src dst tier marker origin body hs hd
  obtain ⟨k, rfl⟩ : ∃ m, k = m + 40 := ⟨k - 40, by omega⟩
  have n0 : ∀ x, wharfageref1_Num.f (k + 40) x 1 = some (B1 x) := fun x => num1 (k + 38) x
  have n1 : ∀ x, wharfageref1_Num.f (k + 40) x 2 = some (B2 x) := fun x => num2 (k + 37) x
  unfold wharfageref1_Push.f
  rw [hM, h, Option.bind_some, if_pos rfl, wrap64_id (n := 16 + (body.size : Int)) (by omega) (by omega), wrap64_id (n := 20 + (16 + (body.size : Int))) (by omega) (by omega), if_neg (by omega)]
  rw [n1, Option.bind_some, n1, Option.bind_some, if_pos (by simp only [B2_size]; omega), n1, Option.bind_some, if_pos (by simp only [ByteArray.size_append, B2_size]; omega), n1, Option.bind_some, if_pos (by simp only [ByteArray.size_append, B2_size]; omega)]
  rw [n0, Option.bind_some, if_pos (by simp only [ByteArray.size_append, B1_size, B2_size]; omega), n0, Option.bind_some, if_pos (by simp only [ByteArray.size_append, B1_size, B2_size]; omega), n0, Option.bind_some, if_pos (by simp only [ByteArray.size_append, B1_size, B2_size]; omega), n0, Option.bind_some, if_pos (by simp only [ByteArray.size_append, B1_size, B2_size]; omega)]
  rw [n1, Option.bind_some, if_pos (by simp only [ByteArray.size_append, B1_size, B2_size]; omega), Option.bind_some, if_pos (by simp only [ByteArray.size_append, B1_size, B2_size]; omega), if_pos (by simp only [ByteArray.size_append, B1_size, B2_size]; omega)]
  rw [hg, hput, Option.bind_some]
  rfl
end Go.Proofs.Ytobhmonmeocfmaa.Pure
namespace Go.Proofs.Ytobhmonmeocfmaa.Pure
set_option linter.unusedSimpArgs false
set_option linter.unusedVariables false
open Go Go.RowKit Go.Proofs.Ytobhmonmeocfmaa.PA Go.Proofs.YtobhmonmeocfmaaW.PrintWords Go.Proofs.YtobhmonmeocfmaaW.PrintLast Go.Proofs.YtobhmonmeocfmaaW.PrintMore Go.Proofs.Ytobhmonmeocfmaa.Wh
theorem getI_good (s : ByteArray) (h : (getI s).2.2.2.2.2.2.2 = 0 ∧ (getI s).2.2.2.2.2.2.1 = 0) : getI s = (N4 s 12, N4 s 16, bt s 9, bt s 8, N2 s 4, s.extract 20 s.size, 0, 0) ∧ 20 ≤ s.size := by
  unfold getI at h ⊢
  by_cases c1 : s.size < 20 ∨ 512 < s.size
  · rw [if_pos c1] at h; exact absurd h.1 (by decide)
  rw [if_neg c1] at h ⊢
  by_cases c2 : bt s 0 / 16 ≠ 4 ∨ bt s 0 % 16 < 5 ∨ (s.size : Int) < 4 * (bt s 0 % 16)
  · rw [if_pos c2] at h; exact absurd h.1 (by decide)
  rw [if_neg c2] at h ⊢
  by_cases c3 : N2 s 2 ≠ s.size
  · rw [if_pos c3] at h; exact absurd h.1 (by decide)
  rw [if_neg c3] at h ⊢
  by_cases c4 : sumB (s.extract 0 (4 * (bt s 0 % 16)).toNat) ≠ 65535
  · rw [if_pos c4] at h; exact absurd h.1 (by decide)
  rw [if_neg c4] at h ⊢
  by_cases c5 : 5 < bt s 0 % 16
  · rw [if_pos c5] at h; exact absurd h.2 (by decide)
  rw [if_neg c5] at h ⊢
  by_cases c6 : Go.bits .and .i64 (N2 s 6) 49151 ≠ 0
  · rw [if_pos c6] at h; exact absurd h.2 (by decide)
  rw [if_neg c6]
  exact ⟨rfl, by omega⟩
theorem RPop_bad (k : Nat) (s : ByteArray) (a b c d e : Int) (body : ByteArray) : wharfageref1_Pop.j0 (k + 1) s true a b c d e body = some badG := by
  rw [wharfageref1_Pop.j0, if_pos rfl]; rfl
theorem RPop_eq (k : Nat) (hk : 700 ≤ k) (s : ByteArray) : wharfageref1_Pop.f k s = some (popI s) := by
  obtain ⟨k, rfl⟩ : ∃ m, k = m + 1 := ⟨k - 1, by omega⟩
  unfold wharfageref1_Pop.f
  rw [GetIp_eq _ (by omega), Option.bind_some]
  by_cases good : (getI s).2.2.2.2.2.2.2 = 0 ∧ (getI s).2.2.2.2.2.2.1 = 0
  · obtain ⟨hg, h20⟩ := getI_good s good
    rw [if_pos good.1, if_pos good.2, hg]
    dsimp only
    have hz : (s.extract 20 s.size).size = s.size - 20 := by rw [ByteArray.size_extract]; omega
    unfold popI
    by_cases c : s.size < 36
    · rw [decide_eq_true (by rw [hz]; omega), RPop_bad, if_pos c]
    rw [decide_eq_false (by rw [hz]; omega), if_neg c, wharfageref1_Pop.j0, if_neg (by decide)]
    have hb : (s.extract 36 s.size).size = s.size - 36 := by rw [ByteArray.size_extract]; omega
    have e1 : bt (s.extract 20 s.size) 9 = bt s 29 := bt_extract s 20 s.size 9 (by omega) (Nat.le_refl _)
    have e2 : bt (s.extract 20 s.size) 10 = bt s 30 := bt_extract s 20 s.size 10 (by omega) (Nat.le_refl _)
    have e3 : bt (s.extract 20 s.size) 11 = bt s 31 := bt_extract s 20 s.size 11 (by omega) (Nat.le_refl _)
    have e4 := ex_ex s 20 16 (by omega)
    have r1 := bt_range s 29; have r2 := bt_range s 30; have r3 := bt_range s 31
    have hs := N4_R64 s 12; have hd := N4_R64 s 16
    rw [e4, e1, e2, e3, hz, if_pos (by omega), if_pos (by omega), if_pos (by omega), if_pos (by omega), wrap64_id (n := bt s 29) (by omega) (by omega), wrap64_id (n := bt s 30) (by omega) (by omega), wrap64_id (n := bt s 31) (by omega) (by omega)]
    by_cases m : mayG (N4 s 12) (N4 s 16) (bt s 29) (bt s 30) (bt s 31) (s.extract 36 s.size) = true
    · by_cases z : s.size ≤ 360
      · rw [RPush_ok k (by omega) hs hd m (by rw [hb]; omega), Option.bind_some, if_pos rfl]
        by_cases e : pushI (N4 s 12) (N4 s 16) (bt s 29) (bt s 30) (bt s 31) (s.extract 36 s.size) = s
        · rw [if_pos ((toList_iff _ _).mpr e), if_pos ⟨m, z, e⟩]
        · rw [if_neg (fun h => e ((toList_iff _ _).mp h)), if_neg (fun h => e h.2.2)]; rfl
      · rw [RPush_big k (by omega) hs hd m (by rw [hb]; omega), Option.bind_some, if_neg (by decide), if_neg (fun h => z h.2.1)]; rfl
    · rw [RPush_bad k (by omega) hs hd (by simpa using m), Option.bind_some, if_neg (by decide), if_neg (fun h => m h.1)]; rfl
  · have hbad : popI s = badG := by
      unfold popI
      by_cases c : s.size < 36
      · rw [if_pos c]
      rw [if_neg c, if_neg]
      rintro ⟨m, z, e⟩
      apply good
      have hb : (s.extract 36 s.size).size = s.size - 36 := by rw [ByteArray.size_extract]; omega
      have := get_put (pushI_may m (by rw [hb]; omega))
      unfold pushI at e
      rw [e] at this
      rw [this]
      exact ⟨rfl, rfl⟩
    rw [hbad]
    by_cases a : (getI s).2.2.2.2.2.2.2 = 0
    · rw [if_pos a, if_neg (fun h => good ⟨a, h⟩), RPop_bad]
    · rw [if_neg a, RPop_bad]
end Go.Proofs.Ytobhmonmeocfmaa.Pure
