/- Plain laws: SiteInside, SiteAgain. -/
import Derived.Test.YtmhlgpdoedbedaaGreatS3
namespace Go.Proofs.YtmhlgpdoedbedaaGreat.Pu
set_option linter.unusedSimpArgs false
set_option linter.unusedVariables false
open Go Go.RowKit Go.Proofs.YtmhlgpdoedbedaaGreat.Sv Go.Proofs.YtmhlgpdoedbedaaGreat.Lf
theorem awake20 : L_law20_awake 281474976710656 = some true := by decide +kernel
def nG : GNode := ⟨0, givenC, newsB, newV, [], 0⟩
theorem nG_ok : NodeOk nG := (nodeOk_iff _).1 (by decide +kernel)
theorem newG : L_site_New 281474976710656 0 givenC = some (nG, 0) := by
  have h := SiteNew_eq (id := 0) (c := givenC) (by decide) given_ok
  rw [show nodeOk ⟨0, givenC, newsB, newV, [], 0⟩ = true by decide +kernel, if_pos rfl] at h
  exact h
theorem Said20_eq (i flags : Int) (body : ByteArray) : L_law20_said 281474976710656 i flags body = some (sayS i flags body) := by
  unfold L_law20_said
  rw [say_via, and_65535, and_63]
  refine stVia (stIf (by omega) ?_)
  have h := PacketOf_eq (N := 281474976710656) (by decide) (flowI i) (flags % 64) (sayB body)
  rw [if_pos (say_ok i flags body)] at h
  rw [Int.toNat_natCast]
  exact stB h rfl
def toSite (to : Int) (s : ByteArray) : GOuter := ⟨167837696, 167903232 + to, 1, 0, 0, s⟩
theorem toSite_may {to : Int} (h : 0 ≤ to ∧ to < 3) {s : ByteArray} (hs : s.size ≤ 512) : mayG (toSite to s) = true := by
  unfold mayG Known toSite
  exact decide_eq_true (by dsimp only; omega)
theorem RPush_ok {o : GOuter} (h : mayG o = true) (hs : o.Body.size ≤ 324) : L_ref1_Push 281474976710656 o = some (pushI o, 0) := by
  have := RPush_eq (N := 281474976710656) (by decide) o
  unfold pushR at this
  rwa [if_pos h, if_neg (by omega)] at this
theorem Pushed20_eq {to : Int} (h : 0 ≤ to ∧ to < 3) {s : ByteArray} (hs : s.size ≤ 324) : L_law20_pushed 281474976710656 to s = some (pushI (toSite to s)) := by
  unfold L_law20_pushed
  rw [w64 (n := (167903232 : Int) + to) (by omega) (by omega)]
  exact stB (RPush_ok (toSite_may h (by omega)) hs) rfl
/-! ### the same packet again -/
end Go.Proofs.YtmhlgpdoedbedaaGreat.Pu
