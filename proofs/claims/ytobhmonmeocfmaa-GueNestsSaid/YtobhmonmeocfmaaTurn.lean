/- '[]byte(s)', one byte of it turned, and back: what the machine's memory says. -/
import Derived.Test.YtobhmonmeocfmaaNetAll
import Derived.Laws.IdiomStrings
namespace Go.Proofs.Ytobhmonmeocfmaa.Pure
set_option linter.unusedSimpArgs false
set_option linter.unusedVariables false
open Go Go.RowKit Go.Proofs.YtobhmonmeocfmaaW.PrintWords Go.Proofs.YtobhmonmeocfmaaW.PrintLast Go.Proofs.YtobhmonmeocfmaaW.PrintMore Go.Proofs.Ytobhmonmeocfmaa.Wh
/-- A string with one byte turned. -/
def turnS (s : ByteArray) (i : Nat) (x : UInt8) : ByteArray := ⟨(s.data.toList.set i x).toArray⟩
theorem turnS_list (s : ByteArray) (i : Nat) (x : UInt8) : bytesOf (turnS s i x) = (bytesOf s).set i (x.toNat : Int) := by
  unfold bytesOf turnS
  simp [List.map_set]
theorem turnS_size (s : ByteArray) (i : Nat) (x : UInt8) : (turnS s i x).size = s.size := by
  have h := congrArg List.length (turnS_list s i x)
  rw [bytesOf_length, List.length_set, bytesOf_length] at h
  exact h
/-- The world behind '[]byte(s)'. -/
def rowW (w : World) (e : TypeId) (s : ByteArray) : World :=
  w.drew.alloc (.cells (bytesRow s (grownCap w s.size 0 e)) e ((bytesRow s (grownCap w s.size 0 e)).size, (bytesRow s (grownCap w s.size 0 e)).size + 1))
theorem drew_size (w : World) : w.drew.heap.size = w.heap.size := rfl
theorem rowW_cell (w : World) (e : TypeId) (s : ByteArray) (j : Nat) (hj : j < s.data.size) : (rowW w e s).cell? ⟨w.heap.size, j, none⟩ = some (.int .u8 (s.data[j].toNat : Int)) := by
  have h := World.cell?_alloc_mark w.drew (bytesRow s (grownCap w s.size 0 e)) e ((bytesRow s (grownCap w s.size 0 e)).size, (bytesRow s (grownCap w s.size 0 e)).size + 1) j
  rw [drew_size] at h
  exact h.trans (bytesRow_at s _ j hj)
theorem rowW_bt (w : World) (e : TypeId) (s : ByteArray) (j : Nat) (hj : j < s.size) : (rowW w e s).cell? ⟨w.heap.size, j, none⟩ = some (.int .u8 (bt s j)) := by
  rw [rowW_cell w e s j hj]
  unfold bt
  rw [dif_pos (by simpa using hj)]
  simp
  rfl
theorem rowW_frozen (w : World) (e : TypeId) (s : ByteArray) (j : Nat) (hj : j < s.size) : (rowW w e s).frozen? ⟨w.heap.size, j, none⟩ = false := by
  have h := World.frozen?_alloc_mark w.drew (bytesRow s (grownCap w s.size 0 e)) e (bytesRow s (grownCap w s.size 0 e)).size ((bytesRow s (grownCap w s.size 0 e)).size + 1) j
  rw [drew_size] at h
  refine h.trans ?_
  have hs : s.size ≤ (bytesRow s (grownCap w s.size 0 e)).size := by
    unfold bytesRow
    simp
  rw [decide_eq_false (by omega)]
  rfl
theorem rowW_below {w0 w : World} (hB : Below w0.heap.size w0 w) (e : TypeId) (s : ByteArray) : Below w0.heap.size w0 (rowW w e s) := below_alloc (below_drew hB) _
theorem turn_back {P : Program} (w : World) (src dst e : TypeId) (s : ByteArray) (i cap : Nat) (x : UInt8) (hi : i < s.size) (hs : P.underlying src = some (.slice e)) (he : P.underlying e = some (.int .u8)) (hd : P.underlying dst = some .string) :
    (convert src dst (.slice (some ⟨w.heap.size, 0, none⟩) s.size cap)).run P ((rowW w e s).setCell ⟨w.heap.size, i, none⟩ (.int .u8 (x.toNat : Int))) = .ok (.string (turnS s i x)) ((rowW w e s).setCell ⟨w.heap.size, i, none⟩ (.int .u8 (x.toNat : Int))) := by
  have hl : (s.data.toList.set i x).length = s.size := by rw [List.length_set]; rfl
  have h := run_convert_bytes_back (P := P) ((rowW w e s).setCell ⟨w.heap.size, i, none⟩ (.int .u8 (x.toNat : Int))) src dst e ⟨w.heap.size, 0, none⟩ cap (s.data.toList.set i x) hs he hd (fun j hj => by
    have hj' : j < s.data.size := by rw [hl] at hj; exact hj
    have ea : (⟨w.heap.size, 0, none⟩ : Addr).add j = ⟨w.heap.size, j, none⟩ := by simp [Addr.add]; omega
    rw [ea]
    by_cases c : i = j
    · subst c
      rw [World.cell?_setCell_same _ _ _ (rowW_cell w e s i hj')]
      simp
    · rw [World.cell?_setCell_other _ _ _ _ (fun q => c (by injection q)), rowW_cell w e s j hj']
      simp [List.getElem_set, c])
  rw [hl] at h
  exact h
theorem row_run {P : Program} (w : World) (src dst e : TypeId) (s : ByteArray) (hs : P.underlying src = some .string) (hd : P.underlying dst = some (.slice e)) (he : P.underlying e = some (.int .u8)) :
    (convert src dst (.string s)).run P w = .ok (.slice (some ⟨w.heap.size, 0, none⟩) s.size (grownCap w s.size 0 e)) (rowW w e s) := run_bytes_of_string w src dst e s hs hd he
/-- What is turned is another byte. -/
theorem xor_byte (a c : Int) (ha : 0 ≤ a ∧ a ≤ 255) (hc : 1 ≤ c ∧ c ≤ 128) : ∃ x : UInt8, Go.bits .xor .u8 a c = (x.toNat : Int) ∧ (x.toNat : Int) ≠ a := by
  obtain ⟨n, rfl⟩ := Int.eq_ofNat_of_zero_le ha.1
  obtain ⟨m, rfl⟩ := Int.eq_ofNat_of_zero_le (show 0 ≤ c by omega)
  have hn : n < 256 := by omega
  have hm : m < 256 := by omega
  have hx : (n ^^^ m) < 256 := Nat.xor_lt_two_pow (n := 8) hn hm
  have hu : (UInt8.ofNat (n ^^^ m)).toNat = n ^^^ m := by simp [Nat.mod_eq_of_lt hn, Nat.mod_eq_of_lt hm]
  refine ⟨UInt8.ofNat (n ^^^ m), ?_, ?_⟩
  · rw [hu]
    show IntKind.u8.wrap ((BitVec.ofInt 8 (n : Int) ^^^ BitVec.ofInt 8 (m : Int)).toNat : Int) = _
    rw [BitVec.toNat_xor, BitVec.ofInt_natCast, BitVec.ofInt_natCast, BitVec.toNat_ofNat, BitVec.toNat_ofNat, Nat.mod_eq_of_lt (show n < 2 ^ 8 from hn), Nat.mod_eq_of_lt (show m < 2 ^ 8 from hm)]
    simp [IntKind.wrap, IntKind.bits, IntKind.signed]
    omega
  · rw [hu]
    intro h
    have h' : n ^^^ m = n := Int.ofNat.inj h
    have : m = 0 := by
      have e : n ^^^ (n ^^^ m) = n ^^^ n := by rw [h']
      rw [← Nat.xor_assoc, Nat.xor_self, Nat.zero_xor] at e
      exact e
    omega
end Go.Proofs.Ytobhmonmeocfmaa.Pure
