/- The bytes of a packet that is put, one by one; and what is told of it again. -/
import Derived.Test.YtnhbieicjlnakaaNet2
namespace Go.Proofs.Ytnhbieicjlnakaa.Pure
set_option linter.unusedSimpArgs false
set_option linter.unusedVariables false
open Go Go.RowKit Go.Proofs.Ytnhbieicjlnakaa.PA Go.Proofs.YtnhbieicjlnakaaW.PrintWords Go.Proofs.YtnhbieicjlnakaaW.PrintLast Go.Proofs.YtnhbieicjlnakaaW.PrintMore Go.Proofs.Ytnhbieicjlnakaa.Wh

theorem ext_list {a b : ByteArray} (h : a.data.toList = b.data.toList) : a = b := ByteArray.ext (Array.ext' h)
theorem nums_append' (a b : List Int) : strOfNums a ++ strOfNums b = strOfNums (a ++ b) := by
  apply ext_list
  simp [strOfNums_data, ByteArray.data_append]
theorem bt_get (s : ByteArray) (i : Nat) : bt s i = (bytesOf s).getD i 0 := by
  have := rd_bytesOf s (i : Int)
  rw [← this]; unfold rd; simp
theorem bytesOf_append (a b : ByteArray) : bytesOf (a ++ b) = bytesOf a ++ bytesOf b := by
  simp [bytesOf, ByteArray.data_append]
theorem bytesOf_nums (L : List Int) (h : ∀ x ∈ L, 0 ≤ x ∧ x ≤ 255) : bytesOf (strOfNums L) = L := by
  unfold bytesOf
  rw [strOfNums_data, List.map_map]
  conv => rhs; rw [← List.map_id L]
  apply List.map_congr_left
  intro x hx
  have := h x hx
  simp
  omega
theorem bytesOf_inj {a b : ByteArray} (h : bytesOf a = bytesOf b) : a = b := by
  apply ext_list
  have inj : ∀ x y : UInt8, ((x.toNat : Nat) : Int) = (y.toNat : Int) → x = y := fun x y e => UInt8.toNat_inj.mp (Int.ofNat.inj e)
  have : ∀ l m : List UInt8, (l.map fun b => ((b.toNat : Nat) : Int)) = (m.map fun b => ((b.toNat : Nat) : Int)) → l = m := by
    intro l
    induction l with
    | nil => intro m e; cases m with
      | nil => rfl
      | cons _ _ => cases e
    | cons x l ih => intro m e; cases m with
      | nil => cases e
      | cons y m =>
        simp only [List.map_cons, List.cons.injEq] at e
        rw [inj x y e.1, ih m e.2]
  exact this _ _ h
theorem bt_left (a b : ByteArray) (i : Nat) (h : i < a.size) : bt (a ++ b) i = bt a i := by
  rw [bt_get, bt_get, bytesOf_append]
  simp only [List.getD_eq_getElem?_getD]
  rw [List.getElem?_append_left (by rw [bytesOf_length]; exact h)]
theorem bt_right (a b : ByteArray) (i : Nat) (h : a.size ≤ i) : bt (a ++ b) i = bt b ((i - a.size : Nat) : Int) := by
  rw [bt_get, bt_get, bytesOf_append]
  simp only [List.getD_eq_getElem?_getD]
  rw [List.getElem?_append_right (by rw [bytesOf_length]; exact h), bytesOf_length]
def headL (src dst proto ttl id : Int) (n : Nat) (chk : Int) : List Int :=
  [69, 0, (20 + (n : Int)) / 256 % 256, (20 + (n : Int)) % 256, id / 256 % 256, id % 256, 64, 0, ttl % 256, proto % 256, chk / 256 % 256, chk % 256,
    src / 16777216 % 256, src / 65536 % 256, src / 256 % 256, src % 256, dst / 16777216 % 256, dst / 65536 % 256, dst / 256 % 256, dst % 256]
theorem headI_nums (src dst proto ttl id : Int) (n : Nat) (chk : Int) : headI src dst proto ttl id n chk = strOfNums (headL src dst proto ttl id n chk) := by
  unfold headI B1 B2 B4
  simp only [nums_append', List.cons_append, List.nil_append]
  rfl
theorem headL_range (src dst proto ttl id : Int) (n : Nat) (chk : Int) : ∀ x ∈ headL src dst proto ttl id n chk, 0 ≤ x ∧ x ≤ 255 := by
  intro x hx
  simp only [headL, List.mem_cons, List.not_mem_nil, or_false] at hx
  omega
theorem bytesOf_head (src dst proto ttl id : Int) (n : Nat) (chk : Int) : bytesOf (headI src dst proto ttl id n chk) = headL src dst proto ttl id n chk := by
  rw [headI_nums, bytesOf_nums _ (headL_range _ _ _ _ _ _ _)]
theorem bytesOf_put (src dst proto ttl id : Int) (body : ByteArray) : bytesOf (putI src dst proto ttl id body) = headL src dst proto ttl id body.size (sumI src dst proto ttl id body.size) ++ bytesOf body := by
  rw [putI, bytesOf_append, bytesOf_head]
theorem bt_put (src dst proto ttl id : Int) (body : ByteArray) (i : Nat) (h : i < 20) : bt (putI src dst proto ttl id body) i = (headL src dst proto ttl id body.size (sumI src dst proto ttl id body.size)).getD i 0 := by
  rw [putI, bt_left _ _ _ (by rw [headI_size]; exact h), bt_get, bytesOf_head]
theorem put_drop (src dst proto ttl id : Int) (body : ByteArray) : (putI src dst proto ttl id body).extract 20 (putI src dst proto ttl id body).size = body := by
  apply ByteArray.extract_append_eq_right
  · rw [headI_size]
  · rw [putI_size, headI_size]
theorem put_take (src dst proto ttl id : Int) (body : ByteArray) : (putI src dst proto ttl id body).extract 0 20 = headI src dst proto ttl id body.size (sumI src dst proto ttl id body.size) := by
  apply ByteArray.extract_append_eq_left
  rw [headI_size]
/-- The sum with its own sum in its place is whole. -/
theorem foldS_whole (r c : Int) (h0 : 0 < r) (hc : c = 65535 - foldS r) : foldS (r + c) = 65535 := by
  subst hc
  unfold foldS
  rw [if_neg (show ¬ r = 0 by omega)]
  rw [if_neg (by omega)]
  omega
theorem raw_head (src dst proto ttl id : Int) (n : Nat) (chk : Int) : rawL (headL src dst proto ttl id n chk) = rawL (headL src dst proto ttl id n 0) + (chk / 256 % 256 * 256 + chk % 256) := by
  simp only [headL, rawL]
  omega
theorem raw_head_pos (src dst proto ttl id : Int) (n : Nat) : 0 < rawL (headL src dst proto ttl id n 0) := by
  have := headL_range src dst proto ttl id n 0
  simp only [headL, List.mem_cons, List.not_mem_nil, or_false, forall_eq_or_imp, forall_eq] at this
  simp only [headL, rawL]
  omega
theorem sum_put (src dst proto ttl id : Int) (n : Nat) : sumB (headI src dst proto ttl id n (sumI src dst proto ttl id n)) = 65535 := by
  have hr := sumI_range src dst proto ttl id n
  unfold sumB
  rw [bytesOf_head, raw_head, show sumI src dst proto ttl id n / 256 % 256 * 256 + sumI src dst proto ttl id n % 256 = sumI src dst proto ttl id n by omega]
  apply foldS_whole _ _ (raw_head_pos _ _ _ _ _ _)
  unfold sumI sumB
  rw [bytesOf_head]
theorem N2_put (src dst proto ttl id : Int) (body : ByteArray) (i : Nat) (h : i + 1 < 20) : N2 (putI src dst proto ttl id body) i =
    (headL src dst proto ttl id body.size (sumI src dst proto ttl id body.size)).getD i 0 * 256 + (headL src dst proto ttl id body.size (sumI src dst proto ttl id body.size)).getD (i + 1) 0 := by
  unfold N2
  rw [bt_put _ _ _ _ _ _ i (by omega), bt_put _ _ _ _ _ _ (i + 1) h]
theorem N4_put (src dst proto ttl id : Int) (body : ByteArray) (i : Nat) (h : i + 3 < 20) : N4 (putI src dst proto ttl id body) i =
    (((headL src dst proto ttl id body.size (sumI src dst proto ttl id body.size)).getD i 0 * 256 + (headL src dst proto ttl id body.size (sumI src dst proto ttl id body.size)).getD (i + 1) 0) * 256 + (headL src dst proto ttl id body.size (sumI src dst proto ttl id body.size)).getD (i + 2) 0) * 256 + (headL src dst proto ttl id body.size (sumI src dst proto ttl id body.size)).getD (i + 3) 0 := by
  unfold N4
  rw [bt_put _ _ _ _ _ _ i (by omega), bt_put _ _ _ _ _ _ (i + 1) (by omega), bt_put _ _ _ _ _ _ (i + 2) (by omega), bt_put _ _ _ _ _ _ (i + 3) h]
theorem and_lit : Go.bits .and .i64 16384 49151 = 0 := by decide
/-- What is put is told again. -/
theorem get_put {src dst proto ttl id : Int} {body : ByteArray} (h : mayI src dst proto ttl id body = true) : getI (putI src dst proto ttl id body) = (src, dst, proto, ttl, id, body, 0, 0) := by
  obtain ⟨h1, h2, h3, h4, h5, hb⟩ := mayI_parts h
  have b0 : bt (putI src dst proto ttl id body) 0 = 69 := bt_put _ _ _ _ _ _ 0 (by decide)
  have b8 : bt (putI src dst proto ttl id body) 8 = ttl % 256 := bt_put _ _ _ _ _ _ 8 (by decide)
  have b9 : bt (putI src dst proto ttl id body) 9 = proto % 256 := bt_put _ _ _ _ _ _ 9 (by decide)
  have n2 : N2 (putI src dst proto ttl id body) 2 = (20 + (body.size : Int)) / 256 % 256 * 256 + (20 + (body.size : Int)) % 256 := N2_put _ _ _ _ _ _ 2 (by decide)
  have n4 : N2 (putI src dst proto ttl id body) 4 = id / 256 % 256 * 256 + id % 256 := N2_put _ _ _ _ _ _ 4 (by decide)
  have n6 : N2 (putI src dst proto ttl id body) 6 = 64 * 256 + 0 := N2_put _ _ _ _ _ _ 6 (by decide)
  have n12 : N4 (putI src dst proto ttl id body) 12 = ((src / 16777216 % 256 * 256 + src / 65536 % 256) * 256 + src / 256 % 256) * 256 + src % 256 := N4_put _ _ _ _ _ _ 12 (by decide)
  have n16 : N4 (putI src dst proto ttl id body) 16 = ((dst / 16777216 % 256 * 256 + dst / 65536 % 256) * 256 + dst / 256 % 256) * 256 + dst % 256 := N4_put _ _ _ _ _ _ 16 (by decide)
  have hsz := putI_size src dst proto ttl id body
  unfold getI
  rw [b0, if_neg (by omega), if_neg (by omega), if_neg (by rw [n2, hsz]; omega), show (4 * ((69 : Int) % 16)).toNat = 20 from rfl, put_take, sum_put, if_neg (by decide), if_neg (by decide), n6, show (64 * 256 + 0 : Int) = 16384 from rfl, and_lit, if_neg (by decide), put_drop, b8, b9, n4, n12, n16]
  simp only [Prod.mk.injEq, and_true]
  omega
/-- Unlike packets have unlike bytes. -/
theorem put_inj {src dst proto ttl id : Int} {body : ByteArray} {src' dst' proto' ttl' id' : Int} {body' : ByteArray} (h : mayI src dst proto ttl id body = true) (h' : mayI src' dst' proto' ttl' id' body' = true)
    (e : putI src dst proto ttl id body = putI src' dst' proto' ttl' id' body') : src = src' ∧ dst = dst' ∧ proto = proto' ∧ ttl = ttl' ∧ id = id' ∧ body = body' := by
  have e1 := get_put h
  rw [e, get_put h'] at e1
  simp only [Prod.mk.injEq, and_true] at e1
  exact ⟨e1.1.symm, e1.2.1.symm, e1.2.2.1.symm, e1.2.2.2.1.symm, e1.2.2.2.2.1.symm, e1.2.2.2.2.2.symm⟩
end Go.Proofs.Ytnhbieicjlnakaa.Pure
