/- What functions compute, and that they do. -/
import Derived.Test.YtobhmonmeocfmaaAll0
namespace Go.Proofs.Ytobhmonmeocfmaa.Lf
set_option linter.unusedVariables false
set_option linter.unusedSimpArgs false
set_option maxRecDepth 20000
open Go Go.RowKit Go.Proofs Go.Proofs.Ytobhmonmeocfmaa.Sv
/-! ### wharfage/wharfageref19.TakeBack -/
def L_ref19_TakeBack_1 (N : Nat) (t1 : Int) (b188_0 : Int) (b188_1 : Int) (b188_2 : Int) (b188_3 : Int) (b188_4 : Int) (b188_5 : Int) (b188_6 : Int) (b188_7 : Int) (b188_8 : Int) (b188_9 : Int) (b196_0 : Int) (b196_1 : Int) (b196_2 : Int) (b196_3 : Int) (b196_4 : Int) (b196_5 : ByteArray) (t63 : Bool) : Option (ByteArray × GOut × Int) :=
  bif t63 then
    (L_ref19_told N (GEvent.mk b188_0 b188_1 b188_2 b188_3 b188_4 (GFlow.mk b188_5 b188_6 b188_7 b188_8 b188_9)) 8).bind fun v1 =>
    some (ByteArray.empty, v1, 0)
  else
    (L_ref1_FlowOf N b196_5).bind fun v1 =>
    bif (v1.2.2 != 0) then
      (L_ref19_classed N (GEvent.mk b188_0 b188_1 b188_2 b188_3 b188_4 (GFlow.mk b188_5 b188_6 b188_7 b188_8 b188_9)) v1.2.2).bind fun v2 =>
      some (ByteArray.empty, v2, 0)
    else
      (L_ref19_told N (GEvent.mk b188_0 b188_1 b188_2 b188_3 t1 v1.1) 1).bind fun v2 =>
      some (b196_5, v2, 0)
def L_ref19_TakeBack (N : Nat) (x0 : Int) (x1 : Int) (x2 : ByteArray) : Option (ByteArray × GOut × Int) :=
  (L_ref1_Address N 2 x0 x1).bind fun v1 =>
  bif (v1.2 != 0) then
    some (ByteArray.empty, (GOut.mk ([]) ([])), 2100)
  else
    (L_ref1_Pop N x2).bind fun v2 =>
    bif (v2.2 != 0) then
      L_ref19_TakeBack_1 N x1 0 2 x0 x1 0 0 0 0 0 0 v2.1.Src v2.1.Dst v2.1.Tier v2.1.Marker v2.1.Origin v2.1.Body true
    else
      bif (v2.1.Dst != v1.1) then
        L_ref19_TakeBack_1 N x1 0 2 x0 x1 0 0 0 0 0 0 v2.1.Src v2.1.Dst v2.1.Tier v2.1.Marker v2.1.Origin v2.1.Body true
      else
        bif (v2.1.Tier != 3) then
          L_ref19_TakeBack_1 N x1 0 2 x0 x1 0 0 0 0 0 0 v2.1.Src v2.1.Dst v2.1.Tier v2.1.Marker v2.1.Origin v2.1.Body true
        else
          bif (v2.1.Marker != 0) then
            L_ref19_TakeBack_1 N x1 0 2 x0 x1 0 0 0 0 0 0 v2.1.Src v2.1.Dst v2.1.Tier v2.1.Marker v2.1.Origin v2.1.Body true
          else
            bif (v2.1.Origin != 0) then
              L_ref19_TakeBack_1 N x1 0 2 x0 x1 0 0 0 0 0 0 v2.1.Src v2.1.Dst v2.1.Tier v2.1.Marker v2.1.Origin v2.1.Body true
            else
              L_ref19_TakeBack_1 N x1 0 2 x0 x1 0 0 0 0 0 0 v2.1.Src v2.1.Dst v2.1.Tier v2.1.Marker v2.1.Origin v2.1.Body (v2.1.Src != (IntKind.i64.wrap ((167903232 : Int) + x0)))
def d_ref19_TakeBack (r : ByteArray × GOut × Int) : D := .tup [.str r.1, .agg [.sl true (eL eStr r.2.1.Sent) r.2.1.Sent.length r.2.1.Sent.length, .sl true (eL eEvent r.2.1.Events) r.2.1.Events.length r.2.1.Events.length], .int .i64 r.2.2]
theorem g_ref19_TakeBack_1 {c : Cx} (hc : Is c Try.prog ty 45 86) (N : Nat) {r : ByteArray × GOut × Int} (hfin : c.Fin [] (d_ref19_TakeBack r) []) (t1 : Int) (b188_0 : Int) (b188_1 : Int) (b188_2 : Int) (b188_3 : Int) (b188_4 : Int) (b188_5 : Int) (b188_6 : Int) (b188_7 : Int) (b188_8 : Int) (b188_9 : Int) (b196_0 : Int) (b196_1 : Int) (b196_2 : Int) (b196_3 : Int) (b196_4 : Int) (b196_5 : ByteArray) (t63 : Bool) (h : L_ref19_TakeBack_1 N t1 b188_0 b188_1 b188_2 b188_3 b188_4 b188_5 b188_6 b188_7 b188_8 b188_9 b196_0 b196_1 b196_2 b196_3 b196_4 b196_5 t63 = some r) : c.Goes (items (bodyOf Try.f45) [.c 223, .c 127]) ⟨[(1, .int .i64 t1), (7, .ptr 156 0), (11, .ptr 188 0), (12, .ptr 196 0), (63, .bool t63)], [(156, some ⟨false, 0, [.nils, .nils]⟩), (188, some ⟨false, 0, [.int .i64 b188_0, .int .i64 b188_1, .int .i64 b188_2, .int .i64 b188_3, .int .i64 b188_4, .int .i64 b188_5, .int .i64 b188_6, .int .i64 b188_7, .int .i64 b188_8, .int .i64 b188_9]⟩), (196, some ⟨false, 0, [.int .i64 b196_0, .int .i64 b196_1, .int .i64 b196_2, .int .i64 b196_3, .int .i64 b196_4, .str b196_5]⟩)]⟩ := by
  unfold L_ref19_TakeBack_1 at h
  rcases brk h with ⟨h0, k0⟩ | ⟨h0, k0⟩
  · subst h0
    replace h := k0
    obtain ⟨v1, h1, h⟩ := bind_of h
    have h := Option.some.inj h
    refine hc.ret hfin (fn := Try.f45) (by kernel_rfl) (orc := [(7, [(1, { r := d_ref19_told v1 })])]) (m := 3) (d := .tup [.str ByteArray.empty, .agg [.sl true (eL eStr v1.Sent) v1.Sent.length v1.Sent.length, .sl true (eL eEvent v1.Events) v1.Events.length v1.Events.length], .int .i64 0]) (by kernel_rfl) (.cons (c_ref19_told N (GEvent.mk b188_0 b188_1 b188_2 b188_3 b188_4 (GFlow.mk b188_5 b188_6 b188_7 b188_8 b188_9)) 8 h1) .nil) ?_ ?_
    · rw [← h]; exact Le.of rfl
    · rw [← h]; rfl
  · subst h0
    replace h := k0
    obtain ⟨v1, h1, h⟩ := bind_of h
    rcases brk h with ⟨h2, h⟩ | ⟨h2, h⟩
    · obtain ⟨v2, h3, h⟩ := bind_of h
      have h := Option.some.inj h
      refine hc.ret hfin (fn := Try.f45) (by kernel_rfl) (orc := [(8, [(2, { r := d_ref1_FlowOf v1 })]), (9, [(1, { cv := some (.bool true) })]), (10, [(2, { r := d_ref19_classed v2 })])]) (m := 10) (d := .tup [.str ByteArray.empty, .agg [.sl true (eL eStr v2.Sent) v2.Sent.length v2.Sent.length, .sl true (eL eEvent v2.Events) v2.Events.length v2.Events.length], .int .i64 0]) (by kernel_rfl) (.cons (c_ref1_FlowOf N b196_5 h1) (.cons (Le.tt h2) (.cons (c_ref19_classed N (GEvent.mk b188_0 b188_1 b188_2 b188_3 b188_4 (GFlow.mk b188_5 b188_6 b188_7 b188_8 b188_9)) v1.2.2 h3) .nil))) ?_ ?_
      · rw [← h]; exact Le.of rfl
      · rw [← h]; rfl
    · obtain ⟨v2, h3, h⟩ := bind_of h
      have h := Option.some.inj h
      refine hc.ret hfin (fn := Try.f45) (by kernel_rfl) (orc := [(8, [(2, { r := d_ref1_FlowOf v1 })]), (9, [(1, { cv := some (.bool false) })]), (13, [(3, { r := d_ref19_told v2 })])]) (m := 15) (d := .tup [.str b196_5, .agg [.sl true (eL eStr v2.Sent) v2.Sent.length v2.Sent.length, .sl true (eL eEvent v2.Events) v2.Events.length v2.Events.length], .int .i64 0]) (by kernel_rfl) (.cons (c_ref1_FlowOf N b196_5 h1) (.cons (Le.ff h2) (.cons (c_ref19_told N (GEvent.mk b188_0 b188_1 b188_2 b188_3 t1 v1.1) 1 h3) .nil))) ?_ ?_
      · rw [← h]; exact Le.of rfl
      · rw [← h]; rfl

theorem g_ref19_TakeBack_0 {c : Cx} (hc : Is c Try.prog ty 45 86) (N : Nat) {r : ByteArray × GOut × Int} (hfin : c.Fin [] (d_ref19_TakeBack r) []) (x0 : Int) (x1 : Int) (x2 : ByteArray) (h : L_ref19_TakeBack N x0 x1 x2 = some r) : c.Goes (items (bodyOf Try.f45) [.c 1]) ⟨[(0, .int .i64 x0), (1, .int .i64 x1), (2, .str x2)], []⟩ := by
  unfold L_ref19_TakeBack at h
  obtain ⟨v1, h0, h⟩ := bind_of h
  rcases brk h with ⟨h1, h⟩ | ⟨h1, h⟩
  · have h := Option.some.inj h
    refine hc.ret hfin (fn := Try.f45) (by kernel_rfl) (orc := [(1, [(2, { r := d_ref1_Address v1 })]), (2, [(1, { cv := some (.bool true) })])]) (m := 10) (d := .tup [.str ByteArray.empty, .agg [.nils, .nils], .int .i64 2100]) (by kernel_rfl) (.cons (c_ref1_Address N 2 x0 x1 h0) (.cons (Le.tt h1) .nil)) ?_ ?_
    · rw [← h]; exact Le.tup ((.cons (Le.of rfl) (.cons (Le.agg ((.cons (Le.nils) (.cons (Le.nils) .nil)))) (.cons (Le.of rfl) .nil))))
    · rw [← h]; rfl
  · obtain ⟨v2, h2, h⟩ := bind_of h
    rcases brk h with ⟨h3, h⟩ | ⟨h3, h⟩
    · exact hc.jump (orc := [(1, [(2, { r := d_ref1_Address v1 })]), (2, [(1, { cv := some (.bool false) })]), (5, [(1, { r := d_ref1_Pop v2 })]), (6, [(2, { cv := some (.bool true) })])]) (m := 16) (kt := [1, 7, 11, 12, 63]) (kh := [(156, 156), (188, 188), (196, 196)]) (by kernel_rfl) (.cons (c_ref1_Address N 2 x0 x1 h0) (.cons (Le.ff h1) (.cons (c_ref1_Pop N x2 h2) (.cons (Le.tt h3) .nil)))) (g_ref19_TakeBack_1 hc N hfin x1 0 2 x0 x1 0 0 0 0 0 0 v2.1.Src v2.1.Dst v2.1.Tier v2.1.Marker v2.1.Origin v2.1.Body true h)
    · rcases brk h with ⟨h4, h⟩ | ⟨h4, h⟩
      · exact hc.jump (orc := [(1, [(2, { r := d_ref1_Address v1 })]), (2, [(1, { cv := some (.bool false) })]), (5, [(1, { r := d_ref1_Pop v2 })]), (6, [(2, { cv := some (.bool false) }), (8, { cv := some (.bool true) })])]) (m := 16) (kt := [1, 7, 11, 12, 63]) (kh := [(156, 156), (188, 188), (196, 196)]) (by kernel_rfl) (.cons (c_ref1_Address N 2 x0 x1 h0) (.cons (Le.ff h1) (.cons (c_ref1_Pop N x2 h2) (.cons (Le.ff h3) (.cons (Le.tt h4) .nil))))) (g_ref19_TakeBack_1 hc N hfin x1 0 2 x0 x1 0 0 0 0 0 0 v2.1.Src v2.1.Dst v2.1.Tier v2.1.Marker v2.1.Origin v2.1.Body true h)
      · rcases brk h with ⟨h5, h⟩ | ⟨h5, h⟩
        · exact hc.jump (orc := [(1, [(2, { r := d_ref1_Address v1 })]), (2, [(1, { cv := some (.bool false) })]), (5, [(1, { r := d_ref1_Pop v2 })]), (6, [(2, { cv := some (.bool false) }), (8, { cv := some (.bool false) }), (13, { cv := some (.bool true) })])]) (m := 16) (kt := [1, 7, 11, 12, 63]) (kh := [(156, 156), (188, 188), (196, 196)]) (by kernel_rfl) (.cons (c_ref1_Address N 2 x0 x1 h0) (.cons (Le.ff h1) (.cons (c_ref1_Pop N x2 h2) (.cons (Le.ff h3) (.cons (Le.ff h4) (.cons (Le.tt h5) .nil)))))) (g_ref19_TakeBack_1 hc N hfin x1 0 2 x0 x1 0 0 0 0 0 0 v2.1.Src v2.1.Dst v2.1.Tier v2.1.Marker v2.1.Origin v2.1.Body true h)
        · rcases brk h with ⟨h6, h⟩ | ⟨h6, h⟩
          · exact hc.jump (orc := [(1, [(2, { r := d_ref1_Address v1 })]), (2, [(1, { cv := some (.bool false) })]), (5, [(1, { r := d_ref1_Pop v2 })]), (6, [(2, { cv := some (.bool false) }), (8, { cv := some (.bool false) }), (13, { cv := some (.bool false) }), (18, { cv := some (.bool true) })])]) (m := 16) (kt := [1, 7, 11, 12, 63]) (kh := [(156, 156), (188, 188), (196, 196)]) (by kernel_rfl) (.cons (c_ref1_Address N 2 x0 x1 h0) (.cons (Le.ff h1) (.cons (c_ref1_Pop N x2 h2) (.cons (Le.ff h3) (.cons (Le.ff h4) (.cons (Le.ff h5) (.cons (Le.tt h6) .nil))))))) (g_ref19_TakeBack_1 hc N hfin x1 0 2 x0 x1 0 0 0 0 0 0 v2.1.Src v2.1.Dst v2.1.Tier v2.1.Marker v2.1.Origin v2.1.Body true h)
          · rcases brk h with ⟨h7, h⟩ | ⟨h7, h⟩
            · exact hc.jump (orc := [(1, [(2, { r := d_ref1_Address v1 })]), (2, [(1, { cv := some (.bool false) })]), (5, [(1, { r := d_ref1_Pop v2 })]), (6, [(2, { cv := some (.bool false) }), (8, { cv := some (.bool false) }), (13, { cv := some (.bool false) }), (18, { cv := some (.bool false) }), (23, { cv := some (.bool true) })])]) (m := 16) (kt := [1, 7, 11, 12, 63]) (kh := [(156, 156), (188, 188), (196, 196)]) (by kernel_rfl) (.cons (c_ref1_Address N 2 x0 x1 h0) (.cons (Le.ff h1) (.cons (c_ref1_Pop N x2 h2) (.cons (Le.ff h3) (.cons (Le.ff h4) (.cons (Le.ff h5) (.cons (Le.ff h6) (.cons (Le.tt h7) .nil)))))))) (g_ref19_TakeBack_1 hc N hfin x1 0 2 x0 x1 0 0 0 0 0 0 v2.1.Src v2.1.Dst v2.1.Tier v2.1.Marker v2.1.Origin v2.1.Body true h)
            · exact hc.jump (orc := [(1, [(2, { r := d_ref1_Address v1 })]), (2, [(1, { cv := some (.bool false) })]), (5, [(1, { r := d_ref1_Pop v2 })]), (6, [(2, { cv := some (.bool false) }), (8, { cv := some (.bool false) }), (13, { cv := some (.bool false) }), (18, { cv := some (.bool false) }), (23, { cv := some (.bool false) })])]) (m := 16) (kt := [1, 7, 11, 12, 63]) (kh := [(156, 156), (188, 188), (196, 196)]) (by kernel_rfl) (.cons (c_ref1_Address N 2 x0 x1 h0) (.cons (Le.ff h1) (.cons (c_ref1_Pop N x2 h2) (.cons (Le.ff h3) (.cons (Le.ff h4) (.cons (Le.ff h5) (.cons (Le.ff h6) (.cons (Le.ff h7) .nil)))))))) (g_ref19_TakeBack_1 hc N hfin x1 0 2 x0 x1 0 0 0 0 0 0 v2.1.Src v2.1.Dst v2.1.Tier v2.1.Marker v2.1.Origin v2.1.Body (v2.1.Src != (IntKind.i64.wrap ((167903232 : Int) + x0))) h)

theorem c_ref19_TakeBack (N : Nat) (x0 : Int) (x1 : Int) (x2 : ByteArray) {r : ByteArray × GOut × Int} (h : L_ref19_TakeBack N x0 x1 x2 = some r) : Con Try.prog 45 [.int .i64 x0, .int .i64 x1, .str x2] [] (d_ref19_TakeBack r) [] :=
  con_intro ok mix (fn := Try.f45) (body := bodyOf Try.f45) (by kernel_rfl) (by kernel_rfl) (by kernel_rfl) rfl (Nat.le_of_ble_eq_true (by kernel_rfl)) fun c h1 h2 h3 h4 hfin => g_ref19_TakeBack_0 ⟨h1, h2, h3, h4⟩ N hfin x0 x1 x2 h
/-! ### wharfage/wharfagelaw0.SameTexts -/
def L_law0_SameTexts_1 (N : Nat) : Nat → (List ByteArray) → (List ByteArray) → Int → Option (Bool)
  | 0, _, _, _ => none
  | fuel + 1, t0, t1, t5 =>
    bif (decide (t5 < (t0.length : Int))) then
      if 0 ≤ t5 ∧ t5 < ((t0.length : Nat) : Int) then
      if 0 ≤ t5 ∧ t5 < ((t1.length : Nat) : Int) then
      bif (!((t0.getD t5.toNat default).toList == (t1.getD t5.toNat default).toList)) then
        some false
      else
        L_law0_SameTexts_1 N fuel t0 t1 (IntKind.i64.wrap (t5 + 1))
      else none
      else none
    else
      some true
def L_law0_SameTexts (N : Nat) (x0 : (List ByteArray)) (x1 : (List ByteArray)) : Option (Bool) :=
  bif ((x0.length : Int) != (x1.length : Int)) then
    some false
  else
    L_law0_SameTexts_1 N N x0 x1 0
def d_law0_SameTexts (r : Bool) : D := .bool r
theorem g_law0_SameTexts_1 (gx0 : Bool) (gx1 : Bool) {c : Cx} (hc : Is c Try.prog ty 77 26) (N : Nat) {r : Bool} (hfin : c.Fin [] (d_law0_SameTexts r) []) : ∀ (fuel : Nat) (t0 : (List ByteArray)) (t1 : (List ByteArray)) (t5 : Int), L_law0_SameTexts_1 N fuel t0 t1 t5 = some r → c.Goes (items (bodyOf Try.f77) [.c 75, .l 75, .b 0, .c 15]) ⟨[(0, .sl gx0 (eL eStr t0) t0.length t0.length), (1, .sl gx1 (eL eStr t1) t1.length t1.length), (5, .int .i64 t5)], []⟩ := by
  intro fuel
  induction fuel with
  | zero => intro t0 t1 t5 h; simp [L_law0_SameTexts_1] at h
  | succ fuel ih =>
    intro t0 t1 t5 h
    unfold L_law0_SameTexts_1 at h
    rcases brk h with ⟨h0, h⟩ | ⟨h0, h⟩
    · obtain ⟨h1, h⟩ := chk h
      obtain ⟨h2, h⟩ := chk h
      rcases brk h with ⟨h3, h⟩ | ⟨h3, h⟩
      · have h := Option.some.inj h
        refine hc.ret hfin (fn := Try.f77) (by kernel_rfl) (orc := [(4, [(3, { cv := some (.bool true) })]), (6, [(2, { cv := some (.ip gx0 [.str (t0.getD t5.toNat default)]) }), (6, { cv := some (.ip gx1 [.str (t1.getD t5.toNat default)]) }), (8, { cv := some (.bool true) })])]) (m := 12) (d := .bool false) (by kernel_rfl) (.cons (Le.tt h0) (.cons (h1) (.cons (Le.iptl (g := gx0) (eL_at (xs := t0) eStr_len (ixl h1))) (.cons (h2) (.cons (Le.iptl (g := gx1) (eL_at (xs := t1) eStr_len (ixl h2))) (.cons (Le.tt h3) .nil)))))) ?_ ?_
        · rw [← h]; exact Le.of rfl
        · rw [← h]; rfl
      · exact hc.jump (orc := [(4, [(3, { cv := some (.bool true) })]), (6, [(2, { cv := some (.ip gx0 [.str (t0.getD t5.toNat default)]) }), (6, { cv := some (.ip gx1 [.str (t1.getD t5.toNat default)]) }), (8, { cv := some (.bool false) })])]) (m := 14) (kt := [0, 1, 5]) (kh := []) (by kernel_rfl) (.cons (Le.tt h0) (.cons (h1) (.cons (Le.iptl (g := gx0) (eL_at (xs := t0) eStr_len (ixl h1))) (.cons (h2) (.cons (Le.iptl (g := gx1) (eL_at (xs := t1) eStr_len (ixl h2))) (.cons (Le.ff h3) .nil)))))) (ih t0 t1 (IntKind.i64.wrap (t5 + 1)) h)
    · have h := Option.some.inj h
      refine hc.ret hfin (fn := Try.f77) (by kernel_rfl) (orc := [(4, [(3, { cv := some (.bool false) })])]) (m := 7) (d := .bool true) (by kernel_rfl) (.cons (Le.ff h0) .nil) ?_ ?_
      · rw [← h]; exact Le.of rfl
      · rw [← h]; rfl

theorem g_law0_SameTexts_0 (gx0 : Bool) (gx1 : Bool) {c : Cx} (hc : Is c Try.prog ty 77 26) (N : Nat) {r : Bool} (hfin : c.Fin [] (d_law0_SameTexts r) []) (x0 : (List ByteArray)) (x1 : (List ByteArray)) (h : L_law0_SameTexts N x0 x1 = some r) : c.Goes (items (bodyOf Try.f77) [.c 1]) ⟨[(0, .sl gx0 (eL eStr x0) x0.length x0.length), (1, .sl gx1 (eL eStr x1) x1.length x1.length)], []⟩ := by
  unfold L_law0_SameTexts at h
  rcases brk h with ⟨h0, h⟩ | ⟨h0, h⟩
  · have h := Option.some.inj h
    refine hc.ret hfin (fn := Try.f77) (by kernel_rfl) (orc := [(1, [(4, { cv := some (.bool true) })])]) (m := 8) (d := .bool false) (by kernel_rfl) (.cons (Le.tt h0) .nil) ?_ ?_
    · rw [← h]; exact Le.of rfl
    · rw [← h]; rfl
  · exact hc.jump (orc := [(1, [(4, { cv := some (.bool false) })])]) (m := 12) (kt := [0, 1, 5]) (kh := []) (by kernel_rfl) (.cons (Le.ff h0) .nil) (g_law0_SameTexts_1 gx0 gx1 hc N hfin N x0 x1 0 h)

theorem c_law0_SameTexts (N : Nat) (gx0 : Bool) (gx1 : Bool) (x0 : (List ByteArray)) (x1 : (List ByteArray)) {r : Bool} (h : L_law0_SameTexts N x0 x1 = some r) : Con Try.prog 77 [.sl gx0 (eL eStr x0) x0.length x0.length, .sl gx1 (eL eStr x1) x1.length x1.length] [] (d_law0_SameTexts r) [] :=
  con_intro ok mix (fn := Try.f77) (body := bodyOf Try.f77) (by kernel_rfl) (by kernel_rfl) (by kernel_rfl) rfl (Nat.le_of_ble_eq_true (by kernel_rfl)) fun c h1 h2 h3 h4 hfin => g_law0_SameTexts_0 gx0 gx1 ⟨h1, h2, h3, h4⟩ N hfin x0 x1 h
/-! ### wharfage/wharfagelaw0.SameEvents -/
def L_law0_SameEvents_1 (N : Nat) : Nat → (List GEvent) → (List GEvent) → Int → Option (Bool)
  | 0, _, _, _ => none
  | fuel + 1, t0, t1, t5 =>
    bif (decide (t5 < (t0.length : Int))) then
      if 0 ≤ t5 ∧ t5 < ((t0.length : Nat) : Int) then
      if 0 ≤ t5 ∧ t5 < ((t1.length : Nat) : Int) then
      bif (!(((t0.getD t5.toNat default).Kind == (t1.getD t5.toNat default).Kind) && (((t0.getD t5.toNat default).Role == (t1.getD t5.toNat default).Role) && (((t0.getD t5.toNat default).Site == (t1.getD t5.toNat default).Site) && (((t0.getD t5.toNat default).Node == (t1.getD t5.toNat default).Node) && (((t0.getD t5.toNat default).To == (t1.getD t5.toNat default).To) && ((((t0.getD t5.toNat default).Flow).Src == ((t1.getD t5.toNat default).Flow).Src) && ((((t0.getD t5.toNat default).Flow).Dst == ((t1.getD t5.toNat default).Flow).Dst) && ((((t0.getD t5.toNat default).Flow).Proto == ((t1.getD t5.toNat default).Flow).Proto) && ((((t0.getD t5.toNat default).Flow).Sport == ((t1.getD t5.toNat default).Flow).Sport) && ((((t0.getD t5.toNat default).Flow).Dport == ((t1.getD t5.toNat default).Flow).Dport) && true))))))))))) then
        some false
      else
        L_law0_SameEvents_1 N fuel t0 t1 (IntKind.i64.wrap (t5 + 1))
      else none
      else none
    else
      some true
def L_law0_SameEvents (N : Nat) (x0 : (List GEvent)) (x1 : (List GEvent)) : Option (Bool) :=
  bif ((x0.length : Int) != (x1.length : Int)) then
    some false
  else
    L_law0_SameEvents_1 N N x0 x1 0
def d_law0_SameEvents (r : Bool) : D := .bool r
theorem g_law0_SameEvents_1 (gx0 : Bool) (gx1 : Bool) {c : Cx} (hc : Is c Try.prog ty 78 26) (N : Nat) {r : Bool} (hfin : c.Fin [] (d_law0_SameEvents r) []) : ∀ (fuel : Nat) (t0 : (List GEvent)) (t1 : (List GEvent)) (t5 : Int), L_law0_SameEvents_1 N fuel t0 t1 t5 = some r → c.Goes (items (bodyOf Try.f78) [.c 75, .l 75, .b 0, .c 15]) ⟨[(0, .sl gx0 (eL eEvent t0) t0.length t0.length), (1, .sl gx1 (eL eEvent t1) t1.length t1.length), (5, .int .i64 t5)], []⟩ := by
  intro fuel
  induction fuel with
  | zero => intro t0 t1 t5 h; simp [L_law0_SameEvents_1] at h
  | succ fuel ih =>
    intro t0 t1 t5 h
    unfold L_law0_SameEvents_1 at h
    rcases brk h with ⟨h0, h⟩ | ⟨h0, h⟩
    · obtain ⟨h1, h⟩ := chk h
      obtain ⟨h2, h⟩ := chk h
      rcases brk h with ⟨h3, h⟩ | ⟨h3, h⟩
      · have h := Option.some.inj h
        refine hc.ret hfin (fn := Try.f78) (by kernel_rfl) (orc := [(4, [(3, { cv := some (.bool true) })]), (6, [(2, { cv := some (.ip gx0 [.int .i64 ((t0.getD t5.toNat default).Kind), .int .i64 ((t0.getD t5.toNat default).Role), .int .i64 ((t0.getD t5.toNat default).Site), .int .i64 ((t0.getD t5.toNat default).Node), .int .i64 ((t0.getD t5.toNat default).To), .int .i64 (((t0.getD t5.toNat default).Flow).Src), .int .i64 (((t0.getD t5.toNat default).Flow).Dst), .int .i64 (((t0.getD t5.toNat default).Flow).Proto), .int .i64 (((t0.getD t5.toNat default).Flow).Sport), .int .i64 (((t0.getD t5.toNat default).Flow).Dport)]) }), (6, { cv := some (.ip gx1 [.int .i64 ((t1.getD t5.toNat default).Kind), .int .i64 ((t1.getD t5.toNat default).Role), .int .i64 ((t1.getD t5.toNat default).Site), .int .i64 ((t1.getD t5.toNat default).Node), .int .i64 ((t1.getD t5.toNat default).To), .int .i64 (((t1.getD t5.toNat default).Flow).Src), .int .i64 (((t1.getD t5.toNat default).Flow).Dst), .int .i64 (((t1.getD t5.toNat default).Flow).Proto), .int .i64 (((t1.getD t5.toNat default).Flow).Sport), .int .i64 (((t1.getD t5.toNat default).Flow).Dport)]) }), (8, { cv := some (.bool true) })])]) (m := 12) (d := .bool false) (by kernel_rfl) (.cons (Le.tt h0) (.cons (h1) (.cons (Le.iptl (g := gx0) (eL_at (xs := t0) eEvent_len (ixl h1))) (.cons (h2) (.cons (Le.iptl (g := gx1) (eL_at (xs := t1) eEvent_len (ixl h2))) (.cons (Le.tt h3) .nil)))))) ?_ ?_
        · rw [← h]; exact Le.of rfl
        · rw [← h]; rfl
      · exact hc.jump (orc := [(4, [(3, { cv := some (.bool true) })]), (6, [(2, { cv := some (.ip gx0 [.int .i64 ((t0.getD t5.toNat default).Kind), .int .i64 ((t0.getD t5.toNat default).Role), .int .i64 ((t0.getD t5.toNat default).Site), .int .i64 ((t0.getD t5.toNat default).Node), .int .i64 ((t0.getD t5.toNat default).To), .int .i64 (((t0.getD t5.toNat default).Flow).Src), .int .i64 (((t0.getD t5.toNat default).Flow).Dst), .int .i64 (((t0.getD t5.toNat default).Flow).Proto), .int .i64 (((t0.getD t5.toNat default).Flow).Sport), .int .i64 (((t0.getD t5.toNat default).Flow).Dport)]) }), (6, { cv := some (.ip gx1 [.int .i64 ((t1.getD t5.toNat default).Kind), .int .i64 ((t1.getD t5.toNat default).Role), .int .i64 ((t1.getD t5.toNat default).Site), .int .i64 ((t1.getD t5.toNat default).Node), .int .i64 ((t1.getD t5.toNat default).To), .int .i64 (((t1.getD t5.toNat default).Flow).Src), .int .i64 (((t1.getD t5.toNat default).Flow).Dst), .int .i64 (((t1.getD t5.toNat default).Flow).Proto), .int .i64 (((t1.getD t5.toNat default).Flow).Sport), .int .i64 (((t1.getD t5.toNat default).Flow).Dport)]) }), (8, { cv := some (.bool false) })])]) (m := 14) (kt := [0, 1, 5]) (kh := []) (by kernel_rfl) (.cons (Le.tt h0) (.cons (h1) (.cons (Le.iptl (g := gx0) (eL_at (xs := t0) eEvent_len (ixl h1))) (.cons (h2) (.cons (Le.iptl (g := gx1) (eL_at (xs := t1) eEvent_len (ixl h2))) (.cons (Le.ff h3) .nil)))))) (ih t0 t1 (IntKind.i64.wrap (t5 + 1)) h)
    · have h := Option.some.inj h
      refine hc.ret hfin (fn := Try.f78) (by kernel_rfl) (orc := [(4, [(3, { cv := some (.bool false) })])]) (m := 7) (d := .bool true) (by kernel_rfl) (.cons (Le.ff h0) .nil) ?_ ?_
      · rw [← h]; exact Le.of rfl
      · rw [← h]; rfl

theorem g_law0_SameEvents_0 (gx0 : Bool) (gx1 : Bool) {c : Cx} (hc : Is c Try.prog ty 78 26) (N : Nat) {r : Bool} (hfin : c.Fin [] (d_law0_SameEvents r) []) (x0 : (List GEvent)) (x1 : (List GEvent)) (h : L_law0_SameEvents N x0 x1 = some r) : c.Goes (items (bodyOf Try.f78) [.c 1]) ⟨[(0, .sl gx0 (eL eEvent x0) x0.length x0.length), (1, .sl gx1 (eL eEvent x1) x1.length x1.length)], []⟩ := by
  unfold L_law0_SameEvents at h
  rcases brk h with ⟨h0, h⟩ | ⟨h0, h⟩
  · have h := Option.some.inj h
    refine hc.ret hfin (fn := Try.f78) (by kernel_rfl) (orc := [(1, [(4, { cv := some (.bool true) })])]) (m := 8) (d := .bool false) (by kernel_rfl) (.cons (Le.tt h0) .nil) ?_ ?_
    · rw [← h]; exact Le.of rfl
    · rw [← h]; rfl
  · exact hc.jump (orc := [(1, [(4, { cv := some (.bool false) })])]) (m := 12) (kt := [0, 1, 5]) (kh := []) (by kernel_rfl) (.cons (Le.ff h0) .nil) (g_law0_SameEvents_1 gx0 gx1 hc N hfin N x0 x1 0 h)

theorem c_law0_SameEvents (N : Nat) (gx0 : Bool) (gx1 : Bool) (x0 : (List GEvent)) (x1 : (List GEvent)) {r : Bool} (h : L_law0_SameEvents N x0 x1 = some r) : Con Try.prog 78 [.sl gx0 (eL eEvent x0) x0.length x0.length, .sl gx1 (eL eEvent x1) x1.length x1.length] [] (d_law0_SameEvents r) [] :=
  con_intro ok mix (fn := Try.f78) (body := bodyOf Try.f78) (by kernel_rfl) (by kernel_rfl) (by kernel_rfl) rfl (Nat.le_of_ble_eq_true (by kernel_rfl)) fun c h1 h2 h3 h4 hfin => g_law0_SameEvents_0 gx0 gx1 ⟨h1, h2, h3, h4⟩ N hfin x0 x1 h
/-! ### wharfage/wharfagelaw0.SameOut -/
def L_law0_SameOut_1 (N : Nat) (t4 : Bool) : Option (Bool) :=
  some t4
def L_law0_SameOut (N : Nat) (x0 : GOut) (x1 : GOut) : Option (Bool) :=
  (L_law0_SameTexts N x0.Sent x1.Sent).bind fun v1 =>
  bif v1 then
    (L_law0_SameEvents N x0.Events x1.Events).bind fun v2 =>
    L_law0_SameOut_1 N v2
  else
    L_law0_SameOut_1 N false
def d_law0_SameOut (r : Bool) : D := .bool r
theorem g_law0_SameOut_1 (gx0 : Bool) (gx1 : Bool) {c : Cx} (hc : Is c Try.prog ty 46 17) (N : Nat) {r : Bool} (hfin : c.Fin [] (d_law0_SameOut r) []) (t4 : Bool) (h : L_law0_SameOut_1 N t4 = some r) : c.Goes (items (bodyOf Try.f46) [.c 7]) ⟨[(4, .bool t4)], []⟩ := by
  unfold L_law0_SameOut_1 at h
  have h := Option.some.inj h
  refine hc.ret hfin (fn := Try.f46) (by kernel_rfl) (orc := []) (m := 0) (d := .bool t4) (by kernel_rfl) .nil ?_ ?_
  · rw [← h]; exact Le.of rfl
  · rw [← h]; rfl

theorem g_law0_SameOut_0 (gx0 : Bool) (gx1 : Bool) {c : Cx} (hc : Is c Try.prog ty 46 17) (N : Nat) {r : Bool} (hfin : c.Fin [] (d_law0_SameOut r) []) (x0 : GOut) (x1 : GOut) (h : L_law0_SameOut N x0 x1 = some r) : c.Goes (items (bodyOf Try.f46) [.c 1]) ⟨[(0, .agg [.sl gx0 (eL eStr x0.Sent) x0.Sent.length x0.Sent.length, .sl gx0 (eL eEvent x0.Events) x0.Events.length x0.Events.length]), (1, .agg [.sl gx1 (eL eStr x1.Sent) x1.Sent.length x1.Sent.length, .sl gx1 (eL eEvent x1.Events) x1.Events.length x1.Events.length])], []⟩ := by
  unfold L_law0_SameOut at h
  obtain ⟨v1, h0, h⟩ := bind_of h
  rcases brk h with ⟨h1, h⟩ | ⟨h1, h⟩
  · obtain ⟨v2, h2, h⟩ := bind_of h
    exact hc.jump (orc := [(1, [(4, { r := d_law0_SameTexts v1 }), (5, { cv := some (.bool true) }), (10, { r := d_law0_SameEvents v2 })])]) (m := 4) (kt := [4]) (kh := []) (by kernel_rfl) (.cons (c_law0_SameTexts N gx0 gx1 x0.Sent x1.Sent h0) (.cons (Le.tt h1) (.cons (c_law0_SameEvents N gx0 gx1 x0.Events x1.Events h2) .nil))) (g_law0_SameOut_1 gx0 gx1 hc N hfin v2 h)
  · exact hc.jump (orc := [(1, [(4, { r := d_law0_SameTexts v1 }), (5, { cv := some (.bool false) })])]) (m := 4) (kt := [4]) (kh := []) (by kernel_rfl) (.cons (c_law0_SameTexts N gx0 gx1 x0.Sent x1.Sent h0) (.cons (Le.ff h1) .nil)) (g_law0_SameOut_1 gx0 gx1 hc N hfin false h)

theorem c_law0_SameOut (N : Nat) (gx0 : Bool) (gx1 : Bool) (x0 : GOut) (x1 : GOut) {r : Bool} (h : L_law0_SameOut N x0 x1 = some r) : Con Try.prog 46 [.agg [.sl gx0 (eL eStr x0.Sent) x0.Sent.length x0.Sent.length, .sl gx0 (eL eEvent x0.Events) x0.Events.length x0.Events.length], .agg [.sl gx1 (eL eStr x1.Sent) x1.Sent.length x1.Sent.length, .sl gx1 (eL eEvent x1.Events) x1.Events.length x1.Events.length]] [] (d_law0_SameOut r) [] :=
  con_intro ok mix (fn := Try.f46) (body := bodyOf Try.f46) (by kernel_rfl) (by kernel_rfl) (by kernel_rfl) rfl (Nat.le_of_ble_eq_true (by kernel_rfl)) fun c h1 h2 h3 h4 hfin => g_law0_SameOut_0 gx0 gx1 ⟨h1, h2, h3, h4⟩ N hfin x0 x1 h
/-! ### wharfage/wharfagelaw0.Num -/
def L_law0_Num (N : Nat) (x0 : Int) : Option (Int) :=
  some x0
def d_law0_Num (r : Int) : D := .int .i64 r
theorem g_law0_Num_0 {c : Cx} (hc : Is c Try.prog ty 25 4) (N : Nat) {r : Int} (hfin : c.Fin [] (d_law0_Num r) []) (x0 : Int) (h : L_law0_Num N x0 = some r) : c.Goes (items (bodyOf Try.f25) [.c 1]) ⟨[(0, .int .i64 x0)], []⟩ := by
  unfold L_law0_Num at h
  have h := Option.some.inj h
  refine hc.ret hfin (fn := Try.f25) (by kernel_rfl) (orc := []) (m := 4) (d := .int .i64 x0) (by kernel_rfl) .nil ?_ ?_
  · rw [← h]; exact Le.of rfl
  · rw [← h]; rfl

theorem c_law0_Num (N : Nat) (x0 : Int) {r : Int} (h : L_law0_Num N x0 = some r) : Con Try.prog 25 [.int .i64 x0] [] (d_law0_Num r) [] :=
  con_intro ok mix (fn := Try.f25) (body := bodyOf Try.f25) (by kernel_rfl) (by kernel_rfl) (by kernel_rfl) rfl (Nat.le_of_ble_eq_true (by kernel_rfl)) fun c h1 h2 h3 h4 hfin => g_law0_Num_0 ⟨h1, h2, h3, h4⟩ N hfin x0 h
/-! ### (wharfage/event.Teller).Alone -/
def L_event_Teller_Alone_v1 (N : Nat) (x0 : Gevent_Teller) (x1 : Int) (x2 : GFlow) : Option (GOut) :=
  (L_event_Teller_Tell N x0 x1 0 x2).bind fun v1 =>
  some (GOut.mk ([]) ([v1]))
def d_event_Teller_Alone_v1 (r : GOut) : D := .agg [.ref 1000 0 r.Sent.length r.Sent.length, .ref 1001 0 r.Events.length r.Events.length]
def h_event_Teller_Alone_v1 (r : GOut) : List (Nat × Option Blk) := [(1000, some ⟨true, 1, (eL eStr r.Sent)⟩), (1001, some ⟨true, 10, (eL eEvent r.Events)⟩)]
theorem g_event_Teller_Alone_v1_0 {c : Cx} (hc : Is c Try.prog ty 71 13) (N : Nat) {r : GOut} (hfin : c.Fin [] (d_event_Teller_Alone_v1 r) (h_event_Teller_Alone_v1 r)) (x0 : Gevent_Teller) (x1 : Int) (x2 : GFlow) (h : L_event_Teller_Alone_v1 N x0 x1 x2 = some r) : c.Goes (items (bodyOf Try.f71) [.c 1]) ⟨[(0, .agg [.int .i64 x0.Role, .int .i64 x0.Site, .int .i64 x0.Node]), (1, .int .i64 x1), (2, .agg [.int .i64 x2.Src, .int .i64 x2.Dst, .int .i64 x2.Proto, .int .i64 x2.Sport, .int .i64 x2.Dport])], []⟩ := by
  unfold L_event_Teller_Alone_v1 at h
  obtain ⟨v1, h0, h⟩ := bind_of h
  have h := Option.some.inj h
  subst h
  refine hc.retB hfin [(1000, 196), (1001, 188)] (fn := Try.f71) (by kernel_rfl) (orc := [(1, [(3, { r := d_event_Teller_Tell v1 }), (5, { own := some (1) })])]) (m := 4) (d := .agg [.ref 196 0 0 0, .ref 188 0 1 1]) (by kernel_rfl) (.cons (c_event_Teller_Tell N x0 x1 0 x2 h0) .nil) (Le.of (by kernel_rfl)) (by kernel_rfl)

theorem c_event_Teller_Alone_v1 (N : Nat) (x0 : Gevent_Teller) (x1 : Int) (x2 : GFlow) {r : GOut} (h : L_event_Teller_Alone_v1 N x0 x1 x2 = some r) : Con Try.prog 71 [.agg [.int .i64 x0.Role, .int .i64 x0.Site, .int .i64 x0.Node], .int .i64 x1, .agg [.int .i64 x2.Src, .int .i64 x2.Dst, .int .i64 x2.Proto, .int .i64 x2.Sport, .int .i64 x2.Dport]] [] (d_event_Teller_Alone_v1 r) (h_event_Teller_Alone_v1 r) :=
  con_intro ok mix (fn := Try.f71) (body := bodyOf Try.f71) (by kernel_rfl) (by kernel_rfl) (by kernel_rfl) rfl (Nat.le_of_ble_eq_true (by kernel_rfl)) fun c h1 h2 h3 h4 hfin => g_event_Teller_Alone_v1_0 ⟨h1, h2, h3, h4⟩ N hfin x0 x1 x2 h
/-! ### wharfage/backend.Take -/
def L_backend_Take_v1_1 (N : Nat) (t1 : Int) (b188_0 : Int) (b188_1 : Int) (b188_2 : Int) (b212_0 : Int) (b212_1 : Int) (b212_2 : Int) (b212_3 : Int) (b212_4 : Int) (b212_5 : ByteArray) (t68 : Bool) : Option (ByteArray × GOut × Int) :=
  bif t68 then
    (L_event_Teller_Alone_v1 N (Gevent_Teller.mk b188_0 b188_1 b188_2) 8 (GFlow.mk 0 0 0 0 0)).bind fun v1 =>
    some (ByteArray.empty, v1, 0)
  else
    (L_flow_Of N b212_5).bind fun v1 =>
    bif (v1.2.2 != 0) then
      (L_event_Of N v1.2.2).bind fun v2 =>
      (L_event_Teller_Alone_v1 N (Gevent_Teller.mk b188_0 b188_1 b188_2) v2 v1.1).bind fun v3 =>
      some (ByteArray.empty, v3, 0)
    else
      (L_event_Teller_Tell N (Gevent_Teller.mk b188_0 b188_1 b188_2) 1 t1 v1.1).bind fun v2 =>
      some (b212_5, (GOut.mk ([]) ([v2])), 0)
def L_backend_Take_v1 (N : Nat) (x0 : Int) (x1 : Int) (x2 : ByteArray) : Option (ByteArray × GOut × Int) :=
  (L_addr_Address N 2 x0 x1).bind fun v1 =>
  bif (v1.2 != 0) then
    some (ByteArray.empty, (GOut.mk ([]) ([])), 2100)
  else
    (L_addr_Address N 1 x0 0).bind fun v2 =>
    (L_gue_Pop N x2).bind fun v3 =>
    bif (v3.2 != 0) then
      L_backend_Take_v1_1 N x1 2 x0 x1 v3.1.Src v3.1.Dst v3.1.Tier v3.1.Marker v3.1.Origin v3.1.Body true
    else
      bif (v3.1.Dst != v1.1) then
        L_backend_Take_v1_1 N x1 2 x0 x1 v3.1.Src v3.1.Dst v3.1.Tier v3.1.Marker v3.1.Origin v3.1.Body true
      else
        bif (v3.1.Src != v2.1) then
          L_backend_Take_v1_1 N x1 2 x0 x1 v3.1.Src v3.1.Dst v3.1.Tier v3.1.Marker v3.1.Origin v3.1.Body true
        else
          bif (v3.1.Tier != 3) then
            L_backend_Take_v1_1 N x1 2 x0 x1 v3.1.Src v3.1.Dst v3.1.Tier v3.1.Marker v3.1.Origin v3.1.Body true
          else
            bif (v3.1.Marker != 0) then
              L_backend_Take_v1_1 N x1 2 x0 x1 v3.1.Src v3.1.Dst v3.1.Tier v3.1.Marker v3.1.Origin v3.1.Body true
            else
              L_backend_Take_v1_1 N x1 2 x0 x1 v3.1.Src v3.1.Dst v3.1.Tier v3.1.Marker v3.1.Origin v3.1.Body (v3.1.Origin != 0)
def d_backend_Take_v1 (r : ByteArray × GOut × Int) : D := .tup [.str r.1, .agg [.ref 1000 0 r.2.1.Sent.length r.2.1.Sent.length, .ref 1001 0 r.2.1.Events.length r.2.1.Events.length], .int .i64 r.2.2]
def h_backend_Take_v1 (r : ByteArray × GOut × Int) : List (Nat × Option Blk) := [(1000, some ⟨true, 1, (eL eStr r.2.1.Sent)⟩), (1001, some ⟨true, 10, (eL eEvent r.2.1.Events)⟩)]
theorem g_backend_Take_v1_1 {c : Cx} (hc : Is c Try.prog ty 44 94) (N : Nat) {r : ByteArray × GOut × Int} (hfin : c.Fin [] (d_backend_Take_v1 r) (h_backend_Take_v1 r)) (t1 : Int) (b188_0 : Int) (b188_1 : Int) (b188_2 : Int) (b212_0 : Int) (b212_1 : Int) (b212_2 : Int) (b212_3 : Int) (b212_4 : Int) (b212_5 : ByteArray) (t68 : Bool) (h : L_backend_Take_v1_1 N t1 b188_0 b188_1 b188_2 b212_0 b212_1 b212_2 b212_3 b212_4 b212_5 t68 = some r) : c.Goes (items (bodyOf Try.f44) [.c 447, .c 255]) ⟨[(1, .int .i64 t1), (7, .ptr 156 0), (11, .ptr 188 0), (14, .ptr 212 0), (68, .bool t68)], [(156, some ⟨false, 0, [.nils, .nils]⟩), (188, some ⟨false, 0, [.int .i64 b188_0, .int .i64 b188_1, .int .i64 b188_2]⟩), (212, some ⟨false, 0, [.int .i64 b212_0, .int .i64 b212_1, .int .i64 b212_2, .int .i64 b212_3, .int .i64 b212_4, .str b212_5]⟩)]⟩ := by
  unfold L_backend_Take_v1_1 at h
  rcases brk h with ⟨h0, k0⟩ | ⟨h0, k0⟩
  · subst h0
    replace h := k0
    obtain ⟨v1, h1, h⟩ := bind_of h
    have h := Option.some.inj h
    subst h
    refine hc.retB hfin [(1000, 668), (1001, 669)] (fn := Try.f44) (by kernel_rfl) (orc := [(8, [(2, { r := d_event_Teller_Alone_v1 v1, H := h_event_Teller_Alone_v1 v1 })])]) (m := 3) (d := .tup [.str ByteArray.empty, .agg [.ref 668 0 v1.Sent.length v1.Sent.length, .ref 669 0 v1.Events.length v1.Events.length], .int .i64 0]) (by kernel_rfl) (.cons (c_event_Teller_Alone_v1 N (Gevent_Teller.mk b188_0 b188_1 b188_2) 8 (GFlow.mk 0 0 0 0 0) h1) .nil) (Le.of (by kernel_rfl)) (by kernel_rfl)
  · subst h0
    replace h := k0
    obtain ⟨v1, h1, h⟩ := bind_of h
    rcases brk h with ⟨h2, h⟩ | ⟨h2, h⟩
    · obtain ⟨v2, h3, h⟩ := bind_of h
      obtain ⟨v3, h4, h⟩ := bind_of h
      have h := Option.some.inj h
      subst h
      refine hc.retB hfin [(1000, 780), (1001, 781)] (fn := Try.f44) (by kernel_rfl) (orc := [(9, [(2, { r := d_flow_Of v1 })]), (10, [(1, { cv := some (.bool true) })]), (11, [(2, { r := d_event_Of v2 }), (4, { r := d_event_Teller_Alone_v1 v3, H := h_event_Teller_Alone_v1 v3 })])]) (m := 10) (d := .tup [.str ByteArray.empty, .agg [.ref 780 0 v3.Sent.length v3.Sent.length, .ref 781 0 v3.Events.length v3.Events.length], .int .i64 0]) (by kernel_rfl) (.cons (c_flow_Of N b212_5 h1) (.cons (Le.tt h2) (.cons (c_event_Of N v1.2.2 h3) (.cons (c_event_Teller_Alone_v1 N (Gevent_Teller.mk b188_0 b188_1 b188_2) v2 v1.1 h4) .nil)))) (Le.of (by kernel_rfl)) (by kernel_rfl)
    · obtain ⟨v2, h3, h⟩ := bind_of h
      have h := Option.some.inj h
      subst h
      refine hc.retB hfin [(1000, 844), (1001, 836)] (fn := Try.f44) (by kernel_rfl) (orc := [(9, [(2, { r := d_flow_Of v1 })]), (10, [(1, { cv := some (.bool false) })]), (12, [(5, { r := d_event_Teller_Tell v2 }), (7, { own := some (1) })])]) (m := 11) (d := .tup [.str b212_5, .agg [.ref 844 0 0 0, .ref 836 0 1 1], .int .i64 0]) (by kernel_rfl) (.cons (c_flow_Of N b212_5 h1) (.cons (Le.ff h2) (.cons (c_event_Teller_Tell N (Gevent_Teller.mk b188_0 b188_1 b188_2) 1 t1 v1.1 h3) .nil))) (Le.of (by kernel_rfl)) (by kernel_rfl)

theorem g_backend_Take_v1_0 {c : Cx} (hc : Is c Try.prog ty 44 94) (N : Nat) {r : ByteArray × GOut × Int} (hfin : c.Fin [] (d_backend_Take_v1 r) (h_backend_Take_v1 r)) (x0 : Int) (x1 : Int) (x2 : ByteArray) (h : L_backend_Take_v1 N x0 x1 x2 = some r) : c.Goes (items (bodyOf Try.f44) [.c 1]) ⟨[(0, .int .i64 x0), (1, .int .i64 x1), (2, .str x2)], []⟩ := by
  unfold L_backend_Take_v1 at h
  obtain ⟨v1, h0, h⟩ := bind_of h
  rcases brk h with ⟨h1, h⟩ | ⟨h1, h⟩
  · have h := Option.some.inj h
    subst h
    refine hc.retB hfin [(1000, 308), (1001, 309)] (fn := Try.f44) (by kernel_rfl) (orc := [(1, [(2, { r := d_addr_Address v1 })]), (2, [(1, { cv := some (.bool true) })]), (3, [(0, { own := some (10001) })])]) (m := 10) (d := .tup [.str ByteArray.empty, .agg [.ref 308 0 0 0, .ref 309 0 0 0], .int .i64 2100]) (by kernel_rfl) (.cons (c_addr_Address N 2 x0 x1 h0) (.cons (Le.tt h1) .nil)) (Le.of (by kernel_rfl)) (by kernel_rfl)
  · obtain ⟨v2, h2, h⟩ := bind_of h
    obtain ⟨v3, h3, h⟩ := bind_of h
    rcases brk h with ⟨h4, h⟩ | ⟨h4, h⟩
    · exact hc.jump (orc := [(1, [(2, { r := d_addr_Address v1 })]), (2, [(1, { cv := some (.bool false) })]), (5, [(1, { r := d_addr_Address v2 })]), (6, [(1, { r := d_gue_Pop v3 })]), (7, [(2, { cv := some (.bool true) })])]) (m := 18) (kt := [1, 7, 11, 14, 68]) (kh := [(156, 156), (188, 188), (212, 212)]) (by kernel_rfl) (.cons (c_addr_Address N 2 x0 x1 h0) (.cons (Le.ff h1) (.cons (c_addr_Address N 1 x0 0 h2) (.cons (c_gue_Pop N x2 h3) (.cons (Le.tt h4) .nil))))) (g_backend_Take_v1_1 hc N hfin x1 2 x0 x1 v3.1.Src v3.1.Dst v3.1.Tier v3.1.Marker v3.1.Origin v3.1.Body true h)
    · rcases brk h with ⟨h5, h⟩ | ⟨h5, h⟩
      · exact hc.jump (orc := [(1, [(2, { r := d_addr_Address v1 })]), (2, [(1, { cv := some (.bool false) })]), (5, [(1, { r := d_addr_Address v2 })]), (6, [(1, { r := d_gue_Pop v3 })]), (7, [(2, { cv := some (.bool false) }), (8, { cv := some (.bool true) })])]) (m := 18) (kt := [1, 7, 11, 14, 68]) (kh := [(156, 156), (188, 188), (212, 212)]) (by kernel_rfl) (.cons (c_addr_Address N 2 x0 x1 h0) (.cons (Le.ff h1) (.cons (c_addr_Address N 1 x0 0 h2) (.cons (c_gue_Pop N x2 h3) (.cons (Le.ff h4) (.cons (Le.tt h5) .nil)))))) (g_backend_Take_v1_1 hc N hfin x1 2 x0 x1 v3.1.Src v3.1.Dst v3.1.Tier v3.1.Marker v3.1.Origin v3.1.Body true h)
      · rcases brk h with ⟨h6, h⟩ | ⟨h6, h⟩
        · exact hc.jump (orc := [(1, [(2, { r := d_addr_Address v1 })]), (2, [(1, { cv := some (.bool false) })]), (5, [(1, { r := d_addr_Address v2 })]), (6, [(1, { r := d_gue_Pop v3 })]), (7, [(2, { cv := some (.bool false) }), (8, { cv := some (.bool false) }), (14, { cv := some (.bool true) })])]) (m := 18) (kt := [1, 7, 11, 14, 68]) (kh := [(156, 156), (188, 188), (212, 212)]) (by kernel_rfl) (.cons (c_addr_Address N 2 x0 x1 h0) (.cons (Le.ff h1) (.cons (c_addr_Address N 1 x0 0 h2) (.cons (c_gue_Pop N x2 h3) (.cons (Le.ff h4) (.cons (Le.ff h5) (.cons (Le.tt h6) .nil))))))) (g_backend_Take_v1_1 hc N hfin x1 2 x0 x1 v3.1.Src v3.1.Dst v3.1.Tier v3.1.Marker v3.1.Origin v3.1.Body true h)
        · rcases brk h with ⟨h7, h⟩ | ⟨h7, h⟩
          · exact hc.jump (orc := [(1, [(2, { r := d_addr_Address v1 })]), (2, [(1, { cv := some (.bool false) })]), (5, [(1, { r := d_addr_Address v2 })]), (6, [(1, { r := d_gue_Pop v3 })]), (7, [(2, { cv := some (.bool false) }), (8, { cv := some (.bool false) }), (14, { cv := some (.bool false) }), (19, { cv := some (.bool true) })])]) (m := 18) (kt := [1, 7, 11, 14, 68]) (kh := [(156, 156), (188, 188), (212, 212)]) (by kernel_rfl) (.cons (c_addr_Address N 2 x0 x1 h0) (.cons (Le.ff h1) (.cons (c_addr_Address N 1 x0 0 h2) (.cons (c_gue_Pop N x2 h3) (.cons (Le.ff h4) (.cons (Le.ff h5) (.cons (Le.ff h6) (.cons (Le.tt h7) .nil)))))))) (g_backend_Take_v1_1 hc N hfin x1 2 x0 x1 v3.1.Src v3.1.Dst v3.1.Tier v3.1.Marker v3.1.Origin v3.1.Body true h)
          · rcases brk h with ⟨h8, h⟩ | ⟨h8, h⟩
            · exact hc.jump (orc := [(1, [(2, { r := d_addr_Address v1 })]), (2, [(1, { cv := some (.bool false) })]), (5, [(1, { r := d_addr_Address v2 })]), (6, [(1, { r := d_gue_Pop v3 })]), (7, [(2, { cv := some (.bool false) }), (8, { cv := some (.bool false) }), (14, { cv := some (.bool false) }), (19, { cv := some (.bool false) }), (24, { cv := some (.bool true) })])]) (m := 18) (kt := [1, 7, 11, 14, 68]) (kh := [(156, 156), (188, 188), (212, 212)]) (by kernel_rfl) (.cons (c_addr_Address N 2 x0 x1 h0) (.cons (Le.ff h1) (.cons (c_addr_Address N 1 x0 0 h2) (.cons (c_gue_Pop N x2 h3) (.cons (Le.ff h4) (.cons (Le.ff h5) (.cons (Le.ff h6) (.cons (Le.ff h7) (.cons (Le.tt h8) .nil))))))))) (g_backend_Take_v1_1 hc N hfin x1 2 x0 x1 v3.1.Src v3.1.Dst v3.1.Tier v3.1.Marker v3.1.Origin v3.1.Body true h)
            · exact hc.jump (orc := [(1, [(2, { r := d_addr_Address v1 })]), (2, [(1, { cv := some (.bool false) })]), (5, [(1, { r := d_addr_Address v2 })]), (6, [(1, { r := d_gue_Pop v3 })]), (7, [(2, { cv := some (.bool false) }), (8, { cv := some (.bool false) }), (14, { cv := some (.bool false) }), (19, { cv := some (.bool false) }), (24, { cv := some (.bool false) })])]) (m := 18) (kt := [1, 7, 11, 14, 68]) (kh := [(156, 156), (188, 188), (212, 212)]) (by kernel_rfl) (.cons (c_addr_Address N 2 x0 x1 h0) (.cons (Le.ff h1) (.cons (c_addr_Address N 1 x0 0 h2) (.cons (c_gue_Pop N x2 h3) (.cons (Le.ff h4) (.cons (Le.ff h5) (.cons (Le.ff h6) (.cons (Le.ff h7) (.cons (Le.ff h8) .nil))))))))) (g_backend_Take_v1_1 hc N hfin x1 2 x0 x1 v3.1.Src v3.1.Dst v3.1.Tier v3.1.Marker v3.1.Origin v3.1.Body (v3.1.Origin != 0) h)

theorem c_backend_Take_v1 (N : Nat) (x0 : Int) (x1 : Int) (x2 : ByteArray) {r : ByteArray × GOut × Int} (h : L_backend_Take_v1 N x0 x1 x2 = some r) : Con Try.prog 44 [.int .i64 x0, .int .i64 x1, .str x2] [] (d_backend_Take_v1 r) (h_backend_Take_v1 r) :=
  con_intro ok mix (fn := Try.f44) (body := bodyOf Try.f44) (by kernel_rfl) (by kernel_rfl) (by kernel_rfl) rfl (Nat.le_of_ble_eq_true (by kernel_rfl)) fun c h1 h2 h3 h4 hfin => g_backend_Take_v1_0 ⟨h1, h2, h3, h4⟩ N hfin x0 x1 x2 h
/-! ### wharfage/wharfagelaw0.SpoilTexts -/
def L_law0_SpoilTexts_1 (N : Nat) : Nat → (List ByteArray) → Int → Option ((List ByteArray))
  | 0, _, _ => none
  | fuel + 1, b0, t2 =>
    bif (decide (t2 < (b0.length : Int))) then
      if 0 ≤ t2 ∧ t2 < ((b0.length : Nat) : Int) then
      if (((ByteArray.mk #[126]).size + (b0.getD t2.toNat default).size : Nat) : Int) ≤ 9223372036854775807 then
      via (((ByteArray.mk #[126]) ++ (b0.getD t2.toNat default)) : ByteArray) fun v1 =>
      if 0 ≤ t2 ∧ t2 < ((b0.length : Nat) : Int) then
      L_law0_SpoilTexts_1 N fuel (b0.set t2.toNat v1) (IntKind.i64.wrap (t2 + 1))
      else none
      else none
      else none
    else
      some b0
def L_law0_SpoilTexts (N : Nat) (x0 : (List ByteArray)) : Option ((List ByteArray)) :=
  L_law0_SpoilTexts_1 N N x0 0
def d_law0_SpoilTexts (r : (List ByteArray)) : D := .tup []
def h_law0_SpoilTexts (r : (List ByteArray)) : List (Nat × Option Blk) := [(0, some ⟨true, 1, (eL eStr r)⟩)]
theorem g_law0_SpoilTexts_1 {c : Cx} (hc : Is c Try.prog ty 79 17) (N : Nat) {r : (List ByteArray)} {C0 : List D} (hfin : c.Fin [(0, ⟨true, 1, C0⟩)] (d_law0_SpoilTexts r) (h_law0_SpoilTexts r)) : ∀ (fuel : Nat) (b0 : (List ByteArray)) (t2 : Int), L_law0_SpoilTexts_1 N fuel b0 t2 = some r → c.Goes (items (bodyOf Try.f79) [.c 9, .l 9, .b 0]) ⟨[(0, .ref 0 0 b0.length b0.length), (2, .int .i64 t2)], [(0, some ⟨true, 1, (eL eStr b0)⟩)]⟩ := by
  intro fuel
  induction fuel with
  | zero => intro b0 t2 h; simp [L_law0_SpoilTexts_1] at h
  | succ fuel ih =>
    intro b0 t2 h
    unfold L_law0_SpoilTexts_1 at h
    rcases brk h with ⟨h0, h⟩ | ⟨h0, h⟩
    · obtain ⟨h1, h⟩ := chk h
      obtain ⟨h2, h⟩ := chk h
      obtain ⟨v1, h3, h⟩ := via_some h
      obtain ⟨h4, h⟩ := chk h
      exact hc.jumpL (orc := [(1, [(3, { cv := some (.bool true) })]), (3, [(4, { cv := some (.ptr 0 (t2.toNat * 1 + 0)) }), (5, { cv := some (.str (b0.getD t2.toNat default)) }), (6, { cv := some (.str v1) }), (7, { cv := some (.ptr 0 (t2.toNat * 1 + 0)) }), (8, { cb := [(0, eL eStr (b0.set t2.toNat v1))] })])]) (m := 11) (kt := [0, 2]) (kh := [(0, 0)]) (by kernel_rfl) (.cons (Le.tt h0) (.cons (h1) (.cons (Le.pt (b := 0) (k := t2.toNat * 1)) (.cons (ld_ne (xs := b0) eStr_len (ixl h1) (o := 0) (by decide)) (.cons (Le.of (ld_hd (xs := b0) eStr_len (ixl h1) (o := 0) (by decide))) (.cons (h2) (.cons (Le.str h3) (.cons (h4) (.cons (Le.pt (b := 0) (k := t2.toNat * 1)) (.cons (st_need (xs := b0) eStr_len (ixl h4) (o := 0) (k := 1) (vs := [.str v1]) (p := true) (by decide) rfl rfl) (.cons (st_set (xs := b0) eStr_len (ixl h4) (o := 0) (vs := [.str v1]) (y := v1) (Nat.le_of_ble_eq_true rfl) rfl) .nil))))))))))) (.cons (Le.rfs (b := 0) (by first | rfl | omega | simp : b0.length = (b0.set t2.toNat v1).length) (by first | rfl | omega | simp : b0.length = (b0.set t2.toNat v1).length)) (.cons (Le.rfl) .nil)) (ih (b0.set t2.toNat v1) (IntKind.i64.wrap (t2 + 1)) h)
    · have h := Option.some.inj h
      subst h
      refine hc.retB hfin [] (fn := Try.f79) (by kernel_rfl) (orc := [(1, [(3, { cv := some (.bool false) })])]) (m := 5) (d := .tup []) (by kernel_rfl) (.cons (Le.ff h0) .nil) (Le.of (by kernel_rfl)) (by kernel_rfl)

theorem g_law0_SpoilTexts_0 {c : Cx} (hc : Is c Try.prog ty 79 17) (N : Nat) {r : (List ByteArray)} {C0 : List D} (hfin : c.Fin [(0, ⟨true, 1, C0⟩)] (d_law0_SpoilTexts r) (h_law0_SpoilTexts r)) (x0 : (List ByteArray)) (h : L_law0_SpoilTexts N x0 = some r) : c.Goes (items (bodyOf Try.f79) [.c 1]) ⟨[(0, .ref 0 0 x0.length x0.length)], [(0, some ⟨true, 1, (eL eStr x0)⟩)]⟩ := by
  unfold L_law0_SpoilTexts at h
  exact hc.jump (orc := []) (m := 4) (kt := [0, 2]) (kh := [(0, 0)]) (by kernel_rfl) .nil (g_law0_SpoilTexts_1 hc N hfin N x0 0 h)

theorem c_law0_SpoilTexts (N : Nat) (x0 : (List ByteArray)) {r : (List ByteArray)} (h : L_law0_SpoilTexts N x0 = some r) : Con Try.prog 79 [.ref 0 0 x0.length x0.length] [(0, ⟨true, 1, (eL eStr x0)⟩)] (d_law0_SpoilTexts r) (h_law0_SpoilTexts r) :=
  con_intro ok mix (fn := Try.f79) (body := bodyOf Try.f79) (by kernel_rfl) (by kernel_rfl) (by kernel_rfl) (by kernel_rfl) (Nat.le_of_ble_eq_true (by kernel_rfl)) fun c h1 h2 h3 h4 hfin => g_law0_SpoilTexts_0 ⟨h1, h2, h3, h4⟩ N hfin x0 h
/-! ### wharfage/wharfagelaw0.SpoilEvents -/
def L_law0_SpoilEvents_1 (N : Nat) : Nat → (List GEvent) → Int → Option ((List GEvent))
  | 0, _, _ => none
  | fuel + 1, b0, t2 =>
    bif (decide (t2 < (b0.length : Int))) then
      if 0 ≤ t2 ∧ t2 < ((b0.length : Nat) : Int) then
      via ((bXor .i64 ((b0.getD t2.toNat default).To) 90) : Int) fun v1 =>
      if 0 ≤ t2 ∧ t2 < ((b0.length : Nat) : Int) then
      L_law0_SpoilEvents_1 N fuel (b0.set t2.toNat (GEvent.mk ((b0.getD t2.toNat default).Kind) ((b0.getD t2.toNat default).Role) ((b0.getD t2.toNat default).Site) ((b0.getD t2.toNat default).Node) v1 ((b0.getD t2.toNat default).Flow))) (IntKind.i64.wrap (t2 + 1))
      else none
      else none
    else
      some b0
def L_law0_SpoilEvents (N : Nat) (x0 : (List GEvent)) : Option ((List GEvent)) :=
  L_law0_SpoilEvents_1 N N x0 0
def d_law0_SpoilEvents (r : (List GEvent)) : D := .tup []
def h_law0_SpoilEvents (r : (List GEvent)) : List (Nat × Option Blk) := [(0, some ⟨true, 10, (eL eEvent r)⟩)]
theorem g_law0_SpoilEvents_1 {c : Cx} (hc : Is c Try.prog ty 80 19) (N : Nat) {r : (List GEvent)} {C0 : List D} (hfin : c.Fin [(0, ⟨true, 10, C0⟩)] (d_law0_SpoilEvents r) (h_law0_SpoilEvents r)) : ∀ (fuel : Nat) (b0 : (List GEvent)) (t2 : Int), L_law0_SpoilEvents_1 N fuel b0 t2 = some r → c.Goes (items (bodyOf Try.f80) [.c 9, .l 9, .b 0]) ⟨[(0, .ref 0 0 b0.length b0.length), (2, .int .i64 t2)], [(0, some ⟨true, 10, (eL eEvent b0)⟩)]⟩ := by
  intro fuel
  induction fuel with
  | zero => intro b0 t2 h; simp [L_law0_SpoilEvents_1] at h
  | succ fuel ih =>
    intro b0 t2 h
    unfold L_law0_SpoilEvents_1 at h
    rcases brk h with ⟨h0, h⟩ | ⟨h0, h⟩
    · obtain ⟨h1, h⟩ := chk h
      obtain ⟨v1, h2, h⟩ := via_some h
      obtain ⟨h3, h⟩ := chk h
      exact hc.jumpL (orc := [(1, [(3, { cv := some (.bool true) })]), (3, [(4, { cv := some (.ptr 0 (t2.toNat * 10 + 0)) }), (6, { cv := some (.int .i64 ((b0.getD t2.toNat default).To)) }), (7, { cv := some (.int .i64 v1) }), (8, { cv := some (.ptr 0 (t2.toNat * 10 + 0)) }), (10, { cb := [(0, eL eEvent (b0.set t2.toNat (GEvent.mk ((b0.getD t2.toNat default).Kind) ((b0.getD t2.toNat default).Role) ((b0.getD t2.toNat default).Site) ((b0.getD t2.toNat default).Node) v1 ((b0.getD t2.toNat default).Flow))))] })])]) (m := 11) (kt := [0, 2]) (kh := [(0, 0)]) (by kernel_rfl) (.cons (Le.tt h0) (.cons (h1) (.cons (Le.pt (b := 0) (k := t2.toNat * 10)) (.cons (ld_ne (xs := b0) eEvent_len (ixl h1) (o := 4) (by decide)) (.cons (Le.of (ld_hd (xs := b0) eEvent_len (ixl h1) (o := 4) (by decide))) (.cons (Le.int (k := .i64) h2) (.cons (h3) (.cons (Le.pt (b := 0) (k := t2.toNat * 10)) (.cons (st_need (xs := b0) eEvent_len (ixl h3) (o := 4) (k := 1) (vs := [.int .i64 v1]) (p := true) (by decide) rfl rfl) (.cons (st_set (xs := b0) eEvent_len (ixl h3) (o := 4) (vs := [.int .i64 v1]) (y := (GEvent.mk ((b0.getD t2.toNat default).Kind) ((b0.getD t2.toNat default).Role) ((b0.getD t2.toNat default).Site) ((b0.getD t2.toNat default).Node) v1 ((b0.getD t2.toNat default).Flow))) (Nat.le_of_ble_eq_true rfl) rfl) .nil)))))))))) (.cons (Le.rfs (b := 0) (by first | rfl | omega | simp : b0.length = (b0.set t2.toNat (GEvent.mk ((b0.getD t2.toNat default).Kind) ((b0.getD t2.toNat default).Role) ((b0.getD t2.toNat default).Site) ((b0.getD t2.toNat default).Node) v1 ((b0.getD t2.toNat default).Flow))).length) (by first | rfl | omega | simp : b0.length = (b0.set t2.toNat (GEvent.mk ((b0.getD t2.toNat default).Kind) ((b0.getD t2.toNat default).Role) ((b0.getD t2.toNat default).Site) ((b0.getD t2.toNat default).Node) v1 ((b0.getD t2.toNat default).Flow))).length)) (.cons (Le.rfl) .nil)) (ih (b0.set t2.toNat (GEvent.mk ((b0.getD t2.toNat default).Kind) ((b0.getD t2.toNat default).Role) ((b0.getD t2.toNat default).Site) ((b0.getD t2.toNat default).Node) v1 ((b0.getD t2.toNat default).Flow))) (IntKind.i64.wrap (t2 + 1)) h)
    · have h := Option.some.inj h
      subst h
      refine hc.retB hfin [] (fn := Try.f80) (by kernel_rfl) (orc := [(1, [(3, { cv := some (.bool false) })])]) (m := 5) (d := .tup []) (by kernel_rfl) (.cons (Le.ff h0) .nil) (Le.of (by kernel_rfl)) (by kernel_rfl)

theorem g_law0_SpoilEvents_0 {c : Cx} (hc : Is c Try.prog ty 80 19) (N : Nat) {r : (List GEvent)} {C0 : List D} (hfin : c.Fin [(0, ⟨true, 10, C0⟩)] (d_law0_SpoilEvents r) (h_law0_SpoilEvents r)) (x0 : (List GEvent)) (h : L_law0_SpoilEvents N x0 = some r) : c.Goes (items (bodyOf Try.f80) [.c 1]) ⟨[(0, .ref 0 0 x0.length x0.length)], [(0, some ⟨true, 10, (eL eEvent x0)⟩)]⟩ := by
  unfold L_law0_SpoilEvents at h
  exact hc.jump (orc := []) (m := 4) (kt := [0, 2]) (kh := [(0, 0)]) (by kernel_rfl) .nil (g_law0_SpoilEvents_1 hc N hfin N x0 0 h)

theorem c_law0_SpoilEvents (N : Nat) (x0 : (List GEvent)) {r : (List GEvent)} (h : L_law0_SpoilEvents N x0 = some r) : Con Try.prog 80 [.ref 0 0 x0.length x0.length] [(0, ⟨true, 10, (eL eEvent x0)⟩)] (d_law0_SpoilEvents r) (h_law0_SpoilEvents r) :=
  con_intro ok mix (fn := Try.f80) (body := bodyOf Try.f80) (by kernel_rfl) (by kernel_rfl) (by kernel_rfl) (by kernel_rfl) (Nat.le_of_ble_eq_true (by kernel_rfl)) fun c h1 h2 h3 h4 hfin => g_law0_SpoilEvents_0 ⟨h1, h2, h3, h4⟩ N hfin x0 h
/-! ### wharfage/wharfagelaw0.SpoilOut -/
def L_law0_SpoilOut (N : Nat) (x0 : GOut) : Option ((List ByteArray) × (List GEvent)) :=
  (L_law0_SpoilTexts N x0.Sent).bind fun v1 =>
  if v1.length = x0.Sent.length then
  (L_law0_SpoilEvents N x0.Events).bind fun v2 =>
  if v2.length = x0.Events.length then
  some (v1, v2)
  else none
  else none
def d_law0_SpoilOut (r : (List ByteArray) × (List GEvent)) : D := .tup []
def h_law0_SpoilOut (r : (List ByteArray) × (List GEvent)) : List (Nat × Option Blk) := [(0, some ⟨true, 1, (eL eStr r.1)⟩), (1, some ⟨true, 10, (eL eEvent r.2)⟩)]
theorem g_law0_SpoilOut_0 {c : Cx} (hc : Is c Try.prog ty 47 8) (N : Nat) {r : (List ByteArray) × (List GEvent)} {C0 : List D} {C1 : List D} (hfin : c.Fin [(0, ⟨true, 1, C0⟩), (1, ⟨true, 10, C1⟩)] (d_law0_SpoilOut r) (h_law0_SpoilOut r)) (x0 : GOut) (h : L_law0_SpoilOut N x0 = some r) : c.Goes (items (bodyOf Try.f47) [.c 1]) ⟨[(0, .agg [.ref 0 0 x0.Sent.length x0.Sent.length, .ref 1 0 x0.Events.length x0.Events.length])], [(0, some ⟨true, 1, (eL eStr x0.Sent)⟩), (1, some ⟨true, 10, (eL eEvent x0.Events)⟩)]⟩ := by
  unfold L_law0_SpoilOut at h
  obtain ⟨v1, h0, h⟩ := bind_of h
  obtain ⟨h1, h⟩ := chk h
  obtain ⟨v2, h2, h⟩ := bind_of h
  obtain ⟨h3, h⟩ := chk h
  have h := Option.some.inj h
  subst h
  refine hc.retB hfin [] (fn := Try.f47) (by kernel_rfl) (orc := [(1, [(2, { ρ := [0], r := d_law0_SpoilTexts v1, H := h_law0_SpoilTexts v1 })]), (2, [(2, { ρ := [1], r := d_law0_SpoilEvents v2, H := h_law0_SpoilEvents v2 })])]) (m := 5) (d := .tup []) (by kernel_rfl) (.cons (c_law0_SpoilTexts N x0.Sent h0) (.cons (c_law0_SpoilEvents N x0.Events h2) .nil)) (Le.of (by kernel_rfl)) (by kernel_rfl)

theorem c_law0_SpoilOut (N : Nat) (x0 : GOut) {r : (List ByteArray) × (List GEvent)} (h : L_law0_SpoilOut N x0 = some r) : Con Try.prog 47 [.agg [.ref 0 0 x0.Sent.length x0.Sent.length, .ref 1 0 x0.Events.length x0.Events.length]] [(0, ⟨true, 1, (eL eStr x0.Sent)⟩), (1, ⟨true, 10, (eL eEvent x0.Events)⟩)] (d_law0_SpoilOut r) (h_law0_SpoilOut r) :=
  con_intro ok mix (fn := Try.f47) (body := bodyOf Try.f47) (by kernel_rfl) (by kernel_rfl) (by kernel_rfl) (by kernel_rfl) (Nat.le_of_ble_eq_true (by kernel_rfl)) fun c h1 h2 h3 h4 hfin => g_law0_SpoilOut_0 ⟨h1, h2, h3, h4⟩ N hfin x0 h
/-! ### wharfage/wharfageref1.FlowMay -/
def L_ref1_FlowMay_1 (N : Nat) (t2 : Bool) : Option (Bool) :=
  some t2
def L_ref1_FlowMay (N : Nat) (x0 : GFlow) : Option (Bool) :=
  (L_ref1_within N x0.Src 32).bind fun v1 =>
  bif v1 then
    (L_ref1_within N x0.Dst 32).bind fun v2 =>
    bif v2 then
      bif (x0.Proto == 6) then
        (L_ref1_within N x0.Sport 16).bind fun v3 =>
        bif v3 then
          (L_ref1_within N x0.Dport 16).bind fun v4 =>
          L_ref1_FlowMay_1 N v4
        else
          L_ref1_FlowMay_1 N false
      else
        bif (x0.Proto == 17) then
          (L_ref1_within N x0.Sport 16).bind fun v3 =>
          bif v3 then
            (L_ref1_within N x0.Dport 16).bind fun v4 =>
            L_ref1_FlowMay_1 N v4
          else
            L_ref1_FlowMay_1 N false
        else
          L_ref1_FlowMay_1 N false
    else
      L_ref1_FlowMay_1 N false
  else
    L_ref1_FlowMay_1 N false
def d_ref1_FlowMay (r : Bool) : D := .bool r
theorem g_ref1_FlowMay_1 {c : Cx} (hc : Is c Try.prog ty 41 31) (N : Nat) {r : Bool} (hfin : c.Fin [] (d_ref1_FlowMay r) []) (t2 : Bool) (h : L_ref1_FlowMay_1 N t2 = some r) : c.Goes (items (bodyOf Try.f41) [.c 7]) ⟨[(2, .bool t2)], []⟩ := by
  unfold L_ref1_FlowMay_1 at h
  have h := Option.some.inj h
  refine hc.ret hfin (fn := Try.f41) (by kernel_rfl) (orc := []) (m := 0) (d := .bool t2) (by kernel_rfl) .nil ?_ ?_
  · rw [← h]; exact Le.of rfl
  · rw [← h]; rfl

theorem g_ref1_FlowMay_0 {c : Cx} (hc : Is c Try.prog ty 41 31) (N : Nat) {r : Bool} (hfin : c.Fin [] (d_ref1_FlowMay r) []) (x0 : GFlow) (h : L_ref1_FlowMay N x0 = some r) : c.Goes (items (bodyOf Try.f41) [.c 1]) ⟨[(0, .agg [.int .i64 x0.Src, .int .i64 x0.Dst, .int .i64 x0.Proto, .int .i64 x0.Sport, .int .i64 x0.Dport])], []⟩ := by
  unfold L_ref1_FlowMay at h
  obtain ⟨v1, h0, h⟩ := bind_of h
  rcases brk h with ⟨h1, h⟩ | ⟨h1, h⟩
  · obtain ⟨v2, h2, h⟩ := bind_of h
    rcases brk h with ⟨h3, h⟩ | ⟨h3, h⟩
    · rcases brk h with ⟨h4, h⟩ | ⟨h4, h⟩
      · obtain ⟨v3, h5, h⟩ := bind_of h
        rcases brk h with ⟨h6, h⟩ | ⟨h6, h⟩
        · obtain ⟨v4, h7, h⟩ := bind_of h
          exact hc.jump (orc := [(1, [(2, { r := d_ref1_within v1 }), (3, { cv := some (.bool true) }), (6, { r := d_ref1_within v2 }), (8, { cv := some (.bool true) }), (12, { cv := some (.bool true) }), (21, { r := d_ref1_within v3 }), (23, { cv := some (.bool true) }), (26, { r := d_ref1_within v4 })])]) (m := 4) (kt := [2]) (kh := []) (by kernel_rfl) (.cons (c_ref1_within N x0.Src 32 h0) (.cons (Le.tt h1) (.cons (c_ref1_within N x0.Dst 32 h2) (.cons (Le.tt h3) (.cons (Le.tt h4) (.cons (c_ref1_within N x0.Sport 16 h5) (.cons (Le.tt h6) (.cons (c_ref1_within N x0.Dport 16 h7) .nil)))))))) (g_ref1_FlowMay_1 hc N hfin v4 h)
        · exact hc.jump (orc := [(1, [(2, { r := d_ref1_within v1 }), (3, { cv := some (.bool true) }), (6, { r := d_ref1_within v2 }), (8, { cv := some (.bool true) }), (12, { cv := some (.bool true) }), (21, { r := d_ref1_within v3 }), (23, { cv := some (.bool false) })])]) (m := 4) (kt := [2]) (kh := []) (by kernel_rfl) (.cons (c_ref1_within N x0.Src 32 h0) (.cons (Le.tt h1) (.cons (c_ref1_within N x0.Dst 32 h2) (.cons (Le.tt h3) (.cons (Le.tt h4) (.cons (c_ref1_within N x0.Sport 16 h5) (.cons (Le.ff h6) .nil))))))) (g_ref1_FlowMay_1 hc N hfin false h)
      · rcases brk h with ⟨h5, h⟩ | ⟨h5, h⟩
        · obtain ⟨v3, h6, h⟩ := bind_of h
          rcases brk h with ⟨h7, h⟩ | ⟨h7, h⟩
          · obtain ⟨v4, h8, h⟩ := bind_of h
            exact hc.jump (orc := [(1, [(2, { r := d_ref1_within v1 }), (3, { cv := some (.bool true) }), (6, { r := d_ref1_within v2 }), (8, { cv := some (.bool true) }), (12, { cv := some (.bool false) }), (18, { cv := some (.bool true) }), (21, { r := d_ref1_within v3 }), (23, { cv := some (.bool true) }), (26, { r := d_ref1_within v4 })])]) (m := 4) (kt := [2]) (kh := []) (by kernel_rfl) (.cons (c_ref1_within N x0.Src 32 h0) (.cons (Le.tt h1) (.cons (c_ref1_within N x0.Dst 32 h2) (.cons (Le.tt h3) (.cons (Le.ff h4) (.cons (Le.tt h5) (.cons (c_ref1_within N x0.Sport 16 h6) (.cons (Le.tt h7) (.cons (c_ref1_within N x0.Dport 16 h8) .nil))))))))) (g_ref1_FlowMay_1 hc N hfin v4 h)
          · exact hc.jump (orc := [(1, [(2, { r := d_ref1_within v1 }), (3, { cv := some (.bool true) }), (6, { r := d_ref1_within v2 }), (8, { cv := some (.bool true) }), (12, { cv := some (.bool false) }), (18, { cv := some (.bool true) }), (21, { r := d_ref1_within v3 }), (23, { cv := some (.bool false) })])]) (m := 4) (kt := [2]) (kh := []) (by kernel_rfl) (.cons (c_ref1_within N x0.Src 32 h0) (.cons (Le.tt h1) (.cons (c_ref1_within N x0.Dst 32 h2) (.cons (Le.tt h3) (.cons (Le.ff h4) (.cons (Le.tt h5) (.cons (c_ref1_within N x0.Sport 16 h6) (.cons (Le.ff h7) .nil)))))))) (g_ref1_FlowMay_1 hc N hfin false h)
        · exact hc.jump (orc := [(1, [(2, { r := d_ref1_within v1 }), (3, { cv := some (.bool true) }), (6, { r := d_ref1_within v2 }), (8, { cv := some (.bool true) }), (12, { cv := some (.bool false) }), (18, { cv := some (.bool false) })])]) (m := 4) (kt := [2]) (kh := []) (by kernel_rfl) (.cons (c_ref1_within N x0.Src 32 h0) (.cons (Le.tt h1) (.cons (c_ref1_within N x0.Dst 32 h2) (.cons (Le.tt h3) (.cons (Le.ff h4) (.cons (Le.ff h5) .nil)))))) (g_ref1_FlowMay_1 hc N hfin false h)
    · exact hc.jump (orc := [(1, [(2, { r := d_ref1_within v1 }), (3, { cv := some (.bool true) }), (6, { r := d_ref1_within v2 }), (8, { cv := some (.bool false) })])]) (m := 4) (kt := [2]) (kh := []) (by kernel_rfl) (.cons (c_ref1_within N x0.Src 32 h0) (.cons (Le.tt h1) (.cons (c_ref1_within N x0.Dst 32 h2) (.cons (Le.ff h3) .nil)))) (g_ref1_FlowMay_1 hc N hfin false h)
  · exact hc.jump (orc := [(1, [(2, { r := d_ref1_within v1 }), (3, { cv := some (.bool false) })])]) (m := 4) (kt := [2]) (kh := []) (by kernel_rfl) (.cons (c_ref1_within N x0.Src 32 h0) (.cons (Le.ff h1) .nil)) (g_ref1_FlowMay_1 hc N hfin false h)

theorem c_ref1_FlowMay (N : Nat) (x0 : GFlow) {r : Bool} (h : L_ref1_FlowMay N x0 = some r) : Con Try.prog 41 [.agg [.int .i64 x0.Src, .int .i64 x0.Dst, .int .i64 x0.Proto, .int .i64 x0.Sport, .int .i64 x0.Dport]] [] (d_ref1_FlowMay r) [] :=
  con_intro ok mix (fn := Try.f41) (body := bodyOf Try.f41) (by kernel_rfl) (by kernel_rfl) (by kernel_rfl) rfl (Nat.le_of_ble_eq_true (by kernel_rfl)) fun c h1 h2 h3 h4 hfin => g_ref1_FlowMay_0 ⟨h1, h2, h3, h4⟩ N hfin x0 h
/-! ### wharfage/wharfageref1.PutSeg -/
def L_ref1_PutSeg_2 (N : Nat) (b124_0 : Int) (b124_1 : Int) (b124_2 : Int) (b124_3 : Int) (b124_4 : Int) (b124_5 : Int) (b124_6 : ByteArray) (t8 : ByteArray) (t10 : Int) : Option (ByteArray × Int) :=
  (L_ref1_Num N t10 2).bind fun v1 =>
  if ((t8.size + v1.size : Nat) : Int) ≤ 9223372036854775807 then
  if (((t8 ++ v1).size + b124_6.size : Nat) : Int) ≤ 9223372036854775807 then
  some (((t8 ++ v1) ++ b124_6), 0)
  else none
  else none
def L_ref1_PutSeg_1 (N : Nat) (t1 : Int) (t2 : Int) (b124_0 : Int) (b124_1 : Int) (b124_2 : Int) (b124_3 : Int) (b124_4 : Int) (b124_5 : Int) (b124_6 : ByteArray) (t23 : Bool) : Option (ByteArray × Int) :=
  bif t23 then
    some (ByteArray.empty, 300)
  else
    (L_ref1_Num N b124_1 2).bind fun v1 =>
    (L_ref1_Num N b124_2 2).bind fun v2 =>
    if ((v1.size + v2.size : Nat) : Int) ≤ 9223372036854775807 then
    bif (b124_0 == 6) then
      (L_ref1_Num N b124_3 4).bind fun v3 =>
      if (((v1 ++ v2).size + v3.size : Nat) : Int) ≤ 9223372036854775807 then
      (L_ref1_Num N b124_4 4).bind fun v4 =>
      if ((((v1 ++ v2) ++ v3).size + v4.size : Nat) : Int) ≤ 9223372036854775807 then
      if (((((v1 ++ v2) ++ v3) ++ v4).size + (ByteArray.mk #[80]).size : Nat) : Int) ≤ 9223372036854775807 then
      via (((((v1 ++ v2) ++ v3) ++ v4) ++ (ByteArray.mk #[80])) : ByteArray) fun v5 =>
      (L_ref1_Num N b124_5 1).bind fun v6 =>
      if ((v5.size + v6.size : Nat) : Int) ≤ 9223372036854775807 then
      (L_ref1_Num N 1024 2).bind fun v7 =>
      if (((v5 ++ v6).size + v7.size : Nat) : Int) ≤ 9223372036854775807 then
      if (((ByteArray.mk #[0, 0]).size + b124_6.size : Nat) : Int) ≤ 9223372036854775807 then
      if ((((v5 ++ v6) ++ v7).size + (ByteArray.mk #[0, 0]).size : Nat) : Int) ≤ 9223372036854775807 then
      via ((((v5 ++ v6) ++ v7) ++ (ByteArray.mk #[0, 0])) : ByteArray) fun v8 =>
      if ((v8.size + ((ByteArray.mk #[0, 0]) ++ b124_6).size : Nat) : Int) ≤ 9223372036854775807 then
      (L_ref1_pseudo N b124_0 (v8 ++ ((ByteArray.mk #[0, 0]) ++ b124_6)) t1 t2).bind fun v9 =>
      (L_ref1_Num N (IntKind.i64.wrap ((65535 : Int) - v9)) 2).bind fun v10 =>
      if ((((v5 ++ v6) ++ v7).size + v10.size : Nat) : Int) ≤ 9223372036854775807 then
      if (((((v5 ++ v6) ++ v7) ++ v10).size + ((ByteArray.mk #[0, 0]) ++ b124_6).size : Nat) : Int) ≤ 9223372036854775807 then
      via (((((v5 ++ v6) ++ v7) ++ v10) ++ ((ByteArray.mk #[0, 0]) ++ b124_6)) : ByteArray) fun v11 =>
      some (v11, 0)
      else none
      else none
      else none
      else none
      else none
      else none
      else none
      else none
      else none
      else none
    else
      via ((IntKind.i64.wrap ((8 : Int) + (b124_6.size : Int))) : Int) fun v3 =>
      (L_ref1_Num N v3 2).bind fun v4 =>
      if (((v1 ++ v2).size + v4.size : Nat) : Int) ≤ 9223372036854775807 then
      if ((((v1 ++ v2) ++ v4).size + (ByteArray.mk #[0, 0]).size : Nat) : Int) ≤ 9223372036854775807 then
      via ((((v1 ++ v2) ++ v4) ++ (ByteArray.mk #[0, 0])) : ByteArray) fun v5 =>
      if ((v5.size + b124_6.size : Nat) : Int) ≤ 9223372036854775807 then
      (L_ref1_pseudo N b124_0 (v5 ++ b124_6) t1 t2).bind fun v6 =>
      bif ((IntKind.i64.wrap ((65535 : Int) - v6)) == 0) then
        L_ref1_PutSeg_2 N b124_0 b124_1 b124_2 b124_3 b124_4 b124_5 b124_6 ((v1 ++ v2) ++ v4) 65535
      else
        L_ref1_PutSeg_2 N b124_0 b124_1 b124_2 b124_3 b124_4 b124_5 b124_6 ((v1 ++ v2) ++ v4) (IntKind.i64.wrap ((65535 : Int) - v6))
      else none
      else none
      else none
    else none
def L_ref1_PutSeg (N : Nat) (x0 : GSeg) (x1 : Int) (x2 : Int) : Option (ByteArray × Int) :=
  (L_ref1_SegMay N x0).bind fun v1 =>
  bif (!v1) then
    L_ref1_PutSeg_1 N x1 x2 x0.Proto x0.Sport x0.Dport x0.Seq x0.Ack x0.Flags x0.Body true
  else
    (L_ref1_within N x1 32).bind fun v2 =>
    bif (!v2) then
      L_ref1_PutSeg_1 N x1 x2 x0.Proto x0.Sport x0.Dport x0.Seq x0.Ack x0.Flags x0.Body true
    else
      (L_ref1_within N x2 32).bind fun v3 =>
      L_ref1_PutSeg_1 N x1 x2 x0.Proto x0.Sport x0.Dport x0.Seq x0.Ack x0.Flags x0.Body (!v3)
def d_ref1_PutSeg (r : ByteArray × Int) : D := .tup [.str r.1, .int .i64 r.2]
theorem g_ref1_PutSeg_2 {c : Cx} (hc : Is c Try.prog ty 30 95) (N : Nat) {r : ByteArray × Int} (hfin : c.Fin [] (d_ref1_PutSeg r) []) (b124_0 : Int) (b124_1 : Int) (b124_2 : Int) (b124_3 : Int) (b124_4 : Int) (b124_5 : Int) (b124_6 : ByteArray) (t8 : ByteArray) (t10 : Int) (h : L_ref1_PutSeg_2 N b124_0 b124_1 b124_2 b124_3 b124_4 b124_5 b124_6 t8 t10 = some r) : c.Goes (items (bodyOf Try.f30) [.c 255]) ⟨[(3, .ptr 124 0), (8, .str t8), (10, .int .i64 t10)], [(124, some ⟨false, 0, [.int .i64 b124_0, .int .i64 b124_1, .int .i64 b124_2, .int .i64 b124_3, .int .i64 b124_4, .int .i64 b124_5, .str b124_6]⟩)]⟩ := by
  unfold L_ref1_PutSeg_2 at h
  obtain ⟨v1, h0, h⟩ := bind_of h
  obtain ⟨h1, h⟩ := chk h
  obtain ⟨h2, h⟩ := chk h
  have h := Option.some.inj h
  refine hc.ret hfin (fn := Try.f30) (by kernel_rfl) (orc := [(12, [(2, { r := d_ref1_Num v1 })])]) (m := 2) (d := .tup [.str ((t8 ++ v1) ++ b124_6), .int .i64 0]) (by kernel_rfl) (.cons (c_ref1_Num N t10 2 h0) (.cons (h1) (.cons (h2) .nil))) ?_ ?_
  · rw [← h]; exact Le.of rfl
  · rw [← h]; rfl

theorem g_ref1_PutSeg_1 {c : Cx} (hc : Is c Try.prog ty 30 95) (N : Nat) {r : ByteArray × Int} (hfin : c.Fin [] (d_ref1_PutSeg r) []) (t1 : Int) (t2 : Int) (b124_0 : Int) (b124_1 : Int) (b124_2 : Int) (b124_3 : Int) (b124_4 : Int) (b124_5 : Int) (b124_6 : ByteArray) (t23 : Bool) (h : L_ref1_PutSeg_1 N t1 t2 b124_0 b124_1 b124_2 b124_3 b124_4 b124_5 b124_6 t23 = some r) : c.Goes (items (bodyOf Try.f30) [.c 13, .c 7]) ⟨[(1, .int .i64 t1), (2, .int .i64 t2), (3, .ptr 124 0), (23, .bool t23)], [(124, some ⟨false, 0, [.int .i64 b124_0, .int .i64 b124_1, .int .i64 b124_2, .int .i64 b124_3, .int .i64 b124_4, .int .i64 b124_5, .str b124_6]⟩)]⟩ := by
  unfold L_ref1_PutSeg_1 at h
  rcases brk h with ⟨h0, k0⟩ | ⟨h0, k0⟩
  · subst h0
    replace h := k0
    have h := Option.some.inj h
    refine hc.ret hfin (fn := Try.f30) (by kernel_rfl) (orc := []) (m := 3) (d := .tup [.str ByteArray.empty, .int .i64 300]) (by kernel_rfl) .nil ?_ ?_
    · rw [← h]; exact Le.of rfl
    · rw [← h]; rfl
  · subst h0
    replace h := k0
    obtain ⟨v1, h1, h⟩ := bind_of h
    obtain ⟨v2, h2, h⟩ := bind_of h
    obtain ⟨h3, h⟩ := chk h
    rcases brk h with ⟨h4, h⟩ | ⟨h4, h⟩
    · obtain ⟨v3, h5, h⟩ := bind_of h
      obtain ⟨h6, h⟩ := chk h
      obtain ⟨v4, h7, h⟩ := bind_of h
      obtain ⟨h8, h⟩ := chk h
      obtain ⟨h9, h⟩ := chk h
      obtain ⟨v5, h10, h⟩ := via_some h
      obtain ⟨v6, h11, h⟩ := bind_of h
      obtain ⟨h12, h⟩ := chk h
      obtain ⟨v7, h13, h⟩ := bind_of h
      obtain ⟨h14, h⟩ := chk h
      obtain ⟨h15, h⟩ := chk h
      obtain ⟨h16, h⟩ := chk h
      obtain ⟨v8, h17, h⟩ := via_some h
      obtain ⟨h18, h⟩ := chk h
      obtain ⟨v9, h19, h⟩ := bind_of h
      obtain ⟨v10, h20, h⟩ := bind_of h
      obtain ⟨h21, h⟩ := chk h
      obtain ⟨h22, h⟩ := chk h
      obtain ⟨v11, h23, h⟩ := via_some h
      have h := Option.some.inj h
      refine hc.ret hfin (fn := Try.f30) (by kernel_rfl) (orc := [(3, [(2, { r := d_ref1_Num v1 }), (5, { r := d_ref1_Num v2 })]), (4, [(2, { cv := some (.bool true) })]), (5, [(3, { r := d_ref1_Num v3 }), (7, { r := d_ref1_Num v4 }), (9, { cv := some (.str v5) }), (12, { r := d_ref1_Num v6 }), (14, { r := d_ref1_Num v7 })]), (7, [(4, { cv := some (.str v8) }), (9, { r := d_ref1_pseudo v9 }), (11, { r := d_ref1_Num v10 }), (14, { cv := some (.str v11) })])]) (m := 14) (d := .tup [.str v11, .int .i64 0]) (by kernel_rfl) (.cons (c_ref1_Num N b124_1 2 h1) (.cons (c_ref1_Num N b124_2 2 h2) (.cons (h3) (.cons (Le.tt h4) (.cons (c_ref1_Num N b124_3 4 h5) (.cons (h6) (.cons (c_ref1_Num N b124_4 4 h7) (.cons (h8) (.cons (h9) (.cons (Le.str h10) (.cons (c_ref1_Num N b124_5 1 h11) (.cons (h12) (.cons (c_ref1_Num N 1024 2 h13) (.cons (h14) (.cons (h15) (.cons (h16) (.cons (Le.str h17) (.cons (h18) (.cons (c_ref1_pseudo N b124_0 (v8 ++ ((ByteArray.mk #[0, 0]) ++ b124_6)) t1 t2 h19) (.cons (c_ref1_Num N (IntKind.i64.wrap ((65535 : Int) - v9)) 2 h20) (.cons (h21) (.cons (h22) (.cons (Le.str h23) .nil))))))))))))))))))))))) ?_ ?_
      · rw [← h]; exact Le.of rfl
      · rw [← h]; rfl
    · obtain ⟨v3, h5, h⟩ := via_some h
      obtain ⟨v4, h6, h⟩ := bind_of h
      obtain ⟨h7, h⟩ := chk h
      obtain ⟨h8, h⟩ := chk h
      obtain ⟨v5, h9, h⟩ := via_some h
      obtain ⟨h10, h⟩ := chk h
      obtain ⟨v6, h11, h⟩ := bind_of h
      rcases brk h with ⟨h12, h⟩ | ⟨h12, h⟩
      · exact hc.jump (orc := [(3, [(2, { r := d_ref1_Num v1 }), (5, { r := d_ref1_Num v2 })]), (4, [(2, { cv := some (.bool false) })]), (8, [(4, { cv := some (.int .i64 v3) }), (5, { r := d_ref1_Num v4 })]), (9, [(3, { cv := some (.str v5) }), (9, { r := d_ref1_pseudo v6 })]), (10, [(1, { cv := some (.bool true) })])]) (m := 18) (kt := [3, 8, 10]) (kh := [(124, 124)]) (by kernel_rfl) (.cons (c_ref1_Num N b124_1 2 h1) (.cons (c_ref1_Num N b124_2 2 h2) (.cons (h3) (.cons (Le.ff h4) (.cons (Le.int (k := .i64) h5) (.cons (c_ref1_Num N v3 2 h6) (.cons (h7) (.cons (h8) (.cons (Le.str h9) (.cons (h10) (.cons (c_ref1_pseudo N b124_0 (v5 ++ b124_6) t1 t2 h11) (.cons (Le.tt h12) .nil)))))))))))) (g_ref1_PutSeg_2 hc N hfin b124_0 b124_1 b124_2 b124_3 b124_4 b124_5 b124_6 ((v1 ++ v2) ++ v4) 65535 h)
      · exact hc.jump (orc := [(3, [(2, { r := d_ref1_Num v1 }), (5, { r := d_ref1_Num v2 })]), (4, [(2, { cv := some (.bool false) })]), (8, [(4, { cv := some (.int .i64 v3) }), (5, { r := d_ref1_Num v4 })]), (9, [(3, { cv := some (.str v5) }), (9, { r := d_ref1_pseudo v6 })]), (10, [(1, { cv := some (.bool false) })])]) (m := 18) (kt := [3, 8, 10]) (kh := [(124, 124)]) (by kernel_rfl) (.cons (c_ref1_Num N b124_1 2 h1) (.cons (c_ref1_Num N b124_2 2 h2) (.cons (h3) (.cons (Le.ff h4) (.cons (Le.int (k := .i64) h5) (.cons (c_ref1_Num N v3 2 h6) (.cons (h7) (.cons (h8) (.cons (Le.str h9) (.cons (h10) (.cons (c_ref1_pseudo N b124_0 (v5 ++ b124_6) t1 t2 h11) (.cons (Le.ff h12) .nil)))))))))))) (g_ref1_PutSeg_2 hc N hfin b124_0 b124_1 b124_2 b124_3 b124_4 b124_5 b124_6 ((v1 ++ v2) ++ v4) (IntKind.i64.wrap ((65535 : Int) - v6)) h)

theorem g_ref1_PutSeg_0 {c : Cx} (hc : Is c Try.prog ty 30 95) (N : Nat) {r : ByteArray × Int} (hfin : c.Fin [] (d_ref1_PutSeg r) []) (x0 : GSeg) (x1 : Int) (x2 : Int) (h : L_ref1_PutSeg N x0 x1 x2 = some r) : c.Goes (items (bodyOf Try.f30) [.c 1]) ⟨[(0, .agg [.int .i64 x0.Proto, .int .i64 x0.Sport, .int .i64 x0.Dport, .int .i64 x0.Seq, .int .i64 x0.Ack, .int .i64 x0.Flags, .str x0.Body]), (1, .int .i64 x1), (2, .int .i64 x2)], []⟩ := by
  unfold L_ref1_PutSeg at h
  obtain ⟨v1, h0, h⟩ := bind_of h
  rcases brk h with ⟨h1, h⟩ | ⟨h1, h⟩
  · exact hc.jump (orc := [(1, [(1, { r := d_ref1_SegMay v1 }), (3, { cv := some (.bool true) })])]) (m := 5) (kt := [1, 2, 3, 23]) (kh := [(124, 124)]) (by kernel_rfl) (.cons (c_ref1_SegMay N x0 h0) (.cons (Le.tt h1) .nil)) (g_ref1_PutSeg_1 hc N hfin x1 x2 x0.Proto x0.Sport x0.Dport x0.Seq x0.Ack x0.Flags x0.Body true h)
  · obtain ⟨v2, h2, h⟩ := bind_of h
    rcases brk h with ⟨h3, h⟩ | ⟨h3, h⟩
    · exact hc.jump (orc := [(1, [(1, { r := d_ref1_SegMay v1 }), (3, { cv := some (.bool false) }), (5, { r := d_ref1_within v2 }), (8, { cv := some (.bool true) })])]) (m := 5) (kt := [1, 2, 3, 23]) (kh := [(124, 124)]) (by kernel_rfl) (.cons (c_ref1_SegMay N x0 h0) (.cons (Le.ff h1) (.cons (c_ref1_within N x1 32 h2) (.cons (Le.tt h3) .nil)))) (g_ref1_PutSeg_1 hc N hfin x1 x2 x0.Proto x0.Sport x0.Dport x0.Seq x0.Ack x0.Flags x0.Body true h)
    · obtain ⟨v3, h4, h⟩ := bind_of h
      exact hc.jump (orc := [(1, [(1, { r := d_ref1_SegMay v1 }), (3, { cv := some (.bool false) }), (5, { r := d_ref1_within v2 }), (8, { cv := some (.bool false) }), (10, { r := d_ref1_within v3 })])]) (m := 5) (kt := [1, 2, 3, 23]) (kh := [(124, 124)]) (by kernel_rfl) (.cons (c_ref1_SegMay N x0 h0) (.cons (Le.ff h1) (.cons (c_ref1_within N x1 32 h2) (.cons (Le.ff h3) (.cons (c_ref1_within N x2 32 h4) .nil))))) (g_ref1_PutSeg_1 hc N hfin x1 x2 x0.Proto x0.Sport x0.Dport x0.Seq x0.Ack x0.Flags x0.Body (!v3) h)

theorem c_ref1_PutSeg (N : Nat) (x0 : GSeg) (x1 : Int) (x2 : Int) {r : ByteArray × Int} (h : L_ref1_PutSeg N x0 x1 x2 = some r) : Con Try.prog 30 [.agg [.int .i64 x0.Proto, .int .i64 x0.Sport, .int .i64 x0.Dport, .int .i64 x0.Seq, .int .i64 x0.Ack, .int .i64 x0.Flags, .str x0.Body], .int .i64 x1, .int .i64 x2] [] (d_ref1_PutSeg r) [] :=
  con_intro ok mix (fn := Try.f30) (body := bodyOf Try.f30) (by kernel_rfl) (by kernel_rfl) (by kernel_rfl) rfl (Nat.le_of_ble_eq_true (by kernel_rfl)) fun c h1 h2 h3 h4 hfin => g_ref1_PutSeg_0 ⟨h1, h2, h3, h4⟩ N hfin x0 x1 x2 h
/-! ### wharfage/wharfageref1.PacketOf -/
def L_ref1_PacketOf_1 (N : Nat) (b124_0 : Int) (b124_1 : Int) (b124_2 : Int) (b124_3 : Int) (b124_4 : Int) (b164_0 : Int) (b164_1 : Int) (b164_2 : Int) (b164_3 : Int) (b164_4 : Int) (b164_5 : Int) (b164_6 : ByteArray) (t29 : Bool) : Option (ByteArray × Int) :=
  bif t29 then
    some (ByteArray.empty, 400)
  else
    (L_ref1_PutSeg N (GSeg.mk b164_0 b164_1 b164_2 b164_3 b164_4 b164_5 b164_6) b124_0 b124_1).bind fun v1 =>
    (L_ref1_PutIp N (GIp.mk b124_0 b124_1 b124_2 64 0 v1.1)).bind fun v2 =>
    some (v2.1, 0)
def L_ref1_PacketOf (N : Nat) (x0 : GFlow) (x1 : Int) (x2 : ByteArray) : Option (ByteArray × Int) :=
  (L_ref1_FlowMay N x0).bind fun v1 =>
  bif (!v1) then
    L_ref1_PacketOf_1 N x0.Src x0.Dst x0.Proto x0.Sport x0.Dport x0.Proto x0.Sport x0.Dport 0 0 x1 x2 true
  else
    (L_ref1_SegMay N (GSeg.mk x0.Proto x0.Sport x0.Dport 0 0 x1 x2)).bind fun v2 =>
    L_ref1_PacketOf_1 N x0.Src x0.Dst x0.Proto x0.Sport x0.Dport x0.Proto x0.Sport x0.Dport 0 0 x1 x2 (!v2)
def d_ref1_PacketOf (r : ByteArray × Int) : D := .tup [.str r.1, .int .i64 r.2]
theorem g_ref1_PacketOf_1 {c : Cx} (hc : Is c Try.prog ty 37 52) (N : Nat) {r : ByteArray × Int} (hfin : c.Fin [] (d_ref1_PacketOf r) []) (b124_0 : Int) (b124_1 : Int) (b124_2 : Int) (b124_3 : Int) (b124_4 : Int) (b164_0 : Int) (b164_1 : Int) (b164_2 : Int) (b164_3 : Int) (b164_4 : Int) (b164_5 : Int) (b164_6 : ByteArray) (t29 : Bool) (h : L_ref1_PacketOf_1 N b124_0 b124_1 b124_2 b124_3 b124_4 b164_0 b164_1 b164_2 b164_3 b164_4 b164_5 b164_6 t29 = some r) : c.Goes (items (bodyOf Try.f37) [.c 27, .c 15]) ⟨[(3, .ptr 124 0), (8, .ptr 164 0), (29, .bool t29)], [(124, some ⟨false, 0, [.int .i64 b124_0, .int .i64 b124_1, .int .i64 b124_2, .int .i64 b124_3, .int .i64 b124_4]⟩), (164, some ⟨false, 0, [.int .i64 b164_0, .int .i64 b164_1, .int .i64 b164_2, .int .i64 b164_3, .int .i64 b164_4, .int .i64 b164_5, .str b164_6]⟩)]⟩ := by
  unfold L_ref1_PacketOf_1 at h
  rcases brk h with ⟨h0, k0⟩ | ⟨h0, k0⟩
  · subst h0
    replace h := k0
    have h := Option.some.inj h
    refine hc.ret hfin (fn := Try.f37) (by kernel_rfl) (orc := []) (m := 3) (d := .tup [.str ByteArray.empty, .int .i64 400]) (by kernel_rfl) .nil ?_ ?_
    · rw [← h]; exact Le.of rfl
    · rw [← h]; rfl
  · subst h0
    replace h := k0
    obtain ⟨v1, h1, h⟩ := bind_of h
    obtain ⟨v2, h2, h⟩ := bind_of h
    have h := Option.some.inj h
    refine hc.ret hfin (fn := Try.f37) (by kernel_rfl) (orc := [(4, [(5, { r := d_ref1_PutSeg v1 })]), (5, [(8, { r := d_ref1_PutIp v2 })])]) (m := 8) (d := .tup [.str v2.1, .int .i64 0]) (by kernel_rfl) (.cons (c_ref1_PutSeg N (GSeg.mk b164_0 b164_1 b164_2 b164_3 b164_4 b164_5 b164_6) b124_0 b124_1 h1) (.cons (c_ref1_PutIp N (GIp.mk b124_0 b124_1 b124_2 64 0 v1.1) h2) .nil)) ?_ ?_
    · rw [← h]; exact Le.of rfl
    · rw [← h]; rfl

theorem g_ref1_PacketOf_0 {c : Cx} (hc : Is c Try.prog ty 37 52) (N : Nat) {r : ByteArray × Int} (hfin : c.Fin [] (d_ref1_PacketOf r) []) (x0 : GFlow) (x1 : Int) (x2 : ByteArray) (h : L_ref1_PacketOf N x0 x1 x2 = some r) : c.Goes (items (bodyOf Try.f37) [.c 1]) ⟨[(0, .agg [.int .i64 x0.Src, .int .i64 x0.Dst, .int .i64 x0.Proto, .int .i64 x0.Sport, .int .i64 x0.Dport]), (1, .int .i64 x1), (2, .str x2)], []⟩ := by
  unfold L_ref1_PacketOf at h
  obtain ⟨v1, h0, h⟩ := bind_of h
  rcases brk h with ⟨h1, h⟩ | ⟨h1, h⟩
  · exact hc.jump (orc := [(2, [(1, { r := d_ref1_FlowMay v1 }), (3, { cv := some (.bool true) })])]) (m := 7) (kt := [3, 8, 29]) (kh := [(124, 124), (164, 164)]) (by kernel_rfl) (.cons (c_ref1_FlowMay N x0 h0) (.cons (Le.tt h1) .nil)) (g_ref1_PacketOf_1 hc N hfin x0.Src x0.Dst x0.Proto x0.Sport x0.Dport x0.Proto x0.Sport x0.Dport 0 0 x1 x2 true h)
  · obtain ⟨v2, h2, h⟩ := bind_of h
    exact hc.jump (orc := [(2, [(1, { r := d_ref1_FlowMay v1 }), (3, { cv := some (.bool false) }), (5, { r := d_ref1_SegMay v2 })])]) (m := 7) (kt := [3, 8, 29]) (kh := [(124, 124), (164, 164)]) (by kernel_rfl) (.cons (c_ref1_FlowMay N x0 h0) (.cons (Le.ff h1) (.cons (c_ref1_SegMay N (GSeg.mk x0.Proto x0.Sport x0.Dport 0 0 x1 x2) h2) .nil))) (g_ref1_PacketOf_1 hc N hfin x0.Src x0.Dst x0.Proto x0.Sport x0.Dport x0.Proto x0.Sport x0.Dport 0 0 x1 x2 (!v2) h)

theorem c_ref1_PacketOf (N : Nat) (x0 : GFlow) (x1 : Int) (x2 : ByteArray) {r : ByteArray × Int} (h : L_ref1_PacketOf N x0 x1 x2 = some r) : Con Try.prog 37 [.agg [.int .i64 x0.Src, .int .i64 x0.Dst, .int .i64 x0.Proto, .int .i64 x0.Sport, .int .i64 x0.Dport], .int .i64 x1, .str x2] [] (d_ref1_PacketOf r) [] :=
  con_intro ok mix (fn := Try.f37) (body := bodyOf Try.f37) (by kernel_rfl) (by kernel_rfl) (by kernel_rfl) rfl (Nat.le_of_ble_eq_true (by kernel_rfl)) fun c h1 h2 h3 h4 hfin => g_ref1_PacketOf_0 ⟨h1, h2, h3, h4⟩ N hfin x0 x1 x2 h
/-! ### wharfage/wharfagelaw21.said -/
def L_law21_said (N : Nat) (x0 : Int) (x1 : Int) (x2 : ByteArray) : Option (ByteArray) :=
  via ((if decide (60 < (x2.size : Int)) then 60 else (x2.size : Int)) : Int) fun v1 =>
  if 0 ≤ v1 ∧ v1 ≤ (x2.size : Int) ∧ 0 ≤ (0 : Int) ∧ (0 : Int) ≤ v1 then
  (L_ref1_PacketOf N (GFlow.mk (bAnd .i64 x0 65535) 167772161 6 7 80) (bAnd .i64 x1 63) (x2.extract 0 v1.toNat)).bind fun v2 =>
  some v2.1
  else none
def d_law21_said (r : ByteArray) : D := .str r
theorem g_law21_said_0 {c : Cx} (hc : Is c Try.prog ty 49 26) (N : Nat) {r : ByteArray} (hfin : c.Fin [] (d_law21_said r) []) (x0 : Int) (x1 : Int) (x2 : ByteArray) (h : L_law21_said N x0 x1 x2 = some r) : c.Goes (items (bodyOf Try.f49) [.c 1]) ⟨[(0, .int .i64 x0), (1, .int .i64 x1), (2, .str x2)], []⟩ := by
  unfold L_law21_said at h
  obtain ⟨v1, h0, h⟩ := via_some h
  obtain ⟨h1, h⟩ := chk h
  obtain ⟨v2, h2, h⟩ := bind_of h
  have h := Option.some.inj h
  refine hc.ret hfin (fn := Try.f49) (by kernel_rfl) (orc := [(2, [(6, { cv := some (.int .i64 v1) }), (8, { r := d_ref1_PacketOf v2 })])]) (m := 8) (d := .str v2.1) (by kernel_rfl) (.cons (Le.int (k := .i64) h0) (.cons (h1) (.cons (c_ref1_PacketOf N (GFlow.mk (bAnd .i64 x0 65535) 167772161 6 7 80) (bAnd .i64 x1 63) (x2.extract 0 v1.toNat) h2) .nil))) ?_ ?_
  · rw [← h]; exact Le.of rfl
  · rw [← h]; rfl

theorem c_law21_said (N : Nat) (x0 : Int) (x1 : Int) (x2 : ByteArray) {r : ByteArray} (h : L_law21_said N x0 x1 x2 = some r) : Con Try.prog 49 [.int .i64 x0, .int .i64 x1, .str x2] [] (d_law21_said r) [] :=
  con_intro ok mix (fn := Try.f49) (body := bodyOf Try.f49) (by kernel_rfl) (by kernel_rfl) (by kernel_rfl) rfl (Nat.le_of_ble_eq_true (by kernel_rfl)) fun c h1 h2 h3 h4 hfin => g_law21_said_0 ⟨h1, h2, h3, h4⟩ N hfin x0 x1 x2 h
/-! ### wharfage/wharfagelaw21.given -/
def L_law21_given (N : Nat) : Option (GConfig) :=
  some (GConfig.mk 3 ([(GSite.mk 2 false 2 ([(GBack.mk 1 false), (GBack.mk 3 false)])), (GSite.mk 1 false 4 ([(GBack.mk 1 false)]))]))
def d_law21_given (r : GConfig) : D := .agg [.int .i64 r.Version, .sl true (eL (eSite true) r.Sites) r.Sites.length r.Sites.length]
theorem g_law21_given_0 {c : Cx} (hc : Is c Try.prog ty 81 10) (N : Nat) {r : GConfig} (hfin : c.Fin [] (d_law21_given r) []) (h : L_law21_given N = some r) : c.Goes (items (bodyOf Try.f81) [.c 1]) ⟨[], []⟩ := by
  unfold L_law21_given at h
  have h := Option.some.inj h
  refine hc.ret hfin (fn := Try.f81) (by kernel_rfl) (orc := [(1, [(3, { frz := true }), (6, { frz := true }), (8, { frz := true })])]) (m := 4) (d := .agg [.int .i64 3, .sl true (eL (eSite true) ([(GSite.mk 2 false 2 ([(GBack.mk 1 false), (GBack.mk 3 false)])), (GSite.mk 1 false 4 ([(GBack.mk 1 false)]))])) 2 2]) (by kernel_rfl) .nil ?_ ?_
  · rw [← h]; exact Le.of rfl
  · rw [← h]; rfl

theorem c_law21_given (N : Nat) {r : GConfig} (h : L_law21_given N = some r) : Con Try.prog 81 [] [] (d_law21_given r) [] :=
  con_intro ok mix (fn := Try.f81) (body := bodyOf Try.f81) (by kernel_rfl) (by kernel_rfl) (by kernel_rfl) rfl (Nat.le_of_ble_eq_true (by kernel_rfl)) fun c h1 h2 h3 h4 hfin => g_law21_given_0 ⟨h1, h2, h3, h4⟩ N hfin h
/-! ### wharfage/wharfagelaw21.awake -/
def L_law21_awake_1 (N : Nat) (t0 : Bool) : Option (Bool) :=
  some t0
def L_law21_awake (N : Nat) : Option (Bool) :=
  (L_law21_said N 9 0 (ByteArray.mk #[120])).bind fun v1 =>
  (L_ref1_Push N (GOuter.mk 167903233 167969026 3 0 0 v1)).bind fun v2 =>
  (L_backend_Take N 1 2 v2.1).bind fun v3 =>
  (L_backend_Take N 1 3 v2.1).bind fun v4 =>
  (L_backend_Take N 3 0 v2.1).bind fun v5 =>
  (L_law21_given N).bind fun v6 =>
  bif (v3.1.toList == v1.toList) then
    (L_law0_Num N v3.2.2).bind fun v7 =>
    bif (v7 == 0) then
      bif ((v3.2.1.Sent.length : Int) == 0) then
        bif ((v3.2.1.Events.length : Int) == 1) then
          if 0 ≤ (0 : Int) ∧ (0 : Int) < ((v3.2.1.Events.length : Nat) : Int) then
          via ((v3.2.1.Events.getD (Int.toNat 0) default).Kind : Int) fun v8 =>
          bif (v8 == 1) then
            if 0 ≤ (0 : Int) ∧ (0 : Int) < ((v3.2.1.Events.length : Nat) : Int) then
            via ((v3.2.1.Events.getD (Int.toNat 0) default).To : Int) fun v9 =>
            bif (v9 == 2) then
              bif (v4.1.toList == ByteArray.empty.toList) then
                (L_law0_Num N v4.2.2).bind fun v10 =>
                bif (v10 == 0) then
                  (L_law0_SameEvents N v4.2.1.Events ([(GEvent.mk 8 2 1 3 0 (GFlow.mk 0 0 0 0 0))])).bind fun v11 =>
                  bif v11 then
                    (L_law0_Num N v5.2.2).bind fun v12 =>
                    bif (v12 == 2100) then
                      L_law21_awake_1 N ((v6.Sites.length : Int) == 2)
                    else
                      L_law21_awake_1 N false
                  else
                    L_law21_awake_1 N false
                else
                  L_law21_awake_1 N false
              else
                L_law21_awake_1 N false
            else
              L_law21_awake_1 N false
            else none
          else
            L_law21_awake_1 N false
          else none
        else
          L_law21_awake_1 N false
      else
        L_law21_awake_1 N false
    else
      L_law21_awake_1 N false
  else
    L_law21_awake_1 N false
def d_law21_awake (r : Bool) : D := .bool r
theorem g_law21_awake_1 {c : Cx} (hc : Is c Try.prog ty 48 103) (N : Nat) {r : Bool} (hfin : c.Fin [] (d_law21_awake r) []) (t0 : Bool) (h : L_law21_awake_1 N t0 = some r) : c.Goes (items (bodyOf Try.f48) [.c 511]) ⟨[(0, .bool t0)], []⟩ := by
  unfold L_law21_awake_1 at h
  have h := Option.some.inj h
  refine hc.ret hfin (fn := Try.f48) (by kernel_rfl) (orc := []) (m := 0) (d := .bool t0) (by kernel_rfl) .nil ?_ ?_
  · rw [← h]; exact Le.of rfl
  · rw [← h]; rfl

theorem g_law21_awake_0 {c : Cx} (hc : Is c Try.prog ty 48 103) (N : Nat) {r : Bool} (hfin : c.Fin [] (d_law21_awake r) []) (h : L_law21_awake N = some r) : c.Goes (items (bodyOf Try.f48) [.c 1]) ⟨[], []⟩ := by
  unfold L_law21_awake at h
  obtain ⟨v1, h0, h⟩ := bind_of h
  obtain ⟨v2, h1, h⟩ := bind_of h
  obtain ⟨v3, h2, h⟩ := bind_of h
  obtain ⟨v4, h3, h⟩ := bind_of h
  obtain ⟨v5, h4, h⟩ := bind_of h
  obtain ⟨v6, h5, h⟩ := bind_of h
  rcases brk h with ⟨h6, h⟩ | ⟨h6, h⟩
  · obtain ⟨v7, h7, h⟩ := bind_of h
    rcases brk h with ⟨h8, h⟩ | ⟨h8, h⟩
    · rcases brk h with ⟨h9, h⟩ | ⟨h9, h⟩
      · rcases brk h with ⟨h10, h⟩ | ⟨h10, h⟩
        · obtain ⟨h11, h⟩ := chk h
          obtain ⟨v8, h12, h⟩ := via_some h
          rcases brk h with ⟨h13, h⟩ | ⟨h13, h⟩
          · obtain ⟨h14, h⟩ := chk h
            obtain ⟨v9, h15, h⟩ := via_some h
            rcases brk h with ⟨h16, h⟩ | ⟨h16, h⟩
            · rcases brk h with ⟨h17, h⟩ | ⟨h17, h⟩
              · obtain ⟨v10, h18, h⟩ := bind_of h
                rcases brk h with ⟨h19, h⟩ | ⟨h19, h⟩
                · obtain ⟨v11, h20, h⟩ := bind_of h
                  rcases brk h with ⟨h21, h⟩ | ⟨h21, h⟩
                  · obtain ⟨v12, h22, h⟩ := bind_of h
                    rcases brk h with ⟨h23, h⟩ | ⟨h23, h⟩
                    · exact hc.jump (orc := [(1, [(0, { r := d_law21_said v1 })]), (2, [(2, { r := d_ref1_Push v2 })]), (3, [(1, { r := d_backend_Take v3 })]), (4, [(1, { r := d_backend_Take v4 })]), (5, [(1, { r := d_backend_Take v5 })]), (6, [(0, { r := d_law21_given v6 })]), (7, [(3, { cv := some (.bool true) }), (5, { r := d_law0_Num v7 }), (8, { cv := some (.bool true) }), (14, { cv := some (.bool true) }), (20, { cv := some (.bool true) }), (23, { cv := some (.ip true [.int .i64 ((v3.2.1.Events.getD (Int.toNat 0) default).Kind), .int .i64 ((v3.2.1.Events.getD (Int.toNat 0) default).Role), .int .i64 ((v3.2.1.Events.getD (Int.toNat 0) default).Site), .int .i64 ((v3.2.1.Events.getD (Int.toNat 0) default).Node), .int .i64 ((v3.2.1.Events.getD (Int.toNat 0) default).To), .int .i64 (((v3.2.1.Events.getD (Int.toNat 0) default).Flow).Src), .int .i64 (((v3.2.1.Events.getD (Int.toNat 0) default).Flow).Dst), .int .i64 (((v3.2.1.Events.getD (Int.toNat 0) default).Flow).Proto), .int .i64 (((v3.2.1.Events.getD (Int.toNat 0) default).Flow).Sport), .int .i64 (((v3.2.1.Events.getD (Int.toNat 0) default).Flow).Dport)]) }), (25, { cv := some (.int .i64 v8) }), (28, { cv := some (.bool true) }), (31, { cv := some (.ip true [.int .i64 ((v3.2.1.Events.getD (Int.toNat 0) default).Kind), .int .i64 ((v3.2.1.Events.getD (Int.toNat 0) default).Role), .int .i64 ((v3.2.1.Events.getD (Int.toNat 0) default).Site), .int .i64 ((v3.2.1.Events.getD (Int.toNat 0) default).Node), .int .i64 ((v3.2.1.Events.getD (Int.toNat 0) default).To), .int .i64 (((v3.2.1.Events.getD (Int.toNat 0) default).Flow).Src), .int .i64 (((v3.2.1.Events.getD (Int.toNat 0) default).Flow).Dst), .int .i64 (((v3.2.1.Events.getD (Int.toNat 0) default).Flow).Proto), .int .i64 (((v3.2.1.Events.getD (Int.toNat 0) default).Flow).Sport), .int .i64 (((v3.2.1.Events.getD (Int.toNat 0) default).Flow).Dport)]) }), (33, { cv := some (.int .i64 v9) }), (36, { cv := some (.bool true) }), (40, { cv := some (.bool true) }), (42, { r := d_law0_Num v10 }), (45, { cv := some (.bool true) }), (50, { r := d_law0_SameEvents v11 }), (52, { cv := some (.bool true) }), (54, { r := d_law0_Num v12 }), (57, { cv := some (.bool true) })])]) (m := 16) (kt := [0]) (kh := []) (by kernel_rfl) (.cons (c_law21_said N 9 0 (ByteArray.mk #[120]) h0) (.cons (c_ref1_Push N (GOuter.mk 167903233 167969026 3 0 0 v1) h1) (.cons (c_backend_Take N 1 2 v2.1 h2) (.cons (c_backend_Take N 1 3 v2.1 h3) (.cons (c_backend_Take N 3 0 v2.1 h4) (.cons (c_law21_given N h5) (.cons (Le.tt h6) (.cons (c_law0_Num N v3.2.2 h7) (.cons (Le.tt h8) (.cons (Le.tt h9) (.cons (Le.tt h10) (.cons (h11) (.cons (Le.iptl (g := true) (eL_at (xs := v3.2.1.Events) eEvent_len (ixl h11))) (.cons ((List.cons_ne_nil _ _ : ([.int .i64 ((v3.2.1.Events.getD (Int.toNat 0) default).Kind), .int .i64 ((v3.2.1.Events.getD (Int.toNat 0) default).Role), .int .i64 ((v3.2.1.Events.getD (Int.toNat 0) default).Site), .int .i64 ((v3.2.1.Events.getD (Int.toNat 0) default).Node), .int .i64 ((v3.2.1.Events.getD (Int.toNat 0) default).To), .int .i64 (((v3.2.1.Events.getD (Int.toNat 0) default).Flow).Src), .int .i64 (((v3.2.1.Events.getD (Int.toNat 0) default).Flow).Dst), .int .i64 (((v3.2.1.Events.getD (Int.toNat 0) default).Flow).Proto), .int .i64 (((v3.2.1.Events.getD (Int.toNat 0) default).Flow).Sport), .int .i64 (((v3.2.1.Events.getD (Int.toNat 0) default).Flow).Dport)] : List D) ≠ [])) (.cons (Le.int (k := .i64) h12) (.cons (Le.tt h13) (.cons (h14) (.cons (Le.iptl (g := true) (eL_at (xs := v3.2.1.Events) eEvent_len (ixl h14))) (.cons ((List.cons_ne_nil _ _ : ([.int .i64 ((v3.2.1.Events.getD (Int.toNat 0) default).To), .int .i64 (((v3.2.1.Events.getD (Int.toNat 0) default).Flow).Src), .int .i64 (((v3.2.1.Events.getD (Int.toNat 0) default).Flow).Dst), .int .i64 (((v3.2.1.Events.getD (Int.toNat 0) default).Flow).Proto), .int .i64 (((v3.2.1.Events.getD (Int.toNat 0) default).Flow).Sport), .int .i64 (((v3.2.1.Events.getD (Int.toNat 0) default).Flow).Dport)] : List D) ≠ [])) (.cons (Le.int (k := .i64) h15) (.cons (Le.tt h16) (.cons (Le.tt h17) (.cons (c_law0_Num N v4.2.2 h18) (.cons (Le.tt h19) (.cons (c_law0_SameEvents N true false v4.2.1.Events ([(GEvent.mk 8 2 1 3 0 (GFlow.mk 0 0 0 0 0))]) h20) (.cons (Le.tt h21) (.cons (c_law0_Num N v5.2.2 h22) (.cons (Le.tt h23) .nil)))))))))))))))))))))))))))) (g_law21_awake_1 hc N hfin ((v6.Sites.length : Int) == 2) h)
                    · exact hc.jump (orc := [(1, [(0, { r := d_law21_said v1 })]), (2, [(2, { r := d_ref1_Push v2 })]), (3, [(1, { r := d_backend_Take v3 })]), (4, [(1, { r := d_backend_Take v4 })]), (5, [(1, { r := d_backend_Take v5 })]), (6, [(0, { r := d_law21_given v6 })]), (7, [(3, { cv := some (.bool true) }), (5, { r := d_law0_Num v7 }), (8, { cv := some (.bool true) }), (14, { cv := some (.bool true) }), (20, { cv := some (.bool true) }), (23, { cv := some (.ip true [.int .i64 ((v3.2.1.Events.getD (Int.toNat 0) default).Kind), .int .i64 ((v3.2.1.Events.getD (Int.toNat 0) default).Role), .int .i64 ((v3.2.1.Events.getD (Int.toNat 0) default).Site), .int .i64 ((v3.2.1.Events.getD (Int.toNat 0) default).Node), .int .i64 ((v3.2.1.Events.getD (Int.toNat 0) default).To), .int .i64 (((v3.2.1.Events.getD (Int.toNat 0) default).Flow).Src), .int .i64 (((v3.2.1.Events.getD (Int.toNat 0) default).Flow).Dst), .int .i64 (((v3.2.1.Events.getD (Int.toNat 0) default).Flow).Proto), .int .i64 (((v3.2.1.Events.getD (Int.toNat 0) default).Flow).Sport), .int .i64 (((v3.2.1.Events.getD (Int.toNat 0) default).Flow).Dport)]) }), (25, { cv := some (.int .i64 v8) }), (28, { cv := some (.bool true) }), (31, { cv := some (.ip true [.int .i64 ((v3.2.1.Events.getD (Int.toNat 0) default).Kind), .int .i64 ((v3.2.1.Events.getD (Int.toNat 0) default).Role), .int .i64 ((v3.2.1.Events.getD (Int.toNat 0) default).Site), .int .i64 ((v3.2.1.Events.getD (Int.toNat 0) default).Node), .int .i64 ((v3.2.1.Events.getD (Int.toNat 0) default).To), .int .i64 (((v3.2.1.Events.getD (Int.toNat 0) default).Flow).Src), .int .i64 (((v3.2.1.Events.getD (Int.toNat 0) default).Flow).Dst), .int .i64 (((v3.2.1.Events.getD (Int.toNat 0) default).Flow).Proto), .int .i64 (((v3.2.1.Events.getD (Int.toNat 0) default).Flow).Sport), .int .i64 (((v3.2.1.Events.getD (Int.toNat 0) default).Flow).Dport)]) }), (33, { cv := some (.int .i64 v9) }), (36, { cv := some (.bool true) }), (40, { cv := some (.bool true) }), (42, { r := d_law0_Num v10 }), (45, { cv := some (.bool true) }), (50, { r := d_law0_SameEvents v11 }), (52, { cv := some (.bool true) }), (54, { r := d_law0_Num v12 }), (57, { cv := some (.bool false) })])]) (m := 16) (kt := [0]) (kh := []) (by kernel_rfl) (.cons (c_law21_said N 9 0 (ByteArray.mk #[120]) h0) (.cons (c_ref1_Push N (GOuter.mk 167903233 167969026 3 0 0 v1) h1) (.cons (c_backend_Take N 1 2 v2.1 h2) (.cons (c_backend_Take N 1 3 v2.1 h3) (.cons (c_backend_Take N 3 0 v2.1 h4) (.cons (c_law21_given N h5) (.cons (Le.tt h6) (.cons (c_law0_Num N v3.2.2 h7) (.cons (Le.tt h8) (.cons (Le.tt h9) (.cons (Le.tt h10) (.cons (h11) (.cons (Le.iptl (g := true) (eL_at (xs := v3.2.1.Events) eEvent_len (ixl h11))) (.cons ((List.cons_ne_nil _ _ : ([.int .i64 ((v3.2.1.Events.getD (Int.toNat 0) default).Kind), .int .i64 ((v3.2.1.Events.getD (Int.toNat 0) default).Role), .int .i64 ((v3.2.1.Events.getD (Int.toNat 0) default).Site), .int .i64 ((v3.2.1.Events.getD (Int.toNat 0) default).Node), .int .i64 ((v3.2.1.Events.getD (Int.toNat 0) default).To), .int .i64 (((v3.2.1.Events.getD (Int.toNat 0) default).Flow).Src), .int .i64 (((v3.2.1.Events.getD (Int.toNat 0) default).Flow).Dst), .int .i64 (((v3.2.1.Events.getD (Int.toNat 0) default).Flow).Proto), .int .i64 (((v3.2.1.Events.getD (Int.toNat 0) default).Flow).Sport), .int .i64 (((v3.2.1.Events.getD (Int.toNat 0) default).Flow).Dport)] : List D) ≠ [])) (.cons (Le.int (k := .i64) h12) (.cons (Le.tt h13) (.cons (h14) (.cons (Le.iptl (g := true) (eL_at (xs := v3.2.1.Events) eEvent_len (ixl h14))) (.cons ((List.cons_ne_nil _ _ : ([.int .i64 ((v3.2.1.Events.getD (Int.toNat 0) default).To), .int .i64 (((v3.2.1.Events.getD (Int.toNat 0) default).Flow).Src), .int .i64 (((v3.2.1.Events.getD (Int.toNat 0) default).Flow).Dst), .int .i64 (((v3.2.1.Events.getD (Int.toNat 0) default).Flow).Proto), .int .i64 (((v3.2.1.Events.getD (Int.toNat 0) default).Flow).Sport), .int .i64 (((v3.2.1.Events.getD (Int.toNat 0) default).Flow).Dport)] : List D) ≠ [])) (.cons (Le.int (k := .i64) h15) (.cons (Le.tt h16) (.cons (Le.tt h17) (.cons (c_law0_Num N v4.2.2 h18) (.cons (Le.tt h19) (.cons (c_law0_SameEvents N true false v4.2.1.Events ([(GEvent.mk 8 2 1 3 0 (GFlow.mk 0 0 0 0 0))]) h20) (.cons (Le.tt h21) (.cons (c_law0_Num N v5.2.2 h22) (.cons (Le.ff h23) .nil)))))))))))))))))))))))))))) (g_law21_awake_1 hc N hfin false h)
                  · exact hc.jump (orc := [(1, [(0, { r := d_law21_said v1 })]), (2, [(2, { r := d_ref1_Push v2 })]), (3, [(1, { r := d_backend_Take v3 })]), (4, [(1, { r := d_backend_Take v4 })]), (5, [(1, { r := d_backend_Take v5 })]), (6, [(0, { r := d_law21_given v6 })]), (7, [(3, { cv := some (.bool true) }), (5, { r := d_law0_Num v7 }), (8, { cv := some (.bool true) }), (14, { cv := some (.bool true) }), (20, { cv := some (.bool true) }), (23, { cv := some (.ip true [.int .i64 ((v3.2.1.Events.getD (Int.toNat 0) default).Kind), .int .i64 ((v3.2.1.Events.getD (Int.toNat 0) default).Role), .int .i64 ((v3.2.1.Events.getD (Int.toNat 0) default).Site), .int .i64 ((v3.2.1.Events.getD (Int.toNat 0) default).Node), .int .i64 ((v3.2.1.Events.getD (Int.toNat 0) default).To), .int .i64 (((v3.2.1.Events.getD (Int.toNat 0) default).Flow).Src), .int .i64 (((v3.2.1.Events.getD (Int.toNat 0) default).Flow).Dst), .int .i64 (((v3.2.1.Events.getD (Int.toNat 0) default).Flow).Proto), .int .i64 (((v3.2.1.Events.getD (Int.toNat 0) default).Flow).Sport), .int .i64 (((v3.2.1.Events.getD (Int.toNat 0) default).Flow).Dport)]) }), (25, { cv := some (.int .i64 v8) }), (28, { cv := some (.bool true) }), (31, { cv := some (.ip true [.int .i64 ((v3.2.1.Events.getD (Int.toNat 0) default).Kind), .int .i64 ((v3.2.1.Events.getD (Int.toNat 0) default).Role), .int .i64 ((v3.2.1.Events.getD (Int.toNat 0) default).Site), .int .i64 ((v3.2.1.Events.getD (Int.toNat 0) default).Node), .int .i64 ((v3.2.1.Events.getD (Int.toNat 0) default).To), .int .i64 (((v3.2.1.Events.getD (Int.toNat 0) default).Flow).Src), .int .i64 (((v3.2.1.Events.getD (Int.toNat 0) default).Flow).Dst), .int .i64 (((v3.2.1.Events.getD (Int.toNat 0) default).Flow).Proto), .int .i64 (((v3.2.1.Events.getD (Int.toNat 0) default).Flow).Sport), .int .i64 (((v3.2.1.Events.getD (Int.toNat 0) default).Flow).Dport)]) }), (33, { cv := some (.int .i64 v9) }), (36, { cv := some (.bool true) }), (40, { cv := some (.bool true) }), (42, { r := d_law0_Num v10 }), (45, { cv := some (.bool true) }), (50, { r := d_law0_SameEvents v11 }), (52, { cv := some (.bool false) })])]) (m := 16) (kt := [0]) (kh := []) (by kernel_rfl) (.cons (c_law21_said N 9 0 (ByteArray.mk #[120]) h0) (.cons (c_ref1_Push N (GOuter.mk 167903233 167969026 3 0 0 v1) h1) (.cons (c_backend_Take N 1 2 v2.1 h2) (.cons (c_backend_Take N 1 3 v2.1 h3) (.cons (c_backend_Take N 3 0 v2.1 h4) (.cons (c_law21_given N h5) (.cons (Le.tt h6) (.cons (c_law0_Num N v3.2.2 h7) (.cons (Le.tt h8) (.cons (Le.tt h9) (.cons (Le.tt h10) (.cons (h11) (.cons (Le.iptl (g := true) (eL_at (xs := v3.2.1.Events) eEvent_len (ixl h11))) (.cons ((List.cons_ne_nil _ _ : ([.int .i64 ((v3.2.1.Events.getD (Int.toNat 0) default).Kind), .int .i64 ((v3.2.1.Events.getD (Int.toNat 0) default).Role), .int .i64 ((v3.2.1.Events.getD (Int.toNat 0) default).Site), .int .i64 ((v3.2.1.Events.getD (Int.toNat 0) default).Node), .int .i64 ((v3.2.1.Events.getD (Int.toNat 0) default).To), .int .i64 (((v3.2.1.Events.getD (Int.toNat 0) default).Flow).Src), .int .i64 (((v3.2.1.Events.getD (Int.toNat 0) default).Flow).Dst), .int .i64 (((v3.2.1.Events.getD (Int.toNat 0) default).Flow).Proto), .int .i64 (((v3.2.1.Events.getD (Int.toNat 0) default).Flow).Sport), .int .i64 (((v3.2.1.Events.getD (Int.toNat 0) default).Flow).Dport)] : List D) ≠ [])) (.cons (Le.int (k := .i64) h12) (.cons (Le.tt h13) (.cons (h14) (.cons (Le.iptl (g := true) (eL_at (xs := v3.2.1.Events) eEvent_len (ixl h14))) (.cons ((List.cons_ne_nil _ _ : ([.int .i64 ((v3.2.1.Events.getD (Int.toNat 0) default).To), .int .i64 (((v3.2.1.Events.getD (Int.toNat 0) default).Flow).Src), .int .i64 (((v3.2.1.Events.getD (Int.toNat 0) default).Flow).Dst), .int .i64 (((v3.2.1.Events.getD (Int.toNat 0) default).Flow).Proto), .int .i64 (((v3.2.1.Events.getD (Int.toNat 0) default).Flow).Sport), .int .i64 (((v3.2.1.Events.getD (Int.toNat 0) default).Flow).Dport)] : List D) ≠ [])) (.cons (Le.int (k := .i64) h15) (.cons (Le.tt h16) (.cons (Le.tt h17) (.cons (c_law0_Num N v4.2.2 h18) (.cons (Le.tt h19) (.cons (c_law0_SameEvents N true false v4.2.1.Events ([(GEvent.mk 8 2 1 3 0 (GFlow.mk 0 0 0 0 0))]) h20) (.cons (Le.ff h21) .nil)))))))))))))))))))))))))) (g_law21_awake_1 hc N hfin false h)
                · exact hc.jump (orc := [(1, [(0, { r := d_law21_said v1 })]), (2, [(2, { r := d_ref1_Push v2 })]), (3, [(1, { r := d_backend_Take v3 })]), (4, [(1, { r := d_backend_Take v4 })]), (5, [(1, { r := d_backend_Take v5 })]), (6, [(0, { r := d_law21_given v6 })]), (7, [(3, { cv := some (.bool true) }), (5, { r := d_law0_Num v7 }), (8, { cv := some (.bool true) }), (14, { cv := some (.bool true) }), (20, { cv := some (.bool true) }), (23, { cv := some (.ip true [.int .i64 ((v3.2.1.Events.getD (Int.toNat 0) default).Kind), .int .i64 ((v3.2.1.Events.getD (Int.toNat 0) default).Role), .int .i64 ((v3.2.1.Events.getD (Int.toNat 0) default).Site), .int .i64 ((v3.2.1.Events.getD (Int.toNat 0) default).Node), .int .i64 ((v3.2.1.Events.getD (Int.toNat 0) default).To), .int .i64 (((v3.2.1.Events.getD (Int.toNat 0) default).Flow).Src), .int .i64 (((v3.2.1.Events.getD (Int.toNat 0) default).Flow).Dst), .int .i64 (((v3.2.1.Events.getD (Int.toNat 0) default).Flow).Proto), .int .i64 (((v3.2.1.Events.getD (Int.toNat 0) default).Flow).Sport), .int .i64 (((v3.2.1.Events.getD (Int.toNat 0) default).Flow).Dport)]) }), (25, { cv := some (.int .i64 v8) }), (28, { cv := some (.bool true) }), (31, { cv := some (.ip true [.int .i64 ((v3.2.1.Events.getD (Int.toNat 0) default).Kind), .int .i64 ((v3.2.1.Events.getD (Int.toNat 0) default).Role), .int .i64 ((v3.2.1.Events.getD (Int.toNat 0) default).Site), .int .i64 ((v3.2.1.Events.getD (Int.toNat 0) default).Node), .int .i64 ((v3.2.1.Events.getD (Int.toNat 0) default).To), .int .i64 (((v3.2.1.Events.getD (Int.toNat 0) default).Flow).Src), .int .i64 (((v3.2.1.Events.getD (Int.toNat 0) default).Flow).Dst), .int .i64 (((v3.2.1.Events.getD (Int.toNat 0) default).Flow).Proto), .int .i64 (((v3.2.1.Events.getD (Int.toNat 0) default).Flow).Sport), .int .i64 (((v3.2.1.Events.getD (Int.toNat 0) default).Flow).Dport)]) }), (33, { cv := some (.int .i64 v9) }), (36, { cv := some (.bool true) }), (40, { cv := some (.bool true) }), (42, { r := d_law0_Num v10 }), (45, { cv := some (.bool false) })])]) (m := 16) (kt := [0]) (kh := []) (by kernel_rfl) (.cons (c_law21_said N 9 0 (ByteArray.mk #[120]) h0) (.cons (c_ref1_Push N (GOuter.mk 167903233 167969026 3 0 0 v1) h1) (.cons (c_backend_Take N 1 2 v2.1 h2) (.cons (c_backend_Take N 1 3 v2.1 h3) (.cons (c_backend_Take N 3 0 v2.1 h4) (.cons (c_law21_given N h5) (.cons (Le.tt h6) (.cons (c_law0_Num N v3.2.2 h7) (.cons (Le.tt h8) (.cons (Le.tt h9) (.cons (Le.tt h10) (.cons (h11) (.cons (Le.iptl (g := true) (eL_at (xs := v3.2.1.Events) eEvent_len (ixl h11))) (.cons ((List.cons_ne_nil _ _ : ([.int .i64 ((v3.2.1.Events.getD (Int.toNat 0) default).Kind), .int .i64 ((v3.2.1.Events.getD (Int.toNat 0) default).Role), .int .i64 ((v3.2.1.Events.getD (Int.toNat 0) default).Site), .int .i64 ((v3.2.1.Events.getD (Int.toNat 0) default).Node), .int .i64 ((v3.2.1.Events.getD (Int.toNat 0) default).To), .int .i64 (((v3.2.1.Events.getD (Int.toNat 0) default).Flow).Src), .int .i64 (((v3.2.1.Events.getD (Int.toNat 0) default).Flow).Dst), .int .i64 (((v3.2.1.Events.getD (Int.toNat 0) default).Flow).Proto), .int .i64 (((v3.2.1.Events.getD (Int.toNat 0) default).Flow).Sport), .int .i64 (((v3.2.1.Events.getD (Int.toNat 0) default).Flow).Dport)] : List D) ≠ [])) (.cons (Le.int (k := .i64) h12) (.cons (Le.tt h13) (.cons (h14) (.cons (Le.iptl (g := true) (eL_at (xs := v3.2.1.Events) eEvent_len (ixl h14))) (.cons ((List.cons_ne_nil _ _ : ([.int .i64 ((v3.2.1.Events.getD (Int.toNat 0) default).To), .int .i64 (((v3.2.1.Events.getD (Int.toNat 0) default).Flow).Src), .int .i64 (((v3.2.1.Events.getD (Int.toNat 0) default).Flow).Dst), .int .i64 (((v3.2.1.Events.getD (Int.toNat 0) default).Flow).Proto), .int .i64 (((v3.2.1.Events.getD (Int.toNat 0) default).Flow).Sport), .int .i64 (((v3.2.1.Events.getD (Int.toNat 0) default).Flow).Dport)] : List D) ≠ [])) (.cons (Le.int (k := .i64) h15) (.cons (Le.tt h16) (.cons (Le.tt h17) (.cons (c_law0_Num N v4.2.2 h18) (.cons (Le.ff h19) .nil)))))))))))))))))))))))) (g_law21_awake_1 hc N hfin false h)
              · exact hc.jump (orc := [(1, [(0, { r := d_law21_said v1 })]), (2, [(2, { r := d_ref1_Push v2 })]), (3, [(1, { r := d_backend_Take v3 })]), (4, [(1, { r := d_backend_Take v4 })]), (5, [(1, { r := d_backend_Take v5 })]), (6, [(0, { r := d_law21_given v6 })]), (7, [(3, { cv := some (.bool true) }), (5, { r := d_law0_Num v7 }), (8, { cv := some (.bool true) }), (14, { cv := some (.bool true) }), (20, { cv := some (.bool true) }), (23, { cv := some (.ip true [.int .i64 ((v3.2.1.Events.getD (Int.toNat 0) default).Kind), .int .i64 ((v3.2.1.Events.getD (Int.toNat 0) default).Role), .int .i64 ((v3.2.1.Events.getD (Int.toNat 0) default).Site), .int .i64 ((v3.2.1.Events.getD (Int.toNat 0) default).Node), .int .i64 ((v3.2.1.Events.getD (Int.toNat 0) default).To), .int .i64 (((v3.2.1.Events.getD (Int.toNat 0) default).Flow).Src), .int .i64 (((v3.2.1.Events.getD (Int.toNat 0) default).Flow).Dst), .int .i64 (((v3.2.1.Events.getD (Int.toNat 0) default).Flow).Proto), .int .i64 (((v3.2.1.Events.getD (Int.toNat 0) default).Flow).Sport), .int .i64 (((v3.2.1.Events.getD (Int.toNat 0) default).Flow).Dport)]) }), (25, { cv := some (.int .i64 v8) }), (28, { cv := some (.bool true) }), (31, { cv := some (.ip true [.int .i64 ((v3.2.1.Events.getD (Int.toNat 0) default).Kind), .int .i64 ((v3.2.1.Events.getD (Int.toNat 0) default).Role), .int .i64 ((v3.2.1.Events.getD (Int.toNat 0) default).Site), .int .i64 ((v3.2.1.Events.getD (Int.toNat 0) default).Node), .int .i64 ((v3.2.1.Events.getD (Int.toNat 0) default).To), .int .i64 (((v3.2.1.Events.getD (Int.toNat 0) default).Flow).Src), .int .i64 (((v3.2.1.Events.getD (Int.toNat 0) default).Flow).Dst), .int .i64 (((v3.2.1.Events.getD (Int.toNat 0) default).Flow).Proto), .int .i64 (((v3.2.1.Events.getD (Int.toNat 0) default).Flow).Sport), .int .i64 (((v3.2.1.Events.getD (Int.toNat 0) default).Flow).Dport)]) }), (33, { cv := some (.int .i64 v9) }), (36, { cv := some (.bool true) }), (40, { cv := some (.bool false) })])]) (m := 16) (kt := [0]) (kh := []) (by kernel_rfl) (.cons (c_law21_said N 9 0 (ByteArray.mk #[120]) h0) (.cons (c_ref1_Push N (GOuter.mk 167903233 167969026 3 0 0 v1) h1) (.cons (c_backend_Take N 1 2 v2.1 h2) (.cons (c_backend_Take N 1 3 v2.1 h3) (.cons (c_backend_Take N 3 0 v2.1 h4) (.cons (c_law21_given N h5) (.cons (Le.tt h6) (.cons (c_law0_Num N v3.2.2 h7) (.cons (Le.tt h8) (.cons (Le.tt h9) (.cons (Le.tt h10) (.cons (h11) (.cons (Le.iptl (g := true) (eL_at (xs := v3.2.1.Events) eEvent_len (ixl h11))) (.cons ((List.cons_ne_nil _ _ : ([.int .i64 ((v3.2.1.Events.getD (Int.toNat 0) default).Kind), .int .i64 ((v3.2.1.Events.getD (Int.toNat 0) default).Role), .int .i64 ((v3.2.1.Events.getD (Int.toNat 0) default).Site), .int .i64 ((v3.2.1.Events.getD (Int.toNat 0) default).Node), .int .i64 ((v3.2.1.Events.getD (Int.toNat 0) default).To), .int .i64 (((v3.2.1.Events.getD (Int.toNat 0) default).Flow).Src), .int .i64 (((v3.2.1.Events.getD (Int.toNat 0) default).Flow).Dst), .int .i64 (((v3.2.1.Events.getD (Int.toNat 0) default).Flow).Proto), .int .i64 (((v3.2.1.Events.getD (Int.toNat 0) default).Flow).Sport), .int .i64 (((v3.2.1.Events.getD (Int.toNat 0) default).Flow).Dport)] : List D) ≠ [])) (.cons (Le.int (k := .i64) h12) (.cons (Le.tt h13) (.cons (h14) (.cons (Le.iptl (g := true) (eL_at (xs := v3.2.1.Events) eEvent_len (ixl h14))) (.cons ((List.cons_ne_nil _ _ : ([.int .i64 ((v3.2.1.Events.getD (Int.toNat 0) default).To), .int .i64 (((v3.2.1.Events.getD (Int.toNat 0) default).Flow).Src), .int .i64 (((v3.2.1.Events.getD (Int.toNat 0) default).Flow).Dst), .int .i64 (((v3.2.1.Events.getD (Int.toNat 0) default).Flow).Proto), .int .i64 (((v3.2.1.Events.getD (Int.toNat 0) default).Flow).Sport), .int .i64 (((v3.2.1.Events.getD (Int.toNat 0) default).Flow).Dport)] : List D) ≠ [])) (.cons (Le.int (k := .i64) h15) (.cons (Le.tt h16) (.cons (Le.ff h17) .nil)))))))))))))))))))))) (g_law21_awake_1 hc N hfin false h)
            · exact hc.jump (orc := [(1, [(0, { r := d_law21_said v1 })]), (2, [(2, { r := d_ref1_Push v2 })]), (3, [(1, { r := d_backend_Take v3 })]), (4, [(1, { r := d_backend_Take v4 })]), (5, [(1, { r := d_backend_Take v5 })]), (6, [(0, { r := d_law21_given v6 })]), (7, [(3, { cv := some (.bool true) }), (5, { r := d_law0_Num v7 }), (8, { cv := some (.bool true) }), (14, { cv := some (.bool true) }), (20, { cv := some (.bool true) }), (23, { cv := some (.ip true [.int .i64 ((v3.2.1.Events.getD (Int.toNat 0) default).Kind), .int .i64 ((v3.2.1.Events.getD (Int.toNat 0) default).Role), .int .i64 ((v3.2.1.Events.getD (Int.toNat 0) default).Site), .int .i64 ((v3.2.1.Events.getD (Int.toNat 0) default).Node), .int .i64 ((v3.2.1.Events.getD (Int.toNat 0) default).To), .int .i64 (((v3.2.1.Events.getD (Int.toNat 0) default).Flow).Src), .int .i64 (((v3.2.1.Events.getD (Int.toNat 0) default).Flow).Dst), .int .i64 (((v3.2.1.Events.getD (Int.toNat 0) default).Flow).Proto), .int .i64 (((v3.2.1.Events.getD (Int.toNat 0) default).Flow).Sport), .int .i64 (((v3.2.1.Events.getD (Int.toNat 0) default).Flow).Dport)]) }), (25, { cv := some (.int .i64 v8) }), (28, { cv := some (.bool true) }), (31, { cv := some (.ip true [.int .i64 ((v3.2.1.Events.getD (Int.toNat 0) default).Kind), .int .i64 ((v3.2.1.Events.getD (Int.toNat 0) default).Role), .int .i64 ((v3.2.1.Events.getD (Int.toNat 0) default).Site), .int .i64 ((v3.2.1.Events.getD (Int.toNat 0) default).Node), .int .i64 ((v3.2.1.Events.getD (Int.toNat 0) default).To), .int .i64 (((v3.2.1.Events.getD (Int.toNat 0) default).Flow).Src), .int .i64 (((v3.2.1.Events.getD (Int.toNat 0) default).Flow).Dst), .int .i64 (((v3.2.1.Events.getD (Int.toNat 0) default).Flow).Proto), .int .i64 (((v3.2.1.Events.getD (Int.toNat 0) default).Flow).Sport), .int .i64 (((v3.2.1.Events.getD (Int.toNat 0) default).Flow).Dport)]) }), (33, { cv := some (.int .i64 v9) }), (36, { cv := some (.bool false) })])]) (m := 16) (kt := [0]) (kh := []) (by kernel_rfl) (.cons (c_law21_said N 9 0 (ByteArray.mk #[120]) h0) (.cons (c_ref1_Push N (GOuter.mk 167903233 167969026 3 0 0 v1) h1) (.cons (c_backend_Take N 1 2 v2.1 h2) (.cons (c_backend_Take N 1 3 v2.1 h3) (.cons (c_backend_Take N 3 0 v2.1 h4) (.cons (c_law21_given N h5) (.cons (Le.tt h6) (.cons (c_law0_Num N v3.2.2 h7) (.cons (Le.tt h8) (.cons (Le.tt h9) (.cons (Le.tt h10) (.cons (h11) (.cons (Le.iptl (g := true) (eL_at (xs := v3.2.1.Events) eEvent_len (ixl h11))) (.cons ((List.cons_ne_nil _ _ : ([.int .i64 ((v3.2.1.Events.getD (Int.toNat 0) default).Kind), .int .i64 ((v3.2.1.Events.getD (Int.toNat 0) default).Role), .int .i64 ((v3.2.1.Events.getD (Int.toNat 0) default).Site), .int .i64 ((v3.2.1.Events.getD (Int.toNat 0) default).Node), .int .i64 ((v3.2.1.Events.getD (Int.toNat 0) default).To), .int .i64 (((v3.2.1.Events.getD (Int.toNat 0) default).Flow).Src), .int .i64 (((v3.2.1.Events.getD (Int.toNat 0) default).Flow).Dst), .int .i64 (((v3.2.1.Events.getD (Int.toNat 0) default).Flow).Proto), .int .i64 (((v3.2.1.Events.getD (Int.toNat 0) default).Flow).Sport), .int .i64 (((v3.2.1.Events.getD (Int.toNat 0) default).Flow).Dport)] : List D) ≠ [])) (.cons (Le.int (k := .i64) h12) (.cons (Le.tt h13) (.cons (h14) (.cons (Le.iptl (g := true) (eL_at (xs := v3.2.1.Events) eEvent_len (ixl h14))) (.cons ((List.cons_ne_nil _ _ : ([.int .i64 ((v3.2.1.Events.getD (Int.toNat 0) default).To), .int .i64 (((v3.2.1.Events.getD (Int.toNat 0) default).Flow).Src), .int .i64 (((v3.2.1.Events.getD (Int.toNat 0) default).Flow).Dst), .int .i64 (((v3.2.1.Events.getD (Int.toNat 0) default).Flow).Proto), .int .i64 (((v3.2.1.Events.getD (Int.toNat 0) default).Flow).Sport), .int .i64 (((v3.2.1.Events.getD (Int.toNat 0) default).Flow).Dport)] : List D) ≠ [])) (.cons (Le.int (k := .i64) h15) (.cons (Le.ff h16) .nil))))))))))))))))))))) (g_law21_awake_1 hc N hfin false h)
          · exact hc.jump (orc := [(1, [(0, { r := d_law21_said v1 })]), (2, [(2, { r := d_ref1_Push v2 })]), (3, [(1, { r := d_backend_Take v3 })]), (4, [(1, { r := d_backend_Take v4 })]), (5, [(1, { r := d_backend_Take v5 })]), (6, [(0, { r := d_law21_given v6 })]), (7, [(3, { cv := some (.bool true) }), (5, { r := d_law0_Num v7 }), (8, { cv := some (.bool true) }), (14, { cv := some (.bool true) }), (20, { cv := some (.bool true) }), (23, { cv := some (.ip true [.int .i64 ((v3.2.1.Events.getD (Int.toNat 0) default).Kind), .int .i64 ((v3.2.1.Events.getD (Int.toNat 0) default).Role), .int .i64 ((v3.2.1.Events.getD (Int.toNat 0) default).Site), .int .i64 ((v3.2.1.Events.getD (Int.toNat 0) default).Node), .int .i64 ((v3.2.1.Events.getD (Int.toNat 0) default).To), .int .i64 (((v3.2.1.Events.getD (Int.toNat 0) default).Flow).Src), .int .i64 (((v3.2.1.Events.getD (Int.toNat 0) default).Flow).Dst), .int .i64 (((v3.2.1.Events.getD (Int.toNat 0) default).Flow).Proto), .int .i64 (((v3.2.1.Events.getD (Int.toNat 0) default).Flow).Sport), .int .i64 (((v3.2.1.Events.getD (Int.toNat 0) default).Flow).Dport)]) }), (25, { cv := some (.int .i64 v8) }), (28, { cv := some (.bool false) })])]) (m := 16) (kt := [0]) (kh := []) (by kernel_rfl) (.cons (c_law21_said N 9 0 (ByteArray.mk #[120]) h0) (.cons (c_ref1_Push N (GOuter.mk 167903233 167969026 3 0 0 v1) h1) (.cons (c_backend_Take N 1 2 v2.1 h2) (.cons (c_backend_Take N 1 3 v2.1 h3) (.cons (c_backend_Take N 3 0 v2.1 h4) (.cons (c_law21_given N h5) (.cons (Le.tt h6) (.cons (c_law0_Num N v3.2.2 h7) (.cons (Le.tt h8) (.cons (Le.tt h9) (.cons (Le.tt h10) (.cons (h11) (.cons (Le.iptl (g := true) (eL_at (xs := v3.2.1.Events) eEvent_len (ixl h11))) (.cons ((List.cons_ne_nil _ _ : ([.int .i64 ((v3.2.1.Events.getD (Int.toNat 0) default).Kind), .int .i64 ((v3.2.1.Events.getD (Int.toNat 0) default).Role), .int .i64 ((v3.2.1.Events.getD (Int.toNat 0) default).Site), .int .i64 ((v3.2.1.Events.getD (Int.toNat 0) default).Node), .int .i64 ((v3.2.1.Events.getD (Int.toNat 0) default).To), .int .i64 (((v3.2.1.Events.getD (Int.toNat 0) default).Flow).Src), .int .i64 (((v3.2.1.Events.getD (Int.toNat 0) default).Flow).Dst), .int .i64 (((v3.2.1.Events.getD (Int.toNat 0) default).Flow).Proto), .int .i64 (((v3.2.1.Events.getD (Int.toNat 0) default).Flow).Sport), .int .i64 (((v3.2.1.Events.getD (Int.toNat 0) default).Flow).Dport)] : List D) ≠ [])) (.cons (Le.int (k := .i64) h12) (.cons (Le.ff h13) .nil)))))))))))))))) (g_law21_awake_1 hc N hfin false h)
        · exact hc.jump (orc := [(1, [(0, { r := d_law21_said v1 })]), (2, [(2, { r := d_ref1_Push v2 })]), (3, [(1, { r := d_backend_Take v3 })]), (4, [(1, { r := d_backend_Take v4 })]), (5, [(1, { r := d_backend_Take v5 })]), (6, [(0, { r := d_law21_given v6 })]), (7, [(3, { cv := some (.bool true) }), (5, { r := d_law0_Num v7 }), (8, { cv := some (.bool true) }), (14, { cv := some (.bool true) }), (20, { cv := some (.bool false) })])]) (m := 16) (kt := [0]) (kh := []) (by kernel_rfl) (.cons (c_law21_said N 9 0 (ByteArray.mk #[120]) h0) (.cons (c_ref1_Push N (GOuter.mk 167903233 167969026 3 0 0 v1) h1) (.cons (c_backend_Take N 1 2 v2.1 h2) (.cons (c_backend_Take N 1 3 v2.1 h3) (.cons (c_backend_Take N 3 0 v2.1 h4) (.cons (c_law21_given N h5) (.cons (Le.tt h6) (.cons (c_law0_Num N v3.2.2 h7) (.cons (Le.tt h8) (.cons (Le.tt h9) (.cons (Le.ff h10) .nil))))))))))) (g_law21_awake_1 hc N hfin false h)
      · exact hc.jump (orc := [(1, [(0, { r := d_law21_said v1 })]), (2, [(2, { r := d_ref1_Push v2 })]), (3, [(1, { r := d_backend_Take v3 })]), (4, [(1, { r := d_backend_Take v4 })]), (5, [(1, { r := d_backend_Take v5 })]), (6, [(0, { r := d_law21_given v6 })]), (7, [(3, { cv := some (.bool true) }), (5, { r := d_law0_Num v7 }), (8, { cv := some (.bool true) }), (14, { cv := some (.bool false) })])]) (m := 16) (kt := [0]) (kh := []) (by kernel_rfl) (.cons (c_law21_said N 9 0 (ByteArray.mk #[120]) h0) (.cons (c_ref1_Push N (GOuter.mk 167903233 167969026 3 0 0 v1) h1) (.cons (c_backend_Take N 1 2 v2.1 h2) (.cons (c_backend_Take N 1 3 v2.1 h3) (.cons (c_backend_Take N 3 0 v2.1 h4) (.cons (c_law21_given N h5) (.cons (Le.tt h6) (.cons (c_law0_Num N v3.2.2 h7) (.cons (Le.tt h8) (.cons (Le.ff h9) .nil)))))))))) (g_law21_awake_1 hc N hfin false h)
    · exact hc.jump (orc := [(1, [(0, { r := d_law21_said v1 })]), (2, [(2, { r := d_ref1_Push v2 })]), (3, [(1, { r := d_backend_Take v3 })]), (4, [(1, { r := d_backend_Take v4 })]), (5, [(1, { r := d_backend_Take v5 })]), (6, [(0, { r := d_law21_given v6 })]), (7, [(3, { cv := some (.bool true) }), (5, { r := d_law0_Num v7 }), (8, { cv := some (.bool false) })])]) (m := 16) (kt := [0]) (kh := []) (by kernel_rfl) (.cons (c_law21_said N 9 0 (ByteArray.mk #[120]) h0) (.cons (c_ref1_Push N (GOuter.mk 167903233 167969026 3 0 0 v1) h1) (.cons (c_backend_Take N 1 2 v2.1 h2) (.cons (c_backend_Take N 1 3 v2.1 h3) (.cons (c_backend_Take N 3 0 v2.1 h4) (.cons (c_law21_given N h5) (.cons (Le.tt h6) (.cons (c_law0_Num N v3.2.2 h7) (.cons (Le.ff h8) .nil))))))))) (g_law21_awake_1 hc N hfin false h)
  · exact hc.jump (orc := [(1, [(0, { r := d_law21_said v1 })]), (2, [(2, { r := d_ref1_Push v2 })]), (3, [(1, { r := d_backend_Take v3 })]), (4, [(1, { r := d_backend_Take v4 })]), (5, [(1, { r := d_backend_Take v5 })]), (6, [(0, { r := d_law21_given v6 })]), (7, [(3, { cv := some (.bool false) })])]) (m := 16) (kt := [0]) (kh := []) (by kernel_rfl) (.cons (c_law21_said N 9 0 (ByteArray.mk #[120]) h0) (.cons (c_ref1_Push N (GOuter.mk 167903233 167969026 3 0 0 v1) h1) (.cons (c_backend_Take N 1 2 v2.1 h2) (.cons (c_backend_Take N 1 3 v2.1 h3) (.cons (c_backend_Take N 3 0 v2.1 h4) (.cons (c_law21_given N h5) (.cons (Le.ff h6) .nil))))))) (g_law21_awake_1 hc N hfin false h)

theorem c_law21_awake (N : Nat) {r : Bool} (h : L_law21_awake N = some r) : Con Try.prog 48 [] [] (d_law21_awake r) [] :=
  con_intro ok mix (fn := Try.f48) (body := bodyOf Try.f48) (by kernel_rfl) (by kernel_rfl) (by kernel_rfl) rfl (Nat.le_of_ble_eq_true (by kernel_rfl)) fun c h1 h2 h3 h4 hfin => g_law21_awake_0 ⟨h1, h2, h3, h4⟩ N hfin h
/-! ### wharfage/wharfagelaw21.Backends -/
def L_law21_Backends_1 (N : Nat) (b236 : (List ByteArray)) (b237 : (List GEvent)) (t43 : Bool) : Option (Bool) :=
  bif t43 then
    some false
  else
    (L_law0_SpoilOut N (GOut.mk b236 b237)).bind fun v1 =>
    if v1.1.length = b236.length then
    if v1.2.length = b237.length then
    (L_law21_awake N).bind fun v2 =>
    some v2
    else none
    else none
def L_law21_Backends (N : Nat) (x0 : Int) (x1 : Int) (x2 : ByteArray) : Option (Bool) :=
  (L_backend_Take_v1 N x0 x1 x2).bind fun v1 =>
  (L_ref19_TakeBack N x0 x1 x2).bind fun v2 =>
  bif (!(v1.1.toList == v2.1.toList)) then
    L_law21_Backends_1 N v1.2.1.Sent v1.2.1.Events true
  else
    (L_law0_SameOut N v1.2.1 v2.2.1).bind fun v3 =>
    bif (!v3) then
      L_law21_Backends_1 N v1.2.1.Sent v1.2.1.Events true
    else
      (L_law0_Num N v1.2.2).bind fun v4 =>
      L_law21_Backends_1 N v1.2.1.Sent v1.2.1.Events (v4 != v2.2.2)
def d_law21_Backends (r : Bool) : D := .bool r
theorem g_law21_Backends_1 {c : Cx} (hc : Is c Try.prog ty 19 47) (N : Nat) {r : Bool} (hfin : c.Fin [] (d_law21_Backends r) []) (b236 : (List ByteArray)) (b237 : (List GEvent)) (t43 : Bool) (h : L_law21_Backends_1 N b236 b237 t43 = some r) : c.Goes (items (bodyOf Try.f19) [.c 55, .c 31]) ⟨[(8, .ptr 164 0), (43, .bool t43)], [(164, some ⟨false, 0, [.ref 236 0 b236.length b236.length, .ref 237 0 b237.length b237.length]⟩), (236, some ⟨true, 1, (eL eStr b236)⟩), (237, some ⟨true, 10, (eL eEvent b237)⟩)]⟩ := by
  unfold L_law21_Backends_1 at h
  rcases brk h with ⟨h0, k0⟩ | ⟨h0, k0⟩
  · subst h0
    replace h := k0
    have h := Option.some.inj h
    refine hc.ret hfin (fn := Try.f19) (by kernel_rfl) (orc := []) (m := 3) (d := .bool false) (by kernel_rfl) .nil ?_ ?_
    · rw [← h]; exact Le.of rfl
    · rw [← h]; rfl
  · subst h0
    replace h := k0
    obtain ⟨v1, h1, h⟩ := bind_of h
    obtain ⟨h2, h⟩ := chk h
    obtain ⟨h3, h⟩ := chk h
    obtain ⟨v2, h4, h⟩ := bind_of h
    have h := Option.some.inj h
    refine hc.ret hfin (fn := Try.f19) (by kernel_rfl) (orc := [(5, [(1, { ρ := [236, 237], r := d_law0_SpoilOut v1, H := h_law0_SpoilOut v1 })]), (6, [(0, { r := d_law21_awake v2 })])]) (m := 6) (d := .bool v2) (by kernel_rfl) (.cons (c_law0_SpoilOut N (GOut.mk b236 b237) h1) (.cons (c_law21_awake N h4) .nil)) ?_ ?_
    · rw [← h]; exact Le.of rfl
    · rw [← h]; rfl

theorem g_law21_Backends_0 {c : Cx} (hc : Is c Try.prog ty 19 47) (N : Nat) {r : Bool} (hfin : c.Fin [] (d_law21_Backends r) []) (x0 : Int) (x1 : Int) (x2 : ByteArray) (h : L_law21_Backends N x0 x1 x2 = some r) : c.Goes (items (bodyOf Try.f19) [.c 1]) ⟨[(0, .int .i64 x0), (1, .int .i64 x1), (2, .str x2)], []⟩ := by
  unfold L_law21_Backends at h
  obtain ⟨v1, h0, h⟩ := bind_of h
  obtain ⟨v2, h1, h⟩ := bind_of h
  rcases brk h with ⟨h2, h⟩ | ⟨h2, h⟩
  · exact hc.jump (orc := [(1, [(3, { r := d_backend_Take_v1 v1, H := h_backend_Take_v1 v1 })]), (2, [(3, { r := d_ref19_TakeBack v2 })]), (3, [(3, { cv := some (.bool true) })])]) (m := 9) (kt := [8, 43]) (kh := [(164, 164), (236, 236), (237, 237)]) (by kernel_rfl) (.cons (c_backend_Take_v1 N x0 x1 x2 h0) (.cons (c_ref19_TakeBack N x0 x1 x2 h1) (.cons (Le.tt h2) .nil))) (g_law21_Backends_1 hc N hfin v1.2.1.Sent v1.2.1.Events true h)
  · obtain ⟨v3, h3, h⟩ := bind_of h
    rcases brk h with ⟨h4, h⟩ | ⟨h4, h⟩
    · exact hc.jump (orc := [(1, [(3, { r := d_backend_Take_v1 v1, H := h_backend_Take_v1 v1 })]), (2, [(3, { r := d_ref19_TakeBack v2 })]), (3, [(3, { cv := some (.bool false) }), (6, { r := d_law0_SameOut v3 }), (9, { cv := some (.bool true) })])]) (m := 9) (kt := [8, 43]) (kh := [(164, 164), (236, 236), (237, 237)]) (by kernel_rfl) (.cons (c_backend_Take_v1 N x0 x1 x2 h0) (.cons (c_ref19_TakeBack N x0 x1 x2 h1) (.cons (Le.ff h2) (.cons (c_law0_SameOut N false true v1.2.1 v2.2.1 h3) (.cons (Le.tt h4) .nil))))) (g_law21_Backends_1 hc N hfin v1.2.1.Sent v1.2.1.Events true h)
    · obtain ⟨v4, h5, h⟩ := bind_of h
      exact hc.jump (orc := [(1, [(3, { r := d_backend_Take_v1 v1, H := h_backend_Take_v1 v1 })]), (2, [(3, { r := d_ref19_TakeBack v2 })]), (3, [(3, { cv := some (.bool false) }), (6, { r := d_law0_SameOut v3 }), (9, { cv := some (.bool false) }), (11, { r := d_law0_Num v4 })])]) (m := 9) (kt := [8, 43]) (kh := [(164, 164), (236, 236), (237, 237)]) (by kernel_rfl) (.cons (c_backend_Take_v1 N x0 x1 x2 h0) (.cons (c_ref19_TakeBack N x0 x1 x2 h1) (.cons (Le.ff h2) (.cons (c_law0_SameOut N false true v1.2.1 v2.2.1 h3) (.cons (Le.ff h4) (.cons (c_law0_Num N v1.2.2 h5) .nil)))))) (g_law21_Backends_1 hc N hfin v1.2.1.Sent v1.2.1.Events (v4 != v2.2.2) h)

theorem c_law21_Backends (N : Nat) (x0 : Int) (x1 : Int) (x2 : ByteArray) {r : Bool} (h : L_law21_Backends N x0 x1 x2 = some r) : Con Try.prog 19 [.int .i64 x0, .int .i64 x1, .str x2] [] (d_law21_Backends r) [] :=
  con_intro ok mix (fn := Try.f19) (body := bodyOf Try.f19) (by kernel_rfl) (by kernel_rfl) (by kernel_rfl) rfl (Nat.le_of_ble_eq_true (by kernel_rfl)) fun c h1 h2 h3 h4 hfin => g_law21_Backends_0 ⟨h1, h2, h3, h4⟩ N hfin x0 x1 x2 h
/-! ### wharfage/wharfagelaw21.BackTable -/
def L_law21_BackTable_2 (N : Nat) (t4 : Bool) : Option (Bool) :=
  some t4
def L_law21_BackTable_1 (N : Nat) (t6 : ByteArray) (b156_0 : Int) (b156_1 : Int) (b156_2 : Int) (b156_3 : Int) (b156_4 : Int) (b156_5 : ByteArray) (t8 : Int) : Option (Bool) :=
  (L_ref1_Push N (GOuter.mk b156_0 b156_1 b156_2 b156_3 b156_4 b156_5)).bind fun v1 =>
  (L_backend_Take N 2 1 v1.1).bind fun v2 =>
  bif (v1.2 == 0) then
    (L_law0_Num N v2.2.2).bind fun v3 =>
    bif (v3 == 0) then
      bif ((v2.2.1.Sent.length : Int) == 0) then
        bif ((v2.2.1.Events.length : Int) == 1) then
          if 0 ≤ (0 : Int) ∧ (0 : Int) < ((v2.2.1.Events.length : Nat) : Int) then
          via ((v2.2.1.Events.getD (Int.toNat 0) default).Kind : Int) fun v4 =>
          bif (v4 == t8) then
            bif ((t8 == 1) == (v2.1.toList == t6.toList)) then
              bif (t8 == 1) then
                L_law21_BackTable_2 N true
              else
                L_law21_BackTable_2 N (v2.1.toList == ByteArray.empty.toList)
            else
              L_law21_BackTable_2 N false
          else
            L_law21_BackTable_2 N false
          else none
        else
          L_law21_BackTable_2 N false
      else
        L_law21_BackTable_2 N false
    else
      L_law21_BackTable_2 N false
  else
    L_law21_BackTable_2 N false
def L_law21_BackTable (N : Nat) (x0 : Int) (x1 : Int) : Option (Bool) :=
  (L_law21_awake N).bind fun v1 =>
  bif (!v1) then
    some false
  else
    via ((IntKind.i64.wrap ((1 : Int) + (bAnd .i64 x1 127))) : Int) fun v2 =>
    (L_law21_said N 3 0 (ByteArray.mk #[107])).bind fun v3 =>
    bif (((IntKind.u64.wrap x0).tmod 9) == 0) then
      L_law21_BackTable_1 N v3 167903233 167969281 3 0 0 v3 8
    else
      bif (((IntKind.u64.wrap x0).tmod 9) == 1) then
        L_law21_BackTable_1 N v3 167903234 167969280 3 0 0 v3 8
      else
        bif (((IntKind.u64.wrap x0).tmod 9) == 2) then
          L_law21_BackTable_1 N v3 167903234 167969281 1 0 0 v3 8
        else
          bif (((IntKind.u64.wrap x0).tmod 9) == 3) then
            L_law21_BackTable_1 N v3 167903234 167969281 3 v2 0 v3 8
          else
            bif (((IntKind.u64.wrap x0).tmod 9) == 4) then
              L_law21_BackTable_1 N v3 167903234 167969281 3 0 v2 v3 8
            else
              bif (((IntKind.u64.wrap x0).tmod 9) == 5) then
                L_law21_BackTable_1 N v3 167903234 167969281 3 0 0 (ByteArray.mk #[106, 117, 110, 107]) 2
              else
                bif (((IntKind.u64.wrap x0).tmod 9) == 6) then
                  (L_ref1_PutIp N (GIp.mk 0 167772161 1 0 0 ByteArray.empty)).bind fun v4 =>
                  L_law21_BackTable_1 N v3 167903234 167969281 3 0 0 v4.1 4
                else
                  bif (((IntKind.u64.wrap x0).tmod 9) == 7) then
                    L_law21_BackTable_1 N v3 167837696 167969281 3 0 0 v3 8
                  else
                    L_law21_BackTable_1 N v3 167903234 167969281 3 0 0 v3 1
def d_law21_BackTable (r : Bool) : D := .bool r
theorem g_law21_BackTable_2 {c : Cx} (hc : Is c Try.prog ty 20 114) (N : Nat) {r : Bool} (hfin : c.Fin [] (d_law21_BackTable r) []) (t4 : Bool) (h : L_law21_BackTable_2 N t4 = some r) : c.Goes (items (bodyOf Try.f20) [.c 2047]) ⟨[(4, .bool t4)], []⟩ := by
  unfold L_law21_BackTable_2 at h
  have h := Option.some.inj h
  refine hc.ret hfin (fn := Try.f20) (by kernel_rfl) (orc := []) (m := 0) (d := .bool t4) (by kernel_rfl) .nil ?_ ?_
  · rw [← h]; exact Le.of rfl
  · rw [← h]; rfl

theorem g_law21_BackTable_1 {c : Cx} (hc : Is c Try.prog ty 20 114) (N : Nat) {r : Bool} (hfin : c.Fin [] (d_law21_BackTable r) []) (t6 : ByteArray) (b156_0 : Int) (b156_1 : Int) (b156_2 : Int) (b156_3 : Int) (b156_4 : Int) (b156_5 : ByteArray) (t8 : Int) (h : L_law21_BackTable_1 N t6 b156_0 b156_1 b156_2 b156_3 b156_4 b156_5 t8 = some r) : c.Goes (items (bodyOf Try.f20) [.b 0, .c 255]) ⟨[(6, .str t6), (7, .ptr 156 0), (8, .int .i64 t8)], [(156, some ⟨false, 0, [.int .i64 b156_0, .int .i64 b156_1, .int .i64 b156_2, .int .i64 b156_3, .int .i64 b156_4, .str b156_5]⟩)]⟩ := by
  unfold L_law21_BackTable_1 at h
  obtain ⟨v1, h0, h⟩ := bind_of h
  obtain ⟨v2, h1, h⟩ := bind_of h
  rcases brk h with ⟨h2, h⟩ | ⟨h2, h⟩
  · obtain ⟨v3, h3, h⟩ := bind_of h
    rcases brk h with ⟨h4, h⟩ | ⟨h4, h⟩
    · rcases brk h with ⟨h5, h⟩ | ⟨h5, h⟩
      · rcases brk h with ⟨h6, h⟩ | ⟨h6, h⟩
        · obtain ⟨h7, h⟩ := chk h
          obtain ⟨v4, h8, h⟩ := via_some h
          rcases brk h with ⟨h9, h⟩ | ⟨h9, h⟩
          · rcases brk h with ⟨h10, h⟩ | ⟨h10, h⟩
            · rcases brk h with ⟨h11, h⟩ | ⟨h11, h⟩
              · exact hc.jump (orc := [(28, [(1, { r := d_ref1_Push v1 })]), (29, [(1, { r := d_backend_Take v2 })]), (30, [(2, { cv := some (.bool true) }), (4, { r := d_law0_Num v3 }), (7, { cv := some (.bool true) }), (13, { cv := some (.bool true) }), (19, { cv := some (.bool true) }), (22, { cv := some (.ip true [.int .i64 ((v2.2.1.Events.getD (Int.toNat 0) default).Kind), .int .i64 ((v2.2.1.Events.getD (Int.toNat 0) default).Role), .int .i64 ((v2.2.1.Events.getD (Int.toNat 0) default).Site), .int .i64 ((v2.2.1.Events.getD (Int.toNat 0) default).Node), .int .i64 ((v2.2.1.Events.getD (Int.toNat 0) default).To), .int .i64 (((v2.2.1.Events.getD (Int.toNat 0) default).Flow).Src), .int .i64 (((v2.2.1.Events.getD (Int.toNat 0) default).Flow).Dst), .int .i64 (((v2.2.1.Events.getD (Int.toNat 0) default).Flow).Proto), .int .i64 (((v2.2.1.Events.getD (Int.toNat 0) default).Flow).Sport), .int .i64 (((v2.2.1.Events.getD (Int.toNat 0) default).Flow).Dport)]) }), (24, { cv := some (.int .i64 v4) }), (28, { cv := some (.bool true) }), (36, { cv := some (.bool true) }), (39, { cv := some (.bool true) })])]) (m := 7) (kt := [4]) (kh := []) (by kernel_rfl) (.cons (c_ref1_Push N (GOuter.mk b156_0 b156_1 b156_2 b156_3 b156_4 b156_5) h0) (.cons (c_backend_Take N 2 1 v1.1 h1) (.cons (Le.tt h2) (.cons (c_law0_Num N v2.2.2 h3) (.cons (Le.tt h4) (.cons (Le.tt h5) (.cons (Le.tt h6) (.cons (h7) (.cons (Le.iptl (g := true) (eL_at (xs := v2.2.1.Events) eEvent_len (ixl h7))) (.cons ((List.cons_ne_nil _ _ : ([.int .i64 ((v2.2.1.Events.getD (Int.toNat 0) default).Kind), .int .i64 ((v2.2.1.Events.getD (Int.toNat 0) default).Role), .int .i64 ((v2.2.1.Events.getD (Int.toNat 0) default).Site), .int .i64 ((v2.2.1.Events.getD (Int.toNat 0) default).Node), .int .i64 ((v2.2.1.Events.getD (Int.toNat 0) default).To), .int .i64 (((v2.2.1.Events.getD (Int.toNat 0) default).Flow).Src), .int .i64 (((v2.2.1.Events.getD (Int.toNat 0) default).Flow).Dst), .int .i64 (((v2.2.1.Events.getD (Int.toNat 0) default).Flow).Proto), .int .i64 (((v2.2.1.Events.getD (Int.toNat 0) default).Flow).Sport), .int .i64 (((v2.2.1.Events.getD (Int.toNat 0) default).Flow).Dport)] : List D) ≠ [])) (.cons (Le.int (k := .i64) h8) (.cons (Le.tt h9) (.cons (Le.tt h10) (.cons (Le.tt h11) .nil)))))))))))))) (g_law21_BackTable_2 hc N hfin true h)
              · exact hc.jump (orc := [(28, [(1, { r := d_ref1_Push v1 })]), (29, [(1, { r := d_backend_Take v2 })]), (30, [(2, { cv := some (.bool true) }), (4, { r := d_law0_Num v3 }), (7, { cv := some (.bool true) }), (13, { cv := some (.bool true) }), (19, { cv := some (.bool true) }), (22, { cv := some (.ip true [.int .i64 ((v2.2.1.Events.getD (Int.toNat 0) default).Kind), .int .i64 ((v2.2.1.Events.getD (Int.toNat 0) default).Role), .int .i64 ((v2.2.1.Events.getD (Int.toNat 0) default).Site), .int .i64 ((v2.2.1.Events.getD (Int.toNat 0) default).Node), .int .i64 ((v2.2.1.Events.getD (Int.toNat 0) default).To), .int .i64 (((v2.2.1.Events.getD (Int.toNat 0) default).Flow).Src), .int .i64 (((v2.2.1.Events.getD (Int.toNat 0) default).Flow).Dst), .int .i64 (((v2.2.1.Events.getD (Int.toNat 0) default).Flow).Proto), .int .i64 (((v2.2.1.Events.getD (Int.toNat 0) default).Flow).Sport), .int .i64 (((v2.2.1.Events.getD (Int.toNat 0) default).Flow).Dport)]) }), (24, { cv := some (.int .i64 v4) }), (28, { cv := some (.bool true) }), (36, { cv := some (.bool true) }), (39, { cv := some (.bool false) })])]) (m := 7) (kt := [4]) (kh := []) (by kernel_rfl) (.cons (c_ref1_Push N (GOuter.mk b156_0 b156_1 b156_2 b156_3 b156_4 b156_5) h0) (.cons (c_backend_Take N 2 1 v1.1 h1) (.cons (Le.tt h2) (.cons (c_law0_Num N v2.2.2 h3) (.cons (Le.tt h4) (.cons (Le.tt h5) (.cons (Le.tt h6) (.cons (h7) (.cons (Le.iptl (g := true) (eL_at (xs := v2.2.1.Events) eEvent_len (ixl h7))) (.cons ((List.cons_ne_nil _ _ : ([.int .i64 ((v2.2.1.Events.getD (Int.toNat 0) default).Kind), .int .i64 ((v2.2.1.Events.getD (Int.toNat 0) default).Role), .int .i64 ((v2.2.1.Events.getD (Int.toNat 0) default).Site), .int .i64 ((v2.2.1.Events.getD (Int.toNat 0) default).Node), .int .i64 ((v2.2.1.Events.getD (Int.toNat 0) default).To), .int .i64 (((v2.2.1.Events.getD (Int.toNat 0) default).Flow).Src), .int .i64 (((v2.2.1.Events.getD (Int.toNat 0) default).Flow).Dst), .int .i64 (((v2.2.1.Events.getD (Int.toNat 0) default).Flow).Proto), .int .i64 (((v2.2.1.Events.getD (Int.toNat 0) default).Flow).Sport), .int .i64 (((v2.2.1.Events.getD (Int.toNat 0) default).Flow).Dport)] : List D) ≠ [])) (.cons (Le.int (k := .i64) h8) (.cons (Le.tt h9) (.cons (Le.tt h10) (.cons (Le.ff h11) .nil)))))))))))))) (g_law21_BackTable_2 hc N hfin (v2.1.toList == ByteArray.empty.toList) h)
            · exact hc.jump (orc := [(28, [(1, { r := d_ref1_Push v1 })]), (29, [(1, { r := d_backend_Take v2 })]), (30, [(2, { cv := some (.bool true) }), (4, { r := d_law0_Num v3 }), (7, { cv := some (.bool true) }), (13, { cv := some (.bool true) }), (19, { cv := some (.bool true) }), (22, { cv := some (.ip true [.int .i64 ((v2.2.1.Events.getD (Int.toNat 0) default).Kind), .int .i64 ((v2.2.1.Events.getD (Int.toNat 0) default).Role), .int .i64 ((v2.2.1.Events.getD (Int.toNat 0) default).Site), .int .i64 ((v2.2.1.Events.getD (Int.toNat 0) default).Node), .int .i64 ((v2.2.1.Events.getD (Int.toNat 0) default).To), .int .i64 (((v2.2.1.Events.getD (Int.toNat 0) default).Flow).Src), .int .i64 (((v2.2.1.Events.getD (Int.toNat 0) default).Flow).Dst), .int .i64 (((v2.2.1.Events.getD (Int.toNat 0) default).Flow).Proto), .int .i64 (((v2.2.1.Events.getD (Int.toNat 0) default).Flow).Sport), .int .i64 (((v2.2.1.Events.getD (Int.toNat 0) default).Flow).Dport)]) }), (24, { cv := some (.int .i64 v4) }), (28, { cv := some (.bool true) }), (36, { cv := some (.bool false) })])]) (m := 7) (kt := [4]) (kh := []) (by kernel_rfl) (.cons (c_ref1_Push N (GOuter.mk b156_0 b156_1 b156_2 b156_3 b156_4 b156_5) h0) (.cons (c_backend_Take N 2 1 v1.1 h1) (.cons (Le.tt h2) (.cons (c_law0_Num N v2.2.2 h3) (.cons (Le.tt h4) (.cons (Le.tt h5) (.cons (Le.tt h6) (.cons (h7) (.cons (Le.iptl (g := true) (eL_at (xs := v2.2.1.Events) eEvent_len (ixl h7))) (.cons ((List.cons_ne_nil _ _ : ([.int .i64 ((v2.2.1.Events.getD (Int.toNat 0) default).Kind), .int .i64 ((v2.2.1.Events.getD (Int.toNat 0) default).Role), .int .i64 ((v2.2.1.Events.getD (Int.toNat 0) default).Site), .int .i64 ((v2.2.1.Events.getD (Int.toNat 0) default).Node), .int .i64 ((v2.2.1.Events.getD (Int.toNat 0) default).To), .int .i64 (((v2.2.1.Events.getD (Int.toNat 0) default).Flow).Src), .int .i64 (((v2.2.1.Events.getD (Int.toNat 0) default).Flow).Dst), .int .i64 (((v2.2.1.Events.getD (Int.toNat 0) default).Flow).Proto), .int .i64 (((v2.2.1.Events.getD (Int.toNat 0) default).Flow).Sport), .int .i64 (((v2.2.1.Events.getD (Int.toNat 0) default).Flow).Dport)] : List D) ≠ [])) (.cons (Le.int (k := .i64) h8) (.cons (Le.tt h9) (.cons (Le.ff h10) .nil))))))))))))) (g_law21_BackTable_2 hc N hfin false h)
          · exact hc.jump (orc := [(28, [(1, { r := d_ref1_Push v1 })]), (29, [(1, { r := d_backend_Take v2 })]), (30, [(2, { cv := some (.bool true) }), (4, { r := d_law0_Num v3 }), (7, { cv := some (.bool true) }), (13, { cv := some (.bool true) }), (19, { cv := some (.bool true) }), (22, { cv := some (.ip true [.int .i64 ((v2.2.1.Events.getD (Int.toNat 0) default).Kind), .int .i64 ((v2.2.1.Events.getD (Int.toNat 0) default).Role), .int .i64 ((v2.2.1.Events.getD (Int.toNat 0) default).Site), .int .i64 ((v2.2.1.Events.getD (Int.toNat 0) default).Node), .int .i64 ((v2.2.1.Events.getD (Int.toNat 0) default).To), .int .i64 (((v2.2.1.Events.getD (Int.toNat 0) default).Flow).Src), .int .i64 (((v2.2.1.Events.getD (Int.toNat 0) default).Flow).Dst), .int .i64 (((v2.2.1.Events.getD (Int.toNat 0) default).Flow).Proto), .int .i64 (((v2.2.1.Events.getD (Int.toNat 0) default).Flow).Sport), .int .i64 (((v2.2.1.Events.getD (Int.toNat 0) default).Flow).Dport)]) }), (24, { cv := some (.int .i64 v4) }), (28, { cv := some (.bool false) })])]) (m := 7) (kt := [4]) (kh := []) (by kernel_rfl) (.cons (c_ref1_Push N (GOuter.mk b156_0 b156_1 b156_2 b156_3 b156_4 b156_5) h0) (.cons (c_backend_Take N 2 1 v1.1 h1) (.cons (Le.tt h2) (.cons (c_law0_Num N v2.2.2 h3) (.cons (Le.tt h4) (.cons (Le.tt h5) (.cons (Le.tt h6) (.cons (h7) (.cons (Le.iptl (g := true) (eL_at (xs := v2.2.1.Events) eEvent_len (ixl h7))) (.cons ((List.cons_ne_nil _ _ : ([.int .i64 ((v2.2.1.Events.getD (Int.toNat 0) default).Kind), .int .i64 ((v2.2.1.Events.getD (Int.toNat 0) default).Role), .int .i64 ((v2.2.1.Events.getD (Int.toNat 0) default).Site), .int .i64 ((v2.2.1.Events.getD (Int.toNat 0) default).Node), .int .i64 ((v2.2.1.Events.getD (Int.toNat 0) default).To), .int .i64 (((v2.2.1.Events.getD (Int.toNat 0) default).Flow).Src), .int .i64 (((v2.2.1.Events.getD (Int.toNat 0) default).Flow).Dst), .int .i64 (((v2.2.1.Events.getD (Int.toNat 0) default).Flow).Proto), .int .i64 (((v2.2.1.Events.getD (Int.toNat 0) default).Flow).Sport), .int .i64 (((v2.2.1.Events.getD (Int.toNat 0) default).Flow).Dport)] : List D) ≠ [])) (.cons (Le.int (k := .i64) h8) (.cons (Le.ff h9) .nil)))))))))))) (g_law21_BackTable_2 hc N hfin false h)
        · exact hc.jump (orc := [(28, [(1, { r := d_ref1_Push v1 })]), (29, [(1, { r := d_backend_Take v2 })]), (30, [(2, { cv := some (.bool true) }), (4, { r := d_law0_Num v3 }), (7, { cv := some (.bool true) }), (13, { cv := some (.bool true) }), (19, { cv := some (.bool false) })])]) (m := 7) (kt := [4]) (kh := []) (by kernel_rfl) (.cons (c_ref1_Push N (GOuter.mk b156_0 b156_1 b156_2 b156_3 b156_4 b156_5) h0) (.cons (c_backend_Take N 2 1 v1.1 h1) (.cons (Le.tt h2) (.cons (c_law0_Num N v2.2.2 h3) (.cons (Le.tt h4) (.cons (Le.tt h5) (.cons (Le.ff h6) .nil))))))) (g_law21_BackTable_2 hc N hfin false h)
      · exact hc.jump (orc := [(28, [(1, { r := d_ref1_Push v1 })]), (29, [(1, { r := d_backend_Take v2 })]), (30, [(2, { cv := some (.bool true) }), (4, { r := d_law0_Num v3 }), (7, { cv := some (.bool true) }), (13, { cv := some (.bool false) })])]) (m := 7) (kt := [4]) (kh := []) (by kernel_rfl) (.cons (c_ref1_Push N (GOuter.mk b156_0 b156_1 b156_2 b156_3 b156_4 b156_5) h0) (.cons (c_backend_Take N 2 1 v1.1 h1) (.cons (Le.tt h2) (.cons (c_law0_Num N v2.2.2 h3) (.cons (Le.tt h4) (.cons (Le.ff h5) .nil)))))) (g_law21_BackTable_2 hc N hfin false h)
    · exact hc.jump (orc := [(28, [(1, { r := d_ref1_Push v1 })]), (29, [(1, { r := d_backend_Take v2 })]), (30, [(2, { cv := some (.bool true) }), (4, { r := d_law0_Num v3 }), (7, { cv := some (.bool false) })])]) (m := 7) (kt := [4]) (kh := []) (by kernel_rfl) (.cons (c_ref1_Push N (GOuter.mk b156_0 b156_1 b156_2 b156_3 b156_4 b156_5) h0) (.cons (c_backend_Take N 2 1 v1.1 h1) (.cons (Le.tt h2) (.cons (c_law0_Num N v2.2.2 h3) (.cons (Le.ff h4) .nil))))) (g_law21_BackTable_2 hc N hfin false h)
  · exact hc.jump (orc := [(28, [(1, { r := d_ref1_Push v1 })]), (29, [(1, { r := d_backend_Take v2 })]), (30, [(2, { cv := some (.bool false) })])]) (m := 7) (kt := [4]) (kh := []) (by kernel_rfl) (.cons (c_ref1_Push N (GOuter.mk b156_0 b156_1 b156_2 b156_3 b156_4 b156_5) h0) (.cons (c_backend_Take N 2 1 v1.1 h1) (.cons (Le.ff h2) .nil))) (g_law21_BackTable_2 hc N hfin false h)

theorem g_law21_BackTable_0 {c : Cx} (hc : Is c Try.prog ty 20 114) (N : Nat) {r : Bool} (hfin : c.Fin [] (d_law21_BackTable r) []) (x0 : Int) (x1 : Int) (h : L_law21_BackTable N x0 x1 = some r) : c.Goes (items (bodyOf Try.f20) [.c 1]) ⟨[(0, .int .i64 x0), (1, .int .i64 x1)], []⟩ := by
  unfold L_law21_BackTable at h
  obtain ⟨v1, h0, h⟩ := bind_of h
  rcases brk h with ⟨h1, h⟩ | ⟨h1, h⟩
  · have h := Option.some.inj h
    refine hc.ret hfin (fn := Try.f20) (by kernel_rfl) (orc := [(1, [(0, { r := d_law21_awake v1 }), (1, { cv := some (.bool true) })])]) (m := 8) (d := .bool false) (by kernel_rfl) (.cons (c_law21_awake N h0) (.cons (Le.tt h1) .nil)) ?_ ?_
    · rw [← h]; exact Le.of rfl
    · rw [← h]; rfl
  · obtain ⟨v2, h2, h⟩ := via_some h
    obtain ⟨v3, h3, h⟩ := bind_of h
    rcases brk h with ⟨h4, h⟩ | ⟨h4, h⟩
    · exact hc.jump (orc := [(1, [(0, { r := d_law21_awake v1 }), (1, { cv := some (.bool false) })]), (3, [(2, { cv := some (.int .i64 v2) })]), (4, [(0, { r := d_law21_said v3 })]), (9, [(1, { cv := some (.bool true) })])]) (m := 23) (kt := [6, 7, 8]) (kh := [(156, 156)]) (by kernel_rfl) (.cons (c_law21_awake N h0) (.cons (Le.ff h1) (.cons (Le.int (k := .i64) h2) (.cons (c_law21_said N 3 0 (ByteArray.mk #[107]) h3) (.cons ((by decide : (9:Int) ≠ 0)) (.cons (Le.tt h4) .nil)))))) (g_law21_BackTable_1 hc N hfin v3 167903233 167969281 3 0 0 v3 8 h)
    · rcases brk h with ⟨h5, h⟩ | ⟨h5, h⟩
      · exact hc.jump (orc := [(1, [(0, { r := d_law21_awake v1 }), (1, { cv := some (.bool false) })]), (3, [(2, { cv := some (.int .i64 v2) })]), (4, [(0, { r := d_law21_said v3 })]), (9, [(1, { cv := some (.bool false) })]), (11, [(1, { cv := some (.bool true) })])]) (m := 26) (kt := [6, 7, 8]) (kh := [(156, 156)]) (by kernel_rfl) (.cons (c_law21_awake N h0) (.cons (Le.ff h1) (.cons (Le.int (k := .i64) h2) (.cons (c_law21_said N 3 0 (ByteArray.mk #[107]) h3) (.cons ((by decide : (9:Int) ≠ 0)) (.cons (Le.ff h4) (.cons (Le.tt h5) .nil))))))) (g_law21_BackTable_1 hc N hfin v3 167903234 167969280 3 0 0 v3 8 h)
      · rcases brk h with ⟨h6, h⟩ | ⟨h6, h⟩
        · exact hc.jump (orc := [(1, [(0, { r := d_law21_awake v1 }), (1, { cv := some (.bool false) })]), (3, [(2, { cv := some (.int .i64 v2) })]), (4, [(0, { r := d_law21_said v3 })]), (9, [(1, { cv := some (.bool false) })]), (11, [(1, { cv := some (.bool false) })]), (13, [(1, { cv := some (.bool true) })])]) (m := 29) (kt := [6, 7, 8]) (kh := [(156, 156)]) (by kernel_rfl) (.cons (c_law21_awake N h0) (.cons (Le.ff h1) (.cons (Le.int (k := .i64) h2) (.cons (c_law21_said N 3 0 (ByteArray.mk #[107]) h3) (.cons ((by decide : (9:Int) ≠ 0)) (.cons (Le.ff h4) (.cons (Le.ff h5) (.cons (Le.tt h6) .nil)))))))) (g_law21_BackTable_1 hc N hfin v3 167903234 167969281 1 0 0 v3 8 h)
        · rcases brk h with ⟨h7, h⟩ | ⟨h7, h⟩
          · exact hc.jump (orc := [(1, [(0, { r := d_law21_awake v1 }), (1, { cv := some (.bool false) })]), (3, [(2, { cv := some (.int .i64 v2) })]), (4, [(0, { r := d_law21_said v3 })]), (9, [(1, { cv := some (.bool false) })]), (11, [(1, { cv := some (.bool false) })]), (13, [(1, { cv := some (.bool false) })]), (15, [(1, { cv := some (.bool true) })])]) (m := 32) (kt := [6, 7, 8]) (kh := [(156, 156)]) (by kernel_rfl) (.cons (c_law21_awake N h0) (.cons (Le.ff h1) (.cons (Le.int (k := .i64) h2) (.cons (c_law21_said N 3 0 (ByteArray.mk #[107]) h3) (.cons ((by decide : (9:Int) ≠ 0)) (.cons (Le.ff h4) (.cons (Le.ff h5) (.cons (Le.ff h6) (.cons (Le.tt h7) .nil))))))))) (g_law21_BackTable_1 hc N hfin v3 167903234 167969281 3 v2 0 v3 8 h)
          · rcases brk h with ⟨h8, h⟩ | ⟨h8, h⟩
            · exact hc.jump (orc := [(1, [(0, { r := d_law21_awake v1 }), (1, { cv := some (.bool false) })]), (3, [(2, { cv := some (.int .i64 v2) })]), (4, [(0, { r := d_law21_said v3 })]), (9, [(1, { cv := some (.bool false) })]), (11, [(1, { cv := some (.bool false) })]), (13, [(1, { cv := some (.bool false) })]), (15, [(1, { cv := some (.bool false) })]), (17, [(1, { cv := some (.bool true) })])]) (m := 35) (kt := [6, 7, 8]) (kh := [(156, 156)]) (by kernel_rfl) (.cons (c_law21_awake N h0) (.cons (Le.ff h1) (.cons (Le.int (k := .i64) h2) (.cons (c_law21_said N 3 0 (ByteArray.mk #[107]) h3) (.cons ((by decide : (9:Int) ≠ 0)) (.cons (Le.ff h4) (.cons (Le.ff h5) (.cons (Le.ff h6) (.cons (Le.ff h7) (.cons (Le.tt h8) .nil)))))))))) (g_law21_BackTable_1 hc N hfin v3 167903234 167969281 3 0 v2 v3 8 h)
            · rcases brk h with ⟨h9, h⟩ | ⟨h9, h⟩
              · exact hc.jump (orc := [(1, [(0, { r := d_law21_awake v1 }), (1, { cv := some (.bool false) })]), (3, [(2, { cv := some (.int .i64 v2) })]), (4, [(0, { r := d_law21_said v3 })]), (9, [(1, { cv := some (.bool false) })]), (11, [(1, { cv := some (.bool false) })]), (13, [(1, { cv := some (.bool false) })]), (15, [(1, { cv := some (.bool false) })]), (17, [(1, { cv := some (.bool false) })]), (19, [(1, { cv := some (.bool true) })])]) (m := 40) (kt := [6, 7, 8]) (kh := [(156, 156)]) (by kernel_rfl) (.cons (c_law21_awake N h0) (.cons (Le.ff h1) (.cons (Le.int (k := .i64) h2) (.cons (c_law21_said N 3 0 (ByteArray.mk #[107]) h3) (.cons ((by decide : (9:Int) ≠ 0)) (.cons (Le.ff h4) (.cons (Le.ff h5) (.cons (Le.ff h6) (.cons (Le.ff h7) (.cons (Le.ff h8) (.cons (Le.tt h9) .nil))))))))))) (g_law21_BackTable_1 hc N hfin v3 167903234 167969281 3 0 0 (ByteArray.mk #[106, 117, 110, 107]) 2 h)
              · rcases brk h with ⟨h10, h⟩ | ⟨h10, h⟩
                · obtain ⟨v4, h11, h⟩ := bind_of h
                  exact hc.jump (orc := [(1, [(0, { r := d_law21_awake v1 }), (1, { cv := some (.bool false) })]), (3, [(2, { cv := some (.int .i64 v2) })]), (4, [(0, { r := d_law21_said v3 })]), (9, [(1, { cv := some (.bool false) })]), (11, [(1, { cv := some (.bool false) })]), (13, [(1, { cv := some (.bool false) })]), (15, [(1, { cv := some (.bool false) })]), (17, [(1, { cv := some (.bool false) })]), (19, [(1, { cv := some (.bool false) })]), (22, [(1, { cv := some (.bool true) })]), (23, [(1, { r := d_ref1_PutIp v4 })])]) (m := 45) (kt := [6, 7, 8]) (kh := [(156, 156)]) (by kernel_rfl) (.cons (c_law21_awake N h0) (.cons (Le.ff h1) (.cons (Le.int (k := .i64) h2) (.cons (c_law21_said N 3 0 (ByteArray.mk #[107]) h3) (.cons ((by decide : (9:Int) ≠ 0)) (.cons (Le.ff h4) (.cons (Le.ff h5) (.cons (Le.ff h6) (.cons (Le.ff h7) (.cons (Le.ff h8) (.cons (Le.ff h9) (.cons (Le.tt h10) (.cons (c_ref1_PutIp N (GIp.mk 0 167772161 1 0 0 ByteArray.empty) h11) .nil))))))))))))) (g_law21_BackTable_1 hc N hfin v3 167903234 167969281 3 0 0 v4.1 4 h)
                · rcases brk h with ⟨h11, h⟩ | ⟨h11, h⟩
                  · exact hc.jump (orc := [(1, [(0, { r := d_law21_awake v1 }), (1, { cv := some (.bool false) })]), (3, [(2, { cv := some (.int .i64 v2) })]), (4, [(0, { r := d_law21_said v3 })]), (9, [(1, { cv := some (.bool false) })]), (11, [(1, { cv := some (.bool false) })]), (13, [(1, { cv := some (.bool false) })]), (15, [(1, { cv := some (.bool false) })]), (17, [(1, { cv := some (.bool false) })]), (19, [(1, { cv := some (.bool false) })]), (22, [(1, { cv := some (.bool false) })]), (26, [(1, { cv := some (.bool true) })])]) (m := 44) (kt := [6, 7, 8]) (kh := [(156, 156)]) (by kernel_rfl) (.cons (c_law21_awake N h0) (.cons (Le.ff h1) (.cons (Le.int (k := .i64) h2) (.cons (c_law21_said N 3 0 (ByteArray.mk #[107]) h3) (.cons ((by decide : (9:Int) ≠ 0)) (.cons (Le.ff h4) (.cons (Le.ff h5) (.cons (Le.ff h6) (.cons (Le.ff h7) (.cons (Le.ff h8) (.cons (Le.ff h9) (.cons (Le.ff h10) (.cons (Le.tt h11) .nil))))))))))))) (g_law21_BackTable_1 hc N hfin v3 167837696 167969281 3 0 0 v3 8 h)
                  · exact hc.jump (orc := [(1, [(0, { r := d_law21_awake v1 }), (1, { cv := some (.bool false) })]), (3, [(2, { cv := some (.int .i64 v2) })]), (4, [(0, { r := d_law21_said v3 })]), (9, [(1, { cv := some (.bool false) })]), (11, [(1, { cv := some (.bool false) })]), (13, [(1, { cv := some (.bool false) })]), (15, [(1, { cv := some (.bool false) })]), (17, [(1, { cv := some (.bool false) })]), (19, [(1, { cv := some (.bool false) })]), (22, [(1, { cv := some (.bool false) })]), (26, [(1, { cv := some (.bool false) })])]) (m := 44) (kt := [6, 7, 8]) (kh := [(156, 156)]) (by kernel_rfl) (.cons (c_law21_awake N h0) (.cons (Le.ff h1) (.cons (Le.int (k := .i64) h2) (.cons (c_law21_said N 3 0 (ByteArray.mk #[107]) h3) (.cons ((by decide : (9:Int) ≠ 0)) (.cons (Le.ff h4) (.cons (Le.ff h5) (.cons (Le.ff h6) (.cons (Le.ff h7) (.cons (Le.ff h8) (.cons (Le.ff h9) (.cons (Le.ff h10) (.cons (Le.ff h11) .nil))))))))))))) (g_law21_BackTable_1 hc N hfin v3 167903234 167969281 3 0 0 v3 1 h)

theorem c_law21_BackTable (N : Nat) (x0 : Int) (x1 : Int) {r : Bool} (h : L_law21_BackTable N x0 x1 = some r) : Con Try.prog 20 [.int .i64 x0, .int .i64 x1] [] (d_law21_BackTable r) [] :=
  con_intro ok mix (fn := Try.f20) (body := bodyOf Try.f20) (by kernel_rfl) (by kernel_rfl) (by kernel_rfl) rfl (Nat.le_of_ble_eq_true (by kernel_rfl)) fun c h1 h2 h3 h4 hfin => g_law21_BackTable_0 ⟨h1, h2, h3, h4⟩ N hfin x0 x1 h
/-! ### wharfage/seg.text -/
def L_seg_text (N : Nat) (x0 : GSeg) (x1 : Int) : Option (ByteArray) :=
  (L_ip_Bytes N x0.Sport 2).bind fun v1 =>
  (L_ip_Bytes N x0.Dport 2).bind fun v2 =>
  if ((v1.size + v2.size : Nat) : Int) ≤ 9223372036854775807 then
  bif (x0.Proto == 6) then
    (L_ip_Bytes N x0.Seq 4).bind fun v3 =>
    if (((v1 ++ v2).size + v3.size : Nat) : Int) ≤ 9223372036854775807 then
    (L_ip_Bytes N x0.Ack 4).bind fun v4 =>
    if ((((v1 ++ v2) ++ v3).size + v4.size : Nat) : Int) ≤ 9223372036854775807 then
    (L_ip_Bytes N 80 1).bind fun v5 =>
    if (((((v1 ++ v2) ++ v3) ++ v4).size + v5.size : Nat) : Int) ≤ 9223372036854775807 then
    (L_ip_Bytes N x0.Flags 1).bind fun v6 =>
    if ((((((v1 ++ v2) ++ v3) ++ v4) ++ v5).size + v6.size : Nat) : Int) ≤ 9223372036854775807 then
    (L_ip_Bytes N 1024 2).bind fun v7 =>
    if (((((((v1 ++ v2) ++ v3) ++ v4) ++ v5) ++ v6).size + v7.size : Nat) : Int) ≤ 9223372036854775807 then
    via (((((((v1 ++ v2) ++ v3) ++ v4) ++ v5) ++ v6) ++ v7) : ByteArray) fun v8 =>
    (L_ip_Bytes N x1 2).bind fun v9 =>
    if ((v8.size + v9.size : Nat) : Int) ≤ 9223372036854775807 then
    (L_ip_Bytes N 0 2).bind fun v10 =>
    if (((v8 ++ v9).size + v10.size : Nat) : Int) ≤ 9223372036854775807 then
    if ((((v8 ++ v9) ++ v10).size + x0.Body.size : Nat) : Int) ≤ 9223372036854775807 then
    some (((v8 ++ v9) ++ v10) ++ x0.Body)
    else none
    else none
    else none
    else none
    else none
    else none
    else none
    else none
  else
    via ((IntKind.i64.wrap ((8 : Int) + (x0.Body.size : Int))) : Int) fun v3 =>
    (L_ip_Bytes N v3 2).bind fun v4 =>
    if (((v1 ++ v2).size + v4.size : Nat) : Int) ≤ 9223372036854775807 then
    (L_ip_Bytes N x1 2).bind fun v5 =>
    if ((((v1 ++ v2) ++ v4).size + v5.size : Nat) : Int) ≤ 9223372036854775807 then
    if (((((v1 ++ v2) ++ v4) ++ v5).size + x0.Body.size : Nat) : Int) ≤ 9223372036854775807 then
    some ((((v1 ++ v2) ++ v4) ++ v5) ++ x0.Body)
    else none
    else none
    else none
  else none
def d_seg_text (r : ByteArray) : D := .str r
theorem g_seg_text_0 (gx0 : Bool) {c : Cx} (hc : Is c Try.prog ty 61 72) (N : Nat) {r : ByteArray} (hfin : c.Fin [] (d_seg_text r) []) (x0 : GSeg) (x1 : Int) (h : L_seg_text N x0 x1 = some r) : c.Goes (items (bodyOf Try.f61) [.c 1]) ⟨[(0, .ip gx0 [.int .i64 x0.Proto, .int .i64 x0.Sport, .int .i64 x0.Dport, .int .i64 x0.Seq, .int .i64 x0.Ack, .int .i64 x0.Flags, .str x0.Body]), (1, .int .i64 x1)], []⟩ := by
  unfold L_seg_text at h
  obtain ⟨v1, h0, h⟩ := bind_of h
  obtain ⟨v2, h1, h⟩ := bind_of h
  obtain ⟨h2, h⟩ := chk h
  rcases brk h with ⟨h3, h⟩ | ⟨h3, h⟩
  · obtain ⟨v3, h4, h⟩ := bind_of h
    obtain ⟨h5, h⟩ := chk h
    obtain ⟨v4, h6, h⟩ := bind_of h
    obtain ⟨h7, h⟩ := chk h
    obtain ⟨v5, h8, h⟩ := bind_of h
    obtain ⟨h9, h⟩ := chk h
    obtain ⟨v6, h10, h⟩ := bind_of h
    obtain ⟨h11, h⟩ := chk h
    obtain ⟨v7, h12, h⟩ := bind_of h
    obtain ⟨h13, h⟩ := chk h
    obtain ⟨v8, h14, h⟩ := via_some h
    obtain ⟨v9, h15, h⟩ := bind_of h
    obtain ⟨h16, h⟩ := chk h
    obtain ⟨v10, h17, h⟩ := bind_of h
    obtain ⟨h18, h⟩ := chk h
    obtain ⟨h19, h⟩ := chk h
    have h := Option.some.inj h
    refine hc.ret hfin (fn := Try.f61) (by kernel_rfl) (orc := [(1, [(4, { r := d_ip_Bytes v1 }), (9, { r := d_ip_Bytes v2 })]), (2, [(4, { cv := some (.bool true) })]), (3, [(5, { r := d_ip_Bytes v3 }), (11, { r := d_ip_Bytes v4 }), (13, { r := d_ip_Bytes v5 }), (19, { r := d_ip_Bytes v6 }), (21, { r := d_ip_Bytes v7 }), (22, { cv := some (.str v8) }), (24, { r := d_ip_Bytes v9 }), (26, { r := d_ip_Bytes v10 })])]) (m := 10) (d := .str (((v8 ++ v9) ++ v10) ++ x0.Body)) (by kernel_rfl) (.cons (c_ip_Bytes N x0.Sport 2 h0) (.cons (c_ip_Bytes N x0.Dport 2 h1) (.cons (h2) (.cons (Le.tt h3) (.cons (c_ip_Bytes N x0.Seq 4 h4) (.cons (h5) (.cons (c_ip_Bytes N x0.Ack 4 h6) (.cons (h7) (.cons (c_ip_Bytes N 80 1 h8) (.cons (h9) (.cons (c_ip_Bytes N x0.Flags 1 h10) (.cons (h11) (.cons (c_ip_Bytes N 1024 2 h12) (.cons (h13) (.cons (Le.str h14) (.cons (c_ip_Bytes N x1 2 h15) (.cons (h16) (.cons (c_ip_Bytes N 0 2 h17) (.cons (h18) (.cons (h19) .nil)))))))))))))))))))) ?_ ?_
    · rw [← h]; exact Le.of rfl
    · rw [← h]; rfl
  · obtain ⟨v3, h4, h⟩ := via_some h
    obtain ⟨v4, h5, h⟩ := bind_of h
    obtain ⟨h6, h⟩ := chk h
    obtain ⟨v5, h7, h⟩ := bind_of h
    obtain ⟨h8, h⟩ := chk h
    obtain ⟨h9, h⟩ := chk h
    have h := Option.some.inj h
    refine hc.ret hfin (fn := Try.f61) (by kernel_rfl) (orc := [(1, [(4, { r := d_ip_Bytes v1 }), (9, { r := d_ip_Bytes v2 })]), (2, [(4, { cv := some (.bool false) })]), (4, [(6, { cv := some (.int .i64 v3) }), (7, { r := d_ip_Bytes v4 }), (10, { r := d_ip_Bytes v5 })])]) (m := 11) (d := .str ((((v1 ++ v2) ++ v4) ++ v5) ++ x0.Body)) (by kernel_rfl) (.cons (c_ip_Bytes N x0.Sport 2 h0) (.cons (c_ip_Bytes N x0.Dport 2 h1) (.cons (h2) (.cons (Le.ff h3) (.cons (Le.int (k := .i64) h4) (.cons (c_ip_Bytes N v3 2 h5) (.cons (h6) (.cons (c_ip_Bytes N x1 2 h7) (.cons (h8) (.cons (h9) .nil)))))))))) ?_ ?_
    · rw [← h]; exact Le.of rfl
    · rw [← h]; rfl

theorem c_seg_text (N : Nat) (gx0 : Bool) (x0 : GSeg) (x1 : Int) {r : ByteArray} (h : L_seg_text N x0 x1 = some r) : Con Try.prog 61 [.ip gx0 [.int .i64 x0.Proto, .int .i64 x0.Sport, .int .i64 x0.Dport, .int .i64 x0.Seq, .int .i64 x0.Ack, .int .i64 x0.Flags, .str x0.Body], .int .i64 x1] [] (d_seg_text r) [] :=
  con_intro ok mix (fn := Try.f61) (body := bodyOf Try.f61) (by kernel_rfl) (by kernel_rfl) (by kernel_rfl) rfl (Nat.le_of_ble_eq_true (by kernel_rfl)) fun c h1 h2 h3 h4 hfin => g_seg_text_0 gx0 ⟨h1, h2, h3, h4⟩ N hfin x0 x1 h
/-! ### wharfage/seg.Put -/
def L_seg_Put_3 (N : Nat) (b124_0 : Int) (b124_1 : Int) (b124_2 : Int) (b124_3 : Int) (b124_4 : Int) (b124_5 : Int) (b124_6 : ByteArray) (t9 : Int) : Option (ByteArray × Int) :=
  (L_seg_text N (GSeg.mk b124_0 b124_1 b124_2 b124_3 b124_4 b124_5 b124_6) t9).bind fun v1 =>
  some (v1, 0)
def L_seg_Put_2 (N : Nat) (b124_0 : Int) (b124_1 : Int) (b124_2 : Int) (b124_3 : Int) (b124_4 : Int) (b124_5 : Int) (b124_6 : ByteArray) (t9 : Int) (t33 : Bool) : Option (ByteArray × Int) :=
  bif t33 then
    L_seg_Put_3 N b124_0 b124_1 b124_2 b124_3 b124_4 b124_5 b124_6 65535
  else
    L_seg_Put_3 N b124_0 b124_1 b124_2 b124_3 b124_4 b124_5 b124_6 t9
def L_seg_Put_1 (N : Nat) (b124_0 : Int) (b124_1 : Int) (b124_2 : Int) (b124_3 : Int) (b124_4 : Int) (b124_5 : Int) (b124_6 : ByteArray) (b164_0 : Int) (b164_1 : Int) (t20 : Bool) : Option (ByteArray × Int) :=
  bif t20 then
    some (ByteArray.empty, 300)
  else
    (L_seg_text N (GSeg.mk b124_0 b124_1 b124_2 b124_3 b124_4 b124_5 b124_6) 0).bind fun v1 =>
    (L_seg_ends_sum N (Gseg_ends.mk b164_0 b164_1) b124_0 v1).bind fun v2 =>
    bif (b124_0 == 17) then
      L_seg_Put_2 N b124_0 b124_1 b124_2 b124_3 b124_4 b124_5 b124_6 (IntKind.i64.wrap ((65535 : Int) - v2)) ((IntKind.i64.wrap ((65535 : Int) - v2)) == 0)
    else
      L_seg_Put_2 N b124_0 b124_1 b124_2 b124_3 b124_4 b124_5 b124_6 (IntKind.i64.wrap ((65535 : Int) - v2)) false
def L_seg_Put (N : Nat) (x0 : GSeg) (x1 : Int) (x2 : Int) : Option (ByteArray × Int) :=
  (L_seg_May N x0).bind fun v1 =>
  bif (!v1) then
    L_seg_Put_1 N x0.Proto x0.Sport x0.Dport x0.Seq x0.Ack x0.Flags x0.Body x1 x2 true
  else
    (L_seg_ends_may N (Gseg_ends.mk x1 x2)).bind fun v2 =>
    L_seg_Put_1 N x0.Proto x0.Sport x0.Dport x0.Seq x0.Ack x0.Flags x0.Body x1 x2 (!v2)
def d_seg_Put (r : ByteArray × Int) : D := .tup [.str r.1, .int .i64 r.2]
theorem g_seg_Put_3 {c : Cx} (hc : Is c Try.prog ty 29 36) (N : Nat) {r : ByteArray × Int} (hfin : c.Fin [] (d_seg_Put r) []) (b124_0 : Int) (b124_1 : Int) (b124_2 : Int) (b124_3 : Int) (b124_4 : Int) (b124_5 : Int) (b124_6 : ByteArray) (t9 : Int) (h : L_seg_Put_3 N b124_0 b124_1 b124_2 b124_3 b124_4 b124_5 b124_6 t9 = some r) : c.Goes (items (bodyOf Try.f29) [.c 63]) ⟨[(3, .ptr 124 0), (9, .int .i64 t9)], [(124, some ⟨false, 0, [.int .i64 b124_0, .int .i64 b124_1, .int .i64 b124_2, .int .i64 b124_3, .int .i64 b124_4, .int .i64 b124_5, .str b124_6]⟩)]⟩ := by
  unfold L_seg_Put_3 at h
  obtain ⟨v1, h0, h⟩ := bind_of h
  have h := Option.some.inj h
  refine hc.ret hfin (fn := Try.f29) (by kernel_rfl) (orc := [(7, [(1, { r := d_seg_text v1 })])]) (m := 2) (d := .tup [.str v1, .int .i64 0]) (by kernel_rfl) (.cons (c_seg_text N false (GSeg.mk b124_0 b124_1 b124_2 b124_3 b124_4 b124_5 b124_6) t9 h0) .nil) ?_ ?_
  · rw [← h]; exact Le.of rfl
  · rw [← h]; rfl

theorem g_seg_Put_2 {c : Cx} (hc : Is c Try.prog ty 29 36) (N : Nat) {r : ByteArray × Int} (hfin : c.Fin [] (d_seg_Put r) []) (b124_0 : Int) (b124_1 : Int) (b124_2 : Int) (b124_3 : Int) (b124_4 : Int) (b124_5 : Int) (b124_6 : ByteArray) (t9 : Int) (t33 : Bool) (h : L_seg_Put_2 N b124_0 b124_1 b124_2 b124_3 b124_4 b124_5 b124_6 t9 t33 = some r) : c.Goes (items (bodyOf Try.f29) [.c 111, .c 63]) ⟨[(3, .ptr 124 0), (9, .int .i64 t9), (33, .bool t33)], [(124, some ⟨false, 0, [.int .i64 b124_0, .int .i64 b124_1, .int .i64 b124_2, .int .i64 b124_3, .int .i64 b124_4, .int .i64 b124_5, .str b124_6]⟩)]⟩ := by
  unfold L_seg_Put_2 at h
  rcases brk h with ⟨h0, k0⟩ | ⟨h0, k0⟩
  · subst h0
    replace h := k0
    exact hc.jump (orc := []) (m := 2) (kt := [3, 9]) (kh := [(124, 124)]) (by kernel_rfl) .nil (g_seg_Put_3 hc N hfin b124_0 b124_1 b124_2 b124_3 b124_4 b124_5 b124_6 65535 h)
  · subst h0
    replace h := k0
    exact hc.jump (orc := []) (m := 2) (kt := [3, 9]) (kh := [(124, 124)]) (by kernel_rfl) .nil (g_seg_Put_3 hc N hfin b124_0 b124_1 b124_2 b124_3 b124_4 b124_5 b124_6 t9 h)

theorem g_seg_Put_1 {c : Cx} (hc : Is c Try.prog ty 29 36) (N : Nat) {r : ByteArray × Int} (hfin : c.Fin [] (d_seg_Put r) []) (b124_0 : Int) (b124_1 : Int) (b124_2 : Int) (b124_3 : Int) (b124_4 : Int) (b124_5 : Int) (b124_6 : ByteArray) (b164_0 : Int) (b164_1 : Int) (t20 : Bool) (h : L_seg_Put_1 N b124_0 b124_1 b124_2 b124_3 b124_4 b124_5 b124_6 b164_0 b164_1 t20 = some r) : c.Goes (items (bodyOf Try.f29) [.c 27, .c 15]) ⟨[(3, .ptr 124 0), (8, .ptr 164 0), (20, .bool t20)], [(124, some ⟨false, 0, [.int .i64 b124_0, .int .i64 b124_1, .int .i64 b124_2, .int .i64 b124_3, .int .i64 b124_4, .int .i64 b124_5, .str b124_6]⟩), (164, some ⟨false, 0, [.int .i64 b164_0, .int .i64 b164_1]⟩)]⟩ := by
  unfold L_seg_Put_1 at h
  rcases brk h with ⟨h0, k0⟩ | ⟨h0, k0⟩
  · subst h0
    replace h := k0
    have h := Option.some.inj h
    refine hc.ret hfin (fn := Try.f29) (by kernel_rfl) (orc := []) (m := 3) (d := .tup [.str ByteArray.empty, .int .i64 300]) (by kernel_rfl) .nil ?_ ?_
    · rw [← h]; exact Le.of rfl
    · rw [← h]; rfl
  · subst h0
    replace h := k0
    obtain ⟨v1, h1, h⟩ := bind_of h
    obtain ⟨v2, h2, h⟩ := bind_of h
    rcases brk h with ⟨h3, h⟩ | ⟨h3, h⟩
    · exact hc.jump (orc := [(4, [(3, { r := d_seg_text v1 }), (4, { r := d_seg_ends_sum v2 })]), (5, [(3, { cv := some (.bool true) })])]) (m := 7) (kt := [3, 9, 33]) (kh := [(124, 124)]) (by kernel_rfl) (.cons (c_seg_text N false (GSeg.mk b124_0 b124_1 b124_2 b124_3 b124_4 b124_5 b124_6) 0 h1) (.cons (c_seg_ends_sum N (Gseg_ends.mk b164_0 b164_1) b124_0 v1 h2) (.cons (Le.tt h3) .nil))) (g_seg_Put_2 hc N hfin b124_0 b124_1 b124_2 b124_3 b124_4 b124_5 b124_6 (IntKind.i64.wrap ((65535 : Int) - v2)) ((IntKind.i64.wrap ((65535 : Int) - v2)) == 0) h)
    · exact hc.jump (orc := [(4, [(3, { r := d_seg_text v1 }), (4, { r := d_seg_ends_sum v2 })]), (5, [(3, { cv := some (.bool false) })])]) (m := 7) (kt := [3, 9, 33]) (kh := [(124, 124)]) (by kernel_rfl) (.cons (c_seg_text N false (GSeg.mk b124_0 b124_1 b124_2 b124_3 b124_4 b124_5 b124_6) 0 h1) (.cons (c_seg_ends_sum N (Gseg_ends.mk b164_0 b164_1) b124_0 v1 h2) (.cons (Le.ff h3) .nil))) (g_seg_Put_2 hc N hfin b124_0 b124_1 b124_2 b124_3 b124_4 b124_5 b124_6 (IntKind.i64.wrap ((65535 : Int) - v2)) false h)

theorem g_seg_Put_0 {c : Cx} (hc : Is c Try.prog ty 29 36) (N : Nat) {r : ByteArray × Int} (hfin : c.Fin [] (d_seg_Put r) []) (x0 : GSeg) (x1 : Int) (x2 : Int) (h : L_seg_Put N x0 x1 x2 = some r) : c.Goes (items (bodyOf Try.f29) [.c 1]) ⟨[(0, .agg [.int .i64 x0.Proto, .int .i64 x0.Sport, .int .i64 x0.Dport, .int .i64 x0.Seq, .int .i64 x0.Ack, .int .i64 x0.Flags, .str x0.Body]), (1, .int .i64 x1), (2, .int .i64 x2)], []⟩ := by
  unfold L_seg_Put at h
  obtain ⟨v1, h0, h⟩ := bind_of h
  rcases brk h with ⟨h1, h⟩ | ⟨h1, h⟩
  · exact hc.jump (orc := [(2, [(1, { r := d_seg_May v1 }), (3, { cv := some (.bool true) })])]) (m := 7) (kt := [3, 8, 20]) (kh := [(124, 124), (164, 164)]) (by kernel_rfl) (.cons (c_seg_May N x0 h0) (.cons (Le.tt h1) .nil)) (g_seg_Put_1 hc N hfin x0.Proto x0.Sport x0.Dport x0.Seq x0.Ack x0.Flags x0.Body x1 x2 true h)
  · obtain ⟨v2, h2, h⟩ := bind_of h
    exact hc.jump (orc := [(2, [(1, { r := d_seg_May v1 }), (3, { cv := some (.bool false) }), (5, { r := d_seg_ends_may v2 })])]) (m := 7) (kt := [3, 8, 20]) (kh := [(124, 124), (164, 164)]) (by kernel_rfl) (.cons (c_seg_May N x0 h0) (.cons (Le.ff h1) (.cons (c_seg_ends_may N (Gseg_ends.mk x1 x2) h2) .nil))) (g_seg_Put_1 hc N hfin x0.Proto x0.Sport x0.Dport x0.Seq x0.Ack x0.Flags x0.Body x1 x2 (!v2) h)

theorem c_seg_Put (N : Nat) (x0 : GSeg) (x1 : Int) (x2 : Int) {r : ByteArray × Int} (h : L_seg_Put N x0 x1 x2 = some r) : Con Try.prog 29 [.agg [.int .i64 x0.Proto, .int .i64 x0.Sport, .int .i64 x0.Dport, .int .i64 x0.Seq, .int .i64 x0.Ack, .int .i64 x0.Flags, .str x0.Body], .int .i64 x1, .int .i64 x2] [] (d_seg_Put r) [] :=
  con_intro ok mix (fn := Try.f29) (body := bodyOf Try.f29) (by kernel_rfl) (by kernel_rfl) (by kernel_rfl) rfl (Nat.le_of_ble_eq_true (by kernel_rfl)) fun c h1 h2 h3 h4 hfin => g_seg_Put_0 ⟨h1, h2, h3, h4⟩ N hfin x0 x1 x2 h
/-! ### wharfage/flow.May -/
def L_flow_May_1 (N : Nat) (t2 : Bool) : Option (Bool) :=
  some t2
def L_flow_May (N : Nat) (x0 : GFlow) : Option (Bool) :=
  (L_ip_In N x0.Src 32).bind fun v1 =>
  bif v1 then
    (L_ip_In N x0.Dst 32).bind fun v2 =>
    bif v2 then
      (L_flow_handled N x0.Proto).bind fun v3 =>
      bif v3 then
        (L_ip_In N x0.Sport 16).bind fun v4 =>
        bif v4 then
          (L_ip_In N x0.Dport 16).bind fun v5 =>
          L_flow_May_1 N v5
        else
          L_flow_May_1 N false
      else
        L_flow_May_1 N false
    else
      L_flow_May_1 N false
  else
    L_flow_May_1 N false
def d_flow_May (r : Bool) : D := .bool r
theorem g_flow_May_1 {c : Cx} (hc : Is c Try.prog ty 40 26) (N : Nat) {r : Bool} (hfin : c.Fin [] (d_flow_May r) []) (t2 : Bool) (h : L_flow_May_1 N t2 = some r) : c.Goes (items (bodyOf Try.f40) [.c 7]) ⟨[(2, .bool t2)], []⟩ := by
  unfold L_flow_May_1 at h
  have h := Option.some.inj h
  refine hc.ret hfin (fn := Try.f40) (by kernel_rfl) (orc := []) (m := 0) (d := .bool t2) (by kernel_rfl) .nil ?_ ?_
  · rw [← h]; exact Le.of rfl
  · rw [← h]; rfl

theorem g_flow_May_0 {c : Cx} (hc : Is c Try.prog ty 40 26) (N : Nat) {r : Bool} (hfin : c.Fin [] (d_flow_May r) []) (x0 : GFlow) (h : L_flow_May N x0 = some r) : c.Goes (items (bodyOf Try.f40) [.c 1]) ⟨[(0, .agg [.int .i64 x0.Src, .int .i64 x0.Dst, .int .i64 x0.Proto, .int .i64 x0.Sport, .int .i64 x0.Dport])], []⟩ := by
  unfold L_flow_May at h
  obtain ⟨v1, h0, h⟩ := bind_of h
  rcases brk h with ⟨h1, h⟩ | ⟨h1, h⟩
  · obtain ⟨v2, h2, h⟩ := bind_of h
    rcases brk h with ⟨h3, h⟩ | ⟨h3, h⟩
    · obtain ⟨v3, h4, h⟩ := bind_of h
      rcases brk h with ⟨h5, h⟩ | ⟨h5, h⟩
      · obtain ⟨v4, h6, h⟩ := bind_of h
        rcases brk h with ⟨h7, h⟩ | ⟨h7, h⟩
        · obtain ⟨v5, h8, h⟩ := bind_of h
          exact hc.jump (orc := [(1, [(2, { r := d_ip_In v1 }), (3, { cv := some (.bool true) }), (6, { r := d_ip_In v2 }), (8, { cv := some (.bool true) }), (11, { r := d_flow_handled v3 }), (13, { cv := some (.bool true) }), (16, { r := d_ip_In v4 }), (18, { cv := some (.bool true) }), (21, { r := d_ip_In v5 })])]) (m := 4) (kt := [2]) (kh := []) (by kernel_rfl) (.cons (c_ip_In N x0.Src 32 h0) (.cons (Le.tt h1) (.cons (c_ip_In N x0.Dst 32 h2) (.cons (Le.tt h3) (.cons (c_flow_handled N x0.Proto h4) (.cons (Le.tt h5) (.cons (c_ip_In N x0.Sport 16 h6) (.cons (Le.tt h7) (.cons (c_ip_In N x0.Dport 16 h8) .nil))))))))) (g_flow_May_1 hc N hfin v5 h)
        · exact hc.jump (orc := [(1, [(2, { r := d_ip_In v1 }), (3, { cv := some (.bool true) }), (6, { r := d_ip_In v2 }), (8, { cv := some (.bool true) }), (11, { r := d_flow_handled v3 }), (13, { cv := some (.bool true) }), (16, { r := d_ip_In v4 }), (18, { cv := some (.bool false) })])]) (m := 4) (kt := [2]) (kh := []) (by kernel_rfl) (.cons (c_ip_In N x0.Src 32 h0) (.cons (Le.tt h1) (.cons (c_ip_In N x0.Dst 32 h2) (.cons (Le.tt h3) (.cons (c_flow_handled N x0.Proto h4) (.cons (Le.tt h5) (.cons (c_ip_In N x0.Sport 16 h6) (.cons (Le.ff h7) .nil)))))))) (g_flow_May_1 hc N hfin false h)
      · exact hc.jump (orc := [(1, [(2, { r := d_ip_In v1 }), (3, { cv := some (.bool true) }), (6, { r := d_ip_In v2 }), (8, { cv := some (.bool true) }), (11, { r := d_flow_handled v3 }), (13, { cv := some (.bool false) })])]) (m := 4) (kt := [2]) (kh := []) (by kernel_rfl) (.cons (c_ip_In N x0.Src 32 h0) (.cons (Le.tt h1) (.cons (c_ip_In N x0.Dst 32 h2) (.cons (Le.tt h3) (.cons (c_flow_handled N x0.Proto h4) (.cons (Le.ff h5) .nil)))))) (g_flow_May_1 hc N hfin false h)
    · exact hc.jump (orc := [(1, [(2, { r := d_ip_In v1 }), (3, { cv := some (.bool true) }), (6, { r := d_ip_In v2 }), (8, { cv := some (.bool false) })])]) (m := 4) (kt := [2]) (kh := []) (by kernel_rfl) (.cons (c_ip_In N x0.Src 32 h0) (.cons (Le.tt h1) (.cons (c_ip_In N x0.Dst 32 h2) (.cons (Le.ff h3) .nil)))) (g_flow_May_1 hc N hfin false h)
  · exact hc.jump (orc := [(1, [(2, { r := d_ip_In v1 }), (3, { cv := some (.bool false) })])]) (m := 4) (kt := [2]) (kh := []) (by kernel_rfl) (.cons (c_ip_In N x0.Src 32 h0) (.cons (Le.ff h1) .nil)) (g_flow_May_1 hc N hfin false h)

theorem c_flow_May (N : Nat) (x0 : GFlow) {r : Bool} (h : L_flow_May N x0 = some r) : Con Try.prog 40 [.agg [.int .i64 x0.Src, .int .i64 x0.Dst, .int .i64 x0.Proto, .int .i64 x0.Sport, .int .i64 x0.Dport]] [] (d_flow_May r) [] :=
  con_intro ok mix (fn := Try.f40) (body := bodyOf Try.f40) (by kernel_rfl) (by kernel_rfl) (by kernel_rfl) rfl (Nat.le_of_ble_eq_true (by kernel_rfl)) fun c h1 h2 h3 h4 hfin => g_flow_May_0 ⟨h1, h2, h3, h4⟩ N hfin x0 h
/-! ### wharfage/flow.Packet -/
def L_flow_Packet_1 (N : Nat) (b124_0 : Int) (b124_1 : Int) (b124_2 : Int) (b124_3 : Int) (b124_4 : Int) (t8 : ByteArray) (t33 : Bool) : Option (ByteArray × Int) :=
  bif t33 then
    some (ByteArray.empty, 400)
  else
    (L_ip_Put N (GIp.mk b124_0 b124_1 b124_2 64 0 t8)).bind fun v1 =>
    some (v1.1, v1.2)
def L_flow_Packet (N : Nat) (x0 : GFlow) (x1 : Int) (x2 : ByteArray) : Option (ByteArray × Int) :=
  (L_seg_Put N (GSeg.mk x0.Proto x0.Sport x0.Dport 0 0 x1 x2) x0.Src x0.Dst).bind fun v1 =>
  bif (v1.2 != 0) then
    L_flow_Packet_1 N x0.Src x0.Dst x0.Proto x0.Sport x0.Dport v1.1 true
  else
    (L_flow_May N x0).bind fun v2 =>
    L_flow_Packet_1 N x0.Src x0.Dst x0.Proto x0.Sport x0.Dport v1.1 (!v2)
def d_flow_Packet (r : ByteArray × Int) : D := .tup [.str r.1, .int .i64 r.2]
theorem g_flow_Packet_1 {c : Cx} (hc : Is c Try.prog ty 36 45) (N : Nat) {r : ByteArray × Int} (hfin : c.Fin [] (d_flow_Packet r) []) (b124_0 : Int) (b124_1 : Int) (b124_2 : Int) (b124_3 : Int) (b124_4 : Int) (t8 : ByteArray) (t33 : Bool) (h : L_flow_Packet_1 N b124_0 b124_1 b124_2 b124_3 b124_4 t8 t33 = some r) : c.Goes (items (bodyOf Try.f36) [.c 27, .c 15]) ⟨[(3, .ptr 124 0), (8, .str t8), (33, .bool t33)], [(124, some ⟨false, 0, [.int .i64 b124_0, .int .i64 b124_1, .int .i64 b124_2, .int .i64 b124_3, .int .i64 b124_4]⟩)]⟩ := by
  unfold L_flow_Packet_1 at h
  rcases brk h with ⟨h0, k0⟩ | ⟨h0, k0⟩
  · subst h0
    replace h := k0
    have h := Option.some.inj h
    refine hc.ret hfin (fn := Try.f36) (by kernel_rfl) (orc := []) (m := 3) (d := .tup [.str ByteArray.empty, .int .i64 400]) (by kernel_rfl) .nil ?_ ?_
    · rw [← h]; exact Le.of rfl
    · rw [← h]; rfl
  · subst h0
    replace h := k0
    obtain ⟨v1, h1, h⟩ := bind_of h
    have h := Option.some.inj h
    refine hc.ret hfin (fn := Try.f36) (by kernel_rfl) (orc := [(4, [(8, { r := d_ip_Put v1 })])]) (m := 4) (d := .tup [.str v1.1, .int .i64 v1.2]) (by kernel_rfl) (.cons (c_ip_Put N (GIp.mk b124_0 b124_1 b124_2 64 0 t8) h1) .nil) ?_ ?_
    · rw [← h]; exact Le.of rfl
    · rw [← h]; rfl

theorem g_flow_Packet_0 {c : Cx} (hc : Is c Try.prog ty 36 45) (N : Nat) {r : ByteArray × Int} (hfin : c.Fin [] (d_flow_Packet r) []) (x0 : GFlow) (x1 : Int) (x2 : ByteArray) (h : L_flow_Packet N x0 x1 x2 = some r) : c.Goes (items (bodyOf Try.f36) [.c 1]) ⟨[(0, .agg [.int .i64 x0.Src, .int .i64 x0.Dst, .int .i64 x0.Proto, .int .i64 x0.Sport, .int .i64 x0.Dport]), (1, .int .i64 x1), (2, .str x2)], []⟩ := by
  unfold L_flow_Packet at h
  obtain ⟨v1, h0, h⟩ := bind_of h
  rcases brk h with ⟨h1, h⟩ | ⟨h1, h⟩
  · exact hc.jump (orc := [(1, [(13, { r := d_seg_Put v1 })]), (2, [(2, { cv := some (.bool true) })])]) (m := 7) (kt := [3, 8, 33]) (kh := [(124, 124)]) (by kernel_rfl) (.cons (c_seg_Put N (GSeg.mk x0.Proto x0.Sport x0.Dport 0 0 x1 x2) x0.Src x0.Dst h0) (.cons (Le.tt h1) .nil)) (g_flow_Packet_1 hc N hfin x0.Src x0.Dst x0.Proto x0.Sport x0.Dport v1.1 true h)
  · obtain ⟨v2, h2, h⟩ := bind_of h
    exact hc.jump (orc := [(1, [(13, { r := d_seg_Put v1 })]), (2, [(2, { cv := some (.bool false) }), (4, { r := d_flow_May v2 })])]) (m := 7) (kt := [3, 8, 33]) (kh := [(124, 124)]) (by kernel_rfl) (.cons (c_seg_Put N (GSeg.mk x0.Proto x0.Sport x0.Dport 0 0 x1 x2) x0.Src x0.Dst h0) (.cons (Le.ff h1) (.cons (c_flow_May N x0 h2) .nil))) (g_flow_Packet_1 hc N hfin x0.Src x0.Dst x0.Proto x0.Sport x0.Dport v1.1 (!v2) h)

theorem c_flow_Packet (N : Nat) (x0 : GFlow) (x1 : Int) (x2 : ByteArray) {r : ByteArray × Int} (h : L_flow_Packet N x0 x1 x2 = some r) : Con Try.prog 36 [.agg [.int .i64 x0.Src, .int .i64 x0.Dst, .int .i64 x0.Proto, .int .i64 x0.Sport, .int .i64 x0.Dport], .int .i64 x1, .str x2] [] (d_flow_Packet r) [] :=
  con_intro ok mix (fn := Try.f36) (body := bodyOf Try.f36) (by kernel_rfl) (by kernel_rfl) (by kernel_rfl) rfl (Nat.le_of_ble_eq_true (by kernel_rfl)) fun c h1 h2 h3 h4 hfin => g_flow_Packet_0 ⟨h1, h2, h3, h4⟩ N hfin x0 x1 x2 h

end Go.Proofs.Ytobhmonmeocfmaa.Lf
