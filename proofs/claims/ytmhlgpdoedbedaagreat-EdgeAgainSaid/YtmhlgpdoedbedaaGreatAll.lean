/- What functions compute, and that they do. -/
import Derived.Test.YtmhlgpdoedbedaaGreatAll1
namespace Go.Proofs.YtmhlgpdoedbedaaGreat.Lf
set_option linter.unusedVariables false
set_option linter.unusedSimpArgs false
set_option maxRecDepth 20000
open Go Go.RowKit Go.Proofs Go.Proofs.YtmhlgpdoedbedaaGreat.Sv
/-! ### wharfage/wharfageref1.Pop -/
def L_ref1_Pop_2 (N : Nat) (b116_0 : Int) (b116_1 : Int) (b116_2 : Int) (b116_3 : Int) (b116_4 : Int) (b116_5 : ByteArray) (b164_0 : Int) (b164_1 : Int) (b164_2 : Int) (b164_3 : Int) (b164_4 : Int) (b164_5 : ByteArray) (t59 : Bool) : Option (GOuter × Int) :=
  bif t59 then
    some ((GOuter.mk 0 0 0 0 0 ByteArray.empty), 600)
  else
    some ((GOuter.mk b164_0 b164_1 b164_2 b164_3 b164_4 b164_5), 0)
def L_ref1_Pop_1 (N : Nat) (t0 : ByteArray) (b116_0 : Int) (b116_1 : Int) (b116_2 : Int) (b116_3 : Int) (b116_4 : Int) (b116_5 : ByteArray) (b132_0 : Int) (b132_1 : Int) (b132_2 : Int) (b132_3 : Int) (b132_4 : Int) (b132_5 : ByteArray) (t28 : Bool) : Option (GOuter × Int) :=
  bif t28 then
    some ((GOuter.mk 0 0 0 0 0 ByteArray.empty), 600)
  else
    if 0 ≤ (9 : Int) ∧ (9 : Int) < (b132_5.size : Int) then
    if 0 ≤ (10 : Int) ∧ (10 : Int) < (b132_5.size : Int) then
    if 0 ≤ (11 : Int) ∧ (11 : Int) < (b132_5.size : Int) then
    if 0 ≤ (b132_5.size : Int) ∧ (b132_5.size : Int) ≤ (b132_5.size : Int) ∧ 0 ≤ (16 : Int) ∧ (16 : Int) ≤ (b132_5.size : Int) then
    (L_ref1_Push N (GOuter.mk b132_0 b132_1 (IntKind.i64.wrap (bt b132_5 9)) (IntKind.i64.wrap (bt b132_5 10)) (IntKind.i64.wrap (bt b132_5 11)) (b132_5.extract 16 b132_5.size))).bind fun v1 =>
    bif (v1.2 != 0) then
      L_ref1_Pop_2 N b116_0 b116_1 b116_2 b116_3 b116_4 b116_5 b132_0 b132_1 (IntKind.i64.wrap (bt b132_5 9)) (IntKind.i64.wrap (bt b132_5 10)) (IntKind.i64.wrap (bt b132_5 11)) (b132_5.extract 16 b132_5.size) true
    else
      L_ref1_Pop_2 N b116_0 b116_1 b116_2 b116_3 b116_4 b116_5 b132_0 b132_1 (IntKind.i64.wrap (bt b132_5 9)) (IntKind.i64.wrap (bt b132_5 10)) (IntKind.i64.wrap (bt b132_5 11)) (b132_5.extract 16 b132_5.size) (!(v1.1.toList == t0.toList))
    else none
    else none
    else none
    else none
def L_ref1_Pop (N : Nat) (x0 : ByteArray) : Option (GOuter × Int) :=
  (L_ref1_GetIp N x0).bind fun v1 =>
  bif (v1.2.2 != 0) then
    L_ref1_Pop_1 N x0 0 0 0 0 0 ByteArray.empty v1.1.Src v1.1.Dst v1.1.Proto v1.1.Ttl v1.1.Id v1.1.Body true
  else
    bif (v1.2.1 != 0) then
      L_ref1_Pop_1 N x0 0 0 0 0 0 ByteArray.empty v1.1.Src v1.1.Dst v1.1.Proto v1.1.Ttl v1.1.Id v1.1.Body true
    else
      L_ref1_Pop_1 N x0 0 0 0 0 0 ByteArray.empty v1.1.Src v1.1.Dst v1.1.Proto v1.1.Ttl v1.1.Id v1.1.Body (decide ((v1.1.Body.size : Int) < 16))
def d_ref1_Pop (r : GOuter × Int) : D := .tup [.agg [.int .i64 r.1.Src, .int .i64 r.1.Dst, .int .i64 r.1.Tier, .int .i64 r.1.Marker, .int .i64 r.1.Origin, .str r.1.Body], .int .i64 r.2]
theorem g_ref1_Pop_2 {c : Cx} (hc : Is c Tryz.prog ty 33 62) (N : Nat) {r : GOuter × Int} (hfin : c.Fin [] (d_ref1_Pop r) []) (b116_0 : Int) (b116_1 : Int) (b116_2 : Int) (b116_3 : Int) (b116_4 : Int) (b116_5 : ByteArray) (b164_0 : Int) (b164_1 : Int) (b164_2 : Int) (b164_3 : Int) (b164_4 : Int) (b164_5 : ByteArray) (t59 : Bool) (h : L_ref1_Pop_2 N b116_0 b116_1 b116_2 b116_3 b116_4 b116_5 b164_0 b164_1 b164_2 b164_3 b164_4 b164_5 t59 = some r) : c.Goes (items (bodyOf Tryz.f33) [.c 447, .c 255]) ⟨[(2, .ptr 116 0), (8, .ptr 164 0), (59, .bool t59)], [(116, some ⟨false, 0, [.int .i64 b116_0, .int .i64 b116_1, .int .i64 b116_2, .int .i64 b116_3, .int .i64 b116_4, .str b116_5]⟩), (164, some ⟨false, 0, [.int .i64 b164_0, .int .i64 b164_1, .int .i64 b164_2, .int .i64 b164_3, .int .i64 b164_4, .str b164_5]⟩)]⟩ := by
  unfold L_ref1_Pop_2 at h
  rcases brk h with ⟨h0, k0⟩ | ⟨h0, k0⟩
  · subst h0
    replace h := k0
    have h := Option.some.inj h
    refine hc.ret hfin (fn := Tryz.f33) (by kernel_rfl) (orc := []) (m := 3) (d := .tup [.agg [.int .i64 0, .int .i64 0, .int .i64 0, .int .i64 0, .int .i64 0, .str ByteArray.empty], .int .i64 600]) (by kernel_rfl) .nil ?_ ?_
    · rw [← h]; exact Le.of rfl
    · rw [← h]; rfl
  · subst h0
    replace h := k0
    have h := Option.some.inj h
    refine hc.ret hfin (fn := Tryz.f33) (by kernel_rfl) (orc := []) (m := 4) (d := .tup [.agg [.int .i64 b164_0, .int .i64 b164_1, .int .i64 b164_2, .int .i64 b164_3, .int .i64 b164_4, .str b164_5], .int .i64 0]) (by kernel_rfl) .nil ?_ ?_
    · rw [← h]; exact Le.of rfl
    · rw [← h]; rfl

theorem g_ref1_Pop_1 {c : Cx} (hc : Is c Tryz.prog ty 33 62) (N : Nat) {r : GOuter × Int} (hfin : c.Fin [] (d_ref1_Pop r) []) (t0 : ByteArray) (b116_0 : Int) (b116_1 : Int) (b116_2 : Int) (b116_3 : Int) (b116_4 : Int) (b116_5 : ByteArray) (b132_0 : Int) (b132_1 : Int) (b132_2 : Int) (b132_3 : Int) (b132_4 : Int) (b132_5 : ByteArray) (t28 : Bool) (h : L_ref1_Pop_1 N t0 b116_0 b116_1 b116_2 b116_3 b116_4 b116_5 b132_0 b132_1 b132_2 b132_3 b132_4 b132_5 t28 = some r) : c.Goes (items (bodyOf Tryz.f33) [.c 27, .c 15]) ⟨[(0, .str t0), (2, .ptr 116 0), (4, .ptr 132 0), (28, .bool t28)], [(116, some ⟨false, 0, [.int .i64 b116_0, .int .i64 b116_1, .int .i64 b116_2, .int .i64 b116_3, .int .i64 b116_4, .str b116_5]⟩), (132, some ⟨false, 0, [.int .i64 b132_0, .int .i64 b132_1, .int .i64 b132_2, .int .i64 b132_3, .int .i64 b132_4, .str b132_5]⟩)]⟩ := by
  unfold L_ref1_Pop_1 at h
  rcases brk h with ⟨h0, k0⟩ | ⟨h0, k0⟩
  · subst h0
    replace h := k0
    have h := Option.some.inj h
    refine hc.ret hfin (fn := Tryz.f33) (by kernel_rfl) (orc := []) (m := 3) (d := .tup [.agg [.int .i64 0, .int .i64 0, .int .i64 0, .int .i64 0, .int .i64 0, .str ByteArray.empty], .int .i64 600]) (by kernel_rfl) .nil ?_ ?_
    · rw [← h]; exact Le.of rfl
    · rw [← h]; rfl
  · subst h0
    replace h := k0
    obtain ⟨h1, h⟩ := chk h
    obtain ⟨h2, h⟩ := chk h
    obtain ⟨h3, h⟩ := chk h
    obtain ⟨h4, h⟩ := chk h
    obtain ⟨v1, h5, h⟩ := bind_of h
    rcases brk h with ⟨h6, h⟩ | ⟨h6, h⟩
    · exact hc.jump (orc := [(6, [(1, { r := d_ref1_Push v1 })]), (7, [(2, { cv := some (.bool true) })])]) (m := 11) (kt := [2, 8, 59]) (kh := [(116, 116), (164, 164)]) (by kernel_rfl) (.cons (h1) (.cons (h2) (.cons (h3) (.cons (h4) (.cons (c_ref1_Push N (GOuter.mk b132_0 b132_1 (IntKind.i64.wrap (bt b132_5 9)) (IntKind.i64.wrap (bt b132_5 10)) (IntKind.i64.wrap (bt b132_5 11)) (b132_5.extract 16 b132_5.size)) h5) (.cons (Le.tt h6) .nil)))))) (g_ref1_Pop_2 hc N hfin b116_0 b116_1 b116_2 b116_3 b116_4 b116_5 b132_0 b132_1 (IntKind.i64.wrap (bt b132_5 9)) (IntKind.i64.wrap (bt b132_5 10)) (IntKind.i64.wrap (bt b132_5 11)) (b132_5.extract 16 b132_5.size) true h)
    · exact hc.jump (orc := [(6, [(1, { r := d_ref1_Push v1 })]), (7, [(2, { cv := some (.bool false) })])]) (m := 11) (kt := [2, 8, 59]) (kh := [(116, 116), (164, 164)]) (by kernel_rfl) (.cons (h1) (.cons (h2) (.cons (h3) (.cons (h4) (.cons (c_ref1_Push N (GOuter.mk b132_0 b132_1 (IntKind.i64.wrap (bt b132_5 9)) (IntKind.i64.wrap (bt b132_5 10)) (IntKind.i64.wrap (bt b132_5 11)) (b132_5.extract 16 b132_5.size)) h5) (.cons (Le.ff h6) .nil)))))) (g_ref1_Pop_2 hc N hfin b116_0 b116_1 b116_2 b116_3 b116_4 b116_5 b132_0 b132_1 (IntKind.i64.wrap (bt b132_5 9)) (IntKind.i64.wrap (bt b132_5 10)) (IntKind.i64.wrap (bt b132_5 11)) (b132_5.extract 16 b132_5.size) (!(v1.1.toList == t0.toList)) h)

theorem g_ref1_Pop_0 {c : Cx} (hc : Is c Tryz.prog ty 33 62) (N : Nat) {r : GOuter × Int} (hfin : c.Fin [] (d_ref1_Pop r) []) (x0 : ByteArray) (h : L_ref1_Pop N x0 = some r) : c.Goes (items (bodyOf Tryz.f33) [.c 1]) ⟨[(0, .str x0)], []⟩ := by
  unfold L_ref1_Pop at h
  obtain ⟨v1, h0, h⟩ := bind_of h
  rcases brk h with ⟨h1, h⟩ | ⟨h1, h⟩
  · exact hc.jump (orc := [(1, [(1, { r := d_ref1_GetIp v1 })]), (2, [(2, { cv := some (.bool true) })])]) (m := 7) (kt := [0, 2, 4, 28]) (kh := [(116, 116), (132, 132)]) (by kernel_rfl) (.cons (c_ref1_GetIp N x0 h0) (.cons (Le.tt h1) .nil)) (g_ref1_Pop_1 hc N hfin x0 0 0 0 0 0 ByteArray.empty v1.1.Src v1.1.Dst v1.1.Proto v1.1.Ttl v1.1.Id v1.1.Body true h)
  · rcases brk h with ⟨h2, h⟩ | ⟨h2, h⟩
    · exact hc.jump (orc := [(1, [(1, { r := d_ref1_GetIp v1 })]), (2, [(2, { cv := some (.bool false) }), (6, { cv := some (.bool true) })])]) (m := 7) (kt := [0, 2, 4, 28]) (kh := [(116, 116), (132, 132)]) (by kernel_rfl) (.cons (c_ref1_GetIp N x0 h0) (.cons (Le.ff h1) (.cons (Le.tt h2) .nil))) (g_ref1_Pop_1 hc N hfin x0 0 0 0 0 0 ByteArray.empty v1.1.Src v1.1.Dst v1.1.Proto v1.1.Ttl v1.1.Id v1.1.Body true h)
    · exact hc.jump (orc := [(1, [(1, { r := d_ref1_GetIp v1 })]), (2, [(2, { cv := some (.bool false) }), (6, { cv := some (.bool false) })])]) (m := 7) (kt := [0, 2, 4, 28]) (kh := [(116, 116), (132, 132)]) (by kernel_rfl) (.cons (c_ref1_GetIp N x0 h0) (.cons (Le.ff h1) (.cons (Le.ff h2) .nil))) (g_ref1_Pop_1 hc N hfin x0 0 0 0 0 0 ByteArray.empty v1.1.Src v1.1.Dst v1.1.Proto v1.1.Ttl v1.1.Id v1.1.Body (decide ((v1.1.Body.size : Int) < 16)) h)

theorem c_ref1_Pop (N : Nat) (x0 : ByteArray) {r : GOuter × Int} (h : L_ref1_Pop N x0 = some r) : Con Tryz.prog 33 [.str x0] [] (d_ref1_Pop r) [] :=
  con_intro ok mix (fn := Tryz.f33) (body := bodyOf Tryz.f33) (by kernel_rfl) (by kernel_rfl) (by kernel_rfl) rfl (Nat.le_of_ble_eq_true (by kernel_rfl)) fun c h1 h2 h3 h4 hfin => g_ref1_Pop_0 ⟨h1, h2, h3, h4⟩ N hfin x0 h
/-! ### wharfage/wharfagelaw0.Num -/
def L_law0_Num (N : Nat) (x0 : Int) : Option (Int) :=
  some x0
def d_law0_Num (r : Int) : D := .int .i64 r
theorem g_law0_Num_0 {c : Cx} (hc : Is c Tryz.prog ty 25 4) (N : Nat) {r : Int} (hfin : c.Fin [] (d_law0_Num r) []) (x0 : Int) (h : L_law0_Num N x0 = some r) : c.Goes (items (bodyOf Tryz.f25) [.c 1]) ⟨[(0, .int .i64 x0)], []⟩ := by
  unfold L_law0_Num at h
  have h := Option.some.inj h
  refine hc.ret hfin (fn := Tryz.f25) (by kernel_rfl) (orc := []) (m := 4) (d := .int .i64 x0) (by kernel_rfl) .nil ?_ ?_
  · rw [← h]; exact Le.of rfl
  · rw [← h]; rfl

theorem c_law0_Num (N : Nat) (x0 : Int) {r : Int} (h : L_law0_Num N x0 = some r) : Con Tryz.prog 25 [.int .i64 x0] [] (d_law0_Num r) [] :=
  con_intro ok mix (fn := Tryz.f25) (body := bodyOf Tryz.f25) (by kernel_rfl) (by kernel_rfl) (by kernel_rfl) rfl (Nat.le_of_ble_eq_true (by kernel_rfl)) fun c h1 h2 h3 h4 hfin => g_law0_Num_0 ⟨h1, h2, h3, h4⟩ N hfin x0 h
/-! ### wharfage/wharfagelaw0.SameBacks -/
def L_law0_SameBacks_1 (N : Nat) : Nat → (List GBack) → (List GBack) → Int → Option (Bool)
  | 0, _, _, _ => none
  | fuel + 1, t0, t1, t5 =>
    bif (decide (t5 < (t0.length : Int))) then
      if 0 ≤ t5 ∧ t5 < ((t0.length : Nat) : Int) then
      if 0 ≤ t5 ∧ t5 < ((t1.length : Nat) : Int) then
      bif (!(((t0.getD t5.toNat default).Weight == (t1.getD t5.toNat default).Weight) && (((t0.getD t5.toNat default).Drain == (t1.getD t5.toNat default).Drain) && true))) then
        some false
      else
        L_law0_SameBacks_1 N fuel t0 t1 (IntKind.i64.wrap (t5 + 1))
      else none
      else none
    else
      some true
def L_law0_SameBacks (N : Nat) (x0 : (List GBack)) (x1 : (List GBack)) : Option (Bool) :=
  bif ((x0.length : Int) != (x1.length : Int)) then
    some false
  else
    L_law0_SameBacks_1 N N x0 x1 0
def d_law0_SameBacks (r : Bool) : D := .bool r
theorem g_law0_SameBacks_1 (gx0 : Bool) (gx1 : Bool) {c : Cx} (hc : Is c Tryz.prog ty 145 26) (N : Nat) {r : Bool} (hfin : c.Fin [] (d_law0_SameBacks r) []) : ∀ (fuel : Nat) (t0 : (List GBack)) (t1 : (List GBack)) (t5 : Int), L_law0_SameBacks_1 N fuel t0 t1 t5 = some r → c.Goes (items (bodyOf Tryz.f145) [.c 75, .l 75, .b 0, .c 15]) ⟨[(0, .sl gx0 (eL eBack t0) t0.length t0.length), (1, .sl gx1 (eL eBack t1) t1.length t1.length), (5, .int .i64 t5)], []⟩ := by
  intro fuel
  induction fuel with
  | zero => intro t0 t1 t5 h; simp [L_law0_SameBacks_1] at h
  | succ fuel ih =>
    intro t0 t1 t5 h
    unfold L_law0_SameBacks_1 at h
    rcases brk h with ⟨h0, h⟩ | ⟨h0, h⟩
    · obtain ⟨h1, h⟩ := chk h
      obtain ⟨h2, h⟩ := chk h
      rcases brk h with ⟨h3, h⟩ | ⟨h3, h⟩
      · have h := Option.some.inj h
        refine hc.ret hfin (fn := Tryz.f145) (by kernel_rfl) (orc := [(4, [(3, { cv := some (.bool true) })]), (6, [(2, { cv := some (.ip gx0 [.int .i64 ((t0.getD t5.toNat default).Weight), .bool ((t0.getD t5.toNat default).Drain)]) }), (6, { cv := some (.ip gx1 [.int .i64 ((t1.getD t5.toNat default).Weight), .bool ((t1.getD t5.toNat default).Drain)]) }), (8, { cv := some (.bool true) })])]) (m := 12) (d := .bool false) (by kernel_rfl) (.cons (Le.tt h0) (.cons (h1) (.cons (Le.iptl (g := gx0) (eL_at (xs := t0) eBack_len (ixl h1))) (.cons (h2) (.cons (Le.iptl (g := gx1) (eL_at (xs := t1) eBack_len (ixl h2))) (.cons (Le.tt h3) .nil)))))) ?_ ?_
        · rw [← h]; exact Le.of rfl
        · rw [← h]; rfl
      · exact hc.jump (orc := [(4, [(3, { cv := some (.bool true) })]), (6, [(2, { cv := some (.ip gx0 [.int .i64 ((t0.getD t5.toNat default).Weight), .bool ((t0.getD t5.toNat default).Drain)]) }), (6, { cv := some (.ip gx1 [.int .i64 ((t1.getD t5.toNat default).Weight), .bool ((t1.getD t5.toNat default).Drain)]) }), (8, { cv := some (.bool false) })])]) (m := 14) (kt := [0, 1, 5]) (kh := []) (by kernel_rfl) (.cons (Le.tt h0) (.cons (h1) (.cons (Le.iptl (g := gx0) (eL_at (xs := t0) eBack_len (ixl h1))) (.cons (h2) (.cons (Le.iptl (g := gx1) (eL_at (xs := t1) eBack_len (ixl h2))) (.cons (Le.ff h3) .nil)))))) (ih t0 t1 (IntKind.i64.wrap (t5 + 1)) h)
    · have h := Option.some.inj h
      refine hc.ret hfin (fn := Tryz.f145) (by kernel_rfl) (orc := [(4, [(3, { cv := some (.bool false) })])]) (m := 7) (d := .bool true) (by kernel_rfl) (.cons (Le.ff h0) .nil) ?_ ?_
      · rw [← h]; exact Le.of rfl
      · rw [← h]; rfl

theorem g_law0_SameBacks_0 (gx0 : Bool) (gx1 : Bool) {c : Cx} (hc : Is c Tryz.prog ty 145 26) (N : Nat) {r : Bool} (hfin : c.Fin [] (d_law0_SameBacks r) []) (x0 : (List GBack)) (x1 : (List GBack)) (h : L_law0_SameBacks N x0 x1 = some r) : c.Goes (items (bodyOf Tryz.f145) [.c 1]) ⟨[(0, .sl gx0 (eL eBack x0) x0.length x0.length), (1, .sl gx1 (eL eBack x1) x1.length x1.length)], []⟩ := by
  unfold L_law0_SameBacks at h
  rcases brk h with ⟨h0, h⟩ | ⟨h0, h⟩
  · have h := Option.some.inj h
    refine hc.ret hfin (fn := Tryz.f145) (by kernel_rfl) (orc := [(1, [(4, { cv := some (.bool true) })])]) (m := 8) (d := .bool false) (by kernel_rfl) (.cons (Le.tt h0) .nil) ?_ ?_
    · rw [← h]; exact Le.of rfl
    · rw [← h]; rfl
  · exact hc.jump (orc := [(1, [(4, { cv := some (.bool false) })])]) (m := 12) (kt := [0, 1, 5]) (kh := []) (by kernel_rfl) (.cons (Le.ff h0) .nil) (g_law0_SameBacks_1 gx0 gx1 hc N hfin N x0 x1 0 h)

theorem c_law0_SameBacks (N : Nat) (gx0 : Bool) (gx1 : Bool) (x0 : (List GBack)) (x1 : (List GBack)) {r : Bool} (h : L_law0_SameBacks N x0 x1 = some r) : Con Tryz.prog 145 [.sl gx0 (eL eBack x0) x0.length x0.length, .sl gx1 (eL eBack x1) x1.length x1.length] [] (d_law0_SameBacks r) [] :=
  con_intro ok mix (fn := Tryz.f145) (body := bodyOf Tryz.f145) (by kernel_rfl) (by kernel_rfl) (by kernel_rfl) rfl (Nat.le_of_ble_eq_true (by kernel_rfl)) fun c h1 h2 h3 h4 hfin => g_law0_SameBacks_0 gx0 gx1 ⟨h1, h2, h3, h4⟩ N hfin x0 x1 h
/-! ### wharfage/wharfagelaw0.SameConfig -/
def L_law0_SameConfig_3 (N : Nat) (r2 : Int → (List GSite) → Int → (List GSite) → Int → Option (Bool)) (b116_0 : Int) (b116_1 : (List GSite)) (b124_0 : Int) (b124_1 : (List GSite)) (t5 : Int) (t65 : Bool) : Option (Bool) :=
  bif t65 then
    some false
  else
    r2 b116_0 b116_1 b124_0 b124_1 (IntKind.i64.wrap (t5 + 1))
def L_law0_SameConfig_2 (N : Nat) : Nat → Int → (List GSite) → Int → (List GSite) → Int → Option (Bool)
  | 0, _, _, _, _, _ => none
  | fuel + 1, b116_0, b116_1, b124_0, b124_1, t5 =>
    bif (decide (t5 < (b116_1.length : Int))) then
      if 0 ≤ t5 ∧ t5 < ((b116_1.length : Nat) : Int) then
      if 0 ≤ t5 ∧ t5 < ((b124_1.length : Nat) : Int) then
      bif ((b116_1.getD t5.toNat default).Weight != (b124_1.getD t5.toNat default).Weight) then
        L_law0_SameConfig_3 N (L_law0_SameConfig_2 N fuel) b116_0 b116_1 b124_0 b124_1 t5 true
      else
        bif (!((b116_1.getD t5.toNat default).Drain == (b124_1.getD t5.toNat default).Drain)) then
          L_law0_SameConfig_3 N (L_law0_SameConfig_2 N fuel) b116_0 b116_1 b124_0 b124_1 t5 true
        else
          bif ((b116_1.getD t5.toNat default).Cap != (b124_1.getD t5.toNat default).Cap) then
            L_law0_SameConfig_3 N (L_law0_SameConfig_2 N fuel) b116_0 b116_1 b124_0 b124_1 t5 true
          else
            (L_law0_SameBacks N ((b116_1.getD t5.toNat default).Backs) ((b124_1.getD t5.toNat default).Backs)).bind fun v1 =>
            L_law0_SameConfig_3 N (L_law0_SameConfig_2 N fuel) b116_0 b116_1 b124_0 b124_1 t5 (!v1)
      else none
      else none
    else
      some true
def L_law0_SameConfig_1 (N : Nat) (b116_0 : Int) (b116_1 : (List GSite)) (b124_0 : Int) (b124_1 : (List GSite)) (t21 : Bool) : Option (Bool) :=
  bif t21 then
    some false
  else
    L_law0_SameConfig_2 N N b116_0 b116_1 b124_0 b124_1 0
def L_law0_SameConfig (N : Nat) (x0 : GConfig) (x1 : GConfig) : Option (Bool) :=
  bif (x0.Version != x1.Version) then
    L_law0_SameConfig_1 N x0.Version x0.Sites x1.Version x1.Sites true
  else
    L_law0_SameConfig_1 N x0.Version x0.Sites x1.Version x1.Sites ((x0.Sites.length : Int) != (x1.Sites.length : Int))
def d_law0_SameConfig (r : Bool) : D := .bool r
theorem g_law0_SameConfig_3 (gx0 : Bool) (gx1 : Bool) {c : Cx} (hc : Is c Tryz.prog ty 81 66) (N : Nat) {r : Bool} (hfin : c.Fin [] (d_law0_SameConfig r) []) (r2 : Int → (List GSite) → Int → (List GSite) → Int → Option (Bool)) (hr2 : ∀ (b116_0 : Int) (b116_1 : (List GSite)) (b124_0 : Int) (b124_1 : (List GSite)) (t5 : Int), r2 b116_0 b116_1 b124_0 b124_1 t5 = some r → c.Goes (items (bodyOf Tryz.f81) [.c 75, .l 75, .b 0, .c 15]) ⟨[(2, .ptr 116 0), (3, .ptr 124 0), (5, .int .i64 t5)], [(116, some ⟨false, 0, [.int .i64 b116_0, .sl gx0 (eL (eSite gx0) b116_1) b116_1.length b116_1.length]⟩), (124, some ⟨false, 0, [.int .i64 b124_0, .sl gx1 (eL (eSite gx1) b124_1) b124_1.length b124_1.length]⟩)]⟩) (b116_0 : Int) (b116_1 : (List GSite)) (b124_0 : Int) (b124_1 : (List GSite)) (t5 : Int) (t65 : Bool) (h : L_law0_SameConfig_3 N r2 b116_0 b116_1 b124_0 b124_1 t5 t65 = some r) : c.Goes (items (bodyOf Tryz.f81) [.c 3659, .b 1, .c 459, .l 75, .b 0, .c 15]) ⟨[(2, .ptr 116 0), (3, .ptr 124 0), (5, .int .i64 t5), (65, .bool t65)], [(116, some ⟨false, 0, [.int .i64 b116_0, .sl gx0 (eL (eSite gx0) b116_1) b116_1.length b116_1.length]⟩), (124, some ⟨false, 0, [.int .i64 b124_0, .sl gx1 (eL (eSite gx1) b124_1) b124_1.length b124_1.length]⟩)]⟩ := by
  unfold L_law0_SameConfig_3 at h
  rcases brk h with ⟨h0, k0⟩ | ⟨h0, k0⟩
  · subst h0
    replace h := k0
    have h := Option.some.inj h
    refine hc.ret hfin (fn := Tryz.f81) (by kernel_rfl) (orc := []) (m := 3) (d := .bool false) (by kernel_rfl) .nil ?_ ?_
    · rw [← h]; exact Le.of rfl
    · rw [← h]; rfl
  · subst h0
    replace h := k0
    exact hc.jump (orc := []) (m := 5) (kt := [2, 3, 5]) (kh := [(116, 116), (124, 124)]) (by kernel_rfl) .nil (hr2 b116_0 b116_1 b124_0 b124_1 (IntKind.i64.wrap (t5 + 1)) h)

theorem g_law0_SameConfig_2 (gx0 : Bool) (gx1 : Bool) {c : Cx} (hc : Is c Tryz.prog ty 81 66) (N : Nat) {r : Bool} (hfin : c.Fin [] (d_law0_SameConfig r) []) : ∀ (fuel : Nat) (b116_0 : Int) (b116_1 : (List GSite)) (b124_0 : Int) (b124_1 : (List GSite)) (t5 : Int), L_law0_SameConfig_2 N fuel b116_0 b116_1 b124_0 b124_1 t5 = some r → c.Goes (items (bodyOf Tryz.f81) [.c 75, .l 75, .b 0, .c 15]) ⟨[(2, .ptr 116 0), (3, .ptr 124 0), (5, .int .i64 t5)], [(116, some ⟨false, 0, [.int .i64 b116_0, .sl gx0 (eL (eSite gx0) b116_1) b116_1.length b116_1.length]⟩), (124, some ⟨false, 0, [.int .i64 b124_0, .sl gx1 (eL (eSite gx1) b124_1) b124_1.length b124_1.length]⟩)]⟩ := by
  intro fuel
  induction fuel with
  | zero => intro b116_0 b116_1 b124_0 b124_1 t5 h; simp [L_law0_SameConfig_2] at h
  | succ fuel ih =>
    intro b116_0 b116_1 b124_0 b124_1 t5 h
    unfold L_law0_SameConfig_2 at h
    rcases brk h with ⟨h0, h⟩ | ⟨h0, h⟩
    · obtain ⟨h1, h⟩ := chk h
      obtain ⟨h2, h⟩ := chk h
      rcases brk h with ⟨h3, h⟩ | ⟨h3, h⟩
      · exact hc.jump (orc := [(4, [(4, { cv := some (.bool true) })]), (6, [(3, { cv := some (.ip gx0 [.int .i64 ((b116_1.getD t5.toNat default).Weight), .bool ((b116_1.getD t5.toNat default).Drain), .int .i64 ((b116_1.getD t5.toNat default).Cap), .sl gx0 (eL eBack ((b116_1.getD t5.toNat default).Backs)) (((b116_1.getD t5.toNat default).Backs).length) (((b116_1.getD t5.toNat default).Backs).length)]) }), (8, { cv := some (.ip gx1 [.int .i64 ((b124_1.getD t5.toNat default).Weight), .bool ((b124_1.getD t5.toNat default).Drain), .int .i64 ((b124_1.getD t5.toNat default).Cap), .sl gx1 (eL eBack ((b124_1.getD t5.toNat default).Backs)) (((b124_1.getD t5.toNat default).Backs).length) (((b124_1.getD t5.toNat default).Backs).length)]) })]), (7, [(5, { cv := some (.bool true) })])]) (m := 11) (kt := [2, 3, 5, 65]) (kh := [(116, 116), (124, 124)]) (by kernel_rfl) (.cons (Le.tt h0) (.cons (h1) (.cons (Le.iptl (g := gx0) (eL_at (xs := b116_1) (eSite_len gx0) (ixl h1))) (.cons (h2) (.cons (Le.iptl (g := gx1) (eL_at (xs := b124_1) (eSite_len gx1) (ixl h2))) (.cons (Le.tt h3) .nil)))))) (g_law0_SameConfig_3 gx0 gx1 hc N hfin (L_law0_SameConfig_2 N fuel) ih b116_0 b116_1 b124_0 b124_1 t5 true h)
      · rcases brk h with ⟨h4, h⟩ | ⟨h4, h⟩
        · exact hc.jump (orc := [(4, [(4, { cv := some (.bool true) })]), (6, [(3, { cv := some (.ip gx0 [.int .i64 ((b116_1.getD t5.toNat default).Weight), .bool ((b116_1.getD t5.toNat default).Drain), .int .i64 ((b116_1.getD t5.toNat default).Cap), .sl gx0 (eL eBack ((b116_1.getD t5.toNat default).Backs)) (((b116_1.getD t5.toNat default).Backs).length) (((b116_1.getD t5.toNat default).Backs).length)]) }), (8, { cv := some (.ip gx1 [.int .i64 ((b124_1.getD t5.toNat default).Weight), .bool ((b124_1.getD t5.toNat default).Drain), .int .i64 ((b124_1.getD t5.toNat default).Cap), .sl gx1 (eL eBack ((b124_1.getD t5.toNat default).Backs)) (((b124_1.getD t5.toNat default).Backs).length) (((b124_1.getD t5.toNat default).Backs).length)]) })]), (7, [(5, { cv := some (.bool false) }), (12, { cv := some (.bool true) })])]) (m := 11) (kt := [2, 3, 5, 65]) (kh := [(116, 116), (124, 124)]) (by kernel_rfl) (.cons (Le.tt h0) (.cons (h1) (.cons (Le.iptl (g := gx0) (eL_at (xs := b116_1) (eSite_len gx0) (ixl h1))) (.cons (h2) (.cons (Le.iptl (g := gx1) (eL_at (xs := b124_1) (eSite_len gx1) (ixl h2))) (.cons (Le.ff h3) (.cons (Le.tt h4) .nil))))))) (g_law0_SameConfig_3 gx0 gx1 hc N hfin (L_law0_SameConfig_2 N fuel) ih b116_0 b116_1 b124_0 b124_1 t5 true h)
        · rcases brk h with ⟨h5, h⟩ | ⟨h5, h⟩
          · exact hc.jump (orc := [(4, [(4, { cv := some (.bool true) })]), (6, [(3, { cv := some (.ip gx0 [.int .i64 ((b116_1.getD t5.toNat default).Weight), .bool ((b116_1.getD t5.toNat default).Drain), .int .i64 ((b116_1.getD t5.toNat default).Cap), .sl gx0 (eL eBack ((b116_1.getD t5.toNat default).Backs)) (((b116_1.getD t5.toNat default).Backs).length) (((b116_1.getD t5.toNat default).Backs).length)]) }), (8, { cv := some (.ip gx1 [.int .i64 ((b124_1.getD t5.toNat default).Weight), .bool ((b124_1.getD t5.toNat default).Drain), .int .i64 ((b124_1.getD t5.toNat default).Cap), .sl gx1 (eL eBack ((b124_1.getD t5.toNat default).Backs)) (((b124_1.getD t5.toNat default).Backs).length) (((b124_1.getD t5.toNat default).Backs).length)]) })]), (7, [(5, { cv := some (.bool false) }), (12, { cv := some (.bool false) }), (19, { cv := some (.bool true) })])]) (m := 11) (kt := [2, 3, 5, 65]) (kh := [(116, 116), (124, 124)]) (by kernel_rfl) (.cons (Le.tt h0) (.cons (h1) (.cons (Le.iptl (g := gx0) (eL_at (xs := b116_1) (eSite_len gx0) (ixl h1))) (.cons (h2) (.cons (Le.iptl (g := gx1) (eL_at (xs := b124_1) (eSite_len gx1) (ixl h2))) (.cons (Le.ff h3) (.cons (Le.ff h4) (.cons (Le.tt h5) .nil)))))))) (g_law0_SameConfig_3 gx0 gx1 hc N hfin (L_law0_SameConfig_2 N fuel) ih b116_0 b116_1 b124_0 b124_1 t5 true h)
          · obtain ⟨v1, h6, h⟩ := bind_of h
            exact hc.jump (orc := [(4, [(4, { cv := some (.bool true) })]), (6, [(3, { cv := some (.ip gx0 [.int .i64 ((b116_1.getD t5.toNat default).Weight), .bool ((b116_1.getD t5.toNat default).Drain), .int .i64 ((b116_1.getD t5.toNat default).Cap), .sl gx0 (eL eBack ((b116_1.getD t5.toNat default).Backs)) (((b116_1.getD t5.toNat default).Backs).length) (((b116_1.getD t5.toNat default).Backs).length)]) }), (8, { cv := some (.ip gx1 [.int .i64 ((b124_1.getD t5.toNat default).Weight), .bool ((b124_1.getD t5.toNat default).Drain), .int .i64 ((b124_1.getD t5.toNat default).Cap), .sl gx1 (eL eBack ((b124_1.getD t5.toNat default).Backs)) (((b124_1.getD t5.toNat default).Backs).length) (((b124_1.getD t5.toNat default).Backs).length)]) })]), (7, [(5, { cv := some (.bool false) }), (12, { cv := some (.bool false) }), (19, { cv := some (.bool false) }), (24, { r := d_law0_SameBacks v1 })])]) (m := 11) (kt := [2, 3, 5, 65]) (kh := [(116, 116), (124, 124)]) (by kernel_rfl) (.cons (Le.tt h0) (.cons (h1) (.cons (Le.iptl (g := gx0) (eL_at (xs := b116_1) (eSite_len gx0) (ixl h1))) (.cons (h2) (.cons (Le.iptl (g := gx1) (eL_at (xs := b124_1) (eSite_len gx1) (ixl h2))) (.cons (Le.ff h3) (.cons (Le.ff h4) (.cons (Le.ff h5) (.cons (c_law0_SameBacks N gx0 gx1 ((b116_1.getD t5.toNat default).Backs) ((b124_1.getD t5.toNat default).Backs) h6) .nil))))))))) (g_law0_SameConfig_3 gx0 gx1 hc N hfin (L_law0_SameConfig_2 N fuel) ih b116_0 b116_1 b124_0 b124_1 t5 (!v1) h)
    · have h := Option.some.inj h
      refine hc.ret hfin (fn := Tryz.f81) (by kernel_rfl) (orc := [(4, [(4, { cv := some (.bool false) })])]) (m := 7) (d := .bool true) (by kernel_rfl) (.cons (Le.ff h0) .nil) ?_ ?_
      · rw [← h]; exact Le.of rfl
      · rw [← h]; rfl

theorem g_law0_SameConfig_1 (gx0 : Bool) (gx1 : Bool) {c : Cx} (hc : Is c Tryz.prog ty 81 66) (N : Nat) {r : Bool} (hfin : c.Fin [] (d_law0_SameConfig r) []) (b116_0 : Int) (b116_1 : (List GSite)) (b124_0 : Int) (b124_1 : (List GSite)) (t21 : Bool) (h : L_law0_SameConfig_1 N b116_0 b116_1 b124_0 b124_1 t21 = some r) : c.Goes (items (bodyOf Tryz.f81) [.c 13, .c 7]) ⟨[(2, .ptr 116 0), (3, .ptr 124 0), (21, .bool t21)], [(116, some ⟨false, 0, [.int .i64 b116_0, .sl gx0 (eL (eSite gx0) b116_1) b116_1.length b116_1.length]⟩), (124, some ⟨false, 0, [.int .i64 b124_0, .sl gx1 (eL (eSite gx1) b124_1) b124_1.length b124_1.length]⟩)]⟩ := by
  unfold L_law0_SameConfig_1 at h
  rcases brk h with ⟨h0, k0⟩ | ⟨h0, k0⟩
  · subst h0
    replace h := k0
    have h := Option.some.inj h
    refine hc.ret hfin (fn := Tryz.f81) (by kernel_rfl) (orc := []) (m := 3) (d := .bool false) (by kernel_rfl) .nil ?_ ?_
    · rw [← h]; exact Le.of rfl
    · rw [← h]; rfl
  · subst h0
    replace h := k0
    exact hc.jump (orc := []) (m := 7) (kt := [2, 3, 5]) (kh := [(116, 116), (124, 124)]) (by kernel_rfl) .nil (g_law0_SameConfig_2 gx0 gx1 hc N hfin N b116_0 b116_1 b124_0 b124_1 0 h)

theorem g_law0_SameConfig_0 (gx0 : Bool) (gx1 : Bool) {c : Cx} (hc : Is c Tryz.prog ty 81 66) (N : Nat) {r : Bool} (hfin : c.Fin [] (d_law0_SameConfig r) []) (x0 : GConfig) (x1 : GConfig) (h : L_law0_SameConfig N x0 x1 = some r) : c.Goes (items (bodyOf Tryz.f81) [.c 1]) ⟨[(0, .agg [.int .i64 x0.Version, .sl gx0 (eL (eSite gx0) x0.Sites) x0.Sites.length x0.Sites.length]), (1, .agg [.int .i64 x1.Version, .sl gx1 (eL (eSite gx1) x1.Sites) x1.Sites.length x1.Sites.length])], []⟩ := by
  unfold L_law0_SameConfig at h
  rcases brk h with ⟨h0, h⟩ | ⟨h0, h⟩
  · exact hc.jump (orc := [(1, [(5, { cv := some (.bool true) })])]) (m := 5) (kt := [2, 3, 21]) (kh := [(116, 116), (124, 124)]) (by kernel_rfl) (.cons (Le.tt h0) .nil) (g_law0_SameConfig_1 gx0 gx1 hc N hfin x0.Version x0.Sites x1.Version x1.Sites true h)
  · exact hc.jump (orc := [(1, [(5, { cv := some (.bool false) })])]) (m := 5) (kt := [2, 3, 21]) (kh := [(116, 116), (124, 124)]) (by kernel_rfl) (.cons (Le.ff h0) .nil) (g_law0_SameConfig_1 gx0 gx1 hc N hfin x0.Version x0.Sites x1.Version x1.Sites ((x0.Sites.length : Int) != (x1.Sites.length : Int)) h)

theorem c_law0_SameConfig (N : Nat) (gx0 : Bool) (gx1 : Bool) (x0 : GConfig) (x1 : GConfig) {r : Bool} (h : L_law0_SameConfig N x0 x1 = some r) : Con Tryz.prog 81 [.agg [.int .i64 x0.Version, .sl gx0 (eL (eSite gx0) x0.Sites) x0.Sites.length x0.Sites.length], .agg [.int .i64 x1.Version, .sl gx1 (eL (eSite gx1) x1.Sites) x1.Sites.length x1.Sites.length]] [] (d_law0_SameConfig r) [] :=
  con_intro ok mix (fn := Tryz.f81) (body := bodyOf Tryz.f81) (by kernel_rfl) (by kernel_rfl) (by kernel_rfl) rfl (Nat.le_of_ble_eq_true (by kernel_rfl)) fun c h1 h2 h3 h4 hfin => g_law0_SameConfig_0 gx0 gx1 ⟨h1, h2, h3, h4⟩ N hfin x0 x1 h
/-! ### wharfage/wharfagelaw0.SameHealths -/
def L_law0_SameHealths_1 (N : Nat) : Nat → (List GHealth) → (List GHealth) → Int → Option (Bool)
  | 0, _, _, _ => none
  | fuel + 1, t0, t1, t5 =>
    bif (decide (t5 < (t0.length : Int))) then
      if 0 ≤ t5 ∧ t5 < ((t0.length : Nat) : Int) then
      if 0 ≤ t5 ∧ t5 < ((t1.length : Nat) : Int) then
      bif (!(((t0.getD t5.toNat default).Up == (t1.getD t5.toNat default).Up) && (((t0.getD t5.toNat default).Count == (t1.getD t5.toNat default).Count) && true))) then
        some false
      else
        L_law0_SameHealths_1 N fuel t0 t1 (IntKind.i64.wrap (t5 + 1))
      else none
      else none
    else
      some true
def L_law0_SameHealths (N : Nat) (x0 : (List GHealth)) (x1 : (List GHealth)) : Option (Bool) :=
  bif ((x0.length : Int) != (x1.length : Int)) then
    some false
  else
    L_law0_SameHealths_1 N N x0 x1 0
def d_law0_SameHealths (r : Bool) : D := .bool r
theorem g_law0_SameHealths_1 (gx0 : Bool) (gx1 : Bool) {c : Cx} (hc : Is c Tryz.prog ty 82 26) (N : Nat) {r : Bool} (hfin : c.Fin [] (d_law0_SameHealths r) []) : ∀ (fuel : Nat) (t0 : (List GHealth)) (t1 : (List GHealth)) (t5 : Int), L_law0_SameHealths_1 N fuel t0 t1 t5 = some r → c.Goes (items (bodyOf Tryz.f82) [.c 75, .l 75, .b 0, .c 15]) ⟨[(0, .sl gx0 (eL eHealth t0) t0.length t0.length), (1, .sl gx1 (eL eHealth t1) t1.length t1.length), (5, .int .i64 t5)], []⟩ := by
  intro fuel
  induction fuel with
  | zero => intro t0 t1 t5 h; simp [L_law0_SameHealths_1] at h
  | succ fuel ih =>
    intro t0 t1 t5 h
    unfold L_law0_SameHealths_1 at h
    rcases brk h with ⟨h0, h⟩ | ⟨h0, h⟩
    · obtain ⟨h1, h⟩ := chk h
      obtain ⟨h2, h⟩ := chk h
      rcases brk h with ⟨h3, h⟩ | ⟨h3, h⟩
      · have h := Option.some.inj h
        refine hc.ret hfin (fn := Tryz.f82) (by kernel_rfl) (orc := [(4, [(3, { cv := some (.bool true) })]), (6, [(2, { cv := some (.ip gx0 [.bool ((t0.getD t5.toNat default).Up), .int .i64 ((t0.getD t5.toNat default).Count)]) }), (6, { cv := some (.ip gx1 [.bool ((t1.getD t5.toNat default).Up), .int .i64 ((t1.getD t5.toNat default).Count)]) }), (8, { cv := some (.bool true) })])]) (m := 12) (d := .bool false) (by kernel_rfl) (.cons (Le.tt h0) (.cons (h1) (.cons (Le.iptl (g := gx0) (eL_at (xs := t0) eHealth_len (ixl h1))) (.cons (h2) (.cons (Le.iptl (g := gx1) (eL_at (xs := t1) eHealth_len (ixl h2))) (.cons (Le.tt h3) .nil)))))) ?_ ?_
        · rw [← h]; exact Le.of rfl
        · rw [← h]; rfl
      · exact hc.jump (orc := [(4, [(3, { cv := some (.bool true) })]), (6, [(2, { cv := some (.ip gx0 [.bool ((t0.getD t5.toNat default).Up), .int .i64 ((t0.getD t5.toNat default).Count)]) }), (6, { cv := some (.ip gx1 [.bool ((t1.getD t5.toNat default).Up), .int .i64 ((t1.getD t5.toNat default).Count)]) }), (8, { cv := some (.bool false) })])]) (m := 14) (kt := [0, 1, 5]) (kh := []) (by kernel_rfl) (.cons (Le.tt h0) (.cons (h1) (.cons (Le.iptl (g := gx0) (eL_at (xs := t0) eHealth_len (ixl h1))) (.cons (h2) (.cons (Le.iptl (g := gx1) (eL_at (xs := t1) eHealth_len (ixl h2))) (.cons (Le.ff h3) .nil)))))) (ih t0 t1 (IntKind.i64.wrap (t5 + 1)) h)
    · have h := Option.some.inj h
      refine hc.ret hfin (fn := Tryz.f82) (by kernel_rfl) (orc := [(4, [(3, { cv := some (.bool false) })])]) (m := 7) (d := .bool true) (by kernel_rfl) (.cons (Le.ff h0) .nil) ?_ ?_
      · rw [← h]; exact Le.of rfl
      · rw [← h]; rfl

theorem g_law0_SameHealths_0 (gx0 : Bool) (gx1 : Bool) {c : Cx} (hc : Is c Tryz.prog ty 82 26) (N : Nat) {r : Bool} (hfin : c.Fin [] (d_law0_SameHealths r) []) (x0 : (List GHealth)) (x1 : (List GHealth)) (h : L_law0_SameHealths N x0 x1 = some r) : c.Goes (items (bodyOf Tryz.f82) [.c 1]) ⟨[(0, .sl gx0 (eL eHealth x0) x0.length x0.length), (1, .sl gx1 (eL eHealth x1) x1.length x1.length)], []⟩ := by
  unfold L_law0_SameHealths at h
  rcases brk h with ⟨h0, h⟩ | ⟨h0, h⟩
  · have h := Option.some.inj h
    refine hc.ret hfin (fn := Tryz.f82) (by kernel_rfl) (orc := [(1, [(4, { cv := some (.bool true) })])]) (m := 8) (d := .bool false) (by kernel_rfl) (.cons (Le.tt h0) .nil) ?_ ?_
    · rw [← h]; exact Le.of rfl
    · rw [← h]; rfl
  · exact hc.jump (orc := [(1, [(4, { cv := some (.bool false) })])]) (m := 12) (kt := [0, 1, 5]) (kh := []) (by kernel_rfl) (.cons (Le.ff h0) .nil) (g_law0_SameHealths_1 gx0 gx1 hc N hfin N x0 x1 0 h)

theorem c_law0_SameHealths (N : Nat) (gx0 : Bool) (gx1 : Bool) (x0 : (List GHealth)) (x1 : (List GHealth)) {r : Bool} (h : L_law0_SameHealths N x0 x1 = some r) : Con Tryz.prog 82 [.sl gx0 (eL eHealth x0) x0.length x0.length, .sl gx1 (eL eHealth x1) x1.length x1.length] [] (d_law0_SameHealths r) [] :=
  con_intro ok mix (fn := Tryz.f82) (body := bodyOf Tryz.f82) (by kernel_rfl) (by kernel_rfl) (by kernel_rfl) rfl (Nat.le_of_ble_eq_true (by kernel_rfl)) fun c h1 h2 h3 h4 hfin => g_law0_SameHealths_0 gx0 gx1 ⟨h1, h2, h3, h4⟩ N hfin x0 x1 h
/-! ### wharfage/wharfagelaw0.SameEntrys -/
def L_law0_SameEntrys_1 (N : Nat) : Nat → (List GEntry) → (List GEntry) → Int → Option (Bool)
  | 0, _, _, _ => none
  | fuel + 1, t0, t1, t5 =>
    bif (decide (t5 < (t0.length : Int))) then
      if 0 ≤ t5 ∧ t5 < ((t0.length : Nat) : Int) then
      if 0 ≤ t5 ∧ t5 < ((t1.length : Nat) : Int) then
      bif (!((((t0.getD t5.toNat default).Flow).Src == ((t1.getD t5.toNat default).Flow).Src) && ((((t0.getD t5.toNat default).Flow).Dst == ((t1.getD t5.toNat default).Flow).Dst) && ((((t0.getD t5.toNat default).Flow).Proto == ((t1.getD t5.toNat default).Flow).Proto) && ((((t0.getD t5.toNat default).Flow).Sport == ((t1.getD t5.toNat default).Flow).Sport) && ((((t0.getD t5.toNat default).Flow).Dport == ((t1.getD t5.toNat default).Flow).Dport) && (((t0.getD t5.toNat default).To == (t1.getD t5.toNat default).To) && (((t0.getD t5.toNat default).Away == (t1.getD t5.toNat default).Away) && (((t0.getD t5.toNat default).Phase == (t1.getD t5.toNat default).Phase) && (((t0.getD t5.toNat default).Used == (t1.getD t5.toNat default).Used) && true)))))))))) then
        some false
      else
        L_law0_SameEntrys_1 N fuel t0 t1 (IntKind.i64.wrap (t5 + 1))
      else none
      else none
    else
      some true
def L_law0_SameEntrys (N : Nat) (x0 : (List GEntry)) (x1 : (List GEntry)) : Option (Bool) :=
  bif ((x0.length : Int) != (x1.length : Int)) then
    some false
  else
    L_law0_SameEntrys_1 N N x0 x1 0
def d_law0_SameEntrys (r : Bool) : D := .bool r
theorem g_law0_SameEntrys_1 (gx0 : Bool) (gx1 : Bool) {c : Cx} (hc : Is c Tryz.prog ty 57 26) (N : Nat) {r : Bool} (hfin : c.Fin [] (d_law0_SameEntrys r) []) : ∀ (fuel : Nat) (t0 : (List GEntry)) (t1 : (List GEntry)) (t5 : Int), L_law0_SameEntrys_1 N fuel t0 t1 t5 = some r → c.Goes (items (bodyOf Tryz.f57) [.c 75, .l 75, .b 0, .c 15]) ⟨[(0, .sl gx0 (eL eEntry t0) t0.length t0.length), (1, .sl gx1 (eL eEntry t1) t1.length t1.length), (5, .int .i64 t5)], []⟩ := by
  intro fuel
  induction fuel with
  | zero => intro t0 t1 t5 h; simp [L_law0_SameEntrys_1] at h
  | succ fuel ih =>
    intro t0 t1 t5 h
    unfold L_law0_SameEntrys_1 at h
    rcases brk h with ⟨h0, h⟩ | ⟨h0, h⟩
    · obtain ⟨h1, h⟩ := chk h
      obtain ⟨h2, h⟩ := chk h
      rcases brk h with ⟨h3, h⟩ | ⟨h3, h⟩
      · have h := Option.some.inj h
        refine hc.ret hfin (fn := Tryz.f57) (by kernel_rfl) (orc := [(4, [(3, { cv := some (.bool true) })]), (6, [(2, { cv := some (.ip gx0 [.int .i64 (((t0.getD t5.toNat default).Flow).Src), .int .i64 (((t0.getD t5.toNat default).Flow).Dst), .int .i64 (((t0.getD t5.toNat default).Flow).Proto), .int .i64 (((t0.getD t5.toNat default).Flow).Sport), .int .i64 (((t0.getD t5.toNat default).Flow).Dport), .int .i64 ((t0.getD t5.toNat default).To), .bool ((t0.getD t5.toNat default).Away), .int .i64 ((t0.getD t5.toNat default).Phase), .int .i64 ((t0.getD t5.toNat default).Used)]) }), (6, { cv := some (.ip gx1 [.int .i64 (((t1.getD t5.toNat default).Flow).Src), .int .i64 (((t1.getD t5.toNat default).Flow).Dst), .int .i64 (((t1.getD t5.toNat default).Flow).Proto), .int .i64 (((t1.getD t5.toNat default).Flow).Sport), .int .i64 (((t1.getD t5.toNat default).Flow).Dport), .int .i64 ((t1.getD t5.toNat default).To), .bool ((t1.getD t5.toNat default).Away), .int .i64 ((t1.getD t5.toNat default).Phase), .int .i64 ((t1.getD t5.toNat default).Used)]) }), (8, { cv := some (.bool true) })])]) (m := 12) (d := .bool false) (by kernel_rfl) (.cons (Le.tt h0) (.cons (h1) (.cons (Le.iptl (g := gx0) (eL_at (xs := t0) eEntry_len (ixl h1))) (.cons (h2) (.cons (Le.iptl (g := gx1) (eL_at (xs := t1) eEntry_len (ixl h2))) (.cons (Le.tt h3) .nil)))))) ?_ ?_
        · rw [← h]; exact Le.of rfl
        · rw [← h]; rfl
      · exact hc.jump (orc := [(4, [(3, { cv := some (.bool true) })]), (6, [(2, { cv := some (.ip gx0 [.int .i64 (((t0.getD t5.toNat default).Flow).Src), .int .i64 (((t0.getD t5.toNat default).Flow).Dst), .int .i64 (((t0.getD t5.toNat default).Flow).Proto), .int .i64 (((t0.getD t5.toNat default).Flow).Sport), .int .i64 (((t0.getD t5.toNat default).Flow).Dport), .int .i64 ((t0.getD t5.toNat default).To), .bool ((t0.getD t5.toNat default).Away), .int .i64 ((t0.getD t5.toNat default).Phase), .int .i64 ((t0.getD t5.toNat default).Used)]) }), (6, { cv := some (.ip gx1 [.int .i64 (((t1.getD t5.toNat default).Flow).Src), .int .i64 (((t1.getD t5.toNat default).Flow).Dst), .int .i64 (((t1.getD t5.toNat default).Flow).Proto), .int .i64 (((t1.getD t5.toNat default).Flow).Sport), .int .i64 (((t1.getD t5.toNat default).Flow).Dport), .int .i64 ((t1.getD t5.toNat default).To), .bool ((t1.getD t5.toNat default).Away), .int .i64 ((t1.getD t5.toNat default).Phase), .int .i64 ((t1.getD t5.toNat default).Used)]) }), (8, { cv := some (.bool false) })])]) (m := 14) (kt := [0, 1, 5]) (kh := []) (by kernel_rfl) (.cons (Le.tt h0) (.cons (h1) (.cons (Le.iptl (g := gx0) (eL_at (xs := t0) eEntry_len (ixl h1))) (.cons (h2) (.cons (Le.iptl (g := gx1) (eL_at (xs := t1) eEntry_len (ixl h2))) (.cons (Le.ff h3) .nil)))))) (ih t0 t1 (IntKind.i64.wrap (t5 + 1)) h)
    · have h := Option.some.inj h
      refine hc.ret hfin (fn := Tryz.f57) (by kernel_rfl) (orc := [(4, [(3, { cv := some (.bool false) })])]) (m := 7) (d := .bool true) (by kernel_rfl) (.cons (Le.ff h0) .nil) ?_ ?_
      · rw [← h]; exact Le.of rfl
      · rw [← h]; rfl

theorem g_law0_SameEntrys_0 (gx0 : Bool) (gx1 : Bool) {c : Cx} (hc : Is c Tryz.prog ty 57 26) (N : Nat) {r : Bool} (hfin : c.Fin [] (d_law0_SameEntrys r) []) (x0 : (List GEntry)) (x1 : (List GEntry)) (h : L_law0_SameEntrys N x0 x1 = some r) : c.Goes (items (bodyOf Tryz.f57) [.c 1]) ⟨[(0, .sl gx0 (eL eEntry x0) x0.length x0.length), (1, .sl gx1 (eL eEntry x1) x1.length x1.length)], []⟩ := by
  unfold L_law0_SameEntrys at h
  rcases brk h with ⟨h0, h⟩ | ⟨h0, h⟩
  · have h := Option.some.inj h
    refine hc.ret hfin (fn := Tryz.f57) (by kernel_rfl) (orc := [(1, [(4, { cv := some (.bool true) })])]) (m := 8) (d := .bool false) (by kernel_rfl) (.cons (Le.tt h0) .nil) ?_ ?_
    · rw [← h]; exact Le.of rfl
    · rw [← h]; rfl
  · exact hc.jump (orc := [(1, [(4, { cv := some (.bool false) })])]) (m := 12) (kt := [0, 1, 5]) (kh := []) (by kernel_rfl) (.cons (Le.ff h0) .nil) (g_law0_SameEntrys_1 gx0 gx1 hc N hfin N x0 x1 0 h)

theorem c_law0_SameEntrys (N : Nat) (gx0 : Bool) (gx1 : Bool) (x0 : (List GEntry)) (x1 : (List GEntry)) {r : Bool} (h : L_law0_SameEntrys N x0 x1 = some r) : Con Tryz.prog 57 [.sl gx0 (eL eEntry x0) x0.length x0.length, .sl gx1 (eL eEntry x1) x1.length x1.length] [] (d_law0_SameEntrys r) [] :=
  con_intro ok mix (fn := Tryz.f57) (body := bodyOf Tryz.f57) (by kernel_rfl) (by kernel_rfl) (by kernel_rfl) rfl (Nat.le_of_ble_eq_true (by kernel_rfl)) fun c h1 h2 h3 h4 hfin => g_law0_SameEntrys_0 gx0 gx1 ⟨h1, h2, h3, h4⟩ N hfin x0 x1 h
/-! ### wharfage/wharfagelaw0.SameEdge -/
def L_law0_SameEdge_1 (N : Nat) (t4 : Bool) : Option (Bool) :=
  some t4
def L_law0_SameEdge (N : Nat) (x0 : GEdge) (x1 : GEdge) : Option (Bool) :=
  bif (x0.Id == x1.Id) then
    (L_law0_SameConfig N x0.Config x1.Config).bind fun v1 =>
    bif v1 then
      (L_law0_SameHealths N x0.Health x1.Health).bind fun v2 =>
      bif v2 then
        (L_law0_SameEntrys N x0.Flows x1.Flows).bind fun v3 =>
        L_law0_SameEdge_1 N v3
      else
        L_law0_SameEdge_1 N false
    else
      L_law0_SameEdge_1 N false
  else
    L_law0_SameEdge_1 N false
def d_law0_SameEdge (r : Bool) : D := .bool r
theorem g_law0_SameEdge_1 (gx0 : Bool) (gx1 : Bool) {c : Cx} (hc : Is c Tryz.prog ty 23 31) (N : Nat) {r : Bool} (hfin : c.Fin [] (d_law0_SameEdge r) []) (t4 : Bool) (h : L_law0_SameEdge_1 N t4 = some r) : c.Goes (items (bodyOf Tryz.f23) [.c 7]) ⟨[(4, .bool t4)], []⟩ := by
  unfold L_law0_SameEdge_1 at h
  have h := Option.some.inj h
  refine hc.ret hfin (fn := Tryz.f23) (by kernel_rfl) (orc := []) (m := 0) (d := .bool t4) (by kernel_rfl) .nil ?_ ?_
  · rw [← h]; exact Le.of rfl
  · rw [← h]; rfl

theorem g_law0_SameEdge_0 (gx0 : Bool) (gx1 : Bool) {c : Cx} (hc : Is c Tryz.prog ty 23 31) (N : Nat) {r : Bool} (hfin : c.Fin [] (d_law0_SameEdge r) []) (x0 : GEdge) (x1 : GEdge) (h : L_law0_SameEdge N x0 x1 = some r) : c.Goes (items (bodyOf Tryz.f23) [.c 1]) ⟨[(0, .agg [.int .i64 x0.Id, .int .i64 x0.Config.Version, .sl gx0 (eL (eSite gx0) x0.Config.Sites) x0.Config.Sites.length x0.Config.Sites.length, .sl gx0 (eL eHealth x0.Health) x0.Health.length x0.Health.length, .sl gx0 (eL eEntry x0.Flows) x0.Flows.length x0.Flows.length]), (1, .agg [.int .i64 x1.Id, .int .i64 x1.Config.Version, .sl gx1 (eL (eSite gx1) x1.Config.Sites) x1.Config.Sites.length x1.Config.Sites.length, .sl gx1 (eL eHealth x1.Health) x1.Health.length x1.Health.length, .sl gx1 (eL eEntry x1.Flows) x1.Flows.length x1.Flows.length])], []⟩ := by
  unfold L_law0_SameEdge at h
  rcases brk h with ⟨h0, h⟩ | ⟨h0, h⟩
  · obtain ⟨v1, h1, h⟩ := bind_of h
    rcases brk h with ⟨h2, h⟩ | ⟨h2, h⟩
    · obtain ⟨v2, h3, h⟩ := bind_of h
      rcases brk h with ⟨h4, h⟩ | ⟨h4, h⟩
      · obtain ⟨v3, h5, h⟩ := bind_of h
        exact hc.jump (orc := [(1, [(5, { cv := some (.bool true) }), (10, { r := d_law0_SameConfig v1 }), (12, { cv := some (.bool true) }), (17, { r := d_law0_SameHealths v2 }), (19, { cv := some (.bool true) }), (24, { r := d_law0_SameEntrys v3 })])]) (m := 4) (kt := [4]) (kh := []) (by kernel_rfl) (.cons (Le.tt h0) (.cons (c_law0_SameConfig N gx0 gx1 x0.Config x1.Config h1) (.cons (Le.tt h2) (.cons (c_law0_SameHealths N gx0 gx1 x0.Health x1.Health h3) (.cons (Le.tt h4) (.cons (c_law0_SameEntrys N gx0 gx1 x0.Flows x1.Flows h5) .nil)))))) (g_law0_SameEdge_1 gx0 gx1 hc N hfin v3 h)
      · exact hc.jump (orc := [(1, [(5, { cv := some (.bool true) }), (10, { r := d_law0_SameConfig v1 }), (12, { cv := some (.bool true) }), (17, { r := d_law0_SameHealths v2 }), (19, { cv := some (.bool false) })])]) (m := 4) (kt := [4]) (kh := []) (by kernel_rfl) (.cons (Le.tt h0) (.cons (c_law0_SameConfig N gx0 gx1 x0.Config x1.Config h1) (.cons (Le.tt h2) (.cons (c_law0_SameHealths N gx0 gx1 x0.Health x1.Health h3) (.cons (Le.ff h4) .nil))))) (g_law0_SameEdge_1 gx0 gx1 hc N hfin false h)
    · exact hc.jump (orc := [(1, [(5, { cv := some (.bool true) }), (10, { r := d_law0_SameConfig v1 }), (12, { cv := some (.bool false) })])]) (m := 4) (kt := [4]) (kh := []) (by kernel_rfl) (.cons (Le.tt h0) (.cons (c_law0_SameConfig N gx0 gx1 x0.Config x1.Config h1) (.cons (Le.ff h2) .nil))) (g_law0_SameEdge_1 gx0 gx1 hc N hfin false h)
  · exact hc.jump (orc := [(1, [(5, { cv := some (.bool false) })])]) (m := 4) (kt := [4]) (kh := []) (by kernel_rfl) (.cons (Le.ff h0) .nil) (g_law0_SameEdge_1 gx0 gx1 hc N hfin false h)

theorem c_law0_SameEdge (N : Nat) (gx0 : Bool) (gx1 : Bool) (x0 : GEdge) (x1 : GEdge) {r : Bool} (h : L_law0_SameEdge N x0 x1 = some r) : Con Tryz.prog 23 [.agg [.int .i64 x0.Id, .int .i64 x0.Config.Version, .sl gx0 (eL (eSite gx0) x0.Config.Sites) x0.Config.Sites.length x0.Config.Sites.length, .sl gx0 (eL eHealth x0.Health) x0.Health.length x0.Health.length, .sl gx0 (eL eEntry x0.Flows) x0.Flows.length x0.Flows.length], .agg [.int .i64 x1.Id, .int .i64 x1.Config.Version, .sl gx1 (eL (eSite gx1) x1.Config.Sites) x1.Config.Sites.length x1.Config.Sites.length, .sl gx1 (eL eHealth x1.Health) x1.Health.length x1.Health.length, .sl gx1 (eL eEntry x1.Flows) x1.Flows.length x1.Flows.length]] [] (d_law0_SameEdge r) [] :=
  con_intro ok mix (fn := Tryz.f23) (body := bodyOf Tryz.f23) (by kernel_rfl) (by kernel_rfl) (by kernel_rfl) rfl (Nat.le_of_ble_eq_true (by kernel_rfl)) fun c h1 h2 h3 h4 hfin => g_law0_SameEdge_0 gx0 gx1 ⟨h1, h2, h3, h4⟩ N hfin x0 x1 h
/-! ### wharfage/wharfagelaw0.SameEvents -/
def L_law0_SameEvents_1 (N : Nat) : Nat → (List GEvent) → (List GEvent) → Int → Option (Bool)
  | 0, _, _, _ => none
  | fuel + 1, t0, t1, t5 =>
    bif (decide (t5 < (t0.length : Int))) then
      if 0 ≤ t5 ∧ t5 < ((t0.length : Nat) : Int) then
      if 0 ≤ t5 ∧ t5 < ((t1.length : Nat) : Int) then
      bif (!(((t0.getD t5.toNat default).Kind == (t1.getD t5.toNat default).Kind) && (((t0.getD t5.toNat default).Role == (t1.getD t5.toNat default).Role) && (((t0.getD t5.toNat default).Site == (t1.getD t5.toNat default).Site) && (((t0.getD t5.toNat default).Node == (t1.getD t5.toNat default).Node) && (((t0.getD t5.toNat default).To == (t1.getD t5.toNat default).To) && ((((t0.getD t5.toNat default).Flow).Src == ((t1.getD t5.toNat default).Flow).Src) && ((((t0.getD t5.toNat default).Flow).Dst == ((t1.getD t5.toNat default).Flow).Dst) && ((((t0.getD t5.toNat default).Flow).Proto == ((t1.getD t5.toNat default).Flow).Proto) && ((((t0.getD t5.toNat default).Flow).Sport == ((t1.getD t5.toNat default).Flow).Sport) && ((((t0.getD t5.toNat default).Flow).Dport == ((t1.getD t5.toNat default).Flow).Dport) && true))))))))))) then
        some false
      else
        L_law0_SameEvents_1 N fuel t0 t1 (IntKind.i64.wrap (t5 + 1))
      else none
      else none
    else
      some true
def L_law0_SameEvents (N : Nat) (x0 : (List GEvent)) (x1 : (List GEvent)) : Option (Bool) :=
  bif ((x0.length : Int) != (x1.length : Int)) then
    some false
  else
    L_law0_SameEvents_1 N N x0 x1 0
def d_law0_SameEvents (r : Bool) : D := .bool r
theorem g_law0_SameEvents_1 (gx0 : Bool) (gx1 : Bool) {c : Cx} (hc : Is c Tryz.prog ty 83 26) (N : Nat) {r : Bool} (hfin : c.Fin [] (d_law0_SameEvents r) []) : ∀ (fuel : Nat) (t0 : (List GEvent)) (t1 : (List GEvent)) (t5 : Int), L_law0_SameEvents_1 N fuel t0 t1 t5 = some r → c.Goes (items (bodyOf Tryz.f83) [.c 75, .l 75, .b 0, .c 15]) ⟨[(0, .sl gx0 (eL eEvent t0) t0.length t0.length), (1, .sl gx1 (eL eEvent t1) t1.length t1.length), (5, .int .i64 t5)], []⟩ := by
  intro fuel
  induction fuel with
  | zero => intro t0 t1 t5 h; simp [L_law0_SameEvents_1] at h
  | succ fuel ih =>
    intro t0 t1 t5 h
    unfold L_law0_SameEvents_1 at h
    rcases brk h with ⟨h0, h⟩ | ⟨h0, h⟩
    · obtain ⟨h1, h⟩ := chk h
      obtain ⟨h2, h⟩ := chk h
      rcases brk h with ⟨h3, h⟩ | ⟨h3, h⟩
      · have h := Option.some.inj h
        refine hc.ret hfin (fn := Tryz.f83) (by kernel_rfl) (orc := [(4, [(3, { cv := some (.bool true) })]), (6, [(2, { cv := some (.ip gx0 [.int .i64 ((t0.getD t5.toNat default).Kind), .int .i64 ((t0.getD t5.toNat default).Role), .int .i64 ((t0.getD t5.toNat default).Site), .int .i64 ((t0.getD t5.toNat default).Node), .int .i64 ((t0.getD t5.toNat default).To), .int .i64 (((t0.getD t5.toNat default).Flow).Src), .int .i64 (((t0.getD t5.toNat default).Flow).Dst), .int .i64 (((t0.getD t5.toNat default).Flow).Proto), .int .i64 (((t0.getD t5.toNat default).Flow).Sport), .int .i64 (((t0.getD t5.toNat default).Flow).Dport)]) }), (6, { cv := some (.ip gx1 [.int .i64 ((t1.getD t5.toNat default).Kind), .int .i64 ((t1.getD t5.toNat default).Role), .int .i64 ((t1.getD t5.toNat default).Site), .int .i64 ((t1.getD t5.toNat default).Node), .int .i64 ((t1.getD t5.toNat default).To), .int .i64 (((t1.getD t5.toNat default).Flow).Src), .int .i64 (((t1.getD t5.toNat default).Flow).Dst), .int .i64 (((t1.getD t5.toNat default).Flow).Proto), .int .i64 (((t1.getD t5.toNat default).Flow).Sport), .int .i64 (((t1.getD t5.toNat default).Flow).Dport)]) }), (8, { cv := some (.bool true) })])]) (m := 12) (d := .bool false) (by kernel_rfl) (.cons (Le.tt h0) (.cons (h1) (.cons (Le.iptl (g := gx0) (eL_at (xs := t0) eEvent_len (ixl h1))) (.cons (h2) (.cons (Le.iptl (g := gx1) (eL_at (xs := t1) eEvent_len (ixl h2))) (.cons (Le.tt h3) .nil)))))) ?_ ?_
        · rw [← h]; exact Le.of rfl
        · rw [← h]; rfl
      · exact hc.jump (orc := [(4, [(3, { cv := some (.bool true) })]), (6, [(2, { cv := some (.ip gx0 [.int .i64 ((t0.getD t5.toNat default).Kind), .int .i64 ((t0.getD t5.toNat default).Role), .int .i64 ((t0.getD t5.toNat default).Site), .int .i64 ((t0.getD t5.toNat default).Node), .int .i64 ((t0.getD t5.toNat default).To), .int .i64 (((t0.getD t5.toNat default).Flow).Src), .int .i64 (((t0.getD t5.toNat default).Flow).Dst), .int .i64 (((t0.getD t5.toNat default).Flow).Proto), .int .i64 (((t0.getD t5.toNat default).Flow).Sport), .int .i64 (((t0.getD t5.toNat default).Flow).Dport)]) }), (6, { cv := some (.ip gx1 [.int .i64 ((t1.getD t5.toNat default).Kind), .int .i64 ((t1.getD t5.toNat default).Role), .int .i64 ((t1.getD t5.toNat default).Site), .int .i64 ((t1.getD t5.toNat default).Node), .int .i64 ((t1.getD t5.toNat default).To), .int .i64 (((t1.getD t5.toNat default).Flow).Src), .int .i64 (((t1.getD t5.toNat default).Flow).Dst), .int .i64 (((t1.getD t5.toNat default).Flow).Proto), .int .i64 (((t1.getD t5.toNat default).Flow).Sport), .int .i64 (((t1.getD t5.toNat default).Flow).Dport)]) }), (8, { cv := some (.bool false) })])]) (m := 14) (kt := [0, 1, 5]) (kh := []) (by kernel_rfl) (.cons (Le.tt h0) (.cons (h1) (.cons (Le.iptl (g := gx0) (eL_at (xs := t0) eEvent_len (ixl h1))) (.cons (h2) (.cons (Le.iptl (g := gx1) (eL_at (xs := t1) eEvent_len (ixl h2))) (.cons (Le.ff h3) .nil)))))) (ih t0 t1 (IntKind.i64.wrap (t5 + 1)) h)
    · have h := Option.some.inj h
      refine hc.ret hfin (fn := Tryz.f83) (by kernel_rfl) (orc := [(4, [(3, { cv := some (.bool false) })])]) (m := 7) (d := .bool true) (by kernel_rfl) (.cons (Le.ff h0) .nil) ?_ ?_
      · rw [← h]; exact Le.of rfl
      · rw [← h]; rfl

theorem g_law0_SameEvents_0 (gx0 : Bool) (gx1 : Bool) {c : Cx} (hc : Is c Tryz.prog ty 83 26) (N : Nat) {r : Bool} (hfin : c.Fin [] (d_law0_SameEvents r) []) (x0 : (List GEvent)) (x1 : (List GEvent)) (h : L_law0_SameEvents N x0 x1 = some r) : c.Goes (items (bodyOf Tryz.f83) [.c 1]) ⟨[(0, .sl gx0 (eL eEvent x0) x0.length x0.length), (1, .sl gx1 (eL eEvent x1) x1.length x1.length)], []⟩ := by
  unfold L_law0_SameEvents at h
  rcases brk h with ⟨h0, h⟩ | ⟨h0, h⟩
  · have h := Option.some.inj h
    refine hc.ret hfin (fn := Tryz.f83) (by kernel_rfl) (orc := [(1, [(4, { cv := some (.bool true) })])]) (m := 8) (d := .bool false) (by kernel_rfl) (.cons (Le.tt h0) .nil) ?_ ?_
    · rw [← h]; exact Le.of rfl
    · rw [← h]; rfl
  · exact hc.jump (orc := [(1, [(4, { cv := some (.bool false) })])]) (m := 12) (kt := [0, 1, 5]) (kh := []) (by kernel_rfl) (.cons (Le.ff h0) .nil) (g_law0_SameEvents_1 gx0 gx1 hc N hfin N x0 x1 0 h)

theorem c_law0_SameEvents (N : Nat) (gx0 : Bool) (gx1 : Bool) (x0 : (List GEvent)) (x1 : (List GEvent)) {r : Bool} (h : L_law0_SameEvents N x0 x1 = some r) : Con Tryz.prog 83 [.sl gx0 (eL eEvent x0) x0.length x0.length, .sl gx1 (eL eEvent x1) x1.length x1.length] [] (d_law0_SameEvents r) [] :=
  con_intro ok mix (fn := Tryz.f83) (body := bodyOf Tryz.f83) (by kernel_rfl) (by kernel_rfl) (by kernel_rfl) rfl (Nat.le_of_ble_eq_true (by kernel_rfl)) fun c h1 h2 h3 h4 hfin => g_law0_SameEvents_0 gx0 gx1 ⟨h1, h2, h3, h4⟩ N hfin x0 x1 h
/-! ### wharfage/wharfagelaw19.awake -/
def L_law19_awake_2 (N : Nat) (t0 : Bool) : Option (Bool) :=
  some t0
def L_law19_awake_1 (N : Nat) (b108_0 : Int) (b108_1 : Int) (b108_2 : (List GSite)) (b108_3 : (List GHealth)) (b108_4 : (List GEntry)) (t2 : Int) (t4 : Int) (t5 : ByteArray) (b148_0 : Int) (b148_1 : Int) (b148_2 : (List GSite)) (b148_3 : (List GHealth)) (b148_4 : (List GEntry)) (b156_0 : (List ByteArray)) (b156_1 : (List GEvent)) (t8 : Int) (b172_0 : Int) (b172_1 : Int) (b172_2 : (List GSite)) (b172_3 : (List GHealth)) (b172_4 : (List GEntry)) (b180_0 : (List ByteArray)) (b180_1 : (List GEvent)) (t11 : Int) (b204_0 : (List ByteArray)) (b204_1 : (List GEvent)) (t14 : Int) (t17 : Int) (t80 : Bool) : Option (Bool) :=
  bif t80 then
    some false
  else
    if 0 ≤ (0 : Int) ∧ (0 : Int) < ((b156_0.length : Nat) : Int) then
    (L_ref1_Pop N (b156_0.getD (Int.toNat 0) default)).bind fun v1 =>
    (L_law0_Num N t2).bind fun v2 =>
    bif (v2 == 0) then
      (L_law0_Num N t4).bind fun v3 =>
      bif (v3 == 1900) then
        (L_law0_Num N t8).bind fun v4 =>
        bif (v4 == 0) then
          bif (v1.2 == 0) then
            bif (v1.1.Body.toList == t5.toList) then
              bif (v1.1.Tier == 1) then
                if 0 ≤ (0 : Int) ∧ (0 : Int) < ((b156_1.length : Nat) : Int) then
                bif ((b156_1.getD (Int.toNat 0) default).Kind == 0) then
                  if 0 ≤ (0 : Int) ∧ (0 : Int) < ((b156_1.length : Nat) : Int) then
                  if 0 ≤ (0 : Int) ∧ (0 : Int) < ((b148_4.length : Nat) : Int) then
                  bif ((b156_1.getD (Int.toNat 0) default).To == (b148_4.getD (Int.toNat 0) default).To) then
                    (L_law0_Num N t11).bind fun v5 =>
                    bif (v5 == 0) then
                      (L_law0_SameEdge N (GEdge.mk b148_0 (GConfig.mk b148_1 b148_2) b148_3 b148_4) (GEdge.mk b172_0 (GConfig.mk b172_1 b172_2) b172_3 b172_4)).bind fun v6 =>
                      bif v6 then
                        (L_law0_SameEvents N b180_1 ([(GEvent.mk 2 0 0 1 0 (GFlow.mk 0 0 0 0 0))])).bind fun v7 =>
                        bif v7 then
                          (L_law0_Num N t14).bind fun v8 =>
                          bif (v8 == 0) then
                            if 0 ≤ (0 : Int) ∧ (0 : Int) < ((b204_1.length : Nat) : Int) then
                            bif ((b204_1.getD (Int.toNat 0) default).Kind == 5) then
                              (L_law0_Num N t17).bind fun v9 =>
                              bif (v9 == 1900) then
                                (L_edge_May N (GEdge.mk b108_0 (GConfig.mk b108_1 b108_2) b108_3 b108_4)).bind fun v10 =>
                                L_law19_awake_2 N v10
                              else
                                L_law19_awake_2 N false
                            else
                              L_law19_awake_2 N false
                            else none
                          else
                            L_law19_awake_2 N false
                        else
                          L_law19_awake_2 N false
                      else
                        L_law19_awake_2 N false
                    else
                      L_law19_awake_2 N false
                  else
                    L_law19_awake_2 N false
                  else none
                  else none
                else
                  L_law19_awake_2 N false
                else none
              else
                L_law19_awake_2 N false
            else
              L_law19_awake_2 N false
          else
            L_law19_awake_2 N false
        else
          L_law19_awake_2 N false
      else
        L_law19_awake_2 N false
    else
      L_law19_awake_2 N false
    else none
def L_law19_awake (N : Nat) : Option (Bool) :=
  (L_law19_given N).bind fun v1 =>
  (L_edge_New N 1 v1).bind fun v2 =>
  (L_law19_given N).bind fun v3 =>
  (L_edge_New N 2 v3).bind fun v4 =>
  (L_law19_said N 9 2 (ByteArray.mk #[120])).bind fun v5 =>
  (L_edge_Take N v2.1 5 v5).bind fun v6 =>
  (L_edge_Take N v6.1 5 (ByteArray.mk #[106, 117, 110, 107])).bind fun v7 =>
  (L_ref10_News N 3).bind fun v8 =>
  (L_edge_Take N (GEdge.mk 1 (GConfig.mk 0 ([])) v8 ([])) 5 v5).bind fun v9 =>
  (L_edge_Take N v2.1 (-1) v5).bind fun v10 =>
  bif ((v6.1.Flows.length : Int) != 1) then
    L_law19_awake_1 N v2.1.Id v2.1.Config.Version v2.1.Config.Sites v2.1.Health v2.1.Flows v2.2 v4.2 v5 v6.1.Id v6.1.Config.Version v6.1.Config.Sites v6.1.Health v6.1.Flows v6.2.1.Sent v6.2.1.Events v6.2.2 v7.1.Id v7.1.Config.Version v7.1.Config.Sites v7.1.Health v7.1.Flows v7.2.1.Sent v7.2.1.Events v7.2.2 v9.2.1.Sent v9.2.1.Events v9.2.2 v10.2.2 true
  else
    bif ((v6.2.1.Sent.length : Int) != 1) then
      L_law19_awake_1 N v2.1.Id v2.1.Config.Version v2.1.Config.Sites v2.1.Health v2.1.Flows v2.2 v4.2 v5 v6.1.Id v6.1.Config.Version v6.1.Config.Sites v6.1.Health v6.1.Flows v6.2.1.Sent v6.2.1.Events v6.2.2 v7.1.Id v7.1.Config.Version v7.1.Config.Sites v7.1.Health v7.1.Flows v7.2.1.Sent v7.2.1.Events v7.2.2 v9.2.1.Sent v9.2.1.Events v9.2.2 v10.2.2 true
    else
      bif ((v6.2.1.Events.length : Int) != 1) then
        L_law19_awake_1 N v2.1.Id v2.1.Config.Version v2.1.Config.Sites v2.1.Health v2.1.Flows v2.2 v4.2 v5 v6.1.Id v6.1.Config.Version v6.1.Config.Sites v6.1.Health v6.1.Flows v6.2.1.Sent v6.2.1.Events v6.2.2 v7.1.Id v7.1.Config.Version v7.1.Config.Sites v7.1.Health v7.1.Flows v7.2.1.Sent v7.2.1.Events v7.2.2 v9.2.1.Sent v9.2.1.Events v9.2.2 v10.2.2 true
      else
        L_law19_awake_1 N v2.1.Id v2.1.Config.Version v2.1.Config.Sites v2.1.Health v2.1.Flows v2.2 v4.2 v5 v6.1.Id v6.1.Config.Version v6.1.Config.Sites v6.1.Health v6.1.Flows v6.2.1.Sent v6.2.1.Events v6.2.2 v7.1.Id v7.1.Config.Version v7.1.Config.Sites v7.1.Health v7.1.Flows v7.2.1.Sent v7.2.1.Events v7.2.2 v9.2.1.Sent v9.2.1.Events v9.2.2 v10.2.2 ((v9.2.1.Events.length : Int) != 1)
def d_law19_awake (r : Bool) : D := .bool r
theorem g_law19_awake_2 {c : Cx} (hc : Is c Tryz.prog ty 30 177) (N : Nat) {r : Bool} (hfin : c.Fin [] (d_law19_awake r) []) (t0 : Bool) (h : L_law19_awake_2 N t0 = some r) : c.Goes (items (bodyOf Tryz.f30) [.c 4095]) ⟨[(0, .bool t0)], []⟩ := by
  unfold L_law19_awake_2 at h
  have h := Option.some.inj h
  refine hc.ret hfin (fn := Tryz.f30) (by kernel_rfl) (orc := []) (m := 0) (d := .bool t0) (by kernel_rfl) .nil ?_ ?_
  · rw [← h]; exact Le.of rfl
  · rw [← h]; rfl

theorem g_law19_awake_1 {c : Cx} (hc : Is c Tryz.prog ty 30 177) (N : Nat) {r : Bool} (hfin : c.Fin [] (d_law19_awake r) []) (b108_0 : Int) (b108_1 : Int) (b108_2 : (List GSite)) (b108_3 : (List GHealth)) (b108_4 : (List GEntry)) (t2 : Int) (t4 : Int) (t5 : ByteArray) (b148_0 : Int) (b148_1 : Int) (b148_2 : (List GSite)) (b148_3 : (List GHealth)) (b148_4 : (List GEntry)) (b156_0 : (List ByteArray)) (b156_1 : (List GEvent)) (t8 : Int) (b172_0 : Int) (b172_1 : Int) (b172_2 : (List GSite)) (b172_3 : (List GHealth)) (b172_4 : (List GEntry)) (b180_0 : (List ByteArray)) (b180_1 : (List GEvent)) (t11 : Int) (b204_0 : (List ByteArray)) (b204_1 : (List GEvent)) (t14 : Int) (t17 : Int) (t80 : Bool) (h : L_law19_awake_1 N b108_0 b108_1 b108_2 b108_3 b108_4 t2 t4 t5 b148_0 b148_1 b148_2 b148_3 b148_4 b156_0 b156_1 t8 b172_0 b172_1 b172_2 b172_3 b172_4 b180_0 b180_1 t11 b204_0 b204_1 t14 t17 t80 = some r) : c.Goes (items (bodyOf Tryz.f30) [.c 1791, .c 1023]) ⟨[(1, .ptr 108 0), (2, .int .i64 t2), (4, .int .i64 t4), (5, .str t5), (6, .ptr 148 0), (7, .ptr 156 0), (8, .int .i64 t8), (9, .ptr 172 0), (10, .ptr 180 0), (11, .int .i64 t11), (13, .ptr 204 0), (14, .int .i64 t14), (17, .int .i64 t17), (80, .bool t80)], [(108, some ⟨false, 0, [.int .i64 b108_0, .int .i64 b108_1, .sl true (eL (eSite true) b108_2) b108_2.length b108_2.length, .sl true (eL eHealth b108_3) b108_3.length b108_3.length, .sl true (eL eEntry b108_4) b108_4.length b108_4.length]⟩), (148, some ⟨false, 0, [.int .i64 b148_0, .int .i64 b148_1, .sl true (eL (eSite true) b148_2) b148_2.length b148_2.length, .sl true (eL eHealth b148_3) b148_3.length b148_3.length, .sl true (eL eEntry b148_4) b148_4.length b148_4.length]⟩), (156, some ⟨false, 0, [.sl true (eL eStr b156_0) b156_0.length b156_0.length, .sl true (eL eEvent b156_1) b156_1.length b156_1.length]⟩), (172, some ⟨false, 0, [.int .i64 b172_0, .int .i64 b172_1, .sl true (eL (eSite true) b172_2) b172_2.length b172_2.length, .sl true (eL eHealth b172_3) b172_3.length b172_3.length, .sl true (eL eEntry b172_4) b172_4.length b172_4.length]⟩), (180, some ⟨false, 0, [.sl true (eL eStr b180_0) b180_0.length b180_0.length, .sl true (eL eEvent b180_1) b180_1.length b180_1.length]⟩), (204, some ⟨false, 0, [.sl true (eL eStr b204_0) b204_0.length b204_0.length, .sl true (eL eEvent b204_1) b204_1.length b204_1.length]⟩)]⟩ := by
  unfold L_law19_awake_1 at h
  rcases brk h with ⟨h0, k0⟩ | ⟨h0, k0⟩
  · subst h0
    replace h := k0
    have h := Option.some.inj h
    refine hc.ret hfin (fn := Tryz.f30) (by kernel_rfl) (orc := []) (m := 3) (d := .bool false) (by kernel_rfl) .nil ?_ ?_
    · rw [← h]; exact Le.of rfl
    · rw [← h]; rfl
  · subst h0
    replace h := k0
    obtain ⟨h1, h⟩ := chk h
    obtain ⟨v1, h2, h⟩ := bind_of h
    obtain ⟨v2, h3, h⟩ := bind_of h
    rcases brk h with ⟨h4, h⟩ | ⟨h4, h⟩
    · obtain ⟨v3, h5, h⟩ := bind_of h
      rcases brk h with ⟨h6, h⟩ | ⟨h6, h⟩
      · obtain ⟨v4, h7, h⟩ := bind_of h
        rcases brk h with ⟨h8, h⟩ | ⟨h8, h⟩
        · rcases brk h with ⟨h9, h⟩ | ⟨h9, h⟩
          · rcases brk h with ⟨h10, h⟩ | ⟨h10, h⟩
            · rcases brk h with ⟨h11, h⟩ | ⟨h11, h⟩
              · obtain ⟨h12, h⟩ := chk h
                rcases brk h with ⟨h13, h⟩ | ⟨h13, h⟩
                · obtain ⟨h14, h⟩ := chk h
                  obtain ⟨h15, h⟩ := chk h
                  rcases brk h with ⟨h16, h⟩ | ⟨h16, h⟩
                  · obtain ⟨v5, h17, h⟩ := bind_of h
                    rcases brk h with ⟨h18, h⟩ | ⟨h18, h⟩
                    · obtain ⟨v6, h19, h⟩ := bind_of h
                      rcases brk h with ⟨h20, h⟩ | ⟨h20, h⟩
                      · obtain ⟨v7, h21, h⟩ := bind_of h
                        rcases brk h with ⟨h22, h⟩ | ⟨h22, h⟩
                        · obtain ⟨v8, h23, h⟩ := bind_of h
                          rcases brk h with ⟨h24, h⟩ | ⟨h24, h⟩
                          · obtain ⟨h25, h⟩ := chk h
                            rcases brk h with ⟨h26, h⟩ | ⟨h26, h⟩
                            · obtain ⟨v9, h27, h⟩ := bind_of h
                              rcases brk h with ⟨h28, h⟩ | ⟨h28, h⟩
                              · obtain ⟨v10, h29, h⟩ := bind_of h
                                exact hc.jump (orc := [(10, [(2, { cv := some (.ip true [.str (b156_0.getD (Int.toNat 0) default)]) }), (4, { r := d_ref1_Pop v1 })]), (11, [(1, { r := d_law0_Num v2 }), (3, { cv := some (.bool true) }), (5, { r := d_law0_Num v3 }), (8, { cv := some (.bool true) }), (10, { r := d_law0_Num v4 }), (13, { cv := some (.bool true) }), (17, { cv := some (.bool true) }), (23, { cv := some (.bool true) }), (28, { cv := some (.bool true) }), (31, { cv := some (.ip true [.int .i64 ((b156_1.getD (Int.toNat 0) default).Kind), .int .i64 ((b156_1.getD (Int.toNat 0) default).Role), .int .i64 ((b156_1.getD (Int.toNat 0) default).Site), .int .i64 ((b156_1.getD (Int.toNat 0) default).Node), .int .i64 ((b156_1.getD (Int.toNat 0) default).To), .int .i64 (((b156_1.getD (Int.toNat 0) default).Flow).Src), .int .i64 (((b156_1.getD (Int.toNat 0) default).Flow).Dst), .int .i64 (((b156_1.getD (Int.toNat 0) default).Flow).Proto), .int .i64 (((b156_1.getD (Int.toNat 0) default).Flow).Sport), .int .i64 (((b156_1.getD (Int.toNat 0) default).Flow).Dport)]) }), (36, { cv := some (.bool true) }), (39, { cv := some (.ip true [.int .i64 ((b156_1.getD (Int.toNat 0) default).Kind), .int .i64 ((b156_1.getD (Int.toNat 0) default).Role), .int .i64 ((b156_1.getD (Int.toNat 0) default).Site), .int .i64 ((b156_1.getD (Int.toNat 0) default).Node), .int .i64 ((b156_1.getD (Int.toNat 0) default).To), .int .i64 (((b156_1.getD (Int.toNat 0) default).Flow).Src), .int .i64 (((b156_1.getD (Int.toNat 0) default).Flow).Dst), .int .i64 (((b156_1.getD (Int.toNat 0) default).Flow).Proto), .int .i64 (((b156_1.getD (Int.toNat 0) default).Flow).Sport), .int .i64 (((b156_1.getD (Int.toNat 0) default).Flow).Dport)]) }), (44, { cv := some (.ip true [.int .i64 (((b148_4.getD (Int.toNat 0) default).Flow).Src), .int .i64 (((b148_4.getD (Int.toNat 0) default).Flow).Dst), .int .i64 (((b148_4.getD (Int.toNat 0) default).Flow).Proto), .int .i64 (((b148_4.getD (Int.toNat 0) default).Flow).Sport), .int .i64 (((b148_4.getD (Int.toNat 0) default).Flow).Dport), .int .i64 ((b148_4.getD (Int.toNat 0) default).To), .bool ((b148_4.getD (Int.toNat 0) default).Away), .int .i64 ((b148_4.getD (Int.toNat 0) default).Phase), .int .i64 ((b148_4.getD (Int.toNat 0) default).Used)]) }), (49, { cv := some (.bool true) }), (51, { r := d_law0_Num v5 }), (54, { cv := some (.bool true) }), (57, { r := d_law0_SameEdge v6 }), (59, { cv := some (.bool true) }), (64, { r := d_law0_SameEvents v7 }), (66, { cv := some (.bool true) }), (68, { r := d_law0_Num v8 }), (71, { cv := some (.bool true) }), (74, { cv := some (.ip true [.int .i64 ((b204_1.getD (Int.toNat 0) default).Kind), .int .i64 ((b204_1.getD (Int.toNat 0) default).Role), .int .i64 ((b204_1.getD (Int.toNat 0) default).Site), .int .i64 ((b204_1.getD (Int.toNat 0) default).Node), .int .i64 ((b204_1.getD (Int.toNat 0) default).To), .int .i64 (((b204_1.getD (Int.toNat 0) default).Flow).Src), .int .i64 (((b204_1.getD (Int.toNat 0) default).Flow).Dst), .int .i64 (((b204_1.getD (Int.toNat 0) default).Flow).Proto), .int .i64 (((b204_1.getD (Int.toNat 0) default).Flow).Sport), .int .i64 (((b204_1.getD (Int.toNat 0) default).Flow).Dport)]) }), (79, { cv := some (.bool true) }), (81, { r := d_law0_Num v9 }), (84, { cv := some (.bool true) }), (86, { r := d_edge_May v10 })])]) (m := 6) (kt := [0]) (kh := []) (by kernel_rfl) (.cons (h1) (.cons (Le.iptl (g := true) (eL_at (xs := b156_0) eStr_len (ixl h1))) (.cons (c_ref1_Pop N (b156_0.getD (Int.toNat 0) default) h2) (.cons (c_law0_Num N t2 h3) (.cons (Le.tt h4) (.cons (c_law0_Num N t4 h5) (.cons (Le.tt h6) (.cons (c_law0_Num N t8 h7) (.cons (Le.tt h8) (.cons (Le.tt h9) (.cons (Le.tt h10) (.cons (Le.tt h11) (.cons (h12) (.cons (Le.iptl (g := true) (eL_at (xs := b156_1) eEvent_len (ixl h12))) (.cons (Le.tt h13) (.cons (h14) (.cons (Le.iptl (g := true) (eL_at (xs := b156_1) eEvent_len (ixl h14))) (.cons (h15) (.cons (Le.iptl (g := true) (eL_at (xs := b148_4) eEntry_len (ixl h15))) (.cons (Le.tt h16) (.cons (c_law0_Num N t11 h17) (.cons (Le.tt h18) (.cons (c_law0_SameEdge N true true (GEdge.mk b148_0 (GConfig.mk b148_1 b148_2) b148_3 b148_4) (GEdge.mk b172_0 (GConfig.mk b172_1 b172_2) b172_3 b172_4) h19) (.cons (Le.tt h20) (.cons (c_law0_SameEvents N true false b180_1 ([(GEvent.mk 2 0 0 1 0 (GFlow.mk 0 0 0 0 0))]) h21) (.cons (Le.tt h22) (.cons (c_law0_Num N t14 h23) (.cons (Le.tt h24) (.cons (h25) (.cons (Le.iptl (g := true) (eL_at (xs := b204_1) eEvent_len (ixl h25))) (.cons (Le.tt h26) (.cons (c_law0_Num N t17 h27) (.cons (Le.tt h28) (.cons (c_edge_May N true (GEdge.mk b108_0 (GConfig.mk b108_1 b108_2) b108_3 b108_4) h29) .nil)))))))))))))))))))))))))))))))))) (g_law19_awake_2 hc N hfin v10 h)
                              · exact hc.jump (orc := [(10, [(2, { cv := some (.ip true [.str (b156_0.getD (Int.toNat 0) default)]) }), (4, { r := d_ref1_Pop v1 })]), (11, [(1, { r := d_law0_Num v2 }), (3, { cv := some (.bool true) }), (5, { r := d_law0_Num v3 }), (8, { cv := some (.bool true) }), (10, { r := d_law0_Num v4 }), (13, { cv := some (.bool true) }), (17, { cv := some (.bool true) }), (23, { cv := some (.bool true) }), (28, { cv := some (.bool true) }), (31, { cv := some (.ip true [.int .i64 ((b156_1.getD (Int.toNat 0) default).Kind), .int .i64 ((b156_1.getD (Int.toNat 0) default).Role), .int .i64 ((b156_1.getD (Int.toNat 0) default).Site), .int .i64 ((b156_1.getD (Int.toNat 0) default).Node), .int .i64 ((b156_1.getD (Int.toNat 0) default).To), .int .i64 (((b156_1.getD (Int.toNat 0) default).Flow).Src), .int .i64 (((b156_1.getD (Int.toNat 0) default).Flow).Dst), .int .i64 (((b156_1.getD (Int.toNat 0) default).Flow).Proto), .int .i64 (((b156_1.getD (Int.toNat 0) default).Flow).Sport), .int .i64 (((b156_1.getD (Int.toNat 0) default).Flow).Dport)]) }), (36, { cv := some (.bool true) }), (39, { cv := some (.ip true [.int .i64 ((b156_1.getD (Int.toNat 0) default).Kind), .int .i64 ((b156_1.getD (Int.toNat 0) default).Role), .int .i64 ((b156_1.getD (Int.toNat 0) default).Site), .int .i64 ((b156_1.getD (Int.toNat 0) default).Node), .int .i64 ((b156_1.getD (Int.toNat 0) default).To), .int .i64 (((b156_1.getD (Int.toNat 0) default).Flow).Src), .int .i64 (((b156_1.getD (Int.toNat 0) default).Flow).Dst), .int .i64 (((b156_1.getD (Int.toNat 0) default).Flow).Proto), .int .i64 (((b156_1.getD (Int.toNat 0) default).Flow).Sport), .int .i64 (((b156_1.getD (Int.toNat 0) default).Flow).Dport)]) }), (44, { cv := some (.ip true [.int .i64 (((b148_4.getD (Int.toNat 0) default).Flow).Src), .int .i64 (((b148_4.getD (Int.toNat 0) default).Flow).Dst), .int .i64 (((b148_4.getD (Int.toNat 0) default).Flow).Proto), .int .i64 (((b148_4.getD (Int.toNat 0) default).Flow).Sport), .int .i64 (((b148_4.getD (Int.toNat 0) default).Flow).Dport), .int .i64 ((b148_4.getD (Int.toNat 0) default).To), .bool ((b148_4.getD (Int.toNat 0) default).Away), .int .i64 ((b148_4.getD (Int.toNat 0) default).Phase), .int .i64 ((b148_4.getD (Int.toNat 0) default).Used)]) }), (49, { cv := some (.bool true) }), (51, { r := d_law0_Num v5 }), (54, { cv := some (.bool true) }), (57, { r := d_law0_SameEdge v6 }), (59, { cv := some (.bool true) }), (64, { r := d_law0_SameEvents v7 }), (66, { cv := some (.bool true) }), (68, { r := d_law0_Num v8 }), (71, { cv := some (.bool true) }), (74, { cv := some (.ip true [.int .i64 ((b204_1.getD (Int.toNat 0) default).Kind), .int .i64 ((b204_1.getD (Int.toNat 0) default).Role), .int .i64 ((b204_1.getD (Int.toNat 0) default).Site), .int .i64 ((b204_1.getD (Int.toNat 0) default).Node), .int .i64 ((b204_1.getD (Int.toNat 0) default).To), .int .i64 (((b204_1.getD (Int.toNat 0) default).Flow).Src), .int .i64 (((b204_1.getD (Int.toNat 0) default).Flow).Dst), .int .i64 (((b204_1.getD (Int.toNat 0) default).Flow).Proto), .int .i64 (((b204_1.getD (Int.toNat 0) default).Flow).Sport), .int .i64 (((b204_1.getD (Int.toNat 0) default).Flow).Dport)]) }), (79, { cv := some (.bool true) }), (81, { r := d_law0_Num v9 }), (84, { cv := some (.bool false) })])]) (m := 6) (kt := [0]) (kh := []) (by kernel_rfl) (.cons (h1) (.cons (Le.iptl (g := true) (eL_at (xs := b156_0) eStr_len (ixl h1))) (.cons (c_ref1_Pop N (b156_0.getD (Int.toNat 0) default) h2) (.cons (c_law0_Num N t2 h3) (.cons (Le.tt h4) (.cons (c_law0_Num N t4 h5) (.cons (Le.tt h6) (.cons (c_law0_Num N t8 h7) (.cons (Le.tt h8) (.cons (Le.tt h9) (.cons (Le.tt h10) (.cons (Le.tt h11) (.cons (h12) (.cons (Le.iptl (g := true) (eL_at (xs := b156_1) eEvent_len (ixl h12))) (.cons (Le.tt h13) (.cons (h14) (.cons (Le.iptl (g := true) (eL_at (xs := b156_1) eEvent_len (ixl h14))) (.cons (h15) (.cons (Le.iptl (g := true) (eL_at (xs := b148_4) eEntry_len (ixl h15))) (.cons (Le.tt h16) (.cons (c_law0_Num N t11 h17) (.cons (Le.tt h18) (.cons (c_law0_SameEdge N true true (GEdge.mk b148_0 (GConfig.mk b148_1 b148_2) b148_3 b148_4) (GEdge.mk b172_0 (GConfig.mk b172_1 b172_2) b172_3 b172_4) h19) (.cons (Le.tt h20) (.cons (c_law0_SameEvents N true false b180_1 ([(GEvent.mk 2 0 0 1 0 (GFlow.mk 0 0 0 0 0))]) h21) (.cons (Le.tt h22) (.cons (c_law0_Num N t14 h23) (.cons (Le.tt h24) (.cons (h25) (.cons (Le.iptl (g := true) (eL_at (xs := b204_1) eEvent_len (ixl h25))) (.cons (Le.tt h26) (.cons (c_law0_Num N t17 h27) (.cons (Le.ff h28) .nil))))))))))))))))))))))))))))))))) (g_law19_awake_2 hc N hfin false h)
                            · exact hc.jump (orc := [(10, [(2, { cv := some (.ip true [.str (b156_0.getD (Int.toNat 0) default)]) }), (4, { r := d_ref1_Pop v1 })]), (11, [(1, { r := d_law0_Num v2 }), (3, { cv := some (.bool true) }), (5, { r := d_law0_Num v3 }), (8, { cv := some (.bool true) }), (10, { r := d_law0_Num v4 }), (13, { cv := some (.bool true) }), (17, { cv := some (.bool true) }), (23, { cv := some (.bool true) }), (28, { cv := some (.bool true) }), (31, { cv := some (.ip true [.int .i64 ((b156_1.getD (Int.toNat 0) default).Kind), .int .i64 ((b156_1.getD (Int.toNat 0) default).Role), .int .i64 ((b156_1.getD (Int.toNat 0) default).Site), .int .i64 ((b156_1.getD (Int.toNat 0) default).Node), .int .i64 ((b156_1.getD (Int.toNat 0) default).To), .int .i64 (((b156_1.getD (Int.toNat 0) default).Flow).Src), .int .i64 (((b156_1.getD (Int.toNat 0) default).Flow).Dst), .int .i64 (((b156_1.getD (Int.toNat 0) default).Flow).Proto), .int .i64 (((b156_1.getD (Int.toNat 0) default).Flow).Sport), .int .i64 (((b156_1.getD (Int.toNat 0) default).Flow).Dport)]) }), (36, { cv := some (.bool true) }), (39, { cv := some (.ip true [.int .i64 ((b156_1.getD (Int.toNat 0) default).Kind), .int .i64 ((b156_1.getD (Int.toNat 0) default).Role), .int .i64 ((b156_1.getD (Int.toNat 0) default).Site), .int .i64 ((b156_1.getD (Int.toNat 0) default).Node), .int .i64 ((b156_1.getD (Int.toNat 0) default).To), .int .i64 (((b156_1.getD (Int.toNat 0) default).Flow).Src), .int .i64 (((b156_1.getD (Int.toNat 0) default).Flow).Dst), .int .i64 (((b156_1.getD (Int.toNat 0) default).Flow).Proto), .int .i64 (((b156_1.getD (Int.toNat 0) default).Flow).Sport), .int .i64 (((b156_1.getD (Int.toNat 0) default).Flow).Dport)]) }), (44, { cv := some (.ip true [.int .i64 (((b148_4.getD (Int.toNat 0) default).Flow).Src), .int .i64 (((b148_4.getD (Int.toNat 0) default).Flow).Dst), .int .i64 (((b148_4.getD (Int.toNat 0) default).Flow).Proto), .int .i64 (((b148_4.getD (Int.toNat 0) default).Flow).Sport), .int .i64 (((b148_4.getD (Int.toNat 0) default).Flow).Dport), .int .i64 ((b148_4.getD (Int.toNat 0) default).To), .bool ((b148_4.getD (Int.toNat 0) default).Away), .int .i64 ((b148_4.getD (Int.toNat 0) default).Phase), .int .i64 ((b148_4.getD (Int.toNat 0) default).Used)]) }), (49, { cv := some (.bool true) }), (51, { r := d_law0_Num v5 }), (54, { cv := some (.bool true) }), (57, { r := d_law0_SameEdge v6 }), (59, { cv := some (.bool true) }), (64, { r := d_law0_SameEvents v7 }), (66, { cv := some (.bool true) }), (68, { r := d_law0_Num v8 }), (71, { cv := some (.bool true) }), (74, { cv := some (.ip true [.int .i64 ((b204_1.getD (Int.toNat 0) default).Kind), .int .i64 ((b204_1.getD (Int.toNat 0) default).Role), .int .i64 ((b204_1.getD (Int.toNat 0) default).Site), .int .i64 ((b204_1.getD (Int.toNat 0) default).Node), .int .i64 ((b204_1.getD (Int.toNat 0) default).To), .int .i64 (((b204_1.getD (Int.toNat 0) default).Flow).Src), .int .i64 (((b204_1.getD (Int.toNat 0) default).Flow).Dst), .int .i64 (((b204_1.getD (Int.toNat 0) default).Flow).Proto), .int .i64 (((b204_1.getD (Int.toNat 0) default).Flow).Sport), .int .i64 (((b204_1.getD (Int.toNat 0) default).Flow).Dport)]) }), (79, { cv := some (.bool false) })])]) (m := 6) (kt := [0]) (kh := []) (by kernel_rfl) (.cons (h1) (.cons (Le.iptl (g := true) (eL_at (xs := b156_0) eStr_len (ixl h1))) (.cons (c_ref1_Pop N (b156_0.getD (Int.toNat 0) default) h2) (.cons (c_law0_Num N t2 h3) (.cons (Le.tt h4) (.cons (c_law0_Num N t4 h5) (.cons (Le.tt h6) (.cons (c_law0_Num N t8 h7) (.cons (Le.tt h8) (.cons (Le.tt h9) (.cons (Le.tt h10) (.cons (Le.tt h11) (.cons (h12) (.cons (Le.iptl (g := true) (eL_at (xs := b156_1) eEvent_len (ixl h12))) (.cons (Le.tt h13) (.cons (h14) (.cons (Le.iptl (g := true) (eL_at (xs := b156_1) eEvent_len (ixl h14))) (.cons (h15) (.cons (Le.iptl (g := true) (eL_at (xs := b148_4) eEntry_len (ixl h15))) (.cons (Le.tt h16) (.cons (c_law0_Num N t11 h17) (.cons (Le.tt h18) (.cons (c_law0_SameEdge N true true (GEdge.mk b148_0 (GConfig.mk b148_1 b148_2) b148_3 b148_4) (GEdge.mk b172_0 (GConfig.mk b172_1 b172_2) b172_3 b172_4) h19) (.cons (Le.tt h20) (.cons (c_law0_SameEvents N true false b180_1 ([(GEvent.mk 2 0 0 1 0 (GFlow.mk 0 0 0 0 0))]) h21) (.cons (Le.tt h22) (.cons (c_law0_Num N t14 h23) (.cons (Le.tt h24) (.cons (h25) (.cons (Le.iptl (g := true) (eL_at (xs := b204_1) eEvent_len (ixl h25))) (.cons (Le.ff h26) .nil))))))))))))))))))))))))))))))) (g_law19_awake_2 hc N hfin false h)
                          · exact hc.jump (orc := [(10, [(2, { cv := some (.ip true [.str (b156_0.getD (Int.toNat 0) default)]) }), (4, { r := d_ref1_Pop v1 })]), (11, [(1, { r := d_law0_Num v2 }), (3, { cv := some (.bool true) }), (5, { r := d_law0_Num v3 }), (8, { cv := some (.bool true) }), (10, { r := d_law0_Num v4 }), (13, { cv := some (.bool true) }), (17, { cv := some (.bool true) }), (23, { cv := some (.bool true) }), (28, { cv := some (.bool true) }), (31, { cv := some (.ip true [.int .i64 ((b156_1.getD (Int.toNat 0) default).Kind), .int .i64 ((b156_1.getD (Int.toNat 0) default).Role), .int .i64 ((b156_1.getD (Int.toNat 0) default).Site), .int .i64 ((b156_1.getD (Int.toNat 0) default).Node), .int .i64 ((b156_1.getD (Int.toNat 0) default).To), .int .i64 (((b156_1.getD (Int.toNat 0) default).Flow).Src), .int .i64 (((b156_1.getD (Int.toNat 0) default).Flow).Dst), .int .i64 (((b156_1.getD (Int.toNat 0) default).Flow).Proto), .int .i64 (((b156_1.getD (Int.toNat 0) default).Flow).Sport), .int .i64 (((b156_1.getD (Int.toNat 0) default).Flow).Dport)]) }), (36, { cv := some (.bool true) }), (39, { cv := some (.ip true [.int .i64 ((b156_1.getD (Int.toNat 0) default).Kind), .int .i64 ((b156_1.getD (Int.toNat 0) default).Role), .int .i64 ((b156_1.getD (Int.toNat 0) default).Site), .int .i64 ((b156_1.getD (Int.toNat 0) default).Node), .int .i64 ((b156_1.getD (Int.toNat 0) default).To), .int .i64 (((b156_1.getD (Int.toNat 0) default).Flow).Src), .int .i64 (((b156_1.getD (Int.toNat 0) default).Flow).Dst), .int .i64 (((b156_1.getD (Int.toNat 0) default).Flow).Proto), .int .i64 (((b156_1.getD (Int.toNat 0) default).Flow).Sport), .int .i64 (((b156_1.getD (Int.toNat 0) default).Flow).Dport)]) }), (44, { cv := some (.ip true [.int .i64 (((b148_4.getD (Int.toNat 0) default).Flow).Src), .int .i64 (((b148_4.getD (Int.toNat 0) default).Flow).Dst), .int .i64 (((b148_4.getD (Int.toNat 0) default).Flow).Proto), .int .i64 (((b148_4.getD (Int.toNat 0) default).Flow).Sport), .int .i64 (((b148_4.getD (Int.toNat 0) default).Flow).Dport), .int .i64 ((b148_4.getD (Int.toNat 0) default).To), .bool ((b148_4.getD (Int.toNat 0) default).Away), .int .i64 ((b148_4.getD (Int.toNat 0) default).Phase), .int .i64 ((b148_4.getD (Int.toNat 0) default).Used)]) }), (49, { cv := some (.bool true) }), (51, { r := d_law0_Num v5 }), (54, { cv := some (.bool true) }), (57, { r := d_law0_SameEdge v6 }), (59, { cv := some (.bool true) }), (64, { r := d_law0_SameEvents v7 }), (66, { cv := some (.bool true) }), (68, { r := d_law0_Num v8 }), (71, { cv := some (.bool false) })])]) (m := 6) (kt := [0]) (kh := []) (by kernel_rfl) (.cons (h1) (.cons (Le.iptl (g := true) (eL_at (xs := b156_0) eStr_len (ixl h1))) (.cons (c_ref1_Pop N (b156_0.getD (Int.toNat 0) default) h2) (.cons (c_law0_Num N t2 h3) (.cons (Le.tt h4) (.cons (c_law0_Num N t4 h5) (.cons (Le.tt h6) (.cons (c_law0_Num N t8 h7) (.cons (Le.tt h8) (.cons (Le.tt h9) (.cons (Le.tt h10) (.cons (Le.tt h11) (.cons (h12) (.cons (Le.iptl (g := true) (eL_at (xs := b156_1) eEvent_len (ixl h12))) (.cons (Le.tt h13) (.cons (h14) (.cons (Le.iptl (g := true) (eL_at (xs := b156_1) eEvent_len (ixl h14))) (.cons (h15) (.cons (Le.iptl (g := true) (eL_at (xs := b148_4) eEntry_len (ixl h15))) (.cons (Le.tt h16) (.cons (c_law0_Num N t11 h17) (.cons (Le.tt h18) (.cons (c_law0_SameEdge N true true (GEdge.mk b148_0 (GConfig.mk b148_1 b148_2) b148_3 b148_4) (GEdge.mk b172_0 (GConfig.mk b172_1 b172_2) b172_3 b172_4) h19) (.cons (Le.tt h20) (.cons (c_law0_SameEvents N true false b180_1 ([(GEvent.mk 2 0 0 1 0 (GFlow.mk 0 0 0 0 0))]) h21) (.cons (Le.tt h22) (.cons (c_law0_Num N t14 h23) (.cons (Le.ff h24) .nil)))))))))))))))))))))))))))) (g_law19_awake_2 hc N hfin false h)
                        · exact hc.jump (orc := [(10, [(2, { cv := some (.ip true [.str (b156_0.getD (Int.toNat 0) default)]) }), (4, { r := d_ref1_Pop v1 })]), (11, [(1, { r := d_law0_Num v2 }), (3, { cv := some (.bool true) }), (5, { r := d_law0_Num v3 }), (8, { cv := some (.bool true) }), (10, { r := d_law0_Num v4 }), (13, { cv := some (.bool true) }), (17, { cv := some (.bool true) }), (23, { cv := some (.bool true) }), (28, { cv := some (.bool true) }), (31, { cv := some (.ip true [.int .i64 ((b156_1.getD (Int.toNat 0) default).Kind), .int .i64 ((b156_1.getD (Int.toNat 0) default).Role), .int .i64 ((b156_1.getD (Int.toNat 0) default).Site), .int .i64 ((b156_1.getD (Int.toNat 0) default).Node), .int .i64 ((b156_1.getD (Int.toNat 0) default).To), .int .i64 (((b156_1.getD (Int.toNat 0) default).Flow).Src), .int .i64 (((b156_1.getD (Int.toNat 0) default).Flow).Dst), .int .i64 (((b156_1.getD (Int.toNat 0) default).Flow).Proto), .int .i64 (((b156_1.getD (Int.toNat 0) default).Flow).Sport), .int .i64 (((b156_1.getD (Int.toNat 0) default).Flow).Dport)]) }), (36, { cv := some (.bool true) }), (39, { cv := some (.ip true [.int .i64 ((b156_1.getD (Int.toNat 0) default).Kind), .int .i64 ((b156_1.getD (Int.toNat 0) default).Role), .int .i64 ((b156_1.getD (Int.toNat 0) default).Site), .int .i64 ((b156_1.getD (Int.toNat 0) default).Node), .int .i64 ((b156_1.getD (Int.toNat 0) default).To), .int .i64 (((b156_1.getD (Int.toNat 0) default).Flow).Src), .int .i64 (((b156_1.getD (Int.toNat 0) default).Flow).Dst), .int .i64 (((b156_1.getD (Int.toNat 0) default).Flow).Proto), .int .i64 (((b156_1.getD (Int.toNat 0) default).Flow).Sport), .int .i64 (((b156_1.getD (Int.toNat 0) default).Flow).Dport)]) }), (44, { cv := some (.ip true [.int .i64 (((b148_4.getD (Int.toNat 0) default).Flow).Src), .int .i64 (((b148_4.getD (Int.toNat 0) default).Flow).Dst), .int .i64 (((b148_4.getD (Int.toNat 0) default).Flow).Proto), .int .i64 (((b148_4.getD (Int.toNat 0) default).Flow).Sport), .int .i64 (((b148_4.getD (Int.toNat 0) default).Flow).Dport), .int .i64 ((b148_4.getD (Int.toNat 0) default).To), .bool ((b148_4.getD (Int.toNat 0) default).Away), .int .i64 ((b148_4.getD (Int.toNat 0) default).Phase), .int .i64 ((b148_4.getD (Int.toNat 0) default).Used)]) }), (49, { cv := some (.bool true) }), (51, { r := d_law0_Num v5 }), (54, { cv := some (.bool true) }), (57, { r := d_law0_SameEdge v6 }), (59, { cv := some (.bool true) }), (64, { r := d_law0_SameEvents v7 }), (66, { cv := some (.bool false) })])]) (m := 6) (kt := [0]) (kh := []) (by kernel_rfl) (.cons (h1) (.cons (Le.iptl (g := true) (eL_at (xs := b156_0) eStr_len (ixl h1))) (.cons (c_ref1_Pop N (b156_0.getD (Int.toNat 0) default) h2) (.cons (c_law0_Num N t2 h3) (.cons (Le.tt h4) (.cons (c_law0_Num N t4 h5) (.cons (Le.tt h6) (.cons (c_law0_Num N t8 h7) (.cons (Le.tt h8) (.cons (Le.tt h9) (.cons (Le.tt h10) (.cons (Le.tt h11) (.cons (h12) (.cons (Le.iptl (g := true) (eL_at (xs := b156_1) eEvent_len (ixl h12))) (.cons (Le.tt h13) (.cons (h14) (.cons (Le.iptl (g := true) (eL_at (xs := b156_1) eEvent_len (ixl h14))) (.cons (h15) (.cons (Le.iptl (g := true) (eL_at (xs := b148_4) eEntry_len (ixl h15))) (.cons (Le.tt h16) (.cons (c_law0_Num N t11 h17) (.cons (Le.tt h18) (.cons (c_law0_SameEdge N true true (GEdge.mk b148_0 (GConfig.mk b148_1 b148_2) b148_3 b148_4) (GEdge.mk b172_0 (GConfig.mk b172_1 b172_2) b172_3 b172_4) h19) (.cons (Le.tt h20) (.cons (c_law0_SameEvents N true false b180_1 ([(GEvent.mk 2 0 0 1 0 (GFlow.mk 0 0 0 0 0))]) h21) (.cons (Le.ff h22) .nil)))))))))))))))))))))))))) (g_law19_awake_2 hc N hfin false h)
                      · exact hc.jump (orc := [(10, [(2, { cv := some (.ip true [.str (b156_0.getD (Int.toNat 0) default)]) }), (4, { r := d_ref1_Pop v1 })]), (11, [(1, { r := d_law0_Num v2 }), (3, { cv := some (.bool true) }), (5, { r := d_law0_Num v3 }), (8, { cv := some (.bool true) }), (10, { r := d_law0_Num v4 }), (13, { cv := some (.bool true) }), (17, { cv := some (.bool true) }), (23, { cv := some (.bool true) }), (28, { cv := some (.bool true) }), (31, { cv := some (.ip true [.int .i64 ((b156_1.getD (Int.toNat 0) default).Kind), .int .i64 ((b156_1.getD (Int.toNat 0) default).Role), .int .i64 ((b156_1.getD (Int.toNat 0) default).Site), .int .i64 ((b156_1.getD (Int.toNat 0) default).Node), .int .i64 ((b156_1.getD (Int.toNat 0) default).To), .int .i64 (((b156_1.getD (Int.toNat 0) default).Flow).Src), .int .i64 (((b156_1.getD (Int.toNat 0) default).Flow).Dst), .int .i64 (((b156_1.getD (Int.toNat 0) default).Flow).Proto), .int .i64 (((b156_1.getD (Int.toNat 0) default).Flow).Sport), .int .i64 (((b156_1.getD (Int.toNat 0) default).Flow).Dport)]) }), (36, { cv := some (.bool true) }), (39, { cv := some (.ip true [.int .i64 ((b156_1.getD (Int.toNat 0) default).Kind), .int .i64 ((b156_1.getD (Int.toNat 0) default).Role), .int .i64 ((b156_1.getD (Int.toNat 0) default).Site), .int .i64 ((b156_1.getD (Int.toNat 0) default).Node), .int .i64 ((b156_1.getD (Int.toNat 0) default).To), .int .i64 (((b156_1.getD (Int.toNat 0) default).Flow).Src), .int .i64 (((b156_1.getD (Int.toNat 0) default).Flow).Dst), .int .i64 (((b156_1.getD (Int.toNat 0) default).Flow).Proto), .int .i64 (((b156_1.getD (Int.toNat 0) default).Flow).Sport), .int .i64 (((b156_1.getD (Int.toNat 0) default).Flow).Dport)]) }), (44, { cv := some (.ip true [.int .i64 (((b148_4.getD (Int.toNat 0) default).Flow).Src), .int .i64 (((b148_4.getD (Int.toNat 0) default).Flow).Dst), .int .i64 (((b148_4.getD (Int.toNat 0) default).Flow).Proto), .int .i64 (((b148_4.getD (Int.toNat 0) default).Flow).Sport), .int .i64 (((b148_4.getD (Int.toNat 0) default).Flow).Dport), .int .i64 ((b148_4.getD (Int.toNat 0) default).To), .bool ((b148_4.getD (Int.toNat 0) default).Away), .int .i64 ((b148_4.getD (Int.toNat 0) default).Phase), .int .i64 ((b148_4.getD (Int.toNat 0) default).Used)]) }), (49, { cv := some (.bool true) }), (51, { r := d_law0_Num v5 }), (54, { cv := some (.bool true) }), (57, { r := d_law0_SameEdge v6 }), (59, { cv := some (.bool false) })])]) (m := 6) (kt := [0]) (kh := []) (by kernel_rfl) (.cons (h1) (.cons (Le.iptl (g := true) (eL_at (xs := b156_0) eStr_len (ixl h1))) (.cons (c_ref1_Pop N (b156_0.getD (Int.toNat 0) default) h2) (.cons (c_law0_Num N t2 h3) (.cons (Le.tt h4) (.cons (c_law0_Num N t4 h5) (.cons (Le.tt h6) (.cons (c_law0_Num N t8 h7) (.cons (Le.tt h8) (.cons (Le.tt h9) (.cons (Le.tt h10) (.cons (Le.tt h11) (.cons (h12) (.cons (Le.iptl (g := true) (eL_at (xs := b156_1) eEvent_len (ixl h12))) (.cons (Le.tt h13) (.cons (h14) (.cons (Le.iptl (g := true) (eL_at (xs := b156_1) eEvent_len (ixl h14))) (.cons (h15) (.cons (Le.iptl (g := true) (eL_at (xs := b148_4) eEntry_len (ixl h15))) (.cons (Le.tt h16) (.cons (c_law0_Num N t11 h17) (.cons (Le.tt h18) (.cons (c_law0_SameEdge N true true (GEdge.mk b148_0 (GConfig.mk b148_1 b148_2) b148_3 b148_4) (GEdge.mk b172_0 (GConfig.mk b172_1 b172_2) b172_3 b172_4) h19) (.cons (Le.ff h20) .nil)))))))))))))))))))))))) (g_law19_awake_2 hc N hfin false h)
                    · exact hc.jump (orc := [(10, [(2, { cv := some (.ip true [.str (b156_0.getD (Int.toNat 0) default)]) }), (4, { r := d_ref1_Pop v1 })]), (11, [(1, { r := d_law0_Num v2 }), (3, { cv := some (.bool true) }), (5, { r := d_law0_Num v3 }), (8, { cv := some (.bool true) }), (10, { r := d_law0_Num v4 }), (13, { cv := some (.bool true) }), (17, { cv := some (.bool true) }), (23, { cv := some (.bool true) }), (28, { cv := some (.bool true) }), (31, { cv := some (.ip true [.int .i64 ((b156_1.getD (Int.toNat 0) default).Kind), .int .i64 ((b156_1.getD (Int.toNat 0) default).Role), .int .i64 ((b156_1.getD (Int.toNat 0) default).Site), .int .i64 ((b156_1.getD (Int.toNat 0) default).Node), .int .i64 ((b156_1.getD (Int.toNat 0) default).To), .int .i64 (((b156_1.getD (Int.toNat 0) default).Flow).Src), .int .i64 (((b156_1.getD (Int.toNat 0) default).Flow).Dst), .int .i64 (((b156_1.getD (Int.toNat 0) default).Flow).Proto), .int .i64 (((b156_1.getD (Int.toNat 0) default).Flow).Sport), .int .i64 (((b156_1.getD (Int.toNat 0) default).Flow).Dport)]) }), (36, { cv := some (.bool true) }), (39, { cv := some (.ip true [.int .i64 ((b156_1.getD (Int.toNat 0) default).Kind), .int .i64 ((b156_1.getD (Int.toNat 0) default).Role), .int .i64 ((b156_1.getD (Int.toNat 0) default).Site), .int .i64 ((b156_1.getD (Int.toNat 0) default).Node), .int .i64 ((b156_1.getD (Int.toNat 0) default).To), .int .i64 (((b156_1.getD (Int.toNat 0) default).Flow).Src), .int .i64 (((b156_1.getD (Int.toNat 0) default).Flow).Dst), .int .i64 (((b156_1.getD (Int.toNat 0) default).Flow).Proto), .int .i64 (((b156_1.getD (Int.toNat 0) default).Flow).Sport), .int .i64 (((b156_1.getD (Int.toNat 0) default).Flow).Dport)]) }), (44, { cv := some (.ip true [.int .i64 (((b148_4.getD (Int.toNat 0) default).Flow).Src), .int .i64 (((b148_4.getD (Int.toNat 0) default).Flow).Dst), .int .i64 (((b148_4.getD (Int.toNat 0) default).Flow).Proto), .int .i64 (((b148_4.getD (Int.toNat 0) default).Flow).Sport), .int .i64 (((b148_4.getD (Int.toNat 0) default).Flow).Dport), .int .i64 ((b148_4.getD (Int.toNat 0) default).To), .bool ((b148_4.getD (Int.toNat 0) default).Away), .int .i64 ((b148_4.getD (Int.toNat 0) default).Phase), .int .i64 ((b148_4.getD (Int.toNat 0) default).Used)]) }), (49, { cv := some (.bool true) }), (51, { r := d_law0_Num v5 }), (54, { cv := some (.bool false) })])]) (m := 6) (kt := [0]) (kh := []) (by kernel_rfl) (.cons (h1) (.cons (Le.iptl (g := true) (eL_at (xs := b156_0) eStr_len (ixl h1))) (.cons (c_ref1_Pop N (b156_0.getD (Int.toNat 0) default) h2) (.cons (c_law0_Num N t2 h3) (.cons (Le.tt h4) (.cons (c_law0_Num N t4 h5) (.cons (Le.tt h6) (.cons (c_law0_Num N t8 h7) (.cons (Le.tt h8) (.cons (Le.tt h9) (.cons (Le.tt h10) (.cons (Le.tt h11) (.cons (h12) (.cons (Le.iptl (g := true) (eL_at (xs := b156_1) eEvent_len (ixl h12))) (.cons (Le.tt h13) (.cons (h14) (.cons (Le.iptl (g := true) (eL_at (xs := b156_1) eEvent_len (ixl h14))) (.cons (h15) (.cons (Le.iptl (g := true) (eL_at (xs := b148_4) eEntry_len (ixl h15))) (.cons (Le.tt h16) (.cons (c_law0_Num N t11 h17) (.cons (Le.ff h18) .nil)))))))))))))))))))))) (g_law19_awake_2 hc N hfin false h)
                  · exact hc.jump (orc := [(10, [(2, { cv := some (.ip true [.str (b156_0.getD (Int.toNat 0) default)]) }), (4, { r := d_ref1_Pop v1 })]), (11, [(1, { r := d_law0_Num v2 }), (3, { cv := some (.bool true) }), (5, { r := d_law0_Num v3 }), (8, { cv := some (.bool true) }), (10, { r := d_law0_Num v4 }), (13, { cv := some (.bool true) }), (17, { cv := some (.bool true) }), (23, { cv := some (.bool true) }), (28, { cv := some (.bool true) }), (31, { cv := some (.ip true [.int .i64 ((b156_1.getD (Int.toNat 0) default).Kind), .int .i64 ((b156_1.getD (Int.toNat 0) default).Role), .int .i64 ((b156_1.getD (Int.toNat 0) default).Site), .int .i64 ((b156_1.getD (Int.toNat 0) default).Node), .int .i64 ((b156_1.getD (Int.toNat 0) default).To), .int .i64 (((b156_1.getD (Int.toNat 0) default).Flow).Src), .int .i64 (((b156_1.getD (Int.toNat 0) default).Flow).Dst), .int .i64 (((b156_1.getD (Int.toNat 0) default).Flow).Proto), .int .i64 (((b156_1.getD (Int.toNat 0) default).Flow).Sport), .int .i64 (((b156_1.getD (Int.toNat 0) default).Flow).Dport)]) }), (36, { cv := some (.bool true) }), (39, { cv := some (.ip true [.int .i64 ((b156_1.getD (Int.toNat 0) default).Kind), .int .i64 ((b156_1.getD (Int.toNat 0) default).Role), .int .i64 ((b156_1.getD (Int.toNat 0) default).Site), .int .i64 ((b156_1.getD (Int.toNat 0) default).Node), .int .i64 ((b156_1.getD (Int.toNat 0) default).To), .int .i64 (((b156_1.getD (Int.toNat 0) default).Flow).Src), .int .i64 (((b156_1.getD (Int.toNat 0) default).Flow).Dst), .int .i64 (((b156_1.getD (Int.toNat 0) default).Flow).Proto), .int .i64 (((b156_1.getD (Int.toNat 0) default).Flow).Sport), .int .i64 (((b156_1.getD (Int.toNat 0) default).Flow).Dport)]) }), (44, { cv := some (.ip true [.int .i64 (((b148_4.getD (Int.toNat 0) default).Flow).Src), .int .i64 (((b148_4.getD (Int.toNat 0) default).Flow).Dst), .int .i64 (((b148_4.getD (Int.toNat 0) default).Flow).Proto), .int .i64 (((b148_4.getD (Int.toNat 0) default).Flow).Sport), .int .i64 (((b148_4.getD (Int.toNat 0) default).Flow).Dport), .int .i64 ((b148_4.getD (Int.toNat 0) default).To), .bool ((b148_4.getD (Int.toNat 0) default).Away), .int .i64 ((b148_4.getD (Int.toNat 0) default).Phase), .int .i64 ((b148_4.getD (Int.toNat 0) default).Used)]) }), (49, { cv := some (.bool false) })])]) (m := 6) (kt := [0]) (kh := []) (by kernel_rfl) (.cons (h1) (.cons (Le.iptl (g := true) (eL_at (xs := b156_0) eStr_len (ixl h1))) (.cons (c_ref1_Pop N (b156_0.getD (Int.toNat 0) default) h2) (.cons (c_law0_Num N t2 h3) (.cons (Le.tt h4) (.cons (c_law0_Num N t4 h5) (.cons (Le.tt h6) (.cons (c_law0_Num N t8 h7) (.cons (Le.tt h8) (.cons (Le.tt h9) (.cons (Le.tt h10) (.cons (Le.tt h11) (.cons (h12) (.cons (Le.iptl (g := true) (eL_at (xs := b156_1) eEvent_len (ixl h12))) (.cons (Le.tt h13) (.cons (h14) (.cons (Le.iptl (g := true) (eL_at (xs := b156_1) eEvent_len (ixl h14))) (.cons (h15) (.cons (Le.iptl (g := true) (eL_at (xs := b148_4) eEntry_len (ixl h15))) (.cons (Le.ff h16) .nil)))))))))))))))))))) (g_law19_awake_2 hc N hfin false h)
                · exact hc.jump (orc := [(10, [(2, { cv := some (.ip true [.str (b156_0.getD (Int.toNat 0) default)]) }), (4, { r := d_ref1_Pop v1 })]), (11, [(1, { r := d_law0_Num v2 }), (3, { cv := some (.bool true) }), (5, { r := d_law0_Num v3 }), (8, { cv := some (.bool true) }), (10, { r := d_law0_Num v4 }), (13, { cv := some (.bool true) }), (17, { cv := some (.bool true) }), (23, { cv := some (.bool true) }), (28, { cv := some (.bool true) }), (31, { cv := some (.ip true [.int .i64 ((b156_1.getD (Int.toNat 0) default).Kind), .int .i64 ((b156_1.getD (Int.toNat 0) default).Role), .int .i64 ((b156_1.getD (Int.toNat 0) default).Site), .int .i64 ((b156_1.getD (Int.toNat 0) default).Node), .int .i64 ((b156_1.getD (Int.toNat 0) default).To), .int .i64 (((b156_1.getD (Int.toNat 0) default).Flow).Src), .int .i64 (((b156_1.getD (Int.toNat 0) default).Flow).Dst), .int .i64 (((b156_1.getD (Int.toNat 0) default).Flow).Proto), .int .i64 (((b156_1.getD (Int.toNat 0) default).Flow).Sport), .int .i64 (((b156_1.getD (Int.toNat 0) default).Flow).Dport)]) }), (36, { cv := some (.bool false) })])]) (m := 6) (kt := [0]) (kh := []) (by kernel_rfl) (.cons (h1) (.cons (Le.iptl (g := true) (eL_at (xs := b156_0) eStr_len (ixl h1))) (.cons (c_ref1_Pop N (b156_0.getD (Int.toNat 0) default) h2) (.cons (c_law0_Num N t2 h3) (.cons (Le.tt h4) (.cons (c_law0_Num N t4 h5) (.cons (Le.tt h6) (.cons (c_law0_Num N t8 h7) (.cons (Le.tt h8) (.cons (Le.tt h9) (.cons (Le.tt h10) (.cons (Le.tt h11) (.cons (h12) (.cons (Le.iptl (g := true) (eL_at (xs := b156_1) eEvent_len (ixl h12))) (.cons (Le.ff h13) .nil))))))))))))))) (g_law19_awake_2 hc N hfin false h)
              · exact hc.jump (orc := [(10, [(2, { cv := some (.ip true [.str (b156_0.getD (Int.toNat 0) default)]) }), (4, { r := d_ref1_Pop v1 })]), (11, [(1, { r := d_law0_Num v2 }), (3, { cv := some (.bool true) }), (5, { r := d_law0_Num v3 }), (8, { cv := some (.bool true) }), (10, { r := d_law0_Num v4 }), (13, { cv := some (.bool true) }), (17, { cv := some (.bool true) }), (23, { cv := some (.bool true) }), (28, { cv := some (.bool false) })])]) (m := 6) (kt := [0]) (kh := []) (by kernel_rfl) (.cons (h1) (.cons (Le.iptl (g := true) (eL_at (xs := b156_0) eStr_len (ixl h1))) (.cons (c_ref1_Pop N (b156_0.getD (Int.toNat 0) default) h2) (.cons (c_law0_Num N t2 h3) (.cons (Le.tt h4) (.cons (c_law0_Num N t4 h5) (.cons (Le.tt h6) (.cons (c_law0_Num N t8 h7) (.cons (Le.tt h8) (.cons (Le.tt h9) (.cons (Le.tt h10) (.cons (Le.ff h11) .nil)))))))))))) (g_law19_awake_2 hc N hfin false h)
            · exact hc.jump (orc := [(10, [(2, { cv := some (.ip true [.str (b156_0.getD (Int.toNat 0) default)]) }), (4, { r := d_ref1_Pop v1 })]), (11, [(1, { r := d_law0_Num v2 }), (3, { cv := some (.bool true) }), (5, { r := d_law0_Num v3 }), (8, { cv := some (.bool true) }), (10, { r := d_law0_Num v4 }), (13, { cv := some (.bool true) }), (17, { cv := some (.bool true) }), (23, { cv := some (.bool false) })])]) (m := 6) (kt := [0]) (kh := []) (by kernel_rfl) (.cons (h1) (.cons (Le.iptl (g := true) (eL_at (xs := b156_0) eStr_len (ixl h1))) (.cons (c_ref1_Pop N (b156_0.getD (Int.toNat 0) default) h2) (.cons (c_law0_Num N t2 h3) (.cons (Le.tt h4) (.cons (c_law0_Num N t4 h5) (.cons (Le.tt h6) (.cons (c_law0_Num N t8 h7) (.cons (Le.tt h8) (.cons (Le.tt h9) (.cons (Le.ff h10) .nil))))))))))) (g_law19_awake_2 hc N hfin false h)
          · exact hc.jump (orc := [(10, [(2, { cv := some (.ip true [.str (b156_0.getD (Int.toNat 0) default)]) }), (4, { r := d_ref1_Pop v1 })]), (11, [(1, { r := d_law0_Num v2 }), (3, { cv := some (.bool true) }), (5, { r := d_law0_Num v3 }), (8, { cv := some (.bool true) }), (10, { r := d_law0_Num v4 }), (13, { cv := some (.bool true) }), (17, { cv := some (.bool false) })])]) (m := 6) (kt := [0]) (kh := []) (by kernel_rfl) (.cons (h1) (.cons (Le.iptl (g := true) (eL_at (xs := b156_0) eStr_len (ixl h1))) (.cons (c_ref1_Pop N (b156_0.getD (Int.toNat 0) default) h2) (.cons (c_law0_Num N t2 h3) (.cons (Le.tt h4) (.cons (c_law0_Num N t4 h5) (.cons (Le.tt h6) (.cons (c_law0_Num N t8 h7) (.cons (Le.tt h8) (.cons (Le.ff h9) .nil)))))))))) (g_law19_awake_2 hc N hfin false h)
        · exact hc.jump (orc := [(10, [(2, { cv := some (.ip true [.str (b156_0.getD (Int.toNat 0) default)]) }), (4, { r := d_ref1_Pop v1 })]), (11, [(1, { r := d_law0_Num v2 }), (3, { cv := some (.bool true) }), (5, { r := d_law0_Num v3 }), (8, { cv := some (.bool true) }), (10, { r := d_law0_Num v4 }), (13, { cv := some (.bool false) })])]) (m := 6) (kt := [0]) (kh := []) (by kernel_rfl) (.cons (h1) (.cons (Le.iptl (g := true) (eL_at (xs := b156_0) eStr_len (ixl h1))) (.cons (c_ref1_Pop N (b156_0.getD (Int.toNat 0) default) h2) (.cons (c_law0_Num N t2 h3) (.cons (Le.tt h4) (.cons (c_law0_Num N t4 h5) (.cons (Le.tt h6) (.cons (c_law0_Num N t8 h7) (.cons (Le.ff h8) .nil))))))))) (g_law19_awake_2 hc N hfin false h)
      · exact hc.jump (orc := [(10, [(2, { cv := some (.ip true [.str (b156_0.getD (Int.toNat 0) default)]) }), (4, { r := d_ref1_Pop v1 })]), (11, [(1, { r := d_law0_Num v2 }), (3, { cv := some (.bool true) }), (5, { r := d_law0_Num v3 }), (8, { cv := some (.bool false) })])]) (m := 6) (kt := [0]) (kh := []) (by kernel_rfl) (.cons (h1) (.cons (Le.iptl (g := true) (eL_at (xs := b156_0) eStr_len (ixl h1))) (.cons (c_ref1_Pop N (b156_0.getD (Int.toNat 0) default) h2) (.cons (c_law0_Num N t2 h3) (.cons (Le.tt h4) (.cons (c_law0_Num N t4 h5) (.cons (Le.ff h6) .nil))))))) (g_law19_awake_2 hc N hfin false h)
    · exact hc.jump (orc := [(10, [(2, { cv := some (.ip true [.str (b156_0.getD (Int.toNat 0) default)]) }), (4, { r := d_ref1_Pop v1 })]), (11, [(1, { r := d_law0_Num v2 }), (3, { cv := some (.bool false) })])]) (m := 6) (kt := [0]) (kh := []) (by kernel_rfl) (.cons (h1) (.cons (Le.iptl (g := true) (eL_at (xs := b156_0) eStr_len (ixl h1))) (.cons (c_ref1_Pop N (b156_0.getD (Int.toNat 0) default) h2) (.cons (c_law0_Num N t2 h3) (.cons (Le.ff h4) .nil))))) (g_law19_awake_2 hc N hfin false h)

theorem g_law19_awake_0 {c : Cx} (hc : Is c Tryz.prog ty 30 177) (N : Nat) {r : Bool} (hfin : c.Fin [] (d_law19_awake r) []) (h : L_law19_awake N = some r) : c.Goes (items (bodyOf Tryz.f30) [.c 1]) ⟨[], []⟩ := by
  unfold L_law19_awake at h
  obtain ⟨v1, h0, h⟩ := bind_of h
  obtain ⟨v2, h1, h⟩ := bind_of h
  obtain ⟨v3, h2, h⟩ := bind_of h
  obtain ⟨v4, h3, h⟩ := bind_of h
  obtain ⟨v5, h4, h⟩ := bind_of h
  obtain ⟨v6, h5, h⟩ := bind_of h
  obtain ⟨v7, h6, h⟩ := bind_of h
  obtain ⟨v8, h7, h⟩ := bind_of h
  obtain ⟨v9, h8, h⟩ := bind_of h
  obtain ⟨v10, h9, h⟩ := bind_of h
  rcases brk h with ⟨h10, h⟩ | ⟨h10, h⟩
  · exact hc.jump (orc := [(1, [(0, { r := d_law19_given v1 }), (1, { r := d_edge_New v2 })]), (2, [(0, { r := d_law19_given v3 }), (1, { r := d_edge_New v4 })]), (3, [(0, { r := d_law19_said v5 })]), (4, [(2, { r := d_edge_Take v6 })]), (5, [(1, { r := d_edge_Take v7 })]), (6, [(0, { r := d_ref10_News v8 }), (3, { r := d_edge_Take v9 })]), (7, [(2, { r := d_edge_Take v10 })]), (8, [(4, { cv := some (.bool true) })])]) (m := 19) (kt := [1, 2, 4, 5, 6, 7, 8, 9, 10, 11, 13, 14, 17, 80]) (kh := [(108, 108), (148, 148), (156, 156), (172, 172), (180, 180), (204, 204)]) (by kernel_rfl) (.cons (c_law19_given N h0) (.cons (c_edge_New N true 1 v1 h1) (.cons (c_law19_given N h2) (.cons (c_edge_New N true 2 v3 h3) (.cons (c_law19_said N 9 2 (ByteArray.mk #[120]) h4) (.cons (c_edge_Take N true v2.1 5 v5 h5) (.cons (c_edge_Take N true v6.1 5 (ByteArray.mk #[106, 117, 110, 107]) h6) (.cons (c_ref10_News N 3 h7) (.cons ((c_edge_Take N true (GEdge.mk 1 (GConfig.mk 0 ([])) v8 ([])) 5 v5 h8).le ((.cons (Le.agg ((.cons (Le.rfl) (.cons (Le.rfl) (.cons (Le.nils) (.cons (Le.rfl) (.cons (Le.nils) .nil))))))) (.cons (Le.rfl) (.cons (Le.rfl) .nil))))) (.cons (c_edge_Take N true v2.1 (-1) v5 h9) (.cons (Le.tt h10) .nil))))))))))) (g_law19_awake_1 hc N hfin v2.1.Id v2.1.Config.Version v2.1.Config.Sites v2.1.Health v2.1.Flows v2.2 v4.2 v5 v6.1.Id v6.1.Config.Version v6.1.Config.Sites v6.1.Health v6.1.Flows v6.2.1.Sent v6.2.1.Events v6.2.2 v7.1.Id v7.1.Config.Version v7.1.Config.Sites v7.1.Health v7.1.Flows v7.2.1.Sent v7.2.1.Events v7.2.2 v9.2.1.Sent v9.2.1.Events v9.2.2 v10.2.2 true h)
  · rcases brk h with ⟨h11, h⟩ | ⟨h11, h⟩
    · exact hc.jump (orc := [(1, [(0, { r := d_law19_given v1 }), (1, { r := d_edge_New v2 })]), (2, [(0, { r := d_law19_given v3 }), (1, { r := d_edge_New v4 })]), (3, [(0, { r := d_law19_said v5 })]), (4, [(2, { r := d_edge_Take v6 })]), (5, [(1, { r := d_edge_Take v7 })]), (6, [(0, { r := d_ref10_News v8 }), (3, { r := d_edge_Take v9 })]), (7, [(2, { r := d_edge_Take v10 })]), (8, [(4, { cv := some (.bool false) }), (10, { cv := some (.bool true) })])]) (m := 19) (kt := [1, 2, 4, 5, 6, 7, 8, 9, 10, 11, 13, 14, 17, 80]) (kh := [(108, 108), (148, 148), (156, 156), (172, 172), (180, 180), (204, 204)]) (by kernel_rfl) (.cons (c_law19_given N h0) (.cons (c_edge_New N true 1 v1 h1) (.cons (c_law19_given N h2) (.cons (c_edge_New N true 2 v3 h3) (.cons (c_law19_said N 9 2 (ByteArray.mk #[120]) h4) (.cons (c_edge_Take N true v2.1 5 v5 h5) (.cons (c_edge_Take N true v6.1 5 (ByteArray.mk #[106, 117, 110, 107]) h6) (.cons (c_ref10_News N 3 h7) (.cons ((c_edge_Take N true (GEdge.mk 1 (GConfig.mk 0 ([])) v8 ([])) 5 v5 h8).le ((.cons (Le.agg ((.cons (Le.rfl) (.cons (Le.rfl) (.cons (Le.nils) (.cons (Le.rfl) (.cons (Le.nils) .nil))))))) (.cons (Le.rfl) (.cons (Le.rfl) .nil))))) (.cons (c_edge_Take N true v2.1 (-1) v5 h9) (.cons (Le.ff h10) (.cons (Le.tt h11) .nil)))))))))))) (g_law19_awake_1 hc N hfin v2.1.Id v2.1.Config.Version v2.1.Config.Sites v2.1.Health v2.1.Flows v2.2 v4.2 v5 v6.1.Id v6.1.Config.Version v6.1.Config.Sites v6.1.Health v6.1.Flows v6.2.1.Sent v6.2.1.Events v6.2.2 v7.1.Id v7.1.Config.Version v7.1.Config.Sites v7.1.Health v7.1.Flows v7.2.1.Sent v7.2.1.Events v7.2.2 v9.2.1.Sent v9.2.1.Events v9.2.2 v10.2.2 true h)
    · rcases brk h with ⟨h12, h⟩ | ⟨h12, h⟩
      · exact hc.jump (orc := [(1, [(0, { r := d_law19_given v1 }), (1, { r := d_edge_New v2 })]), (2, [(0, { r := d_law19_given v3 }), (1, { r := d_edge_New v4 })]), (3, [(0, { r := d_law19_said v5 })]), (4, [(2, { r := d_edge_Take v6 })]), (5, [(1, { r := d_edge_Take v7 })]), (6, [(0, { r := d_ref10_News v8 }), (3, { r := d_edge_Take v9 })]), (7, [(2, { r := d_edge_Take v10 })]), (8, [(4, { cv := some (.bool false) }), (10, { cv := some (.bool false) }), (16, { cv := some (.bool true) })])]) (m := 19) (kt := [1, 2, 4, 5, 6, 7, 8, 9, 10, 11, 13, 14, 17, 80]) (kh := [(108, 108), (148, 148), (156, 156), (172, 172), (180, 180), (204, 204)]) (by kernel_rfl) (.cons (c_law19_given N h0) (.cons (c_edge_New N true 1 v1 h1) (.cons (c_law19_given N h2) (.cons (c_edge_New N true 2 v3 h3) (.cons (c_law19_said N 9 2 (ByteArray.mk #[120]) h4) (.cons (c_edge_Take N true v2.1 5 v5 h5) (.cons (c_edge_Take N true v6.1 5 (ByteArray.mk #[106, 117, 110, 107]) h6) (.cons (c_ref10_News N 3 h7) (.cons ((c_edge_Take N true (GEdge.mk 1 (GConfig.mk 0 ([])) v8 ([])) 5 v5 h8).le ((.cons (Le.agg ((.cons (Le.rfl) (.cons (Le.rfl) (.cons (Le.nils) (.cons (Le.rfl) (.cons (Le.nils) .nil))))))) (.cons (Le.rfl) (.cons (Le.rfl) .nil))))) (.cons (c_edge_Take N true v2.1 (-1) v5 h9) (.cons (Le.ff h10) (.cons (Le.ff h11) (.cons (Le.tt h12) .nil))))))))))))) (g_law19_awake_1 hc N hfin v2.1.Id v2.1.Config.Version v2.1.Config.Sites v2.1.Health v2.1.Flows v2.2 v4.2 v5 v6.1.Id v6.1.Config.Version v6.1.Config.Sites v6.1.Health v6.1.Flows v6.2.1.Sent v6.2.1.Events v6.2.2 v7.1.Id v7.1.Config.Version v7.1.Config.Sites v7.1.Health v7.1.Flows v7.2.1.Sent v7.2.1.Events v7.2.2 v9.2.1.Sent v9.2.1.Events v9.2.2 v10.2.2 true h)
      · exact hc.jump (orc := [(1, [(0, { r := d_law19_given v1 }), (1, { r := d_edge_New v2 })]), (2, [(0, { r := d_law19_given v3 }), (1, { r := d_edge_New v4 })]), (3, [(0, { r := d_law19_said v5 })]), (4, [(2, { r := d_edge_Take v6 })]), (5, [(1, { r := d_edge_Take v7 })]), (6, [(0, { r := d_ref10_News v8 }), (3, { r := d_edge_Take v9 })]), (7, [(2, { r := d_edge_Take v10 })]), (8, [(4, { cv := some (.bool false) }), (10, { cv := some (.bool false) }), (16, { cv := some (.bool false) })])]) (m := 19) (kt := [1, 2, 4, 5, 6, 7, 8, 9, 10, 11, 13, 14, 17, 80]) (kh := [(108, 108), (148, 148), (156, 156), (172, 172), (180, 180), (204, 204)]) (by kernel_rfl) (.cons (c_law19_given N h0) (.cons (c_edge_New N true 1 v1 h1) (.cons (c_law19_given N h2) (.cons (c_edge_New N true 2 v3 h3) (.cons (c_law19_said N 9 2 (ByteArray.mk #[120]) h4) (.cons (c_edge_Take N true v2.1 5 v5 h5) (.cons (c_edge_Take N true v6.1 5 (ByteArray.mk #[106, 117, 110, 107]) h6) (.cons (c_ref10_News N 3 h7) (.cons ((c_edge_Take N true (GEdge.mk 1 (GConfig.mk 0 ([])) v8 ([])) 5 v5 h8).le ((.cons (Le.agg ((.cons (Le.rfl) (.cons (Le.rfl) (.cons (Le.nils) (.cons (Le.rfl) (.cons (Le.nils) .nil))))))) (.cons (Le.rfl) (.cons (Le.rfl) .nil))))) (.cons (c_edge_Take N true v2.1 (-1) v5 h9) (.cons (Le.ff h10) (.cons (Le.ff h11) (.cons (Le.ff h12) .nil))))))))))))) (g_law19_awake_1 hc N hfin v2.1.Id v2.1.Config.Version v2.1.Config.Sites v2.1.Health v2.1.Flows v2.2 v4.2 v5 v6.1.Id v6.1.Config.Version v6.1.Config.Sites v6.1.Health v6.1.Flows v6.2.1.Sent v6.2.1.Events v6.2.2 v7.1.Id v7.1.Config.Version v7.1.Config.Sites v7.1.Health v7.1.Flows v7.2.1.Sent v7.2.1.Events v7.2.2 v9.2.1.Sent v9.2.1.Events v9.2.2 v10.2.2 ((v9.2.1.Events.length : Int) != 1) h)

theorem c_law19_awake (N : Nat) {r : Bool} (h : L_law19_awake N = some r) : Con Tryz.prog 30 [] [] (d_law19_awake r) [] :=
  con_intro ok mix (fn := Tryz.f30) (body := bodyOf Tryz.f30) (by kernel_rfl) (by kernel_rfl) (by kernel_rfl) rfl (Nat.le_of_ble_eq_true (by kernel_rfl)) fun c h1 h2 h3 h4 hfin => g_law19_awake_0 ⟨h1, h2, h3, h4⟩ N hfin h
/-! ### wharfage/wharfagelaw0.SameTexts -/
def L_law0_SameTexts_1 (N : Nat) : Nat → (List ByteArray) → (List ByteArray) → Int → Option (Bool)
  | 0, _, _, _ => none
  | fuel + 1, t0, t1, t5 =>
    bif (decide (t5 < (t0.length : Int))) then
      if 0 ≤ t5 ∧ t5 < ((t0.length : Nat) : Int) then
      if 0 ≤ t5 ∧ t5 < ((t1.length : Nat) : Int) then
      bif (!((t0.getD t5.toNat default).toList == (t1.getD t5.toNat default).toList)) then
        some false
      else
        L_law0_SameTexts_1 N fuel t0 t1 (IntKind.i64.wrap (t5 + 1))
      else none
      else none
    else
      some true
def L_law0_SameTexts (N : Nat) (x0 : (List ByteArray)) (x1 : (List ByteArray)) : Option (Bool) :=
  bif ((x0.length : Int) != (x1.length : Int)) then
    some false
  else
    L_law0_SameTexts_1 N N x0 x1 0
def d_law0_SameTexts (r : Bool) : D := .bool r
theorem g_law0_SameTexts_1 (gx0 : Bool) (gx1 : Bool) {c : Cx} (hc : Is c Tryz.prog ty 36 26) (N : Nat) {r : Bool} (hfin : c.Fin [] (d_law0_SameTexts r) []) : ∀ (fuel : Nat) (t0 : (List ByteArray)) (t1 : (List ByteArray)) (t5 : Int), L_law0_SameTexts_1 N fuel t0 t1 t5 = some r → c.Goes (items (bodyOf Tryz.f36) [.c 75, .l 75, .b 0, .c 15]) ⟨[(0, .sl gx0 (eL eStr t0) t0.length t0.length), (1, .sl gx1 (eL eStr t1) t1.length t1.length), (5, .int .i64 t5)], []⟩ := by
  intro fuel
  induction fuel with
  | zero => intro t0 t1 t5 h; simp [L_law0_SameTexts_1] at h
  | succ fuel ih =>
    intro t0 t1 t5 h
    unfold L_law0_SameTexts_1 at h
    rcases brk h with ⟨h0, h⟩ | ⟨h0, h⟩
    · obtain ⟨h1, h⟩ := chk h
      obtain ⟨h2, h⟩ := chk h
      rcases brk h with ⟨h3, h⟩ | ⟨h3, h⟩
      · have h := Option.some.inj h
        refine hc.ret hfin (fn := Tryz.f36) (by kernel_rfl) (orc := [(4, [(3, { cv := some (.bool true) })]), (6, [(2, { cv := some (.ip gx0 [.str (t0.getD t5.toNat default)]) }), (6, { cv := some (.ip gx1 [.str (t1.getD t5.toNat default)]) }), (8, { cv := some (.bool true) })])]) (m := 12) (d := .bool false) (by kernel_rfl) (.cons (Le.tt h0) (.cons (h1) (.cons (Le.iptl (g := gx0) (eL_at (xs := t0) eStr_len (ixl h1))) (.cons (h2) (.cons (Le.iptl (g := gx1) (eL_at (xs := t1) eStr_len (ixl h2))) (.cons (Le.tt h3) .nil)))))) ?_ ?_
        · rw [← h]; exact Le.of rfl
        · rw [← h]; rfl
      · exact hc.jump (orc := [(4, [(3, { cv := some (.bool true) })]), (6, [(2, { cv := some (.ip gx0 [.str (t0.getD t5.toNat default)]) }), (6, { cv := some (.ip gx1 [.str (t1.getD t5.toNat default)]) }), (8, { cv := some (.bool false) })])]) (m := 14) (kt := [0, 1, 5]) (kh := []) (by kernel_rfl) (.cons (Le.tt h0) (.cons (h1) (.cons (Le.iptl (g := gx0) (eL_at (xs := t0) eStr_len (ixl h1))) (.cons (h2) (.cons (Le.iptl (g := gx1) (eL_at (xs := t1) eStr_len (ixl h2))) (.cons (Le.ff h3) .nil)))))) (ih t0 t1 (IntKind.i64.wrap (t5 + 1)) h)
    · have h := Option.some.inj h
      refine hc.ret hfin (fn := Tryz.f36) (by kernel_rfl) (orc := [(4, [(3, { cv := some (.bool false) })])]) (m := 7) (d := .bool true) (by kernel_rfl) (.cons (Le.ff h0) .nil) ?_ ?_
      · rw [← h]; exact Le.of rfl
      · rw [← h]; rfl

theorem g_law0_SameTexts_0 (gx0 : Bool) (gx1 : Bool) {c : Cx} (hc : Is c Tryz.prog ty 36 26) (N : Nat) {r : Bool} (hfin : c.Fin [] (d_law0_SameTexts r) []) (x0 : (List ByteArray)) (x1 : (List ByteArray)) (h : L_law0_SameTexts N x0 x1 = some r) : c.Goes (items (bodyOf Tryz.f36) [.c 1]) ⟨[(0, .sl gx0 (eL eStr x0) x0.length x0.length), (1, .sl gx1 (eL eStr x1) x1.length x1.length)], []⟩ := by
  unfold L_law0_SameTexts at h
  rcases brk h with ⟨h0, h⟩ | ⟨h0, h⟩
  · have h := Option.some.inj h
    refine hc.ret hfin (fn := Tryz.f36) (by kernel_rfl) (orc := [(1, [(4, { cv := some (.bool true) })])]) (m := 8) (d := .bool false) (by kernel_rfl) (.cons (Le.tt h0) .nil) ?_ ?_
    · rw [← h]; exact Le.of rfl
    · rw [← h]; rfl
  · exact hc.jump (orc := [(1, [(4, { cv := some (.bool false) })])]) (m := 12) (kt := [0, 1, 5]) (kh := []) (by kernel_rfl) (.cons (Le.ff h0) .nil) (g_law0_SameTexts_1 gx0 gx1 hc N hfin N x0 x1 0 h)

theorem c_law0_SameTexts (N : Nat) (gx0 : Bool) (gx1 : Bool) (x0 : (List ByteArray)) (x1 : (List ByteArray)) {r : Bool} (h : L_law0_SameTexts N x0 x1 = some r) : Con Tryz.prog 36 [.sl gx0 (eL eStr x0) x0.length x0.length, .sl gx1 (eL eStr x1) x1.length x1.length] [] (d_law0_SameTexts r) [] :=
  con_intro ok mix (fn := Tryz.f36) (body := bodyOf Tryz.f36) (by kernel_rfl) (by kernel_rfl) (by kernel_rfl) rfl (Nat.le_of_ble_eq_true (by kernel_rfl)) fun c h1 h2 h3 h4 hfin => g_law0_SameTexts_0 gx0 gx1 ⟨h1, h2, h3, h4⟩ N hfin x0 x1 h
/-! ### wharfage/wharfagelaw19.EdgeAgain -/
def L_law19_EdgeAgain_2 (N : Nat) (t6 : Bool) : Option (Bool) :=
  some t6
def L_law19_EdgeAgain_3 (N : Nat) (t6 : Bool) : Option (Bool) :=
  some t6
def L_law19_EdgeAgain_1 (N : Nat) (t2 : ByteArray) (b124_0 : Int) (b124_1 : Int) (b124_2 : (List GSite)) (b124_3 : (List GHealth)) (b124_4 : (List GEntry)) (t7 : Int) (b164_0 : Int) (b164_1 : Int) (b164_2 : (List GSite)) (b164_3 : (List GHealth)) (b164_4 : (List GEntry)) (b172_0 : (List ByteArray)) (b172_1 : (List GEvent)) (t10 : Int) (t34 : Bool) : Option (Bool) :=
  bif t34 then
    (L_law0_Num N t10).bind fun v1 =>
    bif (v1 != 0) then
      L_law19_EdgeAgain_2 N true
    else
      (L_law0_SameEdge N (GEdge.mk b164_0 (GConfig.mk b164_1 b164_2) b164_3 b164_4) (GEdge.mk b124_0 (GConfig.mk b124_1 b124_2) b124_3 b124_4)).bind fun v2 =>
      L_law19_EdgeAgain_2 N v2
  else
    (L_edge_Take N (GEdge.mk b164_0 (GConfig.mk b164_1 b164_2) b164_3 b164_4) t7 t2).bind fun v1 =>
    (L_law0_Num N v1.2.2).bind fun v2 =>
    bif (v2 == 0) then
      (L_law0_SameTexts N b172_0 v1.2.1.Sent).bind fun v3 =>
      bif v3 then
        bif ((v1.2.1.Events.length : Int) == 1) then
          bif ((v1.1.Flows.length : Int) == (b164_4.length : Int)) then
            L_law19_EdgeAgain_3 N (decide ((b164_4.length : Int) ≥ 1))
          else
            L_law19_EdgeAgain_3 N false
        else
          L_law19_EdgeAgain_3 N false
      else
        L_law19_EdgeAgain_3 N false
    else
      L_law19_EdgeAgain_3 N false
def L_law19_EdgeAgain (N : Nat) (x0 : GEdge) (x1 : Int) (x2 : ByteArray) : Option (Bool) :=
  (L_law19_awake N).bind fun v1 =>
  bif (!v1) then
    some false
  else
    (L_edge_Take N x0 (bAnd .i64 x1 31) x2).bind fun v2 =>
    (L_law0_Num N v2.2.2).bind fun v3 =>
    bif (v3 != 0) then
      L_law19_EdgeAgain_1 N x2 x0.Id x0.Config.Version x0.Config.Sites x0.Health x0.Flows (bAnd .i64 x1 31) v2.1.Id v2.1.Config.Version v2.1.Config.Sites v2.1.Health v2.1.Flows v2.2.1.Sent v2.2.1.Events v2.2.2 true
    else
      L_law19_EdgeAgain_1 N x2 x0.Id x0.Config.Version x0.Config.Sites x0.Health x0.Flows (bAnd .i64 x1 31) v2.1.Id v2.1.Config.Version v2.1.Config.Sites v2.1.Health v2.1.Flows v2.2.1.Sent v2.2.1.Events v2.2.2 ((v2.2.1.Sent.length : Int) != 1)
def d_law19_EdgeAgain (r : Bool) : D := .bool r
theorem g_law19_EdgeAgain_2 (gx0 : Bool) {c : Cx} (hc : Is c Tryz.prog ty 8 82) (N : Nat) {r : Bool} (hfin : c.Fin [] (d_law19_EdgeAgain r) []) (t6 : Bool) (h : L_law19_EdgeAgain_2 N t6 = some r) : c.Goes (items (bodyOf Tryz.f8) [.c 431, .c 63]) ⟨[(6, .bool t6)], []⟩ := by
  unfold L_law19_EdgeAgain_2 at h
  have h := Option.some.inj h
  refine hc.ret hfin (fn := Tryz.f8) (by kernel_rfl) (orc := []) (m := 0) (d := .bool t6) (by kernel_rfl) .nil ?_ ?_
  · rw [← h]; exact Le.of rfl
  · rw [← h]; rfl

theorem g_law19_EdgeAgain_3 (gx0 : Bool) {c : Cx} (hc : Is c Tryz.prog ty 8 82) (N : Nat) {r : Bool} (hfin : c.Fin [] (d_law19_EdgeAgain r) []) (t6 : Bool) (h : L_law19_EdgeAgain_3 N t6 = some r) : c.Goes (items (bodyOf Tryz.f8) [.c 255]) ⟨[(6, .bool t6)], []⟩ := by
  unfold L_law19_EdgeAgain_3 at h
  have h := Option.some.inj h
  refine hc.ret hfin (fn := Tryz.f8) (by kernel_rfl) (orc := []) (m := 0) (d := .bool t6) (by kernel_rfl) .nil ?_ ?_
  · rw [← h]; exact Le.of rfl
  · rw [← h]; rfl

theorem g_law19_EdgeAgain_1 (gx0 : Bool) {c : Cx} (hc : Is c Tryz.prog ty 8 82) (N : Nat) {r : Bool} (hfin : c.Fin [] (d_law19_EdgeAgain r) []) (t2 : ByteArray) (b124_0 : Int) (b124_1 : Int) (b124_2 : (List GSite)) (b124_3 : (List GHealth)) (b124_4 : (List GEntry)) (t7 : Int) (b164_0 : Int) (b164_1 : Int) (b164_2 : (List GSite)) (b164_3 : (List GHealth)) (b164_4 : (List GEntry)) (b172_0 : (List ByteArray)) (b172_1 : (List GEvent)) (t10 : Int) (t34 : Bool) (h : L_law19_EdgeAgain_1 N t2 b124_0 b124_1 b124_2 b124_3 b124_4 t7 b164_0 b164_1 b164_2 b164_3 b164_4 b172_0 b172_1 t10 t34 = some r) : c.Goes (items (bodyOf Tryz.f8) [.c 111, .c 63]) ⟨[(2, .str t2), (3, .ptr 124 0), (7, .int .i64 t7), (8, .ptr 164 0), (9, .ptr 172 0), (10, .int .i64 t10), (34, .bool t34)], [(124, some ⟨false, 0, [.int .i64 b124_0, .int .i64 b124_1, .sl gx0 (eL (eSite gx0) b124_2) b124_2.length b124_2.length, .sl gx0 (eL eHealth b124_3) b124_3.length b124_3.length, .sl gx0 (eL eEntry b124_4) b124_4.length b124_4.length]⟩), (164, some ⟨false, 0, [.int .i64 b164_0, .int .i64 b164_1, .sl true (eL (eSite true) b164_2) b164_2.length b164_2.length, .sl true (eL eHealth b164_3) b164_3.length b164_3.length, .sl true (eL eEntry b164_4) b164_4.length b164_4.length]⟩), (172, some ⟨false, 0, [.sl true (eL eStr b172_0) b172_0.length b172_0.length, .sl true (eL eEvent b172_1) b172_1.length b172_1.length]⟩)]⟩ := by
  unfold L_law19_EdgeAgain_1 at h
  rcases brk h with ⟨h0, k0⟩ | ⟨h0, k0⟩
  · subst h0
    replace h := k0
    obtain ⟨v1, h1, h⟩ := bind_of h
    rcases brk h with ⟨h2, h⟩ | ⟨h2, h⟩
    · exact hc.jump (orc := [(6, [(1, { r := d_law0_Num v1 }), (3, { cv := some (.bool true) })])]) (m := 3) (kt := [6]) (kh := []) (by kernel_rfl) (.cons (c_law0_Num N t10 h1) (.cons (Le.tt h2) .nil)) (g_law19_EdgeAgain_2 gx0 hc N hfin true h)
    · obtain ⟨v2, h3, h⟩ := bind_of h
      exact hc.jump (orc := [(6, [(1, { r := d_law0_Num v1 }), (3, { cv := some (.bool false) }), (6, { r := d_law0_SameEdge v2 })])]) (m := 3) (kt := [6]) (kh := []) (by kernel_rfl) (.cons (c_law0_Num N t10 h1) (.cons (Le.ff h2) (.cons (c_law0_SameEdge N true gx0 (GEdge.mk b164_0 (GConfig.mk b164_1 b164_2) b164_3 b164_4) (GEdge.mk b124_0 (GConfig.mk b124_1 b124_2) b124_3 b124_4) h3) .nil))) (g_law19_EdgeAgain_2 gx0 hc N hfin v2 h)
  · subst h0
    replace h := k0
    obtain ⟨v1, h1, h⟩ := bind_of h
    obtain ⟨v2, h2, h⟩ := bind_of h
    rcases brk h with ⟨h3, h⟩ | ⟨h3, h⟩
    · obtain ⟨v3, h4, h⟩ := bind_of h
      rcases brk h with ⟨h5, h⟩ | ⟨h5, h⟩
      · rcases brk h with ⟨h6, h⟩ | ⟨h6, h⟩
        · rcases brk h with ⟨h7, h⟩ | ⟨h7, h⟩
          · exact hc.jump (orc := [(7, [(3, { r := d_edge_Take v1 })]), (8, [(1, { r := d_law0_Num v2 }), (3, { cv := some (.bool true) }), (8, { r := d_law0_SameTexts v3 }), (10, { cv := some (.bool true) }), (16, { cv := some (.bool true) }), (25, { cv := some (.bool true) })])]) (m := 6) (kt := [6]) (kh := []) (by kernel_rfl) (.cons (c_edge_Take N true (GEdge.mk b164_0 (GConfig.mk b164_1 b164_2) b164_3 b164_4) t7 t2 h1) (.cons (c_law0_Num N v1.2.2 h2) (.cons (Le.tt h3) (.cons (c_law0_SameTexts N true true b172_0 v1.2.1.Sent h4) (.cons (Le.tt h5) (.cons (Le.tt h6) (.cons (Le.tt h7) .nil))))))) (g_law19_EdgeAgain_3 gx0 hc N hfin (decide ((b164_4.length : Int) ≥ 1)) h)
          · exact hc.jump (orc := [(7, [(3, { r := d_edge_Take v1 })]), (8, [(1, { r := d_law0_Num v2 }), (3, { cv := some (.bool true) }), (8, { r := d_law0_SameTexts v3 }), (10, { cv := some (.bool true) }), (16, { cv := some (.bool true) }), (25, { cv := some (.bool false) })])]) (m := 6) (kt := [6]) (kh := []) (by kernel_rfl) (.cons (c_edge_Take N true (GEdge.mk b164_0 (GConfig.mk b164_1 b164_2) b164_3 b164_4) t7 t2 h1) (.cons (c_law0_Num N v1.2.2 h2) (.cons (Le.tt h3) (.cons (c_law0_SameTexts N true true b172_0 v1.2.1.Sent h4) (.cons (Le.tt h5) (.cons (Le.tt h6) (.cons (Le.ff h7) .nil))))))) (g_law19_EdgeAgain_3 gx0 hc N hfin false h)
        · exact hc.jump (orc := [(7, [(3, { r := d_edge_Take v1 })]), (8, [(1, { r := d_law0_Num v2 }), (3, { cv := some (.bool true) }), (8, { r := d_law0_SameTexts v3 }), (10, { cv := some (.bool true) }), (16, { cv := some (.bool false) })])]) (m := 6) (kt := [6]) (kh := []) (by kernel_rfl) (.cons (c_edge_Take N true (GEdge.mk b164_0 (GConfig.mk b164_1 b164_2) b164_3 b164_4) t7 t2 h1) (.cons (c_law0_Num N v1.2.2 h2) (.cons (Le.tt h3) (.cons (c_law0_SameTexts N true true b172_0 v1.2.1.Sent h4) (.cons (Le.tt h5) (.cons (Le.ff h6) .nil)))))) (g_law19_EdgeAgain_3 gx0 hc N hfin false h)
      · exact hc.jump (orc := [(7, [(3, { r := d_edge_Take v1 })]), (8, [(1, { r := d_law0_Num v2 }), (3, { cv := some (.bool true) }), (8, { r := d_law0_SameTexts v3 }), (10, { cv := some (.bool false) })])]) (m := 6) (kt := [6]) (kh := []) (by kernel_rfl) (.cons (c_edge_Take N true (GEdge.mk b164_0 (GConfig.mk b164_1 b164_2) b164_3 b164_4) t7 t2 h1) (.cons (c_law0_Num N v1.2.2 h2) (.cons (Le.tt h3) (.cons (c_law0_SameTexts N true true b172_0 v1.2.1.Sent h4) (.cons (Le.ff h5) .nil))))) (g_law19_EdgeAgain_3 gx0 hc N hfin false h)
    · exact hc.jump (orc := [(7, [(3, { r := d_edge_Take v1 })]), (8, [(1, { r := d_law0_Num v2 }), (3, { cv := some (.bool false) })])]) (m := 6) (kt := [6]) (kh := []) (by kernel_rfl) (.cons (c_edge_Take N true (GEdge.mk b164_0 (GConfig.mk b164_1 b164_2) b164_3 b164_4) t7 t2 h1) (.cons (c_law0_Num N v1.2.2 h2) (.cons (Le.ff h3) .nil))) (g_law19_EdgeAgain_3 gx0 hc N hfin false h)

theorem g_law19_EdgeAgain_0 (gx0 : Bool) {c : Cx} (hc : Is c Tryz.prog ty 8 82) (N : Nat) {r : Bool} (hfin : c.Fin [] (d_law19_EdgeAgain r) []) (x0 : GEdge) (x1 : Int) (x2 : ByteArray) (h : L_law19_EdgeAgain N x0 x1 x2 = some r) : c.Goes (items (bodyOf Tryz.f8) [.c 1]) ⟨[(0, .agg [.int .i64 x0.Id, .int .i64 x0.Config.Version, .sl gx0 (eL (eSite gx0) x0.Config.Sites) x0.Config.Sites.length x0.Config.Sites.length, .sl gx0 (eL eHealth x0.Health) x0.Health.length x0.Health.length, .sl gx0 (eL eEntry x0.Flows) x0.Flows.length x0.Flows.length]), (1, .int .i64 x1), (2, .str x2)], []⟩ := by
  unfold L_law19_EdgeAgain at h
  obtain ⟨v1, h0, h⟩ := bind_of h
  rcases brk h with ⟨h1, h⟩ | ⟨h1, h⟩
  · have h := Option.some.inj h
    refine hc.ret hfin (fn := Tryz.f8) (by kernel_rfl) (orc := [(1, [(0, { r := d_law19_awake v1 }), (1, { cv := some (.bool true) })])]) (m := 8) (d := .bool false) (by kernel_rfl) (.cons (c_law19_awake N h0) (.cons (Le.tt h1) .nil)) ?_ ?_
    · rw [← h]; exact Le.of rfl
    · rw [← h]; rfl
  · obtain ⟨v2, h2, h⟩ := bind_of h
    obtain ⟨v3, h3, h⟩ := bind_of h
    rcases brk h with ⟨h4, h⟩ | ⟨h4, h⟩
    · exact hc.jump (orc := [(1, [(0, { r := d_law19_awake v1 }), (1, { cv := some (.bool false) })]), (4, [(3, { r := d_edge_Take v2 })]), (5, [(1, { r := d_law0_Num v3 }), (3, { cv := some (.bool true) })])]) (m := 14) (kt := [2, 3, 7, 8, 9, 10, 34]) (kh := [(124, 124), (164, 164), (172, 172)]) (by kernel_rfl) (.cons (c_law19_awake N h0) (.cons (Le.ff h1) (.cons (c_edge_Take N gx0 x0 (bAnd .i64 x1 31) x2 h2) (.cons (c_law0_Num N v2.2.2 h3) (.cons (Le.tt h4) .nil))))) (g_law19_EdgeAgain_1 gx0 hc N hfin x2 x0.Id x0.Config.Version x0.Config.Sites x0.Health x0.Flows (bAnd .i64 x1 31) v2.1.Id v2.1.Config.Version v2.1.Config.Sites v2.1.Health v2.1.Flows v2.2.1.Sent v2.2.1.Events v2.2.2 true h)
    · exact hc.jump (orc := [(1, [(0, { r := d_law19_awake v1 }), (1, { cv := some (.bool false) })]), (4, [(3, { r := d_edge_Take v2 })]), (5, [(1, { r := d_law0_Num v3 }), (3, { cv := some (.bool false) })])]) (m := 14) (kt := [2, 3, 7, 8, 9, 10, 34]) (kh := [(124, 124), (164, 164), (172, 172)]) (by kernel_rfl) (.cons (c_law19_awake N h0) (.cons (Le.ff h1) (.cons (c_edge_Take N gx0 x0 (bAnd .i64 x1 31) x2 h2) (.cons (c_law0_Num N v2.2.2 h3) (.cons (Le.ff h4) .nil))))) (g_law19_EdgeAgain_1 gx0 hc N hfin x2 x0.Id x0.Config.Version x0.Config.Sites x0.Health x0.Flows (bAnd .i64 x1 31) v2.1.Id v2.1.Config.Version v2.1.Config.Sites v2.1.Health v2.1.Flows v2.2.1.Sent v2.2.1.Events v2.2.2 ((v2.2.1.Sent.length : Int) != 1) h)

theorem c_law19_EdgeAgain (N : Nat) (gx0 : Bool) (x0 : GEdge) (x1 : Int) (x2 : ByteArray) {r : Bool} (h : L_law19_EdgeAgain N x0 x1 x2 = some r) : Con Tryz.prog 8 [.agg [.int .i64 x0.Id, .int .i64 x0.Config.Version, .sl gx0 (eL (eSite gx0) x0.Config.Sites) x0.Config.Sites.length x0.Config.Sites.length, .sl gx0 (eL eHealth x0.Health) x0.Health.length x0.Health.length, .sl gx0 (eL eEntry x0.Flows) x0.Flows.length x0.Flows.length], .int .i64 x1, .str x2] [] (d_law19_EdgeAgain r) [] :=
  con_intro ok mix (fn := Tryz.f8) (body := bodyOf Tryz.f8) (by kernel_rfl) (by kernel_rfl) (by kernel_rfl) rfl (Nat.le_of_ble_eq_true (by kernel_rfl)) fun c h1 h2 h3 h4 hfin => g_law19_EdgeAgain_0 gx0 ⟨h1, h2, h3, h4⟩ N hfin x0 x1 x2 h

end Go.Proofs.YtmhlgpdoedbedaaGreat.Lf
