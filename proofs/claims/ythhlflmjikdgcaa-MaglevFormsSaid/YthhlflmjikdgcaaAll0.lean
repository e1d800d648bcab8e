/- What functions compute, and that they do. -/
import Derived.Test.YthhlflmjikdgcaaTab
namespace Go.Proofs.Ythhlflmjikdgcaa.Lf
set_option linter.unusedVariables false
set_option linter.unusedSimpArgs false
set_option maxRecDepth 20000
open Go Go.RowKit Go.Proofs Go.Proofs.Ythhlflmjikdgcaa.Sv
structure GFlow where
  Src : Int
  Dst : Int
  Proto : Int
  Sport : Int
  Dport : Int
def eFlow (x : GFlow) : List D := [.int .i64 x.Src, .int .i64 x.Dst, .int .i64 x.Proto, .int .i64 x.Sport, .int .i64 x.Dport]
instance : Inhabited GFlow := ⟨⟨default, default, default, default, default⟩⟩
theorem eFlow_len (x : GFlow) : (eFlow x).length = 5 := rfl
structure GCandidate where
  Id : Int
  Weight : Int
def eCandidate (x : GCandidate) : List D := [.int .i64 x.Id, .int .i64 x.Weight]
instance : Inhabited GCandidate := ⟨⟨default, default⟩⟩
theorem eCandidate_len (x : GCandidate) : (eCandidate x).length = 2 := rfl
structure Gmaglev_walk where
  at_ : Int
  step_ : Int
def emaglev_walk (x : Gmaglev_walk) : List D := [.int .i64 x.at_, .int .i64 x.step_]
instance : Inhabited Gmaglev_walk := ⟨⟨default, default⟩⟩
theorem emaglev_walk_len (x : Gmaglev_walk) : (emaglev_walk x).length = 2 := rfl
/-! ### wharfage/ip.In -/
def L_ip_In_1 (N : Nat) (t4 : Bool) : Option (Bool) :=
  some t4
def L_ip_In (N : Nat) (x0 : Int) (x1 : Int) : Option (Bool) :=
  bif (decide (x0 ≥ 0)) then
    if 0 ≤ x1 then
    L_ip_In_1 N ((x0.fdiv (2 ^ (min x1.toNat 64))) == 0)
    else none
  else
    L_ip_In_1 N false
def d_ip_In (r : Bool) : D := .bool r
theorem g_ip_In_1 {c : Cx} (hc : Is c Try.prog ty 27 13) (N : Nat) {r : Bool} (hfin : c.Fin [] (d_ip_In r) []) (t4 : Bool) (h : L_ip_In_1 N t4 = some r) : c.Goes (items (bodyOf Try.f27) [.c 7]) ⟨[(4, .bool t4)], []⟩ := by
  unfold L_ip_In_1 at h
  have h := Option.some.inj h
  refine hc.ret hfin (fn := Try.f27) (by kernel_rfl) (orc := []) (m := 0) (d := .bool t4) (by kernel_rfl) .nil ?_ ?_
  · rw [← h]; exact Le.of rfl
  · rw [← h]; rfl

theorem g_ip_In_0 {c : Cx} (hc : Is c Try.prog ty 27 13) (N : Nat) {r : Bool} (hfin : c.Fin [] (d_ip_In r) []) (x0 : Int) (x1 : Int) (h : L_ip_In N x0 x1 = some r) : c.Goes (items (bodyOf Try.f27) [.c 1]) ⟨[(0, .int .i64 x0), (1, .int .i64 x1)], []⟩ := by
  unfold L_ip_In at h
  rcases brk h with ⟨h0, h⟩ | ⟨h0, h⟩
  · obtain ⟨h1, h⟩ := chk h
    exact hc.jump (orc := [(1, [(2, { cv := some (.bool true) })])]) (m := 4) (kt := [4]) (kh := []) (by kernel_rfl) (.cons (Le.tt h0) (.cons (h1) .nil)) (g_ip_In_1 hc N hfin ((x0.fdiv (2 ^ (min x1.toNat 64))) == 0) h)
  · exact hc.jump (orc := [(1, [(2, { cv := some (.bool false) })])]) (m := 4) (kt := [4]) (kh := []) (by kernel_rfl) (.cons (Le.ff h0) .nil) (g_ip_In_1 hc N hfin false h)

theorem c_ip_In (N : Nat) (x0 : Int) (x1 : Int) {r : Bool} (h : L_ip_In N x0 x1 = some r) : Con Try.prog 27 [.int .i64 x0, .int .i64 x1] [] (d_ip_In r) [] :=
  con_intro ok mix (fn := Try.f27) (body := bodyOf Try.f27) (by kernel_rfl) (by kernel_rfl) (by kernel_rfl) rfl (Nat.le_of_ble_eq_true (by kernel_rfl)) fun c h1 h2 h3 h4 hfin => g_ip_In_0 ⟨h1, h2, h3, h4⟩ N hfin x0 x1 h
/-! ### wharfage/hash.mix -/
def L_hash_mix (N : Nat) (x0 : Int) (x1 : Int) : Option (Int) :=
  via ((bXor .u32 (IntKind.u32.wrap (x0 + 2654435769)) x1) : Int) fun v1 =>
  via ((IntKind.u32.wrap ((bXor .u32 v1 (v1.fdiv (2 ^ 16))) * 2246822507)) : Int) fun v2 =>
  via ((IntKind.u32.wrap ((bXor .u32 v2 (v2.fdiv (2 ^ 13))) * 3266489909)) : Int) fun v3 =>
  some (bXor .u32 v3 (v3.fdiv (2 ^ 16)))
def d_hash_mix (r : Int) : D := .int .u32 r
theorem g_hash_mix_0 {c : Cx} (hc : Is c Try.prog ty 28 24) (N : Nat) {r : Int} (hfin : c.Fin [] (d_hash_mix r) []) (x0 : Int) (x1 : Int) (h : L_hash_mix N x0 x1 = some r) : c.Goes (items (bodyOf Try.f28) [.c 1]) ⟨[(0, .int .u32 x0), (1, .int .u32 x1)], []⟩ := by
  unfold L_hash_mix at h
  obtain ⟨v1, h0, h⟩ := via_some h
  obtain ⟨v2, h1, h⟩ := via_some h
  obtain ⟨v3, h2, h⟩ := via_some h
  have h := Option.some.inj h
  refine hc.ret hfin (fn := Try.f28) (by kernel_rfl) (orc := [(1, [(3, { cv := some (.int .u32 v1) })]), (2, [(4, { cv := some (.int .u32 v2) })]), (3, [(4, { cv := some (.int .u32 v3) })])]) (m := 10) (d := .int .u32 (bXor .u32 v3 (v3.fdiv (2 ^ 16)))) (by kernel_rfl) (.cons (Le.int (k := .u32) h0) (.cons ((by decide : (0:Int) ≤ 16)) (.cons (Le.int (k := .u32) h1) (.cons ((by decide : (0:Int) ≤ 13)) (.cons (Le.int (k := .u32) h2) (.cons ((by decide : (0:Int) ≤ 16)) .nil)))))) ?_ ?_
  · rw [← h]; exact Le.of rfl
  · rw [← h]; rfl

theorem c_hash_mix (N : Nat) (x0 : Int) (x1 : Int) {r : Int} (h : L_hash_mix N x0 x1 = some r) : Con Try.prog 28 [.int .u32 x0, .int .u32 x1] [] (d_hash_mix r) [] :=
  con_intro ok mix (fn := Try.f28) (body := bodyOf Try.f28) (by kernel_rfl) (by kernel_rfl) (by kernel_rfl) rfl (Nat.le_of_ble_eq_true (by kernel_rfl)) fun c h1 h2 h3 h4 hfin => g_hash_mix_0 ⟨h1, h2, h3, h4⟩ N hfin x0 x1 h
/-! ### wharfage/hash.Mix -/
def L_hash_Mix_1 (N : Nat) (t0 : Int) (t1 : Int) (t13 : Bool) : Option (Int × Int) :=
  bif t13 then
    some (0, 800)
  else
    (L_hash_mix N (IntKind.u32.wrap t0) (IntKind.u32.wrap t1)).bind fun v1 =>
    some ((IntKind.i64.wrap v1), 0)
def L_hash_Mix (N : Nat) (x0 : Int) (x1 : Int) : Option (Int × Int) :=
  (L_ip_In N x0 32).bind fun v1 =>
  bif (!v1) then
    L_hash_Mix_1 N x0 x1 true
  else
    (L_ip_In N x1 32).bind fun v2 =>
    L_hash_Mix_1 N x0 x1 (!v2)
def d_hash_Mix (r : Int × Int) : D := .tup [.int .i64 r.1, .int .i64 r.2]
theorem g_hash_Mix_1 {c : Cx} (hc : Is c Try.prog ty 12 20) (N : Nat) {r : Int × Int} (hfin : c.Fin [] (d_hash_Mix r) []) (t0 : Int) (t1 : Int) (t13 : Bool) (h : L_hash_Mix_1 N t0 t1 t13 = some r) : c.Goes (items (bodyOf Try.f12) [.c 13, .c 7]) ⟨[(0, .int .i64 t0), (1, .int .i64 t1), (13, .bool t13)], []⟩ := by
  unfold L_hash_Mix_1 at h
  rcases brk h with ⟨h0, k0⟩ | ⟨h0, k0⟩
  · subst h0
    replace h := k0
    have h := Option.some.inj h
    refine hc.ret hfin (fn := Try.f12) (by kernel_rfl) (orc := []) (m := 3) (d := .tup [.int .i64 0, .int .i64 800]) (by kernel_rfl) .nil ?_ ?_
    · rw [← h]; exact Le.of rfl
    · rw [← h]; rfl
  · subst h0
    replace h := k0
    obtain ⟨v1, h1, h⟩ := bind_of h
    have h := Option.some.inj h
    refine hc.ret hfin (fn := Try.f12) (by kernel_rfl) (orc := [(3, [(4, { r := d_hash_mix v1 })])]) (m := 4) (d := .tup [.int .i64 (IntKind.i64.wrap v1), .int .i64 0]) (by kernel_rfl) (.cons (c_hash_mix N (IntKind.u32.wrap t0) (IntKind.u32.wrap t1) h1) .nil) ?_ ?_
    · rw [← h]; exact Le.of rfl
    · rw [← h]; rfl

theorem g_hash_Mix_0 {c : Cx} (hc : Is c Try.prog ty 12 20) (N : Nat) {r : Int × Int} (hfin : c.Fin [] (d_hash_Mix r) []) (x0 : Int) (x1 : Int) (h : L_hash_Mix N x0 x1 = some r) : c.Goes (items (bodyOf Try.f12) [.c 1]) ⟨[(0, .int .i64 x0), (1, .int .i64 x1)], []⟩ := by
  unfold L_hash_Mix at h
  obtain ⟨v1, h0, h⟩ := bind_of h
  rcases brk h with ⟨h1, h⟩ | ⟨h1, h⟩
  · exact hc.jump (orc := [(1, [(1, { r := d_ip_In v1 }), (3, { cv := some (.bool true) })])]) (m := 5) (kt := [0, 1, 13]) (kh := []) (by kernel_rfl) (.cons (c_ip_In N x0 32 h0) (.cons (Le.tt h1) .nil)) (g_hash_Mix_1 hc N hfin x0 x1 true h)
  · obtain ⟨v2, h2, h⟩ := bind_of h
    exact hc.jump (orc := [(1, [(1, { r := d_ip_In v1 }), (3, { cv := some (.bool false) }), (5, { r := d_ip_In v2 })])]) (m := 5) (kt := [0, 1, 13]) (kh := []) (by kernel_rfl) (.cons (c_ip_In N x0 32 h0) (.cons (Le.ff h1) (.cons (c_ip_In N x1 32 h2) .nil))) (g_hash_Mix_1 hc N hfin x0 x1 (!v2) h)

theorem c_hash_Mix (N : Nat) (x0 : Int) (x1 : Int) {r : Int × Int} (h : L_hash_Mix N x0 x1 = some r) : Con Try.prog 12 [.int .i64 x0, .int .i64 x1] [] (d_hash_Mix r) [] :=
  con_intro ok mix (fn := Try.f12) (body := bodyOf Try.f12) (by kernel_rfl) (by kernel_rfl) (by kernel_rfl) rfl (Nat.le_of_ble_eq_true (by kernel_rfl)) fun c h1 h2 h3 h4 hfin => g_hash_Mix_0 ⟨h1, h2, h3, h4⟩ N hfin x0 x1 h
/-! ### wharfage/flow.handled -/
def L_flow_handled_1 (N : Nat) (t2 : Bool) : Option (Bool) :=
  some t2
def L_flow_handled (N : Nat) (x0 : Int) : Option (Bool) :=
  bif (x0 == 6) then
    L_flow_handled_1 N true
  else
    L_flow_handled_1 N (x0 == 17)
def d_flow_handled (r : Bool) : D := .bool r
theorem g_flow_handled_1 {c : Cx} (hc : Is c Try.prog ty 39 9) (N : Nat) {r : Bool} (hfin : c.Fin [] (d_flow_handled r) []) (t2 : Bool) (h : L_flow_handled_1 N t2 = some r) : c.Goes (items (bodyOf Try.f39) [.c 7]) ⟨[(2, .bool t2)], []⟩ := by
  unfold L_flow_handled_1 at h
  have h := Option.some.inj h
  refine hc.ret hfin (fn := Try.f39) (by kernel_rfl) (orc := []) (m := 0) (d := .bool t2) (by kernel_rfl) .nil ?_ ?_
  · rw [← h]; exact Le.of rfl
  · rw [← h]; rfl

theorem g_flow_handled_0 {c : Cx} (hc : Is c Try.prog ty 39 9) (N : Nat) {r : Bool} (hfin : c.Fin [] (d_flow_handled r) []) (x0 : Int) (h : L_flow_handled N x0 = some r) : c.Goes (items (bodyOf Try.f39) [.c 1]) ⟨[(0, .int .i64 x0)], []⟩ := by
  unfold L_flow_handled at h
  rcases brk h with ⟨h0, h⟩ | ⟨h0, h⟩
  · exact hc.jump (orc := [(1, [(2, { cv := some (.bool true) })])]) (m := 4) (kt := [2]) (kh := []) (by kernel_rfl) (.cons (Le.tt h0) .nil) (g_flow_handled_1 hc N hfin true h)
  · exact hc.jump (orc := [(1, [(2, { cv := some (.bool false) })])]) (m := 4) (kt := [2]) (kh := []) (by kernel_rfl) (.cons (Le.ff h0) .nil) (g_flow_handled_1 hc N hfin (x0 == 17) h)

theorem c_flow_handled (N : Nat) (x0 : Int) {r : Bool} (h : L_flow_handled N x0 = some r) : Con Try.prog 39 [.int .i64 x0] [] (d_flow_handled r) [] :=
  con_intro ok mix (fn := Try.f39) (body := bodyOf Try.f39) (by kernel_rfl) (by kernel_rfl) (by kernel_rfl) rfl (Nat.le_of_ble_eq_true (by kernel_rfl)) fun c h1 h2 h3 h4 hfin => g_flow_handled_0 ⟨h1, h2, h3, h4⟩ N hfin x0 h
/-! ### wharfage/flow.May -/
def L_flow_May_1 (N : Nat) (t2 : Bool) : Option (Bool) :=
  some t2
def L_flow_May (N : Nat) (x0 : GFlow) : Option (Bool) :=
  (L_ip_In N x0.Src 32).bind fun v1 =>
  bif v1 then
    (L_ip_In N x0.Dst 32).bind fun v2 =>
    bif v2 then
      (L_flow_handled N x0.Proto).bind fun v3 =>
      bif v3 then
        (L_ip_In N x0.Sport 16).bind fun v4 =>
        bif v4 then
          (L_ip_In N x0.Dport 16).bind fun v5 =>
          L_flow_May_1 N v5
        else
          L_flow_May_1 N false
      else
        L_flow_May_1 N false
    else
      L_flow_May_1 N false
  else
    L_flow_May_1 N false
def d_flow_May (r : Bool) : D := .bool r
theorem g_flow_May_1 {c : Cx} (hc : Is c Try.prog ty 36 26) (N : Nat) {r : Bool} (hfin : c.Fin [] (d_flow_May r) []) (t2 : Bool) (h : L_flow_May_1 N t2 = some r) : c.Goes (items (bodyOf Try.f36) [.c 7]) ⟨[(2, .bool t2)], []⟩ := by
  unfold L_flow_May_1 at h
  have h := Option.some.inj h
  refine hc.ret hfin (fn := Try.f36) (by kernel_rfl) (orc := []) (m := 0) (d := .bool t2) (by kernel_rfl) .nil ?_ ?_
  · rw [← h]; exact Le.of rfl
  · rw [← h]; rfl

theorem g_flow_May_0 {c : Cx} (hc : Is c Try.prog ty 36 26) (N : Nat) {r : Bool} (hfin : c.Fin [] (d_flow_May r) []) (x0 : GFlow) (h : L_flow_May N x0 = some r) : c.Goes (items (bodyOf Try.f36) [.c 1]) ⟨[(0, .agg [.int .i64 x0.Src, .int .i64 x0.Dst, .int .i64 x0.Proto, .int .i64 x0.Sport, .int .i64 x0.Dport])], []⟩ := by
  unfold L_flow_May at h
  obtain ⟨v1, h0, h⟩ := bind_of h
  rcases brk h with ⟨h1, h⟩ | ⟨h1, h⟩
  · obtain ⟨v2, h2, h⟩ := bind_of h
    rcases brk h with ⟨h3, h⟩ | ⟨h3, h⟩
    · obtain ⟨v3, h4, h⟩ := bind_of h
      rcases brk h with ⟨h5, h⟩ | ⟨h5, h⟩
      · obtain ⟨v4, h6, h⟩ := bind_of h
        rcases brk h with ⟨h7, h⟩ | ⟨h7, h⟩
        · obtain ⟨v5, h8, h⟩ := bind_of h
          exact hc.jump (orc := [(1, [(2, { r := d_ip_In v1 }), (3, { cv := some (.bool true) }), (6, { r := d_ip_In v2 }), (8, { cv := some (.bool true) }), (11, { r := d_flow_handled v3 }), (13, { cv := some (.bool true) }), (16, { r := d_ip_In v4 }), (18, { cv := some (.bool true) }), (21, { r := d_ip_In v5 })])]) (m := 4) (kt := [2]) (kh := []) (by kernel_rfl) (.cons (c_ip_In N x0.Src 32 h0) (.cons (Le.tt h1) (.cons (c_ip_In N x0.Dst 32 h2) (.cons (Le.tt h3) (.cons (c_flow_handled N x0.Proto h4) (.cons (Le.tt h5) (.cons (c_ip_In N x0.Sport 16 h6) (.cons (Le.tt h7) (.cons (c_ip_In N x0.Dport 16 h8) .nil))))))))) (g_flow_May_1 hc N hfin v5 h)
        · exact hc.jump (orc := [(1, [(2, { r := d_ip_In v1 }), (3, { cv := some (.bool true) }), (6, { r := d_ip_In v2 }), (8, { cv := some (.bool true) }), (11, { r := d_flow_handled v3 }), (13, { cv := some (.bool true) }), (16, { r := d_ip_In v4 }), (18, { cv := some (.bool false) })])]) (m := 4) (kt := [2]) (kh := []) (by kernel_rfl) (.cons (c_ip_In N x0.Src 32 h0) (.cons (Le.tt h1) (.cons (c_ip_In N x0.Dst 32 h2) (.cons (Le.tt h3) (.cons (c_flow_handled N x0.Proto h4) (.cons (Le.tt h5) (.cons (c_ip_In N x0.Sport 16 h6) (.cons (Le.ff h7) .nil)))))))) (g_flow_May_1 hc N hfin false h)
      · exact hc.jump (orc := [(1, [(2, { r := d_ip_In v1 }), (3, { cv := some (.bool true) }), (6, { r := d_ip_In v2 }), (8, { cv := some (.bool true) }), (11, { r := d_flow_handled v3 }), (13, { cv := some (.bool false) })])]) (m := 4) (kt := [2]) (kh := []) (by kernel_rfl) (.cons (c_ip_In N x0.Src 32 h0) (.cons (Le.tt h1) (.cons (c_ip_In N x0.Dst 32 h2) (.cons (Le.tt h3) (.cons (c_flow_handled N x0.Proto h4) (.cons (Le.ff h5) .nil)))))) (g_flow_May_1 hc N hfin false h)
    · exact hc.jump (orc := [(1, [(2, { r := d_ip_In v1 }), (3, { cv := some (.bool true) }), (6, { r := d_ip_In v2 }), (8, { cv := some (.bool false) })])]) (m := 4) (kt := [2]) (kh := []) (by kernel_rfl) (.cons (c_ip_In N x0.Src 32 h0) (.cons (Le.tt h1) (.cons (c_ip_In N x0.Dst 32 h2) (.cons (Le.ff h3) .nil)))) (g_flow_May_1 hc N hfin false h)
  · exact hc.jump (orc := [(1, [(2, { r := d_ip_In v1 }), (3, { cv := some (.bool false) })])]) (m := 4) (kt := [2]) (kh := []) (by kernel_rfl) (.cons (c_ip_In N x0.Src 32 h0) (.cons (Le.ff h1) .nil)) (g_flow_May_1 hc N hfin false h)

theorem c_flow_May (N : Nat) (x0 : GFlow) {r : Bool} (h : L_flow_May N x0 = some r) : Con Try.prog 36 [.agg [.int .i64 x0.Src, .int .i64 x0.Dst, .int .i64 x0.Proto, .int .i64 x0.Sport, .int .i64 x0.Dport]] [] (d_flow_May r) [] :=
  con_intro ok mix (fn := Try.f36) (body := bodyOf Try.f36) (by kernel_rfl) (by kernel_rfl) (by kernel_rfl) rfl (Nat.le_of_ble_eq_true (by kernel_rfl)) fun c h1 h2 h3 h4 hfin => g_flow_May_0 ⟨h1, h2, h3, h4⟩ N hfin x0 h
/-! ### wharfage/hash.Flow -/
def L_hash_Flow_2 (N : Nat) : Nat → Int → (List Int) → Int → Int → Option (Int × Int)
  | 0, _, _, _, _ => none
  | fuel + 1, t6, b348, t32, t33 =>
    bif (decide (t33 < t32)) then
      if 0 ≤ t33 ∧ t33 < ((b348.length : Nat) : Int) then
      via ((IntKind.u32.wrap (b348.getD t33.toNat default)) : Int) fun v1 =>
      (L_hash_mix N t6 v1).bind fun v2 =>
      L_hash_Flow_2 N fuel v2 b348 t32 (IntKind.i64.wrap (t33 + 1))
      else none
    else
      some ((IntKind.i64.wrap t6), 0)
def L_hash_Flow_1 (N : Nat) (t0 : Int) (b124_0 : Int) (b124_1 : Int) (b124_2 : Int) (b124_3 : Int) (b124_4 : Int) (t16 : Bool) : Option (Int × Int) :=
  bif t16 then
    some (0, 800)
  else
    via ((bOr .i64 (IntKind.i64.wrap (b124_3 * 2 ^ 16)) b124_4) : Int) fun v1 =>
    L_hash_Flow_2 N N (IntKind.u32.wrap t0) ([b124_0, b124_1, b124_2, v1]) 4 0
def L_hash_Flow (N : Nat) (x0 : Int) (x1 : GFlow) : Option (Int × Int) :=
  (L_ip_In N x0 32).bind fun v1 =>
  bif (!v1) then
    L_hash_Flow_1 N x0 x1.Src x1.Dst x1.Proto x1.Sport x1.Dport true
  else
    (L_flow_May N x1).bind fun v2 =>
    L_hash_Flow_1 N x0 x1.Src x1.Dst x1.Proto x1.Sport x1.Dport (!v2)
def d_hash_Flow (r : Int × Int) : D := .tup [.int .i64 r.1, .int .i64 r.2]
theorem g_hash_Flow_2 {c : Cx} (hc : Is c Try.prog ty 26 44) (N : Nat) {r : Int × Int} (hfin : c.Fin [] (d_hash_Flow r) []) : ∀ (fuel : Nat) (t6 : Int) (b348 : (List Int)) (t32 : Int) (t33 : Int), L_hash_Flow_2 N fuel t6 b348 t32 t33 = some r → c.Goes (items (bodyOf Try.f26) [.c 151, .l 151, .b 0, .c 31]) ⟨[(6, .int .u32 t6), (31, .ref 348 0 b348.length b348.length), (32, .int .i64 t32), (33, .int .i64 t33)], [(348, some ⟨true, 1, (eL (eInt .i64) b348)⟩)]⟩ := by
  intro fuel
  induction fuel with
  | zero => intro t6 b348 t32 t33 h; simp [L_hash_Flow_2] at h
  | succ fuel ih =>
    intro t6 b348 t32 t33 h
    unfold L_hash_Flow_2 at h
    rcases brk h with ⟨h0, h⟩ | ⟨h0, h⟩
    · obtain ⟨h1, h⟩ := chk h
      obtain ⟨v1, h2, h⟩ := via_some h
      obtain ⟨v2, h3, h⟩ := bind_of h
      exact hc.jump (orc := [(5, [(0, { cv := some (.bool true) })]), (6, [(0, { cv := some (.ptr 348 (t33.toNat * 1 + 0)) }), (1, { cv := some (.int .i64 (b348.getD t33.toNat default)) })]), (7, [(2, { cv := some (.int .u32 v1) }), (3, { r := d_hash_mix v2 })])]) (m := 13) (kt := [6, 31, 32, 33]) (kh := [(348, 348)]) (by kernel_rfl) (.cons (Le.tt h0) (.cons (h1) (.cons (Le.pt (b := 348) (k := t33.toNat * 1)) (.cons (ld_ne (xs := b348) (eInt_len .i64) (ixl h1) (o := 0) (by decide)) (.cons (Le.of (ld_hd (xs := b348) (eInt_len .i64) (ixl h1) (o := 0) (by decide))) (.cons (Le.int (k := .u32) h2) (.cons (c_hash_mix N t6 v1 h3) .nil))))))) (ih v2 b348 t32 (IntKind.i64.wrap (t33 + 1)) h)
    · have h := Option.some.inj h
      refine hc.ret hfin (fn := Try.f26) (by kernel_rfl) (orc := [(5, [(0, { cv := some (.bool false) })])]) (m := 7) (d := .tup [.int .i64 (IntKind.i64.wrap t6), .int .i64 0]) (by kernel_rfl) (.cons (Le.ff h0) .nil) ?_ ?_
      · rw [← h]; exact Le.of rfl
      · rw [← h]; rfl

theorem g_hash_Flow_1 {c : Cx} (hc : Is c Try.prog ty 26 44) (N : Nat) {r : Int × Int} (hfin : c.Fin [] (d_hash_Flow r) []) (t0 : Int) (b124_0 : Int) (b124_1 : Int) (b124_2 : Int) (b124_3 : Int) (b124_4 : Int) (t16 : Bool) (h : L_hash_Flow_1 N t0 b124_0 b124_1 b124_2 b124_3 b124_4 t16 = some r) : c.Goes (items (bodyOf Try.f26) [.c 13, .c 7]) ⟨[(0, .int .i64 t0), (3, .ptr 124 0), (16, .bool t16)], [(124, some ⟨false, 0, [.int .i64 b124_0, .int .i64 b124_1, .int .i64 b124_2, .int .i64 b124_3, .int .i64 b124_4]⟩)]⟩ := by
  unfold L_hash_Flow_1 at h
  rcases brk h with ⟨h0, k0⟩ | ⟨h0, k0⟩
  · subst h0
    replace h := k0
    have h := Option.some.inj h
    refine hc.ret hfin (fn := Try.f26) (by kernel_rfl) (orc := []) (m := 3) (d := .tup [.int .i64 0, .int .i64 800]) (by kernel_rfl) .nil ?_ ?_
    · rw [← h]; exact Le.of rfl
    · rw [← h]; rfl
  · subst h0
    replace h := k0
    obtain ⟨v1, h1, h⟩ := via_some h
    exact hc.jump (orc := [(4, [(11, { cv := some (.int .i64 v1) })])]) (m := 9) (kt := [6, 31, 32, 33]) (kh := [(348, 348)]) (by kernel_rfl) (.cons ((by decide : (0:Int) ≤ 16)) (.cons (Le.int (k := .i64) h1) .nil)) (g_hash_Flow_2 hc N hfin N (IntKind.u32.wrap t0) ([b124_0, b124_1, b124_2, v1]) 4 0 h)

theorem g_hash_Flow_0 {c : Cx} (hc : Is c Try.prog ty 26 44) (N : Nat) {r : Int × Int} (hfin : c.Fin [] (d_hash_Flow r) []) (x0 : Int) (x1 : GFlow) (h : L_hash_Flow N x0 x1 = some r) : c.Goes (items (bodyOf Try.f26) [.c 1]) ⟨[(0, .int .i64 x0), (1, .agg [.int .i64 x1.Src, .int .i64 x1.Dst, .int .i64 x1.Proto, .int .i64 x1.Sport, .int .i64 x1.Dport])], []⟩ := by
  unfold L_hash_Flow at h
  obtain ⟨v1, h0, h⟩ := bind_of h
  rcases brk h with ⟨h1, h⟩ | ⟨h1, h⟩
  · exact hc.jump (orc := [(1, [(1, { r := d_ip_In v1 }), (3, { cv := some (.bool true) })])]) (m := 5) (kt := [0, 3, 16]) (kh := [(124, 124)]) (by kernel_rfl) (.cons (c_ip_In N x0 32 h0) (.cons (Le.tt h1) .nil)) (g_hash_Flow_1 hc N hfin x0 x1.Src x1.Dst x1.Proto x1.Sport x1.Dport true h)
  · obtain ⟨v2, h2, h⟩ := bind_of h
    exact hc.jump (orc := [(1, [(1, { r := d_ip_In v1 }), (3, { cv := some (.bool false) }), (5, { r := d_flow_May v2 })])]) (m := 5) (kt := [0, 3, 16]) (kh := [(124, 124)]) (by kernel_rfl) (.cons (c_ip_In N x0 32 h0) (.cons (Le.ff h1) (.cons (c_flow_May N x1 h2) .nil))) (g_hash_Flow_1 hc N hfin x0 x1.Src x1.Dst x1.Proto x1.Sport x1.Dport (!v2) h)

theorem c_hash_Flow (N : Nat) (x0 : Int) (x1 : GFlow) {r : Int × Int} (h : L_hash_Flow N x0 x1 = some r) : Con Try.prog 26 [.int .i64 x0, .agg [.int .i64 x1.Src, .int .i64 x1.Dst, .int .i64 x1.Proto, .int .i64 x1.Sport, .int .i64 x1.Dport]] [] (d_hash_Flow r) [] :=
  con_intro ok mix (fn := Try.f26) (body := bodyOf Try.f26) (by kernel_rfl) (by kernel_rfl) (by kernel_rfl) rfl (Nat.le_of_ble_eq_true (by kernel_rfl)) fun c h1 h2 h3 h4 hfin => g_hash_Flow_0 ⟨h1, h2, h3, h4⟩ N hfin x0 x1 h
/-! ### wharfage/wharfagelaw0.Num -/
def L_law0_Num (N : Nat) (x0 : Int) : Option (Int) :=
  some x0
def d_law0_Num (r : Int) : D := .int .i64 r
theorem g_law0_Num_0 {c : Cx} (hc : Is c Try.prog ty 13 4) (N : Nat) {r : Int} (hfin : c.Fin [] (d_law0_Num r) []) (x0 : Int) (h : L_law0_Num N x0 = some r) : c.Goes (items (bodyOf Try.f13) [.c 1]) ⟨[(0, .int .i64 x0)], []⟩ := by
  unfold L_law0_Num at h
  have h := Option.some.inj h
  refine hc.ret hfin (fn := Try.f13) (by kernel_rfl) (orc := []) (m := 4) (d := .int .i64 x0) (by kernel_rfl) .nil ?_ ?_
  · rw [← h]; exact Le.of rfl
  · rw [← h]; rfl

theorem c_law0_Num (N : Nat) (x0 : Int) {r : Int} (h : L_law0_Num N x0 = some r) : Con Try.prog 13 [.int .i64 x0] [] (d_law0_Num r) [] :=
  con_intro ok mix (fn := Try.f13) (body := bodyOf Try.f13) (by kernel_rfl) (by kernel_rfl) (by kernel_rfl) rfl (Nat.le_of_ble_eq_true (by kernel_rfl)) fun c h1 h2 h3 h4 hfin => g_law0_Num_0 ⟨h1, h2, h3, h4⟩ N hfin x0 h
/-! ### wharfage/wharfagelaw8.awake -/
def L_law8_awake_1 (N : Nat) (t0 : Bool) : Option (Bool) :=
  some t0
def L_law8_awake (N : Nat) : Option (Bool) :=
  (L_hash_Mix N 1 2).bind fun v1 =>
  (L_hash_Mix N (-1) 2).bind fun v2 =>
  (L_hash_Flow N 0 (GFlow.mk 0 0 0 0 0)).bind fun v3 =>
  (L_hash_Flow N 1 (GFlow.mk 0 0 17 0 0)).bind fun v4 =>
  bif (decide (v1.1 ≥ 0)) then
    bif (decide (v1.1 ≤ 4294967295)) then
      (L_law0_Num N v1.2).bind fun v5 =>
      bif (v5 == 0) then
        (L_law0_Num N v2.2).bind fun v6 =>
        bif (v6 == 800) then
          (L_law0_Num N v3.2).bind fun v7 =>
          bif (v7 == 800) then
            bif (decide (v4.1 ≥ 0)) then
              bif (decide (v4.1 ≤ 4294967295)) then
                (L_law0_Num N v4.2).bind fun v8 =>
                L_law8_awake_1 N (v8 == 0)
              else
                L_law8_awake_1 N false
            else
              L_law8_awake_1 N false
          else
            L_law8_awake_1 N false
        else
          L_law8_awake_1 N false
      else
        L_law8_awake_1 N false
    else
      L_law8_awake_1 N false
  else
    L_law8_awake_1 N false
def d_law8_awake (r : Bool) : D := .bool r
theorem g_law8_awake_1 {c : Cx} (hc : Is c Try.prog ty 11 61) (N : Nat) {r : Bool} (hfin : c.Fin [] (d_law8_awake r) []) (t0 : Bool) (h : L_law8_awake_1 N t0 = some r) : c.Goes (items (bodyOf Try.f11) [.c 127]) ⟨[(0, .bool t0)], []⟩ := by
  unfold L_law8_awake_1 at h
  have h := Option.some.inj h
  refine hc.ret hfin (fn := Try.f11) (by kernel_rfl) (orc := []) (m := 0) (d := .bool t0) (by kernel_rfl) .nil ?_ ?_
  · rw [← h]; exact Le.of rfl
  · rw [← h]; rfl

theorem g_law8_awake_0 {c : Cx} (hc : Is c Try.prog ty 11 61) (N : Nat) {r : Bool} (hfin : c.Fin [] (d_law8_awake r) []) (h : L_law8_awake N = some r) : c.Goes (items (bodyOf Try.f11) [.c 1]) ⟨[], []⟩ := by
  unfold L_law8_awake at h
  obtain ⟨v1, h0, h⟩ := bind_of h
  obtain ⟨v2, h1, h⟩ := bind_of h
  obtain ⟨v3, h2, h⟩ := bind_of h
  obtain ⟨v4, h3, h⟩ := bind_of h
  rcases brk h with ⟨h4, h⟩ | ⟨h4, h⟩
  · rcases brk h with ⟨h5, h⟩ | ⟨h5, h⟩
    · obtain ⟨v5, h6, h⟩ := bind_of h
      rcases brk h with ⟨h7, h⟩ | ⟨h7, h⟩
      · obtain ⟨v6, h8, h⟩ := bind_of h
        rcases brk h with ⟨h9, h⟩ | ⟨h9, h⟩
        · obtain ⟨v7, h10, h⟩ := bind_of h
          rcases brk h with ⟨h11, h⟩ | ⟨h11, h⟩
          · rcases brk h with ⟨h12, h⟩ | ⟨h12, h⟩
            · rcases brk h with ⟨h13, h⟩ | ⟨h13, h⟩
              · obtain ⟨v8, h14, h⟩ := bind_of h
                exact hc.jump (orc := [(1, [(0, { r := d_hash_Mix v1 })]), (2, [(0, { r := d_hash_Mix v2 })]), (3, [(1, { r := d_hash_Flow v3 })]), (4, [(1, { r := d_hash_Flow v4 })]), (5, [(2, { cv := some (.bool true) }), (6, { cv := some (.bool true) }), (8, { r := d_law0_Num v5 }), (11, { cv := some (.bool true) }), (13, { r := d_law0_Num v6 }), (16, { cv := some (.bool true) }), (18, { r := d_law0_Num v7 }), (21, { cv := some (.bool true) }), (25, { cv := some (.bool true) }), (29, { cv := some (.bool true) }), (31, { r := d_law0_Num v8 })])]) (m := 12) (kt := [0]) (kh := []) (by kernel_rfl) (.cons (c_hash_Mix N 1 2 h0) (.cons (c_hash_Mix N (-1) 2 h1) (.cons (c_hash_Flow N 0 (GFlow.mk 0 0 0 0 0) h2) (.cons (c_hash_Flow N 1 (GFlow.mk 0 0 17 0 0) h3) (.cons (Le.tt h4) (.cons (Le.tt h5) (.cons (c_law0_Num N v1.2 h6) (.cons (Le.tt h7) (.cons (c_law0_Num N v2.2 h8) (.cons (Le.tt h9) (.cons (c_law0_Num N v3.2 h10) (.cons (Le.tt h11) (.cons (Le.tt h12) (.cons (Le.tt h13) (.cons (c_law0_Num N v4.2 h14) .nil))))))))))))))) (g_law8_awake_1 hc N hfin (v8 == 0) h)
              · exact hc.jump (orc := [(1, [(0, { r := d_hash_Mix v1 })]), (2, [(0, { r := d_hash_Mix v2 })]), (3, [(1, { r := d_hash_Flow v3 })]), (4, [(1, { r := d_hash_Flow v4 })]), (5, [(2, { cv := some (.bool true) }), (6, { cv := some (.bool true) }), (8, { r := d_law0_Num v5 }), (11, { cv := some (.bool true) }), (13, { r := d_law0_Num v6 }), (16, { cv := some (.bool true) }), (18, { r := d_law0_Num v7 }), (21, { cv := some (.bool true) }), (25, { cv := some (.bool true) }), (29, { cv := some (.bool false) })])]) (m := 12) (kt := [0]) (kh := []) (by kernel_rfl) (.cons (c_hash_Mix N 1 2 h0) (.cons (c_hash_Mix N (-1) 2 h1) (.cons (c_hash_Flow N 0 (GFlow.mk 0 0 0 0 0) h2) (.cons (c_hash_Flow N 1 (GFlow.mk 0 0 17 0 0) h3) (.cons (Le.tt h4) (.cons (Le.tt h5) (.cons (c_law0_Num N v1.2 h6) (.cons (Le.tt h7) (.cons (c_law0_Num N v2.2 h8) (.cons (Le.tt h9) (.cons (c_law0_Num N v3.2 h10) (.cons (Le.tt h11) (.cons (Le.tt h12) (.cons (Le.ff h13) .nil)))))))))))))) (g_law8_awake_1 hc N hfin false h)
            · exact hc.jump (orc := [(1, [(0, { r := d_hash_Mix v1 })]), (2, [(0, { r := d_hash_Mix v2 })]), (3, [(1, { r := d_hash_Flow v3 })]), (4, [(1, { r := d_hash_Flow v4 })]), (5, [(2, { cv := some (.bool true) }), (6, { cv := some (.bool true) }), (8, { r := d_law0_Num v5 }), (11, { cv := some (.bool true) }), (13, { r := d_law0_Num v6 }), (16, { cv := some (.bool true) }), (18, { r := d_law0_Num v7 }), (21, { cv := some (.bool true) }), (25, { cv := some (.bool false) })])]) (m := 12) (kt := [0]) (kh := []) (by kernel_rfl) (.cons (c_hash_Mix N 1 2 h0) (.cons (c_hash_Mix N (-1) 2 h1) (.cons (c_hash_Flow N 0 (GFlow.mk 0 0 0 0 0) h2) (.cons (c_hash_Flow N 1 (GFlow.mk 0 0 17 0 0) h3) (.cons (Le.tt h4) (.cons (Le.tt h5) (.cons (c_law0_Num N v1.2 h6) (.cons (Le.tt h7) (.cons (c_law0_Num N v2.2 h8) (.cons (Le.tt h9) (.cons (c_law0_Num N v3.2 h10) (.cons (Le.tt h11) (.cons (Le.ff h12) .nil))))))))))))) (g_law8_awake_1 hc N hfin false h)
          · exact hc.jump (orc := [(1, [(0, { r := d_hash_Mix v1 })]), (2, [(0, { r := d_hash_Mix v2 })]), (3, [(1, { r := d_hash_Flow v3 })]), (4, [(1, { r := d_hash_Flow v4 })]), (5, [(2, { cv := some (.bool true) }), (6, { cv := some (.bool true) }), (8, { r := d_law0_Num v5 }), (11, { cv := some (.bool true) }), (13, { r := d_law0_Num v6 }), (16, { cv := some (.bool true) }), (18, { r := d_law0_Num v7 }), (21, { cv := some (.bool false) })])]) (m := 12) (kt := [0]) (kh := []) (by kernel_rfl) (.cons (c_hash_Mix N 1 2 h0) (.cons (c_hash_Mix N (-1) 2 h1) (.cons (c_hash_Flow N 0 (GFlow.mk 0 0 0 0 0) h2) (.cons (c_hash_Flow N 1 (GFlow.mk 0 0 17 0 0) h3) (.cons (Le.tt h4) (.cons (Le.tt h5) (.cons (c_law0_Num N v1.2 h6) (.cons (Le.tt h7) (.cons (c_law0_Num N v2.2 h8) (.cons (Le.tt h9) (.cons (c_law0_Num N v3.2 h10) (.cons (Le.ff h11) .nil)))))))))))) (g_law8_awake_1 hc N hfin false h)
        · exact hc.jump (orc := [(1, [(0, { r := d_hash_Mix v1 })]), (2, [(0, { r := d_hash_Mix v2 })]), (3, [(1, { r := d_hash_Flow v3 })]), (4, [(1, { r := d_hash_Flow v4 })]), (5, [(2, { cv := some (.bool true) }), (6, { cv := some (.bool true) }), (8, { r := d_law0_Num v5 }), (11, { cv := some (.bool true) }), (13, { r := d_law0_Num v6 }), (16, { cv := some (.bool false) })])]) (m := 12) (kt := [0]) (kh := []) (by kernel_rfl) (.cons (c_hash_Mix N 1 2 h0) (.cons (c_hash_Mix N (-1) 2 h1) (.cons (c_hash_Flow N 0 (GFlow.mk 0 0 0 0 0) h2) (.cons (c_hash_Flow N 1 (GFlow.mk 0 0 17 0 0) h3) (.cons (Le.tt h4) (.cons (Le.tt h5) (.cons (c_law0_Num N v1.2 h6) (.cons (Le.tt h7) (.cons (c_law0_Num N v2.2 h8) (.cons (Le.ff h9) .nil)))))))))) (g_law8_awake_1 hc N hfin false h)
      · exact hc.jump (orc := [(1, [(0, { r := d_hash_Mix v1 })]), (2, [(0, { r := d_hash_Mix v2 })]), (3, [(1, { r := d_hash_Flow v3 })]), (4, [(1, { r := d_hash_Flow v4 })]), (5, [(2, { cv := some (.bool true) }), (6, { cv := some (.bool true) }), (8, { r := d_law0_Num v5 }), (11, { cv := some (.bool false) })])]) (m := 12) (kt := [0]) (kh := []) (by kernel_rfl) (.cons (c_hash_Mix N 1 2 h0) (.cons (c_hash_Mix N (-1) 2 h1) (.cons (c_hash_Flow N 0 (GFlow.mk 0 0 0 0 0) h2) (.cons (c_hash_Flow N 1 (GFlow.mk 0 0 17 0 0) h3) (.cons (Le.tt h4) (.cons (Le.tt h5) (.cons (c_law0_Num N v1.2 h6) (.cons (Le.ff h7) .nil)))))))) (g_law8_awake_1 hc N hfin false h)
    · exact hc.jump (orc := [(1, [(0, { r := d_hash_Mix v1 })]), (2, [(0, { r := d_hash_Mix v2 })]), (3, [(1, { r := d_hash_Flow v3 })]), (4, [(1, { r := d_hash_Flow v4 })]), (5, [(2, { cv := some (.bool true) }), (6, { cv := some (.bool false) })])]) (m := 12) (kt := [0]) (kh := []) (by kernel_rfl) (.cons (c_hash_Mix N 1 2 h0) (.cons (c_hash_Mix N (-1) 2 h1) (.cons (c_hash_Flow N 0 (GFlow.mk 0 0 0 0 0) h2) (.cons (c_hash_Flow N 1 (GFlow.mk 0 0 17 0 0) h3) (.cons (Le.tt h4) (.cons (Le.ff h5) .nil)))))) (g_law8_awake_1 hc N hfin false h)
  · exact hc.jump (orc := [(1, [(0, { r := d_hash_Mix v1 })]), (2, [(0, { r := d_hash_Mix v2 })]), (3, [(1, { r := d_hash_Flow v3 })]), (4, [(1, { r := d_hash_Flow v4 })]), (5, [(2, { cv := some (.bool false) })])]) (m := 12) (kt := [0]) (kh := []) (by kernel_rfl) (.cons (c_hash_Mix N 1 2 h0) (.cons (c_hash_Mix N (-1) 2 h1) (.cons (c_hash_Flow N 0 (GFlow.mk 0 0 0 0 0) h2) (.cons (c_hash_Flow N 1 (GFlow.mk 0 0 17 0 0) h3) (.cons (Le.ff h4) .nil))))) (g_law8_awake_1 hc N hfin false h)

theorem c_law8_awake (N : Nat) {r : Bool} (h : L_law8_awake N = some r) : Con Try.prog 11 [] [] (d_law8_awake r) [] :=
  con_intro ok mix (fn := Try.f11) (body := bodyOf Try.f11) (by kernel_rfl) (by kernel_rfl) (by kernel_rfl) rfl (Nat.le_of_ble_eq_true (by kernel_rfl)) fun c h1 h2 h3 h4 hfin => g_law8_awake_0 ⟨h1, h2, h3, h4⟩ N hfin h
/-! ### wharfage/wharfagelaw8.HashSpreads -/
def L_law8_HashSpreads_3 (N : Nat) (r1 : Int → Int → (List Int) → Int → Option (Bool)) : Nat → Int → Int → (List Int) → Int → Int → Int → Option (Bool)
  | 0, _, _, _, _, _, _ => none
  | fuel + 1, t5, t6, b156, t8, t9, t11 =>
    bif (decide (t11 < t8)) then
      if 0 ≤ t11 ∧ t11 < ((16 : Nat) : Int) then
      if 0 ≤ t11 ∧ t11 < ((b156.length : Nat) : Int) then
      bif ((b156.getD t11.toNat default) == t9) then
        some false
      else
        L_law8_HashSpreads_3 N r1 fuel t5 t6 b156 t8 t9 (IntKind.i64.wrap (t11 + 1))
      else none
      else none
    else
      if 0 ≤ t8 ∧ t8 < ((16 : Nat) : Int) then
      if 0 ≤ t8 ∧ t8 < ((b156.length : Nat) : Int) then
      r1 t5 t6 (b156.set t8.toNat t9) (IntKind.i64.wrap (t8 + 1))
      else none
      else none
def L_law8_HashSpreads_2 (N : Nat) (r1 : Int → Int → (List Int) → Int → Option (Bool)) (t5 : Int) (t6 : Int) (b156 : (List Int)) (t8 : Int) (t9 : Int) (t40 : Bool) : Option (Bool) :=
  bif t40 then
    some false
  else
    L_law8_HashSpreads_3 N r1 N t5 t6 b156 t8 t9 0
def L_law8_HashSpreads_1 (N : Nat) : Nat → Int → Int → (List Int) → Int → Option (Bool)
  | 0, _, _, _, _ => none
  | fuel + 1, t5, t6, b156, t8 =>
    bif (decide (t8 < 16)) then
      (L_hash_Mix N t5 (IntKind.i64.wrap (t6 + t8))).bind fun v1 =>
      (L_law0_Num N v1.2).bind fun v2 =>
      bif (v2 != 0) then
        L_law8_HashSpreads_2 N (L_law8_HashSpreads_1 N fuel) t5 t6 b156 t8 v1.1 true
      else
        bif (decide (v1.1 < 0)) then
          L_law8_HashSpreads_2 N (L_law8_HashSpreads_1 N fuel) t5 t6 b156 t8 v1.1 true
        else
          L_law8_HashSpreads_2 N (L_law8_HashSpreads_1 N fuel) t5 t6 b156 t8 v1.1 (decide (v1.1 > 4294967295))
    else
      some true
def L_law8_HashSpreads (N : Nat) (x0 : Int) (x1 : Int) : Option (Bool) :=
  (L_law8_awake N).bind fun v1 =>
  bif (!v1) then
    some false
  else
    L_law8_HashSpreads_1 N N (bAnd .i64 x0 65535) (bAnd .i64 x1 65535) ([0, 0, 0, 0, 0, 0, 0, 0, 0, 0, 0, 0, 0, 0, 0, 0]) 0
def d_law8_HashSpreads (r : Bool) : D := .bool r
theorem g_law8_HashSpreads_3 {c : Cx} (hc : Is c Try.prog ty 3 54) (N : Nat) {r : Bool} (hfin : c.Fin [] (d_law8_HashSpreads r) []) (r1 : Int → Int → (List Int) → Int → Option (Bool)) (hr1 : ∀ (t5 : Int) (t6 : Int) (b156 : (List Int)) (t8 : Int), r1 t5 t6 b156 t8 = some r → c.Goes (items (bodyOf Try.f3) [.c 303, .l 303, .b 0, .c 63]) ⟨[(5, .int .i64 t5), (6, .int .i64 t6), (7, .ptr 156 0), (8, .int .i64 t8)], [(156, some ⟨true, 0, (eL (eInt .i64) b156)⟩)]⟩) : ∀ (fuel : Nat) (t5 : Int) (t6 : Int) (b156 : (List Int)) (t8 : Int) (t9 : Int) (t11 : Int), L_law8_HashSpreads_3 N r1 fuel t5 t6 b156 t8 t9 t11 = some r → c.Goes (items (bodyOf Try.f3) [.c 153903, .l 153903, .b 2, .c 31023, .b 1, .c 1839, .l 303, .b 0, .c 63]) ⟨[(5, .int .i64 t5), (6, .int .i64 t6), (7, .ptr 156 0), (8, .int .i64 t8), (9, .int .i64 t9), (11, .int .i64 t11)], [(156, some ⟨true, 0, (eL (eInt .i64) b156)⟩)]⟩ := by
  intro fuel
  induction fuel with
  | zero => intro t5 t6 b156 t8 t9 t11 h; simp [L_law8_HashSpreads_3] at h
  | succ fuel ih =>
    intro t5 t6 b156 t8 t9 t11 h
    unfold L_law8_HashSpreads_3 at h
    rcases brk h with ⟨h0, h⟩ | ⟨h0, h⟩
    · obtain ⟨h1, h⟩ := chk h
      obtain ⟨h2, h⟩ := chk h
      rcases brk h with ⟨h3, h⟩ | ⟨h3, h⟩
      · have h := Option.some.inj h
        refine hc.ret hfin (fn := Try.f3) (by kernel_rfl) (orc := [(12, [(2, { cv := some (.bool true) })]), (14, [(1, { cv := some (.ptr 156 (t11.toNat * 1 + 0)) }), (2, { cv := some (.int .i64 (b156.getD t11.toNat default)) }), (4, { cv := some (.bool true) })])]) (m := 12) (d := .bool false) (by kernel_rfl) (.cons (Le.tt h0) (.cons (h1) (.cons (Le.pt (b := 156) (k := t11.toNat * 1)) (.cons (ld_ne (xs := b156) (eInt_len .i64) (ixl h2) (o := 0) (by decide)) (.cons (Le.of (ld_hd (xs := b156) (eInt_len .i64) (ixl h2) (o := 0) (by decide))) (.cons (Le.tt h3) .nil)))))) ?_ ?_
        · rw [← h]; exact Le.of rfl
        · rw [← h]; rfl
      · exact hc.jump (orc := [(12, [(2, { cv := some (.bool true) })]), (14, [(1, { cv := some (.ptr 156 (t11.toNat * 1 + 0)) }), (2, { cv := some (.int .i64 (b156.getD t11.toNat default)) }), (4, { cv := some (.bool false) })])]) (m := 14) (kt := [5, 6, 7, 8, 9, 11]) (kh := [(156, 156)]) (by kernel_rfl) (.cons (Le.tt h0) (.cons (h1) (.cons (Le.pt (b := 156) (k := t11.toNat * 1)) (.cons (ld_ne (xs := b156) (eInt_len .i64) (ixl h2) (o := 0) (by decide)) (.cons (Le.of (ld_hd (xs := b156) (eInt_len .i64) (ixl h2) (o := 0) (by decide))) (.cons (Le.ff h3) .nil)))))) (ih t5 t6 b156 t8 t9 (IntKind.i64.wrap (t11 + 1)) h)
    · obtain ⟨h1, h⟩ := chk h
      obtain ⟨h2, h⟩ := chk h
      exact hc.jump (orc := [(12, [(2, { cv := some (.bool false) })]), (16, [(2, { cv := some (.ptr 156 (t8.toNat * 1 + 0)) }), (3, { cb := [(156, eL (eInt .i64) (b156.set t8.toNat t9))] })])]) (m := 9) (kt := [5, 6, 7, 8]) (kh := [(156, 156)]) (by kernel_rfl) (.cons (Le.ff h0) (.cons (h1) (.cons (Le.pt (b := 156) (k := t8.toNat * 1)) (.cons (st_need (xs := b156) (eInt_len .i64) (ixl h2) (o := 0) (k := 1) (vs := [.int .i64 t9]) (p := true) (by decide) rfl rfl) (.cons (st_set (xs := b156) (eInt_len .i64) (ixl h2) (o := 0) (vs := [.int .i64 t9]) (y := t9) (Nat.le_of_ble_eq_true rfl) rfl) .nil))))) (hr1 t5 t6 (b156.set t8.toNat t9) (IntKind.i64.wrap (t8 + 1)) h)

theorem g_law8_HashSpreads_2 {c : Cx} (hc : Is c Try.prog ty 3 54) (N : Nat) {r : Bool} (hfin : c.Fin [] (d_law8_HashSpreads r) []) (r1 : Int → Int → (List Int) → Int → Option (Bool)) (hr1 : ∀ (t5 : Int) (t6 : Int) (b156 : (List Int)) (t8 : Int), r1 t5 t6 b156 t8 = some r → c.Goes (items (bodyOf Try.f3) [.c 303, .l 303, .b 0, .c 63]) ⟨[(5, .int .i64 t5), (6, .int .i64 t6), (7, .ptr 156 0), (8, .int .i64 t8)], [(156, some ⟨true, 0, (eL (eInt .i64) b156)⟩)]⟩) (t5 : Int) (t6 : Int) (b156 : (List Int)) (t8 : Int) (t9 : Int) (t40 : Bool) (h : L_law8_HashSpreads_2 N r1 t5 t6 b156 t8 t9 t40 = some r) : c.Goes (items (bodyOf Try.f3) [.c 26927, .c 14639, .b 1, .c 1839, .l 303, .b 0, .c 63]) ⟨[(5, .int .i64 t5), (6, .int .i64 t6), (7, .ptr 156 0), (8, .int .i64 t8), (9, .int .i64 t9), (40, .bool t40)], [(156, some ⟨true, 0, (eL (eInt .i64) b156)⟩)]⟩ := by
  unfold L_law8_HashSpreads_2 at h
  rcases brk h with ⟨h0, k0⟩ | ⟨h0, k0⟩
  · subst h0
    replace h := k0
    have h := Option.some.inj h
    refine hc.ret hfin (fn := Try.f3) (by kernel_rfl) (orc := []) (m := 3) (d := .bool false) (by kernel_rfl) .nil ?_ ?_
    · rw [← h]; exact Le.of rfl
    · rw [← h]; rfl
  · subst h0
    replace h := k0
    exact hc.jump (orc := []) (m := 7) (kt := [5, 6, 7, 8, 9, 11]) (kh := [(156, 156)]) (by kernel_rfl) .nil (g_law8_HashSpreads_3 hc N hfin r1 hr1 N t5 t6 b156 t8 t9 0 h)

theorem g_law8_HashSpreads_1 {c : Cx} (hc : Is c Try.prog ty 3 54) (N : Nat) {r : Bool} (hfin : c.Fin [] (d_law8_HashSpreads r) []) : ∀ (fuel : Nat) (t5 : Int) (t6 : Int) (b156 : (List Int)) (t8 : Int), L_law8_HashSpreads_1 N fuel t5 t6 b156 t8 = some r → c.Goes (items (bodyOf Try.f3) [.c 303, .l 303, .b 0, .c 63]) ⟨[(5, .int .i64 t5), (6, .int .i64 t6), (7, .ptr 156 0), (8, .int .i64 t8)], [(156, some ⟨true, 0, (eL (eInt .i64) b156)⟩)]⟩ := by
  intro fuel
  induction fuel with
  | zero => intro t5 t6 b156 t8 h; simp [L_law8_HashSpreads_1] at h
  | succ fuel ih =>
    intro t5 t6 b156 t8 h
    unfold L_law8_HashSpreads_1 at h
    rcases brk h with ⟨h0, h⟩ | ⟨h0, h⟩
    · obtain ⟨v1, h1, h⟩ := bind_of h
      obtain ⟨v2, h2, h⟩ := bind_of h
      rcases brk h with ⟨h3, h⟩ | ⟨h3, h⟩
      · exact hc.jump (orc := [(6, [(1, { cv := some (.bool true) })]), (8, [(4, { r := d_hash_Mix v1 })]), (9, [(1, { r := d_law0_Num v2 }), (3, { cv := some (.bool true) })])]) (m := 12) (kt := [5, 6, 7, 8, 9, 40]) (kh := [(156, 156)]) (by kernel_rfl) (.cons (Le.tt h0) (.cons (c_hash_Mix N t5 (IntKind.i64.wrap (t6 + t8)) h1) (.cons (c_law0_Num N v1.2 h2) (.cons (Le.tt h3) .nil)))) (g_law8_HashSpreads_2 hc N hfin (L_law8_HashSpreads_1 N fuel) ih t5 t6 b156 t8 v1.1 true h)
      · rcases brk h with ⟨h4, h⟩ | ⟨h4, h⟩
        · exact hc.jump (orc := [(6, [(1, { cv := some (.bool true) })]), (8, [(4, { r := d_hash_Mix v1 })]), (9, [(1, { r := d_law0_Num v2 }), (3, { cv := some (.bool false) }), (7, { cv := some (.bool true) })])]) (m := 12) (kt := [5, 6, 7, 8, 9, 40]) (kh := [(156, 156)]) (by kernel_rfl) (.cons (Le.tt h0) (.cons (c_hash_Mix N t5 (IntKind.i64.wrap (t6 + t8)) h1) (.cons (c_law0_Num N v1.2 h2) (.cons (Le.ff h3) (.cons (Le.tt h4) .nil))))) (g_law8_HashSpreads_2 hc N hfin (L_law8_HashSpreads_1 N fuel) ih t5 t6 b156 t8 v1.1 true h)
        · exact hc.jump (orc := [(6, [(1, { cv := some (.bool true) })]), (8, [(4, { r := d_hash_Mix v1 })]), (9, [(1, { r := d_law0_Num v2 }), (3, { cv := some (.bool false) }), (7, { cv := some (.bool false) })])]) (m := 12) (kt := [5, 6, 7, 8, 9, 40]) (kh := [(156, 156)]) (by kernel_rfl) (.cons (Le.tt h0) (.cons (c_hash_Mix N t5 (IntKind.i64.wrap (t6 + t8)) h1) (.cons (c_law0_Num N v1.2 h2) (.cons (Le.ff h3) (.cons (Le.ff h4) .nil))))) (g_law8_HashSpreads_2 hc N hfin (L_law8_HashSpreads_1 N fuel) ih t5 t6 b156 t8 v1.1 (decide (v1.1 > 4294967295)) h)
    · have h := Option.some.inj h
      refine hc.ret hfin (fn := Try.f3) (by kernel_rfl) (orc := [(6, [(1, { cv := some (.bool false) })])]) (m := 7) (d := .bool true) (by kernel_rfl) (.cons (Le.ff h0) .nil) ?_ ?_
      · rw [← h]; exact Le.of rfl
      · rw [← h]; rfl

theorem g_law8_HashSpreads_0 {c : Cx} (hc : Is c Try.prog ty 3 54) (N : Nat) {r : Bool} (hfin : c.Fin [] (d_law8_HashSpreads r) []) (x0 : Int) (x1 : Int) (h : L_law8_HashSpreads N x0 x1 = some r) : c.Goes (items (bodyOf Try.f3) [.c 1]) ⟨[(0, .int .i64 x0), (1, .int .i64 x1)], []⟩ := by
  unfold L_law8_HashSpreads at h
  obtain ⟨v1, h0, h⟩ := bind_of h
  rcases brk h with ⟨h1, h⟩ | ⟨h1, h⟩
  · have h := Option.some.inj h
    refine hc.ret hfin (fn := Try.f3) (by kernel_rfl) (orc := [(1, [(0, { r := d_law8_awake v1 }), (1, { cv := some (.bool true) })])]) (m := 8) (d := .bool false) (by kernel_rfl) (.cons (c_law8_awake N h0) (.cons (Le.tt h1) .nil)) ?_ ?_
    · rw [← h]; exact Le.of rfl
    · rw [← h]; rfl
  · exact hc.jump (orc := [(1, [(0, { r := d_law8_awake v1 }), (1, { cv := some (.bool false) })])]) (m := 16) (kt := [5, 6, 7, 8]) (kh := [(156, 156)]) (by kernel_rfl) (.cons (c_law8_awake N h0) (.cons (Le.ff h1) .nil)) (g_law8_HashSpreads_1 hc N hfin N (bAnd .i64 x0 65535) (bAnd .i64 x1 65535) ([0, 0, 0, 0, 0, 0, 0, 0, 0, 0, 0, 0, 0, 0, 0, 0]) 0 h)

theorem c_law8_HashSpreads (N : Nat) (x0 : Int) (x1 : Int) {r : Bool} (h : L_law8_HashSpreads N x0 x1 = some r) : Con Try.prog 3 [.int .i64 x0, .int .i64 x1] [] (d_law8_HashSpreads r) [] :=
  con_intro ok mix (fn := Try.f3) (body := bodyOf Try.f3) (by kernel_rfl) (by kernel_rfl) (by kernel_rfl) rfl (Nat.le_of_ble_eq_true (by kernel_rfl)) fun c h1 h2 h3 h4 hfin => g_law8_HashSpreads_0 ⟨h1, h2, h3, h4⟩ N hfin x0 x1 h
/-! ### wharfage/maglev.Weight -/
def L_maglev_Weight_1 (N : Nat) (t2 : Bool) : Option (Bool) :=
  some t2
def L_maglev_Weight (N : Nat) (x0 : Int) : Option (Bool) :=
  bif (decide (x0 ≥ 1)) then
    L_maglev_Weight_1 N (decide (x0 ≤ 16))
  else
    L_maglev_Weight_1 N false
def d_maglev_Weight (r : Bool) : D := .bool r
theorem g_maglev_Weight_1 {c : Cx} (hc : Is c Try.prog ty 34 9) (N : Nat) {r : Bool} (hfin : c.Fin [] (d_maglev_Weight r) []) (t2 : Bool) (h : L_maglev_Weight_1 N t2 = some r) : c.Goes (items (bodyOf Try.f34) [.c 7]) ⟨[(2, .bool t2)], []⟩ := by
  unfold L_maglev_Weight_1 at h
  have h := Option.some.inj h
  refine hc.ret hfin (fn := Try.f34) (by kernel_rfl) (orc := []) (m := 0) (d := .bool t2) (by kernel_rfl) .nil ?_ ?_
  · rw [← h]; exact Le.of rfl
  · rw [← h]; rfl

theorem g_maglev_Weight_0 {c : Cx} (hc : Is c Try.prog ty 34 9) (N : Nat) {r : Bool} (hfin : c.Fin [] (d_maglev_Weight r) []) (x0 : Int) (h : L_maglev_Weight N x0 = some r) : c.Goes (items (bodyOf Try.f34) [.c 1]) ⟨[(0, .int .i64 x0)], []⟩ := by
  unfold L_maglev_Weight at h
  rcases brk h with ⟨h0, h⟩ | ⟨h0, h⟩
  · exact hc.jump (orc := [(1, [(2, { cv := some (.bool true) })])]) (m := 4) (kt := [2]) (kh := []) (by kernel_rfl) (.cons (Le.tt h0) .nil) (g_maglev_Weight_1 hc N hfin (decide (x0 ≤ 16)) h)
  · exact hc.jump (orc := [(1, [(2, { cv := some (.bool false) })])]) (m := 4) (kt := [2]) (kh := []) (by kernel_rfl) (.cons (Le.ff h0) .nil) (g_maglev_Weight_1 hc N hfin false h)

theorem c_maglev_Weight (N : Nat) (x0 : Int) {r : Bool} (h : L_maglev_Weight N x0 = some r) : Con Try.prog 34 [.int .i64 x0] [] (d_maglev_Weight r) [] :=
  con_intro ok mix (fn := Try.f34) (body := bodyOf Try.f34) (by kernel_rfl) (by kernel_rfl) (by kernel_rfl) rfl (Nat.le_of_ble_eq_true (by kernel_rfl)) fun c h1 h2 h3 h4 hfin => g_maglev_Weight_0 ⟨h1, h2, h3, h4⟩ N hfin x0 h
/-! ### wharfage/maglev.May -/
def L_maglev_May_2 (N : Nat) (r1 : (List GCandidate) → (List GCandidate) → Int → Int → Option (Bool)) (t0 : (List GCandidate)) (t5 : (List GCandidate)) (t6 : Int) (t7 : Int) (t36 : Bool) : Option (Bool) :=
  bif t36 then
    some false
  else
    r1 t0 t5 t6 (IntKind.i64.wrap (t7 + 1))
def L_maglev_May_1 (N : Nat) : Nat → (List GCandidate) → (List GCandidate) → Int → Int → Option (Bool)
  | 0, _, _, _, _ => none
  | fuel + 1, t0, t5, t6, t7 =>
    bif (decide (t7 < t6)) then
      if 0 ≤ t7 ∧ t7 < ((t5.length : Nat) : Int) then
      (L_ip_In N ((t5.getD t7.toNat default).Id) 8).bind fun v1 =>
      bif (!v1) then
        L_maglev_May_2 N (L_maglev_May_1 N fuel) t0 t5 t6 t7 true
      else
        (L_maglev_Weight N ((t5.getD t7.toNat default).Weight)).bind fun v2 =>
        bif (!v2) then
          L_maglev_May_2 N (L_maglev_May_1 N fuel) t0 t5 t6 t7 true
        else
          bif (decide (t7 > 0)) then
            if 0 ≤ (IntKind.i64.wrap (t7 - 1)) ∧ (IntKind.i64.wrap (t7 - 1)) < ((t0.length : Nat) : Int) then
            via ((t0.getD (IntKind.i64.wrap (t7 - 1)).toNat default).Id : Int) fun v3 =>
            L_maglev_May_2 N (L_maglev_May_1 N fuel) t0 t5 t6 t7 (decide (v3 ≥ (t5.getD t7.toNat default).Id))
            else none
          else
            L_maglev_May_2 N (L_maglev_May_1 N fuel) t0 t5 t6 t7 false
      else none
    else
      some (decide ((t0.length : Int) ≤ 16))
def L_maglev_May (N : Nat) (x0 : (List GCandidate)) : Option (Bool) :=
  L_maglev_May_1 N N x0 x0 (x0.length : Int) 0
def d_maglev_May (r : Bool) : D := .bool r
theorem g_maglev_May_2 (gx0 : Bool) {c : Cx} (hc : Is c Try.prog ty 20 41) (N : Nat) {r : Bool} (hfin : c.Fin [] (d_maglev_May r) []) (r1 : (List GCandidate) → (List GCandidate) → Int → Int → Option (Bool)) (hr1 : ∀ (t0 : (List GCandidate)) (t5 : (List GCandidate)) (t6 : Int) (t7 : Int), r1 t0 t5 t6 t7 = some r → c.Goes (items (bodyOf Try.f20) [.c 37, .l 37, .b 0, .c 7]) ⟨[(0, .sl gx0 (eL eCandidate t0) t0.length t0.length), (5, .sl gx0 (eL eCandidate t5) t5.length t5.length), (6, .int .i64 t6), (7, .int .i64 t7)], []⟩) (t0 : (List GCandidate)) (t5 : (List GCandidate)) (t6 : Int) (t7 : Int) (t36 : Bool) (h : L_maglev_May_2 N r1 t0 t5 t6 t7 t36 = some r) : c.Goes (items (bodyOf Try.f20) [.c 3685, .b 1, .c 485, .l 37, .b 0, .c 7]) ⟨[(0, .sl gx0 (eL eCandidate t0) t0.length t0.length), (5, .sl gx0 (eL eCandidate t5) t5.length t5.length), (6, .int .i64 t6), (7, .int .i64 t7), (36, .bool t36)], []⟩ := by
  unfold L_maglev_May_2 at h
  rcases brk h with ⟨h0, k0⟩ | ⟨h0, k0⟩
  · subst h0
    replace h := k0
    have h := Option.some.inj h
    refine hc.ret hfin (fn := Try.f20) (by kernel_rfl) (orc := []) (m := 3) (d := .bool false) (by kernel_rfl) .nil ?_ ?_
    · rw [← h]; exact Le.of rfl
    · rw [← h]; rfl
  · subst h0
    replace h := k0
    exact hc.jump (orc := []) (m := 5) (kt := [0, 5, 6, 7]) (kh := []) (by kernel_rfl) .nil (hr1 t0 t5 t6 (IntKind.i64.wrap (t7 + 1)) h)

theorem g_maglev_May_1 (gx0 : Bool) {c : Cx} (hc : Is c Try.prog ty 20 41) (N : Nat) {r : Bool} (hfin : c.Fin [] (d_maglev_May r) []) : ∀ (fuel : Nat) (t0 : (List GCandidate)) (t5 : (List GCandidate)) (t6 : Int) (t7 : Int), L_maglev_May_1 N fuel t0 t5 t6 t7 = some r → c.Goes (items (bodyOf Try.f20) [.c 37, .l 37, .b 0, .c 7]) ⟨[(0, .sl gx0 (eL eCandidate t0) t0.length t0.length), (5, .sl gx0 (eL eCandidate t5) t5.length t5.length), (6, .int .i64 t6), (7, .int .i64 t7)], []⟩ := by
  intro fuel
  induction fuel with
  | zero => intro t0 t5 t6 t7 h; simp [L_maglev_May_1] at h
  | succ fuel ih =>
    intro t0 t5 t6 t7 h
    unfold L_maglev_May_1 at h
    rcases brk h with ⟨h0, h⟩ | ⟨h0, h⟩
    · obtain ⟨h1, h⟩ := chk h
      obtain ⟨v1, h2, h⟩ := bind_of h
      rcases brk h with ⟨h3, h⟩ | ⟨h3, h⟩
      · exact hc.jump (orc := [(2, [(0, { cv := some (.bool true) })]), (3, [(1, { cv := some (.ip gx0 [.int .i64 ((t5.getD t7.toNat default).Id), .int .i64 ((t5.getD t7.toNat default).Weight)]) })]), (4, [(2, { r := d_ip_In v1 }), (4, { cv := some (.bool true) })])]) (m := 11) (kt := [0, 5, 6, 7, 36]) (kh := []) (by kernel_rfl) (.cons (Le.tt h0) (.cons (h1) (.cons (Le.iptl (g := gx0) (eL_at (xs := t5) eCandidate_len (ixl h1))) (.cons (c_ip_In N ((t5.getD t7.toNat default).Id) 8 h2) (.cons (Le.tt h3) .nil))))) (g_maglev_May_2 gx0 hc N hfin (L_maglev_May_1 N fuel) ih t0 t5 t6 t7 true h)
      · obtain ⟨v2, h4, h⟩ := bind_of h
        rcases brk h with ⟨h5, h⟩ | ⟨h5, h⟩
        · exact hc.jump (orc := [(2, [(0, { cv := some (.bool true) })]), (3, [(1, { cv := some (.ip gx0 [.int .i64 ((t5.getD t7.toNat default).Id), .int .i64 ((t5.getD t7.toNat default).Weight)]) })]), (4, [(2, { r := d_ip_In v1 }), (4, { cv := some (.bool false) }), (7, { r := d_maglev_Weight v2 }), (10, { cv := some (.bool true) })])]) (m := 11) (kt := [0, 5, 6, 7, 36]) (kh := []) (by kernel_rfl) (.cons (Le.tt h0) (.cons (h1) (.cons (Le.iptl (g := gx0) (eL_at (xs := t5) eCandidate_len (ixl h1))) (.cons (c_ip_In N ((t5.getD t7.toNat default).Id) 8 h2) (.cons (Le.ff h3) (.cons (c_maglev_Weight N ((t5.getD t7.toNat default).Weight) h4) (.cons (Le.tt h5) .nil))))))) (g_maglev_May_2 gx0 hc N hfin (L_maglev_May_1 N fuel) ih t0 t5 t6 t7 true h)
        · rcases brk h with ⟨h6, h⟩ | ⟨h6, h⟩
          · obtain ⟨h7, h⟩ := chk h
            obtain ⟨v3, h8, h⟩ := via_some h
            exact hc.jump (orc := [(2, [(0, { cv := some (.bool true) })]), (3, [(1, { cv := some (.ip gx0 [.int .i64 ((t5.getD t7.toNat default).Id), .int .i64 ((t5.getD t7.toNat default).Weight)]) })]), (4, [(2, { r := d_ip_In v1 }), (4, { cv := some (.bool false) }), (7, { r := d_maglev_Weight v2 }), (10, { cv := some (.bool false) }), (13, { cv := some (.bool true) }), (17, { cv := some (.ip gx0 [.int .i64 ((t0.getD (IntKind.i64.wrap (t7 - 1)).toNat default).Id), .int .i64 ((t0.getD (IntKind.i64.wrap (t7 - 1)).toNat default).Weight)]) }), (19, { cv := some (.int .i64 v3) })])]) (m := 11) (kt := [0, 5, 6, 7, 36]) (kh := []) (by kernel_rfl) (.cons (Le.tt h0) (.cons (h1) (.cons (Le.iptl (g := gx0) (eL_at (xs := t5) eCandidate_len (ixl h1))) (.cons (c_ip_In N ((t5.getD t7.toNat default).Id) 8 h2) (.cons (Le.ff h3) (.cons (c_maglev_Weight N ((t5.getD t7.toNat default).Weight) h4) (.cons (Le.ff h5) (.cons (Le.tt h6) (.cons (h7) (.cons (Le.iptl (g := gx0) (eL_at (xs := t0) eCandidate_len (ixl h7))) (.cons ((List.cons_ne_nil _ _ : ([.int .i64 ((t0.getD (IntKind.i64.wrap (t7 - 1)).toNat default).Id), .int .i64 ((t0.getD (IntKind.i64.wrap (t7 - 1)).toNat default).Weight)] : List D) ≠ [])) (.cons (Le.int (k := .i64) h8) .nil)))))))))))) (g_maglev_May_2 gx0 hc N hfin (L_maglev_May_1 N fuel) ih t0 t5 t6 t7 (decide (v3 ≥ (t5.getD t7.toNat default).Id)) h)
          · exact hc.jump (orc := [(2, [(0, { cv := some (.bool true) })]), (3, [(1, { cv := some (.ip gx0 [.int .i64 ((t5.getD t7.toNat default).Id), .int .i64 ((t5.getD t7.toNat default).Weight)]) })]), (4, [(2, { r := d_ip_In v1 }), (4, { cv := some (.bool false) }), (7, { r := d_maglev_Weight v2 }), (10, { cv := some (.bool false) }), (13, { cv := some (.bool false) })])]) (m := 11) (kt := [0, 5, 6, 7, 36]) (kh := []) (by kernel_rfl) (.cons (Le.tt h0) (.cons (h1) (.cons (Le.iptl (g := gx0) (eL_at (xs := t5) eCandidate_len (ixl h1))) (.cons (c_ip_In N ((t5.getD t7.toNat default).Id) 8 h2) (.cons (Le.ff h3) (.cons (c_maglev_Weight N ((t5.getD t7.toNat default).Weight) h4) (.cons (Le.ff h5) (.cons (Le.ff h6) .nil)))))))) (g_maglev_May_2 gx0 hc N hfin (L_maglev_May_1 N fuel) ih t0 t5 t6 t7 false h)
    · have h := Option.some.inj h
      refine hc.ret hfin (fn := Try.f20) (by kernel_rfl) (orc := [(2, [(0, { cv := some (.bool false) })])]) (m := 7) (d := .bool (decide ((t0.length : Int) ≤ 16))) (by kernel_rfl) (.cons (Le.ff h0) .nil) ?_ ?_
      · rw [← h]; exact Le.of rfl
      · rw [← h]; rfl

theorem g_maglev_May_0 (gx0 : Bool) {c : Cx} (hc : Is c Try.prog ty 20 41) (N : Nat) {r : Bool} (hfin : c.Fin [] (d_maglev_May r) []) (x0 : (List GCandidate)) (h : L_maglev_May N x0 = some r) : c.Goes (items (bodyOf Try.f20) [.c 1]) ⟨[(0, .sl gx0 (eL eCandidate x0) x0.length x0.length)], []⟩ := by
  unfold L_maglev_May at h
  exact hc.jump (orc := []) (m := 7) (kt := [0, 5, 6, 7]) (kh := []) (by kernel_rfl) .nil (g_maglev_May_1 gx0 hc N hfin N x0 x0 (x0.length : Int) 0 h)

theorem c_maglev_May (N : Nat) (gx0 : Bool) (x0 : (List GCandidate)) {r : Bool} (h : L_maglev_May N x0 = some r) : Con Try.prog 20 [.sl gx0 (eL eCandidate x0) x0.length x0.length] [] (d_maglev_May r) [] :=
  con_intro ok mix (fn := Try.f20) (body := bodyOf Try.f20) (by kernel_rfl) (by kernel_rfl) (by kernel_rfl) rfl (Nat.le_of_ble_eq_true (by kernel_rfl)) fun c h1 h2 h3 h4 hfin => g_maglev_May_0 gx0 ⟨h1, h2, h3, h4⟩ N hfin x0 h
/-! ### wharfage/maglev.repeat[int] -/
def L_maglev_repeat_int_1 (N : Nat) : Nat → Int → (List Int) → Int → Int → Option ((List Int))
  | 0, _, _, _, _ => none
  | fuel + 1, t0, b164, t10, t11 =>
    bif (decide (t11 < t10)) then
      if 0 ≤ t11 ∧ t11 < ((b164.length : Nat) : Int) then
      L_maglev_repeat_int_1 N fuel t0 (b164.set t11.toNat t0) t10 (IntKind.i64.wrap (t11 + 1))
      else none
    else
      some b164
def L_maglev_repeat_int (N : Nat) (x0 : Int) (x1 : Int) : Option ((List Int)) :=
  if 0 ≤ x1 ∧ x1 ≤ x1 ∧ ((8 : Nat) : Int) * x1 ≤ 140737488355328 ∧ x1 ≤ 4611686018427387904 then
  via (((List.replicate (Int.toNat x1) (0 : Int)).length : Int) : Int) fun v1 =>
  L_maglev_repeat_int_1 N N x0 (List.replicate (Int.toNat x1) (0 : Int)) v1 0
  else none
def d_maglev_repeat_int (r : (List Int)) : D := .sl true (eL (eInt .i64) r) r.length r.length
theorem g_maglev_repeat_int_1 {c : Cx} (hc : Is c Try.prog ty 30 20) (N : Nat) {r : (List Int)} (hfin : c.Fin [] (d_maglev_repeat_int r) []) : ∀ (fuel : Nat) (t0 : Int) (b164 : (List Int)) (t10 : Int) (t11 : Int), L_maglev_repeat_int_1 N fuel t0 b164 t10 t11 = some r → c.Goes (items (bodyOf Try.f30) [.c 75, .l 75, .b 0, .c 15]) ⟨[(0, .int .i64 t0), (5, .ref 164 0 b164.length b164.length), (10, .int .i64 t10), (11, .int .i64 t11)], [(164, some ⟨true, 1, (eL (eInt .i64) b164)⟩)]⟩ := by
  intro fuel
  induction fuel with
  | zero => intro t0 b164 t10 t11 h; simp [L_maglev_repeat_int_1] at h
  | succ fuel ih =>
    intro t0 b164 t10 t11 h
    unfold L_maglev_repeat_int_1 at h
    rcases brk h with ⟨h0, h⟩ | ⟨h0, h⟩
    · obtain ⟨h1, h⟩ := chk h
      exact hc.jumpL (orc := [(3, [(0, { cv := some (.bool true) })]), (5, [(3, { cv := some (.ptr 164 (t11.toNat * 1 + 0)) }), (4, { cb := [(164, eL (eInt .i64) (b164.set t11.toNat t0))] })])]) (m := 13) (kt := [0, 5, 10, 11]) (kh := [(164, 164)]) (by kernel_rfl) (.cons (Le.tt h0) (.cons (h1) (.cons (Le.pt (b := 164) (k := t11.toNat * 1)) (.cons (st_need (xs := b164) (eInt_len .i64) (ixl h1) (o := 0) (k := 1) (vs := [.int .i64 t0]) (p := true) (by decide) rfl rfl) (.cons (st_set (xs := b164) (eInt_len .i64) (ixl h1) (o := 0) (vs := [.int .i64 t0]) (y := t0) (Nat.le_of_ble_eq_true rfl) rfl) .nil))))) (.cons (Le.rfl) (.cons (Le.rfs (b := 164) (by first | rfl | omega | simp : b164.length = (b164.set t11.toNat t0).length) (by first | rfl | omega | simp : b164.length = (b164.set t11.toNat t0).length)) (.cons (Le.rfl) (.cons (Le.rfl) .nil)))) (ih t0 (b164.set t11.toNat t0) t10 (IntKind.i64.wrap (t11 + 1)) h)
    · have h := Option.some.inj h
      refine hc.ret hfin (fn := Try.f30) (by kernel_rfl) (orc := [(3, [(0, { cv := some (.bool false) })]), (7, [(1, { frz := true })])]) (m := 7) (d := .sl true (eL (eInt .i64) b164) b164.length b164.length) (by kernel_rfl) (.cons (Le.ff h0) .nil) ?_ ?_
      · rw [← h]; exact Le.of rfl
      · rw [← h]; rfl

theorem g_maglev_repeat_int_0 {c : Cx} (hc : Is c Try.prog ty 30 20) (N : Nat) {r : (List Int)} (hfin : c.Fin [] (d_maglev_repeat_int r) []) (x0 : Int) (x1 : Int) (h : L_maglev_repeat_int N x0 x1 = some r) : c.Goes (items (bodyOf Try.f30) [.c 1]) ⟨[(0, .int .i64 x0), (1, .int .i64 x1)], []⟩ := by
  unfold L_maglev_repeat_int at h
  obtain ⟨h0, h⟩ := chk h
  obtain ⟨v1, h1, h⟩ := via_some h
  exact hc.jump (orc := [(1, [(1, { cv := some (.ref 164 0 (List.replicate (Int.toNat x1) (0 : Int)).length (List.replicate (Int.toNat x1) (0 : Int)).length), cb := [(164, eL (eInt .i64) (List.replicate (Int.toNat x1) (0 : Int)))] })]), (2, [(1, { cv := some (.int .i64 v1) })])]) (m := 9) (kt := [0, 5, 10, 11]) (kh := [(164, 164)]) (by kernel_rfl) (.cons (h0) (.cons (Le.apr (b := 164) (by first | rfl | simp : (List.replicate (Int.toNat x1) (0 : Int)).length = (Int.toNat x1))) (.cons (repD_eq (e := (eInt .i64)) (z := 0) (cs := [.int .i64 0]) rfl (Int.toNat x1)) (.cons (Le.int (k := .i64) h1) .nil)))) (g_maglev_repeat_int_1 hc N hfin N x0 (List.replicate (Int.toNat x1) (0 : Int)) v1 0 h)

theorem c_maglev_repeat_int (N : Nat) (x0 : Int) (x1 : Int) {r : (List Int)} (h : L_maglev_repeat_int N x0 x1 = some r) : Con Try.prog 30 [.int .i64 x0, .int .i64 x1] [] (d_maglev_repeat_int r) [] :=
  con_intro ok mix (fn := Try.f30) (body := bodyOf Try.f30) (by kernel_rfl) (by kernel_rfl) (by kernel_rfl) rfl (Nat.le_of_ble_eq_true (by kernel_rfl)) fun c h1 h2 h3 h4 hfin => g_maglev_repeat_int_0 ⟨h1, h2, h3, h4⟩ N hfin x0 x1 h
/-! ### wharfage/maglev.begin -/
def L_maglev_begin (N : Nat) (x0 : Int) : Option (Gmaglev_walk) :=
  (L_hash_Mix N 1 x0).bind fun v1 =>
  (L_hash_Mix N 2 x0).bind fun v2 =>
  via ((IntKind.i64.wrap ((1 : Int) + (v2.1.tmod 30))) : Int) fun v3 =>
  some (Gmaglev_walk.mk (v1.1.tmod 31) v3)
def d_maglev_begin (r : Gmaglev_walk) : D := .agg [.int .i64 r.at_, .int .i64 r.step_]
theorem g_maglev_begin_0 {c : Cx} (hc : Is c Try.prog ty 31 23) (N : Nat) {r : Gmaglev_walk} (hfin : c.Fin [] (d_maglev_begin r) []) (x0 : Int) (h : L_maglev_begin N x0 = some r) : c.Goes (items (bodyOf Try.f31) [.c 1]) ⟨[(0, .int .i64 x0)], []⟩ := by
  unfold L_maglev_begin at h
  obtain ⟨v1, h0, h⟩ := bind_of h
  obtain ⟨v2, h1, h⟩ := bind_of h
  obtain ⟨v3, h2, h⟩ := via_some h
  have h := Option.some.inj h
  refine hc.ret hfin (fn := Try.f31) (by kernel_rfl) (orc := [(1, [(1, { r := d_hash_Mix v1 })]), (2, [(1, { r := d_hash_Mix v2 })]), (3, [(4, { cv := some (.int .i64 v3) })])]) (m := 8) (d := .agg [.int .i64 (v1.1.tmod 31), .int .i64 v3]) (by kernel_rfl) (.cons (c_hash_Mix N 1 x0 h0) (.cons (c_hash_Mix N 2 x0 h1) (.cons ((by decide : (31:Int) ≠ 0)) (.cons ((by decide : (30:Int) ≠ 0)) (.cons (Le.int (k := .i64) h2) .nil))))) ?_ ?_
  · rw [← h]; exact Le.of rfl
  · rw [← h]; rfl

theorem c_maglev_begin (N : Nat) (x0 : Int) {r : Gmaglev_walk} (h : L_maglev_begin N x0 = some r) : Con Try.prog 31 [.int .i64 x0] [] (d_maglev_begin r) [] :=
  con_intro ok mix (fn := Try.f31) (body := bodyOf Try.f31) (by kernel_rfl) (by kernel_rfl) (by kernel_rfl) rfl (Nat.le_of_ble_eq_true (by kernel_rfl)) fun c h1 h2 h3 h4 hfin => g_maglev_begin_0 ⟨h1, h2, h3, h4⟩ N hfin x0 h
/-! ### (*wharfage/maglev.walk).next -/
def L_maglev_walk_next (N : Nat) (x0i : Nat) (x0 : (List Gmaglev_walk)) : Option ((List Gmaglev_walk)) :=
  if 0 ≤ ((x0i : Nat) : Int) ∧ ((x0i : Nat) : Int) < ((x0.length : Nat) : Int) then
  via ((IntKind.i64.wrap ((x0.getD x0i default).at_ + (x0.getD x0i default).step_)) : Int) fun v1 =>
  some (x0.set x0i (Gmaglev_walk.mk (v1.tmod 31) ((x0.getD x0i default).step_)))
  else none
def d_maglev_walk_next (r : (List Gmaglev_walk)) : D := .tup []
def h_maglev_walk_next (r : (List Gmaglev_walk)) : List (Nat × Option Blk) := [(0, some ⟨true, 2, (eL emaglev_walk r)⟩)]
theorem g_maglev_walk_next_0 {c : Cx} (hc : Is c Try.prog ty 37 15) (N : Nat) {r : (List Gmaglev_walk)} {C0 : List D} (hfin : c.Fin [(0, ⟨true, 2, C0⟩)] (d_maglev_walk_next r) (h_maglev_walk_next r)) (x0i : Nat) (x0 : (List Gmaglev_walk)) (h : L_maglev_walk_next N x0i x0 = some r) : c.Goes (items (bodyOf Try.f37) [.c 1]) ⟨[(0, .ptr 0 (x0i * 2 + 0))], [(0, some ⟨true, 2, (eL emaglev_walk x0)⟩)]⟩ := by
  unfold L_maglev_walk_next at h
  obtain ⟨h0, h⟩ := chk h
  obtain ⟨v1, h1, h⟩ := via_some h
  have h := Option.some.inj h
  subst h
  refine hc.retB hfin [] (fn := Try.f37) (by kernel_rfl) (orc := [(0, [(4, { cv := some (.int .i64 ((x0.getD x0i default).at_)) }), (8, { cv := some (.int .i64 ((x0.getD x0i default).step_)) }), (9, { cv := some (.int .i64 v1) }), (13, { cb := [(0, eL emaglev_walk (x0.set x0i (Gmaglev_walk.mk (v1.tmod 31) ((x0.getD x0i default).step_))))] })])]) (m := 1) (d := .tup []) (by kernel_rfl) (.cons (ld_ne (xs := x0) emaglev_walk_len (ixl h0) (o := 0) (by decide)) (.cons (Le.of (ld_hd (xs := x0) emaglev_walk_len (ixl h0) (o := 0) (by decide))) (.cons (ld_ne (xs := x0) emaglev_walk_len (ixl h0) (o := 1) (by decide)) (.cons (Le.of (ld_hd (xs := x0) emaglev_walk_len (ixl h0) (o := 1) (by decide))) (.cons (Le.int (k := .i64) h1) (.cons ((by decide : (31:Int) ≠ 0)) (.cons (st_need (xs := x0) emaglev_walk_len (ixl h0) (o := 0) (k := 1) (vs := [.int .i64 (v1.tmod 31)]) (p := true) (by decide) rfl rfl) (.cons (st_set (xs := x0) emaglev_walk_len (ixl h0) (o := 0) (vs := [.int .i64 (v1.tmod 31)]) (y := (Gmaglev_walk.mk (v1.tmod 31) ((x0.getD x0i default).step_))) (Nat.le_of_ble_eq_true rfl) rfl) .nil)))))))) (Le.of (by kernel_rfl)) (by kernel_rfl)

theorem c_maglev_walk_next (N : Nat) (x0i : Nat) (x0 : (List Gmaglev_walk)) {r : (List Gmaglev_walk)} (h : L_maglev_walk_next N x0i x0 = some r) : Con Try.prog 37 [.ptr 0 (x0i * 2 + 0)] [(0, ⟨true, 2, (eL emaglev_walk x0)⟩)] (d_maglev_walk_next r) (h_maglev_walk_next r) :=
  con_intro ok mix (fn := Try.f37) (body := bodyOf Try.f37) (by kernel_rfl) (by kernel_rfl) (by kernel_rfl) (by kernel_rfl) (Nat.le_of_ble_eq_true (by kernel_rfl)) fun c h1 h2 h3 h4 hfin => g_maglev_walk_next_0 ⟨h1, h2, h3, h4⟩ N hfin x0i x0 h
/-! ### wharfage/maglev.repeat[int] -/
def L_maglev_repeat_int_v1_1 (N : Nat) : Nat → Int → (List Int) → Int → Int → Option ((List Int))
  | 0, _, _, _, _ => none
  | fuel + 1, t0, b164, t10, t11 =>
    bif (decide (t11 < t10)) then
      if 0 ≤ t11 ∧ t11 < ((b164.length : Nat) : Int) then
      L_maglev_repeat_int_v1_1 N fuel t0 (b164.set t11.toNat t0) t10 (IntKind.i64.wrap (t11 + 1))
      else none
    else
      some b164
def L_maglev_repeat_int_v1 (N : Nat) (x0 : Int) (x1 : Int) : Option ((List Int)) :=
  if 0 ≤ x1 ∧ x1 ≤ x1 ∧ ((8 : Nat) : Int) * x1 ≤ 140737488355328 ∧ x1 ≤ 4611686018427387904 then
  via (((List.replicate (Int.toNat x1) (0 : Int)).length : Int) : Int) fun v1 =>
  L_maglev_repeat_int_v1_1 N N x0 (List.replicate (Int.toNat x1) (0 : Int)) v1 0
  else none
def d_maglev_repeat_int_v1 (r : (List Int)) : D := .ref 1000 0 r.length r.length
def h_maglev_repeat_int_v1 (r : (List Int)) : List (Nat × Option Blk) := [(1000, some ⟨true, 1, (eL (eInt .i64) r)⟩)]
theorem g_maglev_repeat_int_v1_1 {c : Cx} (hc : Is c Try.prog ty 30 20) (N : Nat) {r : (List Int)} (hfin : c.Fin [] (d_maglev_repeat_int_v1 r) (h_maglev_repeat_int_v1 r)) : ∀ (fuel : Nat) (t0 : Int) (b164 : (List Int)) (t10 : Int) (t11 : Int), L_maglev_repeat_int_v1_1 N fuel t0 b164 t10 t11 = some r → c.Goes (items (bodyOf Try.f30) [.c 75, .l 75, .b 0, .c 15]) ⟨[(0, .int .i64 t0), (5, .ref 164 0 b164.length b164.length), (10, .int .i64 t10), (11, .int .i64 t11)], [(164, some ⟨true, 1, (eL (eInt .i64) b164)⟩)]⟩ := by
  intro fuel
  induction fuel with
  | zero => intro t0 b164 t10 t11 h; simp [L_maglev_repeat_int_v1_1] at h
  | succ fuel ih =>
    intro t0 b164 t10 t11 h
    unfold L_maglev_repeat_int_v1_1 at h
    rcases brk h with ⟨h0, h⟩ | ⟨h0, h⟩
    · obtain ⟨h1, h⟩ := chk h
      exact hc.jumpL (orc := [(3, [(0, { cv := some (.bool true) })]), (5, [(3, { cv := some (.ptr 164 (t11.toNat * 1 + 0)) }), (4, { cb := [(164, eL (eInt .i64) (b164.set t11.toNat t0))] })])]) (m := 13) (kt := [0, 5, 10, 11]) (kh := [(164, 164)]) (by kernel_rfl) (.cons (Le.tt h0) (.cons (h1) (.cons (Le.pt (b := 164) (k := t11.toNat * 1)) (.cons (st_need (xs := b164) (eInt_len .i64) (ixl h1) (o := 0) (k := 1) (vs := [.int .i64 t0]) (p := true) (by decide) rfl rfl) (.cons (st_set (xs := b164) (eInt_len .i64) (ixl h1) (o := 0) (vs := [.int .i64 t0]) (y := t0) (Nat.le_of_ble_eq_true rfl) rfl) .nil))))) (.cons (Le.rfl) (.cons (Le.rfs (b := 164) (by first | rfl | omega | simp : b164.length = (b164.set t11.toNat t0).length) (by first | rfl | omega | simp : b164.length = (b164.set t11.toNat t0).length)) (.cons (Le.rfl) (.cons (Le.rfl) .nil)))) (ih t0 (b164.set t11.toNat t0) t10 (IntKind.i64.wrap (t11 + 1)) h)
    · have h := Option.some.inj h
      subst h
      refine hc.retB hfin [(1000, 164)] (fn := Try.f30) (by kernel_rfl) (orc := [(3, [(0, { cv := some (.bool false) })])]) (m := 7) (d := .ref 164 0 b164.length b164.length) (by kernel_rfl) (.cons (Le.ff h0) .nil) (Le.of (by kernel_rfl)) (by kernel_rfl)

theorem g_maglev_repeat_int_v1_0 {c : Cx} (hc : Is c Try.prog ty 30 20) (N : Nat) {r : (List Int)} (hfin : c.Fin [] (d_maglev_repeat_int_v1 r) (h_maglev_repeat_int_v1 r)) (x0 : Int) (x1 : Int) (h : L_maglev_repeat_int_v1 N x0 x1 = some r) : c.Goes (items (bodyOf Try.f30) [.c 1]) ⟨[(0, .int .i64 x0), (1, .int .i64 x1)], []⟩ := by
  unfold L_maglev_repeat_int_v1 at h
  obtain ⟨h0, h⟩ := chk h
  obtain ⟨v1, h1, h⟩ := via_some h
  exact hc.jump (orc := [(1, [(1, { cv := some (.ref 164 0 (List.replicate (Int.toNat x1) (0 : Int)).length (List.replicate (Int.toNat x1) (0 : Int)).length), cb := [(164, eL (eInt .i64) (List.replicate (Int.toNat x1) (0 : Int)))] })]), (2, [(1, { cv := some (.int .i64 v1) })])]) (m := 9) (kt := [0, 5, 10, 11]) (kh := [(164, 164)]) (by kernel_rfl) (.cons (h0) (.cons (Le.apr (b := 164) (by first | rfl | simp : (List.replicate (Int.toNat x1) (0 : Int)).length = (Int.toNat x1))) (.cons (repD_eq (e := (eInt .i64)) (z := 0) (cs := [.int .i64 0]) rfl (Int.toNat x1)) (.cons (Le.int (k := .i64) h1) .nil)))) (g_maglev_repeat_int_v1_1 hc N hfin N x0 (List.replicate (Int.toNat x1) (0 : Int)) v1 0 h)

theorem c_maglev_repeat_int_v1 (N : Nat) (x0 : Int) (x1 : Int) {r : (List Int)} (h : L_maglev_repeat_int_v1 N x0 x1 = some r) : Con Try.prog 30 [.int .i64 x0, .int .i64 x1] [] (d_maglev_repeat_int_v1 r) (h_maglev_repeat_int_v1 r) :=
  con_intro ok mix (fn := Try.f30) (body := bodyOf Try.f30) (by kernel_rfl) (by kernel_rfl) (by kernel_rfl) rfl (Nat.le_of_ble_eq_true (by kernel_rfl)) fun c h1 h2 h3 h4 hfin => g_maglev_repeat_int_v1_0 ⟨h1, h2, h3, h4⟩ N hfin x0 x1 h
/-! ### (*wharfage/maglev.walk).take -/
def L_maglev_walk_take_1 (N : Nat) : Nat → Nat → (List Gmaglev_walk) → (List Int) → Int → Option ((List Gmaglev_walk) × (List Int))
  | 0, _, _, _, _ => none
  | fuel + 1, t0i, b0, b1, t2 =>
    if 0 ≤ ((t0i : Nat) : Int) ∧ ((t0i : Nat) : Int) < ((b0.length : Nat) : Int) then
    if 0 ≤ (b0.getD t0i default).at_ ∧ (b0.getD t0i default).at_ < ((b1.length : Nat) : Int) then
    bif ((b1.getD ((b0.getD t0i default).at_).toNat default) != (-1)) then
      (L_maglev_walk_next N t0i b0).bind fun v1 =>
      if v1.length = b0.length then
      L_maglev_walk_take_1 N fuel t0i v1 b1 t2
      else none
    else
      if 0 ≤ (b0.getD t0i default).at_ ∧ (b0.getD t0i default).at_ < ((b1.length : Nat) : Int) then
      some (b0, (b1.set ((b0.getD t0i default).at_).toNat t2))
      else none
    else none
    else none
def L_maglev_walk_take (N : Nat) (x0i : Nat) (x0 : (List Gmaglev_walk)) (x1 : (List Int)) (x2 : Int) : Option ((List Gmaglev_walk) × (List Int)) :=
  if 0 ≤ ((x0i : Nat) : Int) ∧ ((x0i : Nat) : Int) < ((x0.length : Nat) : Int) then
  L_maglev_walk_take_1 N N x0i x0 x1 x2
  else none
def d_maglev_walk_take (r : (List Gmaglev_walk) × (List Int)) : D := .tup []
def h_maglev_walk_take (r : (List Gmaglev_walk) × (List Int)) : List (Nat × Option Blk) := [(0, some ⟨true, 2, (eL emaglev_walk r.1)⟩), (1, some ⟨true, 1, (eL (eInt .i64) r.2)⟩)]
theorem g_maglev_walk_take_1 {c : Cx} (hc : Is c Try.prog ty 32 23) (N : Nat) {r : (List Gmaglev_walk) × (List Int)} {C0 : List D} {C1 : List D} (hfin : c.Fin [(0, ⟨true, 2, C0⟩), (1, ⟨true, 1, C1⟩)] (d_maglev_walk_take r) (h_maglev_walk_take r)) : ∀ (fuel : Nat) (t0i : Nat) (b0 : (List Gmaglev_walk)) (b1 : (List Int)) (t2 : Int), L_maglev_walk_take_1 N fuel t0i b0 b1 t2 = some r → c.Goes (items (bodyOf Try.f32) [.c 8, .l 8, .b 0, .c 3]) ⟨[(0, .ptr 0 (t0i * 2 + 0)), (1, .ref 1 0 b1.length b1.length), (2, .int .i64 t2)], [(0, some ⟨true, 2, (eL emaglev_walk b0)⟩), (1, some ⟨true, 1, (eL (eInt .i64) b1)⟩)]⟩ := by
  intro fuel
  induction fuel with
  | zero => intro t0i b0 b1 t2 h; simp [L_maglev_walk_take_1] at h
  | succ fuel ih =>
    intro t0i b0 b1 t2 h
    unfold L_maglev_walk_take_1 at h
    obtain ⟨h0, h⟩ := chk h
    obtain ⟨h1, h⟩ := chk h
    rcases brk h with ⟨h2, h⟩ | ⟨h2, h⟩
    · obtain ⟨v1, h3, h⟩ := bind_of h
      obtain ⟨h4, h⟩ := chk h
      exact hc.jump (orc := [(0, [(4, { cv := some (.int .i64 ((b0.getD t0i default).at_)) }), (5, { cv := some (.ptr 1 (((b0.getD t0i default).at_).toNat * 1 + 0)) }), (6, { cv := some (.int .i64 (b1.getD ((b0.getD t0i default).at_).toNat default)) }), (7, { cv := some (.bool true) })]), (1, [(1, { ρ := [0], r := d_maglev_walk_next v1, H := h_maglev_walk_next v1 })])]) (m := 9) (kt := [0, 1, 2]) (kh := [(0, 0), (1, 1)]) (by kernel_rfl) (.cons (ld_ne (xs := b0) emaglev_walk_len (ixl h0) (o := 0) (by decide)) (.cons (Le.of (ld_hd (xs := b0) emaglev_walk_len (ixl h0) (o := 0) (by decide))) (.cons (h1) (.cons (Le.pt (b := 1) (k := ((b0.getD t0i default).at_).toNat * 1)) (.cons (ld_ne (xs := b1) (eInt_len .i64) (ixl h1) (o := 0) (by decide)) (.cons (Le.of (ld_hd (xs := b1) (eInt_len .i64) (ixl h1) (o := 0) (by decide))) (.cons (Le.tt h2) (.cons (c_maglev_walk_next N t0i b0 h3) .nil)))))))) (ih t0i v1 b1 t2 h)
    · obtain ⟨h3, h⟩ := chk h
      have h := Option.some.inj h
      subst h
      refine hc.retB hfin [] (fn := Try.f32) (by kernel_rfl) (orc := [(0, [(4, { cv := some (.int .i64 ((b0.getD t0i default).at_)) }), (5, { cv := some (.ptr 1 (((b0.getD t0i default).at_).toNat * 1 + 0)) }), (6, { cv := some (.int .i64 (b1.getD ((b0.getD t0i default).at_).toNat default)) }), (7, { cv := some (.bool false) })]), (2, [(4, { cv := some (.int .i64 ((b0.getD t0i default).at_)) }), (6, { cv := some (.ptr 1 (((b0.getD t0i default).at_).toNat * 1 + 0)) }), (7, { cb := [(1, eL (eInt .i64) (b1.set ((b0.getD t0i default).at_).toNat t2))] })])]) (m := 6) (d := .tup []) (by kernel_rfl) (.cons (ld_ne (xs := b0) emaglev_walk_len (ixl h0) (o := 0) (by decide)) (.cons (Le.of (ld_hd (xs := b0) emaglev_walk_len (ixl h0) (o := 0) (by decide))) (.cons (h1) (.cons (Le.pt (b := 1) (k := ((b0.getD t0i default).at_).toNat * 1)) (.cons (ld_ne (xs := b1) (eInt_len .i64) (ixl h1) (o := 0) (by decide)) (.cons (Le.of (ld_hd (xs := b1) (eInt_len .i64) (ixl h1) (o := 0) (by decide))) (.cons (Le.ff h2) (.cons (ld_ne (xs := b0) emaglev_walk_len (ixl h0) (o := 0) (by decide)) (.cons (Le.of (ld_hd (xs := b0) emaglev_walk_len (ixl h0) (o := 0) (by decide))) (.cons (h3) (.cons (Le.pt (b := 1) (k := ((b0.getD t0i default).at_).toNat * 1)) (.cons (st_need (xs := b1) (eInt_len .i64) (ixl h3) (o := 0) (k := 1) (vs := [.int .i64 t2]) (p := true) (by decide) rfl rfl) (.cons (st_set (xs := b1) (eInt_len .i64) (ixl h3) (o := 0) (vs := [.int .i64 t2]) (y := t2) (Nat.le_of_ble_eq_true rfl) rfl) .nil))))))))))))) (Le.of (by kernel_rfl)) (by kernel_rfl)

theorem g_maglev_walk_take_0 {c : Cx} (hc : Is c Try.prog ty 32 23) (N : Nat) {r : (List Gmaglev_walk) × (List Int)} {C0 : List D} {C1 : List D} (hfin : c.Fin [(0, ⟨true, 2, C0⟩), (1, ⟨true, 1, C1⟩)] (d_maglev_walk_take r) (h_maglev_walk_take r)) (x0i : Nat) (x0 : (List Gmaglev_walk)) (x1 : (List Int)) (x2 : Int) (h : L_maglev_walk_take N x0i x0 x1 x2 = some r) : c.Goes (items (bodyOf Try.f32) [.c 1]) ⟨[(0, .ptr 0 (x0i * 2 + 0)), (1, .ref 1 0 x1.length x1.length), (2, .int .i64 x2)], [(0, some ⟨true, 2, (eL emaglev_walk x0)⟩), (1, some ⟨true, 1, (eL (eInt .i64) x1)⟩)]⟩ := by
  unfold L_maglev_walk_take at h
  obtain ⟨h0, h⟩ := chk h
  exact hc.jump (orc := []) (m := 3) (kt := [0, 1, 2]) (kh := [(0, 0), (1, 1)]) (by kernel_rfl) .nil (g_maglev_walk_take_1 hc N hfin N x0i x0 x1 x2 h)

theorem c_maglev_walk_take (N : Nat) (x0i : Nat) (x0 : (List Gmaglev_walk)) (x1 : (List Int)) (x2 : Int) {r : (List Gmaglev_walk) × (List Int)} (h : L_maglev_walk_take N x0i x0 x1 x2 = some r) : Con Try.prog 32 [.ptr 0 (x0i * 2 + 0), .ref 1 0 x1.length x1.length, .int .i64 x2] [(0, ⟨true, 2, (eL emaglev_walk x0)⟩), (1, ⟨true, 1, (eL (eInt .i64) x1)⟩)] (d_maglev_walk_take r) (h_maglev_walk_take r) :=
  con_intro ok mix (fn := Try.f32) (body := bodyOf Try.f32) (by kernel_rfl) (by kernel_rfl) (by kernel_rfl) (by kernel_rfl) (Nat.le_of_ble_eq_true (by kernel_rfl)) fun c h1 h2 h3 h4 hfin => g_maglev_walk_take_0 ⟨h1, h2, h3, h4⟩ N hfin x0i x0 x1 x2 h
/-! ### wharfage/maglev.Build -/
def L_maglev_Build_4 (N : Nat) (r2 : (List GCandidate) → (List Int) → (List Gmaglev_walk) → Int → Option ((List Int) × Int)) (r3 : (List GCandidate) → (List Int) → (List Gmaglev_walk) → Int → (List GCandidate) → Int → Int → Option ((List Int) × Int)) : Nat → (List GCandidate) → (List Int) → (List Gmaglev_walk) → Int → Int → Int → Int → Int → (List GCandidate) → Int → Int → Option ((List Int) × Int)
  | 0, _, _, _, _, _, _, _, _, _, _, _ => none
  | fuel + 1, t0, b244, b140, t8, t9, b180_0, b180_1, t11, t34, t35, t36 =>
    bif (decide (t11 > 0)) then
      if 0 ≤ t9 ∧ t9 < ((b140.length : Nat) : Int) then
      (L_maglev_walk_take N t9.toNat b140 b244 b180_0).bind fun v1 =>
      if v1.1.length = b140.length then
      if v1.2.length = b244.length then
      L_maglev_Build_4 N r2 r3 fuel t0 v1.2 v1.1 (IntKind.i64.wrap (t8 - 1)) t9 b180_0 b180_1 (IntKind.i64.wrap (t11 - 1)) t34 t35 t36
      else none
      else none
      else none
    else
      r3 t0 b244 b140 t8 t34 t35 (IntKind.i64.wrap (t36 + 1))
def L_maglev_Build_3 (N : Nat) (r2 : (List GCandidate) → (List Int) → (List Gmaglev_walk) → Int → Option ((List Int) × Int)) : Nat → (List GCandidate) → (List Int) → (List Gmaglev_walk) → Int → (List GCandidate) → Int → Int → Option ((List Int) × Int)
  | 0, _, _, _, _, _, _, _ => none
  | fuel + 1, t0, b244, b140, t8, t34, t35, t36 =>
    bif (decide (t36 < t35)) then
      if 0 ≤ t36 ∧ t36 < ((t34.length : Nat) : Int) then
      via ((if decide (t8 < (t34.getD t36.toNat default).Weight) then t8 else (t34.getD t36.toNat default).Weight) : Int) fun v1 =>
      L_maglev_Build_4 N r2 (L_maglev_Build_3 N r2 fuel) N t0 b244 b140 t8 t36 ((t34.getD t36.toNat default).Id) ((t34.getD t36.toNat default).Weight) v1 t34 t35 t36
      else none
    else
      r2 t0 b244 b140 t8
def L_maglev_Build_2 (N : Nat) : Nat → (List GCandidate) → (List Int) → (List Gmaglev_walk) → Int → Option ((List Int) × Int)
  | 0, _, _, _, _ => none
  | fuel + 1, t0, b244, b140, t8 =>
    bif (decide (t8 > 0)) then
      L_maglev_Build_3 N (L_maglev_Build_2 N fuel) N t0 b244 b140 t8 t0 (t0.length : Int) 0
    else
      some (b244, 0)
def L_maglev_Build_1 (N : Nat) : Nat → (List GCandidate) → (List Int) → (List Gmaglev_walk) → (List GCandidate) → Int → Int → Option ((List Int) × Int)
  | 0, _, _, _, _, _, _ => none
  | fuel + 1, t0, b244, b140, t19, t20, t21 =>
    bif (decide (t21 < t20)) then
      if 0 ≤ t21 ∧ t21 < ((t19.length : Nat) : Int) then
      (L_maglev_begin N ((t19.getD t21.toNat default).Id)).bind fun v1 =>
      if growOk 16 (b140.length + 1) then
      L_maglev_Build_1 N fuel t0 b244 (b140 ++ [v1]) t19 t20 (IntKind.i64.wrap (t21 + 1))
      else none
      else none
    else
      L_maglev_Build_2 N N t0 b244 b140 31
def L_maglev_Build (N : Nat) (x0 : (List GCandidate)) : Option ((List Int) × Int) :=
  (L_maglev_May N x0).bind fun v1 =>
  bif (!v1) then
    some ([], 900)
  else
    bif ((x0.length : Int) == 0) then
      some ([], 0)
    else
      (L_maglev_repeat_int_v1 N (-1) 31).bind fun v2 =>
      L_maglev_Build_1 N N x0 v2 ([]) x0 (x0.length : Int) 0
def d_maglev_Build (r : (List Int) × Int) : D := .tup [.sl true (eL (eInt .i64) r.1) r.1.length r.1.length, .int .i64 r.2]
theorem g_maglev_Build_4 (gx0 : Bool) {c : Cx} (hc : Is c Try.prog ty 15 60) (N : Nat) {r : (List Int) × Int} (hfin : c.Fin [] (d_maglev_Build r) []) (r2 : (List GCandidate) → (List Int) → (List Gmaglev_walk) → Int → Option ((List Int) × Int)) (hr2 : ∀ (t0 : (List GCandidate)) (b244 : (List Int)) (b140 : (List Gmaglev_walk)) (t8 : Int), r2 t0 b244 b140 t8 = some r → c.Goes (items (bodyOf Try.f15) [.c 1215, .l 1215, .b 2, .c 255]) ⟨[(0, .sl gx0 (eL eCandidate t0) t0.length t0.length), (4, .ref 244 0 b244.length b244.length), (5, .ref 140 0 b140.length b140.length), (8, .int .i64 t8)], [(244, some ⟨true, 1, (eL (eInt .i64) b244)⟩), (140, some ⟨true, 2, (eL emaglev_walk b140)⟩)]⟩) (r3 : (List GCandidate) → (List Int) → (List Gmaglev_walk) → Int → (List GCandidate) → Int → Int → Option ((List Int) × Int)) (hr3 : ∀ (t0 : (List GCandidate)) (b244 : (List Int)) (b140 : (List Gmaglev_walk)) (t8 : Int) (t34 : (List GCandidate)) (t35 : Int) (t36 : Int), r3 t0 b244 b140 t8 t34 t35 t36 = some r → c.Goes (items (bodyOf Try.f15) [.c 38079, .l 38079, .b 4, .b 3, .l 1215, .b 2, .c 255]) ⟨[(0, .sl gx0 (eL eCandidate t0) t0.length t0.length), (4, .ref 244 0 b244.length b244.length), (5, .ref 140 0 b140.length b140.length), (8, .int .i64 t8), (34, .sl gx0 (eL eCandidate t34) t34.length t34.length), (35, .int .i64 t35), (36, .int .i64 t36)], [(244, some ⟨true, 1, (eL (eInt .i64) b244)⟩), (140, some ⟨true, 2, (eL emaglev_walk b140)⟩)]⟩) : ∀ (fuel : Nat) (t0 : (List GCandidate)) (b244 : (List Int)) (b140 : (List Gmaglev_walk)) (t8 : Int) (t9 : Int) (b180_0 : Int) (b180_1 : Int) (t11 : Int) (t34 : (List GCandidate)) (t35 : Int) (t36 : Int), L_maglev_Build_4 N r2 r3 fuel t0 b244 b140 t8 t9 b180_0 b180_1 t11 t34 t35 t36 = some r → c.Goes (items (bodyOf Try.f15) [.c 10065087, .l 10065087, .b 6, .b 5, .c 496831, .l 38079, .b 4, .b 3, .l 1215, .b 2, .c 255]) ⟨[(0, .sl gx0 (eL eCandidate t0) t0.length t0.length), (4, .ref 244 0 b244.length b244.length), (5, .ref 140 0 b140.length b140.length), (8, .int .i64 t8), (9, .int .i64 t9), (10, .ptr 180 0), (11, .int .i64 t11), (34, .sl gx0 (eL eCandidate t34) t34.length t34.length), (35, .int .i64 t35), (36, .int .i64 t36)], [(244, some ⟨true, 1, (eL (eInt .i64) b244)⟩), (140, some ⟨true, 2, (eL emaglev_walk b140)⟩), (180, some ⟨false, 0, [.int .i64 b180_0, .int .i64 b180_1]⟩)]⟩ := by
  intro fuel
  induction fuel with
  | zero => intro t0 b244 b140 t8 t9 b180_0 b180_1 t11 t34 t35 t36 h; simp [L_maglev_Build_4] at h
  | succ fuel ih =>
    intro t0 b244 b140 t8 t9 b180_0 b180_1 t11 t34 t35 t36 h
    unfold L_maglev_Build_4 at h
    rcases brk h with ⟨h0, h⟩ | ⟨h0, h⟩
    · obtain ⟨h1, h⟩ := chk h
      obtain ⟨v1, h2, h⟩ := bind_of h
      obtain ⟨h3, h⟩ := chk h
      obtain ⟨h4, h⟩ := chk h
      exact hc.jumpL (orc := [(18, [(1, { cv := some (.bool true) })]), (20, [(2, { cv := some (.ptr 140 (t9.toNat * 2 + 0)) }), (6, { ρ := [140, 244], r := d_maglev_walk_take v1, H := h_maglev_walk_take v1 })])]) (m := 13) (kt := [0, 4, 5, 8, 9, 10, 11, 34, 35, 36]) (kh := [(244, 244), (140, 140), (180, 180)]) (by kernel_rfl) (.cons (Le.tt h0) (.cons (h1) (.cons (Le.pt (b := 140) (k := t9.toNat * 2)) (.cons (c_maglev_walk_take N t9.toNat b140 b244 b180_0 h2) .nil)))) (.cons (Le.rfl) (.cons (Le.rfs (b := 244) (by first | rfl | omega | simp : b244.length = v1.2.length) (by first | rfl | omega | simp : b244.length = v1.2.length)) (.cons (Le.rfs (b := 140) (by first | rfl | omega | simp : b140.length = v1.1.length) (by first | rfl | omega | simp : b140.length = v1.1.length)) (.cons (Le.rfl) (.cons (Le.rfl) (.cons (Le.rfl) (.cons (Le.rfl) (.cons (Le.rfl) (.cons (Le.rfl) (.cons (Le.rfl) .nil)))))))))) (ih t0 v1.2 v1.1 (IntKind.i64.wrap (t8 - 1)) t9 b180_0 b180_1 (IntKind.i64.wrap (t11 - 1)) t34 t35 t36 h)
    · exact hc.jump (orc := [(18, [(1, { cv := some (.bool false) })])]) (m := 8) (kt := [0, 4, 5, 8, 34, 35, 36]) (kh := [(244, 244), (140, 140)]) (by kernel_rfl) (.cons (Le.ff h0) .nil) (hr3 t0 b244 b140 t8 t34 t35 (IntKind.i64.wrap (t36 + 1)) h)

theorem g_maglev_Build_3 (gx0 : Bool) {c : Cx} (hc : Is c Try.prog ty 15 60) (N : Nat) {r : (List Int) × Int} (hfin : c.Fin [] (d_maglev_Build r) []) (r2 : (List GCandidate) → (List Int) → (List Gmaglev_walk) → Int → Option ((List Int) × Int)) (hr2 : ∀ (t0 : (List GCandidate)) (b244 : (List Int)) (b140 : (List Gmaglev_walk)) (t8 : Int), r2 t0 b244 b140 t8 = some r → c.Goes (items (bodyOf Try.f15) [.c 1215, .l 1215, .b 2, .c 255]) ⟨[(0, .sl gx0 (eL eCandidate t0) t0.length t0.length), (4, .ref 244 0 b244.length b244.length), (5, .ref 140 0 b140.length b140.length), (8, .int .i64 t8)], [(244, some ⟨true, 1, (eL (eInt .i64) b244)⟩), (140, some ⟨true, 2, (eL emaglev_walk b140)⟩)]⟩) : ∀ (fuel : Nat) (t0 : (List GCandidate)) (b244 : (List Int)) (b140 : (List Gmaglev_walk)) (t8 : Int) (t34 : (List GCandidate)) (t35 : Int) (t36 : Int), L_maglev_Build_3 N r2 fuel t0 b244 b140 t8 t34 t35 t36 = some r → c.Goes (items (bodyOf Try.f15) [.c 38079, .l 38079, .b 4, .b 3, .l 1215, .b 2, .c 255]) ⟨[(0, .sl gx0 (eL eCandidate t0) t0.length t0.length), (4, .ref 244 0 b244.length b244.length), (5, .ref 140 0 b140.length b140.length), (8, .int .i64 t8), (34, .sl gx0 (eL eCandidate t34) t34.length t34.length), (35, .int .i64 t35), (36, .int .i64 t36)], [(244, some ⟨true, 1, (eL (eInt .i64) b244)⟩), (140, some ⟨true, 2, (eL emaglev_walk b140)⟩)]⟩ := by
  intro fuel
  induction fuel with
  | zero => intro t0 b244 b140 t8 t34 t35 t36 h; simp [L_maglev_Build_3] at h
  | succ fuel ih =>
    intro t0 b244 b140 t8 t34 t35 t36 h
    unfold L_maglev_Build_3 at h
    rcases brk h with ⟨h0, h⟩ | ⟨h0, h⟩
    · obtain ⟨h1, h⟩ := chk h
      obtain ⟨v1, h2, h⟩ := via_some h
      exact hc.jump (orc := [(15, [(0, { cv := some (.bool true) })]), (16, [(1, { cv := some (.ip gx0 [.int .i64 ((t34.getD t36.toNat default).Id), .int .i64 ((t34.getD t36.toNat default).Weight)]) })]), (17, [(3, { cv := some (.int .i64 v1) })])]) (m := 13) (kt := [0, 4, 5, 8, 9, 10, 11, 34, 35, 36]) (kh := [(244, 244), (140, 140), (180, 180)]) (by kernel_rfl) (.cons (Le.tt h0) (.cons (h1) (.cons (Le.iptl (g := gx0) (eL_at (xs := t34) eCandidate_len (ixl h1))) (.cons (Le.int (k := .i64) h2) .nil)))) (g_maglev_Build_4 gx0 hc N hfin r2 hr2 (L_maglev_Build_3 N r2 fuel) ih N t0 b244 b140 t8 t36 ((t34.getD t36.toNat default).Id) ((t34.getD t36.toNat default).Weight) v1 t34 t35 t36 h)
    · exact hc.jump (orc := [(15, [(0, { cv := some (.bool false) })])]) (m := 7) (kt := [0, 4, 5, 8]) (kh := [(244, 244), (140, 140)]) (by kernel_rfl) (.cons (Le.ff h0) .nil) (hr2 t0 b244 b140 t8 h)

theorem g_maglev_Build_2 (gx0 : Bool) {c : Cx} (hc : Is c Try.prog ty 15 60) (N : Nat) {r : (List Int) × Int} (hfin : c.Fin [] (d_maglev_Build r) []) : ∀ (fuel : Nat) (t0 : (List GCandidate)) (b244 : (List Int)) (b140 : (List Gmaglev_walk)) (t8 : Int), L_maglev_Build_2 N fuel t0 b244 b140 t8 = some r → c.Goes (items (bodyOf Try.f15) [.c 1215, .l 1215, .b 2, .c 255]) ⟨[(0, .sl gx0 (eL eCandidate t0) t0.length t0.length), (4, .ref 244 0 b244.length b244.length), (5, .ref 140 0 b140.length b140.length), (8, .int .i64 t8)], [(244, some ⟨true, 1, (eL (eInt .i64) b244)⟩), (140, some ⟨true, 2, (eL emaglev_walk b140)⟩)]⟩ := by
  intro fuel
  induction fuel with
  | zero => intro t0 b244 b140 t8 h; simp [L_maglev_Build_2] at h
  | succ fuel ih =>
    intro t0 b244 b140 t8 h
    unfold L_maglev_Build_2 at h
    rcases brk h with ⟨h0, h⟩ | ⟨h0, h⟩
    · exact hc.jump (orc := [(13, [(1, { cv := some (.bool true) })])]) (m := 10) (kt := [0, 4, 5, 8, 34, 35, 36]) (kh := [(244, 244), (140, 140)]) (by kernel_rfl) (.cons (Le.tt h0) .nil) (g_maglev_Build_3 gx0 hc N hfin (L_maglev_Build_2 N fuel) ih N t0 b244 b140 t8 t0 (t0.length : Int) 0 h)
    · have h := Option.some.inj h
      refine hc.ret hfin (fn := Try.f15) (by kernel_rfl) (orc := [(13, [(1, { cv := some (.bool false) })]), (23, [(1, { frz := true })])]) (m := 7) (d := .tup [.sl true (eL (eInt .i64) b244) b244.length b244.length, .int .i64 0]) (by kernel_rfl) (.cons (Le.ff h0) .nil) ?_ ?_
      · rw [← h]; exact Le.of rfl
      · rw [← h]; rfl

theorem g_maglev_Build_1 (gx0 : Bool) {c : Cx} (hc : Is c Try.prog ty 15 60) (N : Nat) {r : (List Int) × Int} (hfin : c.Fin [] (d_maglev_Build r) []) : ∀ (fuel : Nat) (t0 : (List GCandidate)) (b244 : (List Int)) (b140 : (List Gmaglev_walk)) (t19 : (List GCandidate)) (t20 : Int) (t21 : Int), L_maglev_Build_1 N fuel t0 b244 b140 t19 t20 t21 = some r → c.Goes (items (bodyOf Try.f15) [.c 607, .l 607, .b 0, .c 127]) ⟨[(0, .sl gx0 (eL eCandidate t0) t0.length t0.length), (4, .ref 244 0 b244.length b244.length), (5, .ref 140 0 b140.length b140.length), (19, .sl gx0 (eL eCandidate t19) t19.length t19.length), (20, .int .i64 t20), (21, .int .i64 t21)], [(244, some ⟨true, 1, (eL (eInt .i64) b244)⟩), (140, some ⟨true, 2, (eL emaglev_walk b140)⟩)]⟩ := by
  intro fuel
  induction fuel with
  | zero => intro t0 b244 b140 t19 t20 t21 h; simp [L_maglev_Build_1] at h
  | succ fuel ih =>
    intro t0 b244 b140 t19 t20 t21 h
    unfold L_maglev_Build_1 at h
    rcases brk h with ⟨h0, h⟩ | ⟨h0, h⟩
    · obtain ⟨h1, h⟩ := chk h
      obtain ⟨v1, h2, h⟩ := bind_of h
      obtain ⟨h3, h⟩ := chk h
      exact hc.jump (orc := [(8, [(0, { cv := some (.bool true) })]), (9, [(0, { cv := some (.ip gx0 [.int .i64 ((t19.getD t21.toNat default).Id), .int .i64 ((t19.getD t21.toNat default).Weight)]) })]), (10, [(3, { r := d_maglev_begin v1 }), (5, { cv := some (.ref 340 0 (b140 ++ [v1]).length (b140 ++ [v1]).length), cb := [(340, eL emaglev_walk (b140 ++ [v1]))] })])]) (m := 13) (kt := [0, 4, 5, 19, 20, 21]) (kh := [(244, 244), (340, 140)]) (by kernel_rfl) (.cons (Le.tt h0) (.cons (h1) (.cons (Le.iptl (g := gx0) (eL_at (xs := t19) eCandidate_len (ixl h1))) (.cons (c_maglev_begin N ((t19.getD t21.toNat default).Id) h2) (.cons ((by decide : 1 * 2 ≤ 2)) (.cons (ap_len (xs := b140) emaglev_walk_len) (.cons (h3) (.cons (Le.apr (b := 340) (by first | rfl | simp : (b140 ++ [v1]).length = b140.length + 1)) (.cons (ap_one (xs := b140) emaglev_walk_len (y := v1) (cs := [.int .i64 v1.at_, .int .i64 v1.step_]) rfl) .nil))))))))) (ih t0 b244 (b140 ++ [v1]) t19 t20 (IntKind.i64.wrap (t21 + 1)) h)
    · exact hc.jump (orc := [(8, [(0, { cv := some (.bool false) })])]) (m := 10) (kt := [0, 4, 5, 8]) (kh := [(244, 244), (140, 140)]) (by kernel_rfl) (.cons (Le.ff h0) .nil) (g_maglev_Build_2 gx0 hc N hfin N t0 b244 b140 31 h)

theorem g_maglev_Build_0 (gx0 : Bool) {c : Cx} (hc : Is c Try.prog ty 15 60) (N : Nat) {r : (List Int) × Int} (hfin : c.Fin [] (d_maglev_Build r) []) (x0 : (List GCandidate)) (h : L_maglev_Build N x0 = some r) : c.Goes (items (bodyOf Try.f15) [.c 1]) ⟨[(0, .sl gx0 (eL eCandidate x0) x0.length x0.length)], []⟩ := by
  unfold L_maglev_Build at h
  obtain ⟨v1, h0, h⟩ := bind_of h
  rcases brk h with ⟨h1, h⟩ | ⟨h1, h⟩
  · have h := Option.some.inj h
    refine hc.ret hfin (fn := Try.f15) (by kernel_rfl) (orc := [(1, [(1, { r := d_maglev_May v1 }), (2, { cv := some (.bool true) })])]) (m := 8) (d := .tup [.nils, .int .i64 900]) (by kernel_rfl) (.cons (c_maglev_May N gx0 x0 h0) (.cons (Le.tt h1) .nil)) ?_ ?_
    · rw [← h]; exact Le.tup ((.cons (Le.nils) (.cons (Le.of rfl) .nil)))
    · rw [← h]; rfl
  · rcases brk h with ⟨h2, h⟩ | ⟨h2, h⟩
    · have h := Option.some.inj h
      refine hc.ret hfin (fn := Try.f15) (by kernel_rfl) (orc := [(1, [(1, { r := d_maglev_May v1 }), (2, { cv := some (.bool false) })]), (3, [(2, { cv := some (.bool true) })])]) (m := 13) (d := .tup [.nils, .int .i64 0]) (by kernel_rfl) (.cons (c_maglev_May N gx0 x0 h0) (.cons (Le.ff h1) (.cons (Le.tt h2) .nil))) ?_ ?_
      · rw [← h]; exact Le.tup ((.cons (Le.nils) (.cons (Le.of rfl) .nil)))
      · rw [← h]; rfl
    · obtain ⟨v2, h3, h⟩ := bind_of h
      exact hc.jump (orc := [(1, [(1, { r := d_maglev_May v1 }), (2, { cv := some (.bool false) })]), (3, [(2, { cv := some (.bool false) })]), (5, [(0, { r := d_maglev_repeat_int_v1 v2, H := h_maglev_repeat_int_v1 v2 })]), (6, [(0, { own := some (2) })])]) (m := 21) (kt := [0, 4, 5, 19, 20, 21]) (kh := [(244, 244), (140, 140)]) (by kernel_rfl) (.cons (c_maglev_May N gx0 x0 h0) (.cons (Le.ff h1) (.cons (Le.ff h2) (.cons (c_maglev_repeat_int_v1 N (-1) 31 h3) .nil)))) (g_maglev_Build_1 gx0 hc N hfin N x0 v2 ([]) x0 (x0.length : Int) 0 h)

theorem c_maglev_Build (N : Nat) (gx0 : Bool) (x0 : (List GCandidate)) {r : (List Int) × Int} (h : L_maglev_Build N x0 = some r) : Con Try.prog 15 [.sl gx0 (eL eCandidate x0) x0.length x0.length] [] (d_maglev_Build r) [] :=
  con_intro ok mix (fn := Try.f15) (body := bodyOf Try.f15) (by kernel_rfl) (by kernel_rfl) (by kernel_rfl) rfl (Nat.le_of_ble_eq_true (by kernel_rfl)) fun c h1 h2 h3 h4 hfin => g_maglev_Build_0 gx0 ⟨h1, h2, h3, h4⟩ N hfin x0 h
/-! ### wharfage/maglev.Pick -/
def L_maglev_Pick_1 (N : Nat) (t1 : Int) (t7 : (List Int)) (t14 : Bool) : Option (Int × Bool × Int) :=
  bif t14 then
    some (0, false, 900)
  else
    bif ((t7.length : Int) == 0) then
      some (0, false, 0)
    else
      if 0 ≤ (t1.tmod 31) ∧ (t1.tmod 31) < ((t7.length : Nat) : Int) then
      some ((t7.getD (t1.tmod 31).toNat default), true, 0)
      else none
def L_maglev_Pick (N : Nat) (x0 : (List GCandidate)) (x1 : Int) : Option (Int × Bool × Int) :=
  (L_maglev_Build N x0).bind fun v1 =>
  bif (v1.2 != 0) then
    L_maglev_Pick_1 N x1 v1.1 true
  else
    L_maglev_Pick_1 N x1 v1.1 (decide (x1 < 0))
def d_maglev_Pick (r : Int × Bool × Int) : D := .tup [.int .i64 r.1, .bool r.2.1, .int .i64 r.2.2]
theorem g_maglev_Pick_1 (gx0 : Bool) {c : Cx} (hc : Is c Try.prog ty 17 30) (N : Nat) {r : Int × Bool × Int} (hfin : c.Fin [] (d_maglev_Pick r) []) (t1 : Int) (t7 : (List Int)) (t14 : Bool) (h : L_maglev_Pick_1 N t1 t7 t14 = some r) : c.Goes (items (bodyOf Try.f17) [.c 51, .b 0, .c 15]) ⟨[(1, .int .i64 t1), (7, .sl true (eL (eInt .i64) t7) t7.length t7.length), (14, .bool t14)], []⟩ := by
  unfold L_maglev_Pick_1 at h
  rcases brk h with ⟨h0, k0⟩ | ⟨h0, k0⟩
  · subst h0
    replace h := k0
    have h := Option.some.inj h
    refine hc.ret hfin (fn := Try.f17) (by kernel_rfl) (orc := []) (m := 3) (d := .tup [.int .i64 0, .bool false, .int .i64 900]) (by kernel_rfl) .nil ?_ ?_
    · rw [← h]; exact Le.of rfl
    · rw [← h]; rfl
  · subst h0
    replace h := k0
    rcases brk h with ⟨h1, h⟩ | ⟨h1, h⟩
    · have h := Option.some.inj h
      refine hc.ret hfin (fn := Try.f17) (by kernel_rfl) (orc := [(4, [(3, { cv := some (.bool true) })])]) (m := 6) (d := .tup [.int .i64 0, .bool false, .int .i64 0]) (by kernel_rfl) (.cons (Le.tt h1) .nil) ?_ ?_
      · rw [← h]; exact Le.of rfl
      · rw [← h]; rfl
    · obtain ⟨h2, h⟩ := chk h
      have h := Option.some.inj h
      refine hc.ret hfin (fn := Try.f17) (by kernel_rfl) (orc := [(4, [(3, { cv := some (.bool false) })]), (6, [(3, { cv := some (.ip true [.int .i64 (t7.getD (t1.tmod 31).toNat default)]) })])]) (m := 8) (d := .tup [.int .i64 (t7.getD (t1.tmod 31).toNat default), .bool true, .int .i64 0]) (by kernel_rfl) (.cons (Le.ff h1) (.cons ((by decide : (31:Int) ≠ 0)) (.cons (h2) (.cons (Le.iptl (g := true) (eL_at (xs := t7) (eInt_len .i64) (ixl h2))) .nil)))) ?_ ?_
      · rw [← h]; exact Le.of rfl
      · rw [← h]; rfl

theorem g_maglev_Pick_0 (gx0 : Bool) {c : Cx} (hc : Is c Try.prog ty 17 30) (N : Nat) {r : Int × Bool × Int} (hfin : c.Fin [] (d_maglev_Pick r) []) (x0 : (List GCandidate)) (x1 : Int) (h : L_maglev_Pick N x0 x1 = some r) : c.Goes (items (bodyOf Try.f17) [.c 1]) ⟨[(0, .sl gx0 (eL eCandidate x0) x0.length x0.length), (1, .int .i64 x1)], []⟩ := by
  unfold L_maglev_Pick at h
  obtain ⟨v1, h0, h⟩ := bind_of h
  rcases brk h with ⟨h1, h⟩ | ⟨h1, h⟩
  · exact hc.jump (orc := [(1, [(1, { r := d_maglev_Build v1 })]), (2, [(2, { cv := some (.bool true) })])]) (m := 8) (kt := [1, 7, 14]) (kh := []) (by kernel_rfl) (.cons (c_maglev_Build N gx0 x0 h0) (.cons (Le.tt h1) .nil)) (g_maglev_Pick_1 gx0 hc N hfin x1 v1.1 true h)
  · exact hc.jump (orc := [(1, [(1, { r := d_maglev_Build v1 })]), (2, [(2, { cv := some (.bool false) })])]) (m := 8) (kt := [1, 7, 14]) (kh := []) (by kernel_rfl) (.cons (c_maglev_Build N gx0 x0 h0) (.cons (Le.ff h1) .nil)) (g_maglev_Pick_1 gx0 hc N hfin x1 v1.1 (decide (x1 < 0)) h)

theorem c_maglev_Pick (N : Nat) (gx0 : Bool) (x0 : (List GCandidate)) (x1 : Int) {r : Int × Bool × Int} (h : L_maglev_Pick N x0 x1 = some r) : Con Try.prog 17 [.sl gx0 (eL eCandidate x0) x0.length x0.length, .int .i64 x1] [] (d_maglev_Pick r) [] :=
  con_intro ok mix (fn := Try.f17) (body := bodyOf Try.f17) (by kernel_rfl) (by kernel_rfl) (by kernel_rfl) rfl (Nat.le_of_ble_eq_true (by kernel_rfl)) fun c h1 h2 h3 h4 hfin => g_maglev_Pick_0 gx0 ⟨h1, h2, h3, h4⟩ N hfin x0 x1 h
/-! ### wharfage/wharfagelaw9.awake -/
def L_law9_awake_1 (N : Nat) (t0 : Bool) : Option (Bool) :=
  some t0
def L_law9_awake (N : Nat) : Option (Bool) :=
  (L_maglev_Build N ([(GCandidate.mk 3 1), (GCandidate.mk 7 2)])).bind fun v1 =>
  (L_maglev_Build N ([])).bind fun v2 =>
  (L_maglev_Build N ([(GCandidate.mk 1 0)])).bind fun v3 =>
  if 0 ≤ (1 : Int) ∧ (1 : Int) ≤ ((2 : Nat) : Int) ∧ 0 ≤ (0 : Int) ∧ (0 : Int) ≤ (1 : Int) ∧ 2 ≤ 2 then
  (L_maglev_Pick N ((([(GCandidate.mk 3 1), (GCandidate.mk 7 2)]).drop (Int.toNat (0 : Int))).take (Int.toNat ((1 : Int) - (0 : Int)))) 5).bind fun v4 =>
  (L_maglev_Pick N ([]) 5).bind fun v5 =>
  bif ((v1.1.length : Int) == 31) then
    (L_law0_Num N v1.2).bind fun v6 =>
    bif (v6 == 0) then
      bif ((v2.1.length : Int) == 0) then
        (L_law0_Num N v2.2).bind fun v7 =>
        bif (v7 == 0) then
          (L_law0_Num N v3.2).bind fun v8 =>
          bif (v8 == 900) then
            bif (v4.1 == 3) then
              bif v4.2.1 then
                (L_law0_Num N v4.2.2).bind fun v9 =>
                bif (v9 == 0) then
                  bif (!v5.2.1) then
                    (L_law0_Num N v5.2.2).bind fun v10 =>
                    bif (v10 == 0) then
                      (L_maglev_May N ([(GCandidate.mk 3 1), (GCandidate.mk 7 2)])).bind fun v11 =>
                      L_law9_awake_1 N v11
                    else
                      L_law9_awake_1 N false
                  else
                    L_law9_awake_1 N false
                else
                  L_law9_awake_1 N false
              else
                L_law9_awake_1 N false
            else
              L_law9_awake_1 N false
          else
            L_law9_awake_1 N false
        else
          L_law9_awake_1 N false
      else
        L_law9_awake_1 N false
    else
      L_law9_awake_1 N false
  else
    L_law9_awake_1 N false
  else none
def d_law9_awake (r : Bool) : D := .bool r
theorem g_law9_awake_1 {c : Cx} (hc : Is c Try.prog ty 24 92) (N : Nat) {r : Bool} (hfin : c.Fin [] (d_law9_awake r) []) (t0 : Bool) (h : L_law9_awake_1 N t0 = some r) : c.Goes (items (bodyOf Try.f24) [.c 511]) ⟨[(0, .bool t0)], []⟩ := by
  unfold L_law9_awake_1 at h
  have h := Option.some.inj h
  refine hc.ret hfin (fn := Try.f24) (by kernel_rfl) (orc := []) (m := 0) (d := .bool t0) (by kernel_rfl) .nil ?_ ?_
  · rw [← h]; exact Le.of rfl
  · rw [← h]; rfl

theorem g_law9_awake_0 {c : Cx} (hc : Is c Try.prog ty 24 92) (N : Nat) {r : Bool} (hfin : c.Fin [] (d_law9_awake r) []) (h : L_law9_awake N = some r) : c.Goes (items (bodyOf Try.f24) [.c 1]) ⟨[], []⟩ := by
  unfold L_law9_awake at h
  obtain ⟨v1, h0, h⟩ := bind_of h
  obtain ⟨v2, h1, h⟩ := bind_of h
  obtain ⟨v3, h2, h⟩ := bind_of h
  obtain ⟨h3, h⟩ := chk h
  obtain ⟨v4, h4, h⟩ := bind_of h
  obtain ⟨v5, h5, h⟩ := bind_of h
  rcases brk h with ⟨h6, h⟩ | ⟨h6, h⟩
  · obtain ⟨v6, h7, h⟩ := bind_of h
    rcases brk h with ⟨h8, h⟩ | ⟨h8, h⟩
    · rcases brk h with ⟨h9, h⟩ | ⟨h9, h⟩
      · obtain ⟨v7, h10, h⟩ := bind_of h
        rcases brk h with ⟨h11, h⟩ | ⟨h11, h⟩
        · obtain ⟨v8, h12, h⟩ := bind_of h
          rcases brk h with ⟨h13, h⟩ | ⟨h13, h⟩
          · rcases brk h with ⟨h14, h⟩ | ⟨h14, h⟩
            · rcases brk h with ⟨h15, h⟩ | ⟨h15, h⟩
              · obtain ⟨v9, h16, h⟩ := bind_of h
                rcases brk h with ⟨h17, h⟩ | ⟨h17, h⟩
                · rcases brk h with ⟨h18, h⟩ | ⟨h18, h⟩
                  · obtain ⟨v10, h19, h⟩ := bind_of h
                    rcases brk h with ⟨h20, h⟩ | ⟨h20, h⟩
                    · obtain ⟨v11, h21, h⟩ := bind_of h
                      exact hc.jump (orc := [(2, [(1, { r := d_maglev_Build v1 })]), (3, [(0, { r := d_maglev_Build v2 })]), (4, [(2, { r := d_maglev_Build v3 })]), (5, [(2, { r := d_maglev_Pick v4 })]), (6, [(0, { r := d_maglev_Pick v5 })]), (7, [(3, { cv := some (.bool true) }), (5, { r := d_law0_Num v6 }), (8, { cv := some (.bool true) }), (13, { cv := some (.bool true) }), (15, { r := d_law0_Num v7 }), (18, { cv := some (.bool true) }), (20, { r := d_law0_Num v8 }), (23, { cv := some (.bool true) }), (27, { cv := some (.bool true) }), (30, { cv := some (.bool true) }), (32, { r := d_law0_Num v9 }), (35, { cv := some (.bool true) }), (39, { cv := some (.bool true) }), (41, { r := d_law0_Num v10 }), (44, { cv := some (.bool true) }), (46, { r := d_maglev_May v11 })])]) (m := 16) (kt := [0]) (kh := []) (by kernel_rfl) (.cons (c_maglev_Build N false ([(GCandidate.mk 3 1), (GCandidate.mk 7 2)]) h0) (.cons ((c_maglev_Build N true ([]) h1).le ((.cons (Le.nils) .nil))) (.cons (c_maglev_Build N false ([(GCandidate.mk 1 0)]) h2) (.cons (h3) (.cons ((c_maglev_Pick N false ((([(GCandidate.mk 3 1), (GCandidate.mk 7 2)]).drop (Int.toNat (0 : Int))).take (Int.toNat ((1 : Int) - (0 : Int)))) 5 h4).le ((.cons (Le.cutr (g := false) (n := (Int.toNat ((1 : Int) - (0 : Int)))) (c := (2 - (Int.toNat (0 : Int)))) eCandidate_len (xs := [(GCandidate.mk 3 1), (GCandidate.mk 7 2)]) (off := 0 + ((Int.toNat (0 : Int))) * 2) (lo := (Int.toNat (0 : Int))) (Nat.zero_add _) (by first | omega | decide | (simp; done) | (simp; omega)) (by first | omega | decide | (simp; done) | (simp; omega))) (.cons (Le.rfl) .nil)))) (.cons ((c_maglev_Pick N true ([]) 5 h5).le ((.cons (Le.nils) (.cons (Le.rfl) .nil)))) (.cons (Le.tt h6) (.cons (c_law0_Num N v1.2 h7) (.cons (Le.tt h8) (.cons (Le.tt h9) (.cons (c_law0_Num N v2.2 h10) (.cons (Le.tt h11) (.cons (c_law0_Num N v3.2 h12) (.cons (Le.tt h13) (.cons (Le.tt h14) (.cons (Le.tt h15) (.cons (c_law0_Num N v4.2.2 h16) (.cons (Le.tt h17) (.cons (Le.tt h18) (.cons (c_law0_Num N v5.2.2 h19) (.cons (Le.tt h20) (.cons (c_maglev_May N false ([(GCandidate.mk 3 1), (GCandidate.mk 7 2)]) h21) .nil)))))))))))))))))))))) (g_law9_awake_1 hc N hfin v11 h)
                    · exact hc.jump (orc := [(2, [(1, { r := d_maglev_Build v1 })]), (3, [(0, { r := d_maglev_Build v2 })]), (4, [(2, { r := d_maglev_Build v3 })]), (5, [(2, { r := d_maglev_Pick v4 })]), (6, [(0, { r := d_maglev_Pick v5 })]), (7, [(3, { cv := some (.bool true) }), (5, { r := d_law0_Num v6 }), (8, { cv := some (.bool true) }), (13, { cv := some (.bool true) }), (15, { r := d_law0_Num v7 }), (18, { cv := some (.bool true) }), (20, { r := d_law0_Num v8 }), (23, { cv := some (.bool true) }), (27, { cv := some (.bool true) }), (30, { cv := some (.bool true) }), (32, { r := d_law0_Num v9 }), (35, { cv := some (.bool true) }), (39, { cv := some (.bool true) }), (41, { r := d_law0_Num v10 }), (44, { cv := some (.bool false) })])]) (m := 16) (kt := [0]) (kh := []) (by kernel_rfl) (.cons (c_maglev_Build N false ([(GCandidate.mk 3 1), (GCandidate.mk 7 2)]) h0) (.cons ((c_maglev_Build N true ([]) h1).le ((.cons (Le.nils) .nil))) (.cons (c_maglev_Build N false ([(GCandidate.mk 1 0)]) h2) (.cons (h3) (.cons ((c_maglev_Pick N false ((([(GCandidate.mk 3 1), (GCandidate.mk 7 2)]).drop (Int.toNat (0 : Int))).take (Int.toNat ((1 : Int) - (0 : Int)))) 5 h4).le ((.cons (Le.cutr (g := false) (n := (Int.toNat ((1 : Int) - (0 : Int)))) (c := (2 - (Int.toNat (0 : Int)))) eCandidate_len (xs := [(GCandidate.mk 3 1), (GCandidate.mk 7 2)]) (off := 0 + ((Int.toNat (0 : Int))) * 2) (lo := (Int.toNat (0 : Int))) (Nat.zero_add _) (by first | omega | decide | (simp; done) | (simp; omega)) (by first | omega | decide | (simp; done) | (simp; omega))) (.cons (Le.rfl) .nil)))) (.cons ((c_maglev_Pick N true ([]) 5 h5).le ((.cons (Le.nils) (.cons (Le.rfl) .nil)))) (.cons (Le.tt h6) (.cons (c_law0_Num N v1.2 h7) (.cons (Le.tt h8) (.cons (Le.tt h9) (.cons (c_law0_Num N v2.2 h10) (.cons (Le.tt h11) (.cons (c_law0_Num N v3.2 h12) (.cons (Le.tt h13) (.cons (Le.tt h14) (.cons (Le.tt h15) (.cons (c_law0_Num N v4.2.2 h16) (.cons (Le.tt h17) (.cons (Le.tt h18) (.cons (c_law0_Num N v5.2.2 h19) (.cons (Le.ff h20) .nil))))))))))))))))))))) (g_law9_awake_1 hc N hfin false h)
                  · exact hc.jump (orc := [(2, [(1, { r := d_maglev_Build v1 })]), (3, [(0, { r := d_maglev_Build v2 })]), (4, [(2, { r := d_maglev_Build v3 })]), (5, [(2, { r := d_maglev_Pick v4 })]), (6, [(0, { r := d_maglev_Pick v5 })]), (7, [(3, { cv := some (.bool true) }), (5, { r := d_law0_Num v6 }), (8, { cv := some (.bool true) }), (13, { cv := some (.bool true) }), (15, { r := d_law0_Num v7 }), (18, { cv := some (.bool true) }), (20, { r := d_law0_Num v8 }), (23, { cv := some (.bool true) }), (27, { cv := some (.bool true) }), (30, { cv := some (.bool true) }), (32, { r := d_law0_Num v9 }), (35, { cv := some (.bool true) }), (39, { cv := some (.bool false) })])]) (m := 16) (kt := [0]) (kh := []) (by kernel_rfl) (.cons (c_maglev_Build N false ([(GCandidate.mk 3 1), (GCandidate.mk 7 2)]) h0) (.cons ((c_maglev_Build N true ([]) h1).le ((.cons (Le.nils) .nil))) (.cons (c_maglev_Build N false ([(GCandidate.mk 1 0)]) h2) (.cons (h3) (.cons ((c_maglev_Pick N false ((([(GCandidate.mk 3 1), (GCandidate.mk 7 2)]).drop (Int.toNat (0 : Int))).take (Int.toNat ((1 : Int) - (0 : Int)))) 5 h4).le ((.cons (Le.cutr (g := false) (n := (Int.toNat ((1 : Int) - (0 : Int)))) (c := (2 - (Int.toNat (0 : Int)))) eCandidate_len (xs := [(GCandidate.mk 3 1), (GCandidate.mk 7 2)]) (off := 0 + ((Int.toNat (0 : Int))) * 2) (lo := (Int.toNat (0 : Int))) (Nat.zero_add _) (by first | omega | decide | (simp; done) | (simp; omega)) (by first | omega | decide | (simp; done) | (simp; omega))) (.cons (Le.rfl) .nil)))) (.cons ((c_maglev_Pick N true ([]) 5 h5).le ((.cons (Le.nils) (.cons (Le.rfl) .nil)))) (.cons (Le.tt h6) (.cons (c_law0_Num N v1.2 h7) (.cons (Le.tt h8) (.cons (Le.tt h9) (.cons (c_law0_Num N v2.2 h10) (.cons (Le.tt h11) (.cons (c_law0_Num N v3.2 h12) (.cons (Le.tt h13) (.cons (Le.tt h14) (.cons (Le.tt h15) (.cons (c_law0_Num N v4.2.2 h16) (.cons (Le.tt h17) (.cons (Le.ff h18) .nil))))))))))))))))))) (g_law9_awake_1 hc N hfin false h)
                · exact hc.jump (orc := [(2, [(1, { r := d_maglev_Build v1 })]), (3, [(0, { r := d_maglev_Build v2 })]), (4, [(2, { r := d_maglev_Build v3 })]), (5, [(2, { r := d_maglev_Pick v4 })]), (6, [(0, { r := d_maglev_Pick v5 })]), (7, [(3, { cv := some (.bool true) }), (5, { r := d_law0_Num v6 }), (8, { cv := some (.bool true) }), (13, { cv := some (.bool true) }), (15, { r := d_law0_Num v7 }), (18, { cv := some (.bool true) }), (20, { r := d_law0_Num v8 }), (23, { cv := some (.bool true) }), (27, { cv := some (.bool true) }), (30, { cv := some (.bool true) }), (32, { r := d_law0_Num v9 }), (35, { cv := some (.bool false) })])]) (m := 16) (kt := [0]) (kh := []) (by kernel_rfl) (.cons (c_maglev_Build N false ([(GCandidate.mk 3 1), (GCandidate.mk 7 2)]) h0) (.cons ((c_maglev_Build N true ([]) h1).le ((.cons (Le.nils) .nil))) (.cons (c_maglev_Build N false ([(GCandidate.mk 1 0)]) h2) (.cons (h3) (.cons ((c_maglev_Pick N false ((([(GCandidate.mk 3 1), (GCandidate.mk 7 2)]).drop (Int.toNat (0 : Int))).take (Int.toNat ((1 : Int) - (0 : Int)))) 5 h4).le ((.cons (Le.cutr (g := false) (n := (Int.toNat ((1 : Int) - (0 : Int)))) (c := (2 - (Int.toNat (0 : Int)))) eCandidate_len (xs := [(GCandidate.mk 3 1), (GCandidate.mk 7 2)]) (off := 0 + ((Int.toNat (0 : Int))) * 2) (lo := (Int.toNat (0 : Int))) (Nat.zero_add _) (by first | omega | decide | (simp; done) | (simp; omega)) (by first | omega | decide | (simp; done) | (simp; omega))) (.cons (Le.rfl) .nil)))) (.cons ((c_maglev_Pick N true ([]) 5 h5).le ((.cons (Le.nils) (.cons (Le.rfl) .nil)))) (.cons (Le.tt h6) (.cons (c_law0_Num N v1.2 h7) (.cons (Le.tt h8) (.cons (Le.tt h9) (.cons (c_law0_Num N v2.2 h10) (.cons (Le.tt h11) (.cons (c_law0_Num N v3.2 h12) (.cons (Le.tt h13) (.cons (Le.tt h14) (.cons (Le.tt h15) (.cons (c_law0_Num N v4.2.2 h16) (.cons (Le.ff h17) .nil)))))))))))))))))) (g_law9_awake_1 hc N hfin false h)
              · exact hc.jump (orc := [(2, [(1, { r := d_maglev_Build v1 })]), (3, [(0, { r := d_maglev_Build v2 })]), (4, [(2, { r := d_maglev_Build v3 })]), (5, [(2, { r := d_maglev_Pick v4 })]), (6, [(0, { r := d_maglev_Pick v5 })]), (7, [(3, { cv := some (.bool true) }), (5, { r := d_law0_Num v6 }), (8, { cv := some (.bool true) }), (13, { cv := some (.bool true) }), (15, { r := d_law0_Num v7 }), (18, { cv := some (.bool true) }), (20, { r := d_law0_Num v8 }), (23, { cv := some (.bool true) }), (27, { cv := some (.bool true) }), (30, { cv := some (.bool false) })])]) (m := 16) (kt := [0]) (kh := []) (by kernel_rfl) (.cons (c_maglev_Build N false ([(GCandidate.mk 3 1), (GCandidate.mk 7 2)]) h0) (.cons ((c_maglev_Build N true ([]) h1).le ((.cons (Le.nils) .nil))) (.cons (c_maglev_Build N false ([(GCandidate.mk 1 0)]) h2) (.cons (h3) (.cons ((c_maglev_Pick N false ((([(GCandidate.mk 3 1), (GCandidate.mk 7 2)]).drop (Int.toNat (0 : Int))).take (Int.toNat ((1 : Int) - (0 : Int)))) 5 h4).le ((.cons (Le.cutr (g := false) (n := (Int.toNat ((1 : Int) - (0 : Int)))) (c := (2 - (Int.toNat (0 : Int)))) eCandidate_len (xs := [(GCandidate.mk 3 1), (GCandidate.mk 7 2)]) (off := 0 + ((Int.toNat (0 : Int))) * 2) (lo := (Int.toNat (0 : Int))) (Nat.zero_add _) (by first | omega | decide | (simp; done) | (simp; omega)) (by first | omega | decide | (simp; done) | (simp; omega))) (.cons (Le.rfl) .nil)))) (.cons ((c_maglev_Pick N true ([]) 5 h5).le ((.cons (Le.nils) (.cons (Le.rfl) .nil)))) (.cons (Le.tt h6) (.cons (c_law0_Num N v1.2 h7) (.cons (Le.tt h8) (.cons (Le.tt h9) (.cons (c_law0_Num N v2.2 h10) (.cons (Le.tt h11) (.cons (c_law0_Num N v3.2 h12) (.cons (Le.tt h13) (.cons (Le.tt h14) (.cons (Le.ff h15) .nil)))))))))))))))) (g_law9_awake_1 hc N hfin false h)
            · exact hc.jump (orc := [(2, [(1, { r := d_maglev_Build v1 })]), (3, [(0, { r := d_maglev_Build v2 })]), (4, [(2, { r := d_maglev_Build v3 })]), (5, [(2, { r := d_maglev_Pick v4 })]), (6, [(0, { r := d_maglev_Pick v5 })]), (7, [(3, { cv := some (.bool true) }), (5, { r := d_law0_Num v6 }), (8, { cv := some (.bool true) }), (13, { cv := some (.bool true) }), (15, { r := d_law0_Num v7 }), (18, { cv := some (.bool true) }), (20, { r := d_law0_Num v8 }), (23, { cv := some (.bool true) }), (27, { cv := some (.bool false) })])]) (m := 16) (kt := [0]) (kh := []) (by kernel_rfl) (.cons (c_maglev_Build N false ([(GCandidate.mk 3 1), (GCandidate.mk 7 2)]) h0) (.cons ((c_maglev_Build N true ([]) h1).le ((.cons (Le.nils) .nil))) (.cons (c_maglev_Build N false ([(GCandidate.mk 1 0)]) h2) (.cons (h3) (.cons ((c_maglev_Pick N false ((([(GCandidate.mk 3 1), (GCandidate.mk 7 2)]).drop (Int.toNat (0 : Int))).take (Int.toNat ((1 : Int) - (0 : Int)))) 5 h4).le ((.cons (Le.cutr (g := false) (n := (Int.toNat ((1 : Int) - (0 : Int)))) (c := (2 - (Int.toNat (0 : Int)))) eCandidate_len (xs := [(GCandidate.mk 3 1), (GCandidate.mk 7 2)]) (off := 0 + ((Int.toNat (0 : Int))) * 2) (lo := (Int.toNat (0 : Int))) (Nat.zero_add _) (by first | omega | decide | (simp; done) | (simp; omega)) (by first | omega | decide | (simp; done) | (simp; omega))) (.cons (Le.rfl) .nil)))) (.cons ((c_maglev_Pick N true ([]) 5 h5).le ((.cons (Le.nils) (.cons (Le.rfl) .nil)))) (.cons (Le.tt h6) (.cons (c_law0_Num N v1.2 h7) (.cons (Le.tt h8) (.cons (Le.tt h9) (.cons (c_law0_Num N v2.2 h10) (.cons (Le.tt h11) (.cons (c_law0_Num N v3.2 h12) (.cons (Le.tt h13) (.cons (Le.ff h14) .nil))))))))))))))) (g_law9_awake_1 hc N hfin false h)
          · exact hc.jump (orc := [(2, [(1, { r := d_maglev_Build v1 })]), (3, [(0, { r := d_maglev_Build v2 })]), (4, [(2, { r := d_maglev_Build v3 })]), (5, [(2, { r := d_maglev_Pick v4 })]), (6, [(0, { r := d_maglev_Pick v5 })]), (7, [(3, { cv := some (.bool true) }), (5, { r := d_law0_Num v6 }), (8, { cv := some (.bool true) }), (13, { cv := some (.bool true) }), (15, { r := d_law0_Num v7 }), (18, { cv := some (.bool true) }), (20, { r := d_law0_Num v8 }), (23, { cv := some (.bool false) })])]) (m := 16) (kt := [0]) (kh := []) (by kernel_rfl) (.cons (c_maglev_Build N false ([(GCandidate.mk 3 1), (GCandidate.mk 7 2)]) h0) (.cons ((c_maglev_Build N true ([]) h1).le ((.cons (Le.nils) .nil))) (.cons (c_maglev_Build N false ([(GCandidate.mk 1 0)]) h2) (.cons (h3) (.cons ((c_maglev_Pick N false ((([(GCandidate.mk 3 1), (GCandidate.mk 7 2)]).drop (Int.toNat (0 : Int))).take (Int.toNat ((1 : Int) - (0 : Int)))) 5 h4).le ((.cons (Le.cutr (g := false) (n := (Int.toNat ((1 : Int) - (0 : Int)))) (c := (2 - (Int.toNat (0 : Int)))) eCandidate_len (xs := [(GCandidate.mk 3 1), (GCandidate.mk 7 2)]) (off := 0 + ((Int.toNat (0 : Int))) * 2) (lo := (Int.toNat (0 : Int))) (Nat.zero_add _) (by first | omega | decide | (simp; done) | (simp; omega)) (by first | omega | decide | (simp; done) | (simp; omega))) (.cons (Le.rfl) .nil)))) (.cons ((c_maglev_Pick N true ([]) 5 h5).le ((.cons (Le.nils) (.cons (Le.rfl) .nil)))) (.cons (Le.tt h6) (.cons (c_law0_Num N v1.2 h7) (.cons (Le.tt h8) (.cons (Le.tt h9) (.cons (c_law0_Num N v2.2 h10) (.cons (Le.tt h11) (.cons (c_law0_Num N v3.2 h12) (.cons (Le.ff h13) .nil)))))))))))))) (g_law9_awake_1 hc N hfin false h)
        · exact hc.jump (orc := [(2, [(1, { r := d_maglev_Build v1 })]), (3, [(0, { r := d_maglev_Build v2 })]), (4, [(2, { r := d_maglev_Build v3 })]), (5, [(2, { r := d_maglev_Pick v4 })]), (6, [(0, { r := d_maglev_Pick v5 })]), (7, [(3, { cv := some (.bool true) }), (5, { r := d_law0_Num v6 }), (8, { cv := some (.bool true) }), (13, { cv := some (.bool true) }), (15, { r := d_law0_Num v7 }), (18, { cv := some (.bool false) })])]) (m := 16) (kt := [0]) (kh := []) (by kernel_rfl) (.cons (c_maglev_Build N false ([(GCandidate.mk 3 1), (GCandidate.mk 7 2)]) h0) (.cons ((c_maglev_Build N true ([]) h1).le ((.cons (Le.nils) .nil))) (.cons (c_maglev_Build N false ([(GCandidate.mk 1 0)]) h2) (.cons (h3) (.cons ((c_maglev_Pick N false ((([(GCandidate.mk 3 1), (GCandidate.mk 7 2)]).drop (Int.toNat (0 : Int))).take (Int.toNat ((1 : Int) - (0 : Int)))) 5 h4).le ((.cons (Le.cutr (g := false) (n := (Int.toNat ((1 : Int) - (0 : Int)))) (c := (2 - (Int.toNat (0 : Int)))) eCandidate_len (xs := [(GCandidate.mk 3 1), (GCandidate.mk 7 2)]) (off := 0 + ((Int.toNat (0 : Int))) * 2) (lo := (Int.toNat (0 : Int))) (Nat.zero_add _) (by first | omega | decide | (simp; done) | (simp; omega)) (by first | omega | decide | (simp; done) | (simp; omega))) (.cons (Le.rfl) .nil)))) (.cons ((c_maglev_Pick N true ([]) 5 h5).le ((.cons (Le.nils) (.cons (Le.rfl) .nil)))) (.cons (Le.tt h6) (.cons (c_law0_Num N v1.2 h7) (.cons (Le.tt h8) (.cons (Le.tt h9) (.cons (c_law0_Num N v2.2 h10) (.cons (Le.ff h11) .nil)))))))))))) (g_law9_awake_1 hc N hfin false h)
      · exact hc.jump (orc := [(2, [(1, { r := d_maglev_Build v1 })]), (3, [(0, { r := d_maglev_Build v2 })]), (4, [(2, { r := d_maglev_Build v3 })]), (5, [(2, { r := d_maglev_Pick v4 })]), (6, [(0, { r := d_maglev_Pick v5 })]), (7, [(3, { cv := some (.bool true) }), (5, { r := d_law0_Num v6 }), (8, { cv := some (.bool true) }), (13, { cv := some (.bool false) })])]) (m := 16) (kt := [0]) (kh := []) (by kernel_rfl) (.cons (c_maglev_Build N false ([(GCandidate.mk 3 1), (GCandidate.mk 7 2)]) h0) (.cons ((c_maglev_Build N true ([]) h1).le ((.cons (Le.nils) .nil))) (.cons (c_maglev_Build N false ([(GCandidate.mk 1 0)]) h2) (.cons (h3) (.cons ((c_maglev_Pick N false ((([(GCandidate.mk 3 1), (GCandidate.mk 7 2)]).drop (Int.toNat (0 : Int))).take (Int.toNat ((1 : Int) - (0 : Int)))) 5 h4).le ((.cons (Le.cutr (g := false) (n := (Int.toNat ((1 : Int) - (0 : Int)))) (c := (2 - (Int.toNat (0 : Int)))) eCandidate_len (xs := [(GCandidate.mk 3 1), (GCandidate.mk 7 2)]) (off := 0 + ((Int.toNat (0 : Int))) * 2) (lo := (Int.toNat (0 : Int))) (Nat.zero_add _) (by first | omega | decide | (simp; done) | (simp; omega)) (by first | omega | decide | (simp; done) | (simp; omega))) (.cons (Le.rfl) .nil)))) (.cons ((c_maglev_Pick N true ([]) 5 h5).le ((.cons (Le.nils) (.cons (Le.rfl) .nil)))) (.cons (Le.tt h6) (.cons (c_law0_Num N v1.2 h7) (.cons (Le.tt h8) (.cons (Le.ff h9) .nil)))))))))) (g_law9_awake_1 hc N hfin false h)
    · exact hc.jump (orc := [(2, [(1, { r := d_maglev_Build v1 })]), (3, [(0, { r := d_maglev_Build v2 })]), (4, [(2, { r := d_maglev_Build v3 })]), (5, [(2, { r := d_maglev_Pick v4 })]), (6, [(0, { r := d_maglev_Pick v5 })]), (7, [(3, { cv := some (.bool true) }), (5, { r := d_law0_Num v6 }), (8, { cv := some (.bool false) })])]) (m := 16) (kt := [0]) (kh := []) (by kernel_rfl) (.cons (c_maglev_Build N false ([(GCandidate.mk 3 1), (GCandidate.mk 7 2)]) h0) (.cons ((c_maglev_Build N true ([]) h1).le ((.cons (Le.nils) .nil))) (.cons (c_maglev_Build N false ([(GCandidate.mk 1 0)]) h2) (.cons (h3) (.cons ((c_maglev_Pick N false ((([(GCandidate.mk 3 1), (GCandidate.mk 7 2)]).drop (Int.toNat (0 : Int))).take (Int.toNat ((1 : Int) - (0 : Int)))) 5 h4).le ((.cons (Le.cutr (g := false) (n := (Int.toNat ((1 : Int) - (0 : Int)))) (c := (2 - (Int.toNat (0 : Int)))) eCandidate_len (xs := [(GCandidate.mk 3 1), (GCandidate.mk 7 2)]) (off := 0 + ((Int.toNat (0 : Int))) * 2) (lo := (Int.toNat (0 : Int))) (Nat.zero_add _) (by first | omega | decide | (simp; done) | (simp; omega)) (by first | omega | decide | (simp; done) | (simp; omega))) (.cons (Le.rfl) .nil)))) (.cons ((c_maglev_Pick N true ([]) 5 h5).le ((.cons (Le.nils) (.cons (Le.rfl) .nil)))) (.cons (Le.tt h6) (.cons (c_law0_Num N v1.2 h7) (.cons (Le.ff h8) .nil))))))))) (g_law9_awake_1 hc N hfin false h)
  · exact hc.jump (orc := [(2, [(1, { r := d_maglev_Build v1 })]), (3, [(0, { r := d_maglev_Build v2 })]), (4, [(2, { r := d_maglev_Build v3 })]), (5, [(2, { r := d_maglev_Pick v4 })]), (6, [(0, { r := d_maglev_Pick v5 })]), (7, [(3, { cv := some (.bool false) })])]) (m := 16) (kt := [0]) (kh := []) (by kernel_rfl) (.cons (c_maglev_Build N false ([(GCandidate.mk 3 1), (GCandidate.mk 7 2)]) h0) (.cons ((c_maglev_Build N true ([]) h1).le ((.cons (Le.nils) .nil))) (.cons (c_maglev_Build N false ([(GCandidate.mk 1 0)]) h2) (.cons (h3) (.cons ((c_maglev_Pick N false ((([(GCandidate.mk 3 1), (GCandidate.mk 7 2)]).drop (Int.toNat (0 : Int))).take (Int.toNat ((1 : Int) - (0 : Int)))) 5 h4).le ((.cons (Le.cutr (g := false) (n := (Int.toNat ((1 : Int) - (0 : Int)))) (c := (2 - (Int.toNat (0 : Int)))) eCandidate_len (xs := [(GCandidate.mk 3 1), (GCandidate.mk 7 2)]) (off := 0 + ((Int.toNat (0 : Int))) * 2) (lo := (Int.toNat (0 : Int))) (Nat.zero_add _) (by first | omega | decide | (simp; done) | (simp; omega)) (by first | omega | decide | (simp; done) | (simp; omega))) (.cons (Le.rfl) .nil)))) (.cons ((c_maglev_Pick N true ([]) 5 h5).le ((.cons (Le.nils) (.cons (Le.rfl) .nil)))) (.cons (Le.ff h6) .nil))))))) (g_law9_awake_1 hc N hfin false h)

theorem c_law9_awake (N : Nat) {r : Bool} (h : L_law9_awake N = some r) : Con Try.prog 24 [] [] (d_law9_awake r) [] :=
  con_intro ok mix (fn := Try.f24) (body := bodyOf Try.f24) (by kernel_rfl) (by kernel_rfl) (by kernel_rfl) rfl (Nat.le_of_ble_eq_true (by kernel_rfl)) fun c h1 h2 h3 h4 hfin => g_law9_awake_0 ⟨h1, h2, h3, h4⟩ N hfin h
end Go.Proofs.Ythhlflmjikdgcaa.Lf
