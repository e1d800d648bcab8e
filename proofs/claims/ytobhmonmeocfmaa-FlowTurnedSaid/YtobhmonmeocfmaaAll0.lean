/- What functions compute, and that they do. -/
import Derived.Test.YtobhmonmeocfmaaTab
namespace Go.Proofs.Ytobhmonmeocfmaa.Lf
set_option linter.unusedVariables false
set_option linter.unusedSimpArgs false
set_option maxRecDepth 20000
open Go Go.RowKit Go.Proofs Go.Proofs.Ytobhmonmeocfmaa.Sv
structure GFlow where
  Src : Int
  Dst : Int
  Proto : Int
  Sport : Int
  Dport : Int
def eFlow (x : GFlow) : List D := [.int .i64 x.Src, .int .i64 x.Dst, .int .i64 x.Proto, .int .i64 x.Sport, .int .i64 x.Dport]
instance : Inhabited GFlow := ⟨⟨default, default, default, default, default⟩⟩
theorem eFlow_len (x : GFlow) : (eFlow x).length = 5 := rfl
structure GSeg where
  Proto : Int
  Sport : Int
  Dport : Int
  Seq : Int
  Ack : Int
  Flags : Int
  Body : ByteArray
def eSeg (x : GSeg) : List D := [.int .i64 x.Proto, .int .i64 x.Sport, .int .i64 x.Dport, .int .i64 x.Seq, .int .i64 x.Ack, .int .i64 x.Flags, .str x.Body]
instance : Inhabited GSeg := ⟨⟨default, default, default, default, default, default, default⟩⟩
theorem eSeg_len (x : GSeg) : (eSeg x).length = 7 := rfl
structure Gseg_ends where
  src_ : Int
  dst_ : Int
def eseg_ends (x : Gseg_ends) : List D := [.int .i64 x.src_, .int .i64 x.dst_]
instance : Inhabited Gseg_ends := ⟨⟨default, default⟩⟩
theorem eseg_ends_len (x : Gseg_ends) : (eseg_ends x).length = 2 := rfl
structure GIp where
  Src : Int
  Dst : Int
  Proto : Int
  Ttl : Int
  Id : Int
  Body : ByteArray
def eIp (x : GIp) : List D := [.int .i64 x.Src, .int .i64 x.Dst, .int .i64 x.Proto, .int .i64 x.Ttl, .int .i64 x.Id, .str x.Body]
instance : Inhabited GIp := ⟨⟨default, default, default, default, default, default⟩⟩
theorem eIp_len (x : GIp) : (eIp x).length = 6 := rfl
/-! ### wharfage/ip.In -/
def L_ip_In_1 (N : Nat) (t4 : Bool) : Option (Bool) :=
  some t4
def L_ip_In (N : Nat) (x0 : Int) (x1 : Int) : Option (Bool) :=
  bif (decide (x0 ≥ 0)) then
    if 0 ≤ x1 then
    L_ip_In_1 N ((x0.fdiv (2 ^ (min x1.toNat 64))) == 0)
    else none
  else
    L_ip_In_1 N false
def d_ip_In (r : Bool) : D := .bool r
theorem g_ip_In_1 {c : Cx} (hc : Is c Try.prog ty 56 13) (N : Nat) {r : Bool} (hfin : c.Fin [] (d_ip_In r) []) (t4 : Bool) (h : L_ip_In_1 N t4 = some r) : c.Goes (items (bodyOf Try.f56) [.c 7]) ⟨[(4, .bool t4)], []⟩ := by
  unfold L_ip_In_1 at h
  have h := Option.some.inj h
  refine hc.ret hfin (fn := Try.f56) (by kernel_rfl) (orc := []) (m := 0) (d := .bool t4) (by kernel_rfl) .nil ?_ ?_
  · rw [← h]; exact Le.of rfl
  · rw [← h]; rfl

theorem g_ip_In_0 {c : Cx} (hc : Is c Try.prog ty 56 13) (N : Nat) {r : Bool} (hfin : c.Fin [] (d_ip_In r) []) (x0 : Int) (x1 : Int) (h : L_ip_In N x0 x1 = some r) : c.Goes (items (bodyOf Try.f56) [.c 1]) ⟨[(0, .int .i64 x0), (1, .int .i64 x1)], []⟩ := by
  unfold L_ip_In at h
  rcases brk h with ⟨h0, h⟩ | ⟨h0, h⟩
  · obtain ⟨h1, h⟩ := chk h
    exact hc.jump (orc := [(1, [(2, { cv := some (.bool true) })])]) (m := 4) (kt := [4]) (kh := []) (by kernel_rfl) (.cons (Le.tt h0) (.cons (h1) .nil)) (g_ip_In_1 hc N hfin ((x0.fdiv (2 ^ (min x1.toNat 64))) == 0) h)
  · exact hc.jump (orc := [(1, [(2, { cv := some (.bool false) })])]) (m := 4) (kt := [4]) (kh := []) (by kernel_rfl) (.cons (Le.ff h0) .nil) (g_ip_In_1 hc N hfin false h)

theorem c_ip_In (N : Nat) (x0 : Int) (x1 : Int) {r : Bool} (h : L_ip_In N x0 x1 = some r) : Con Try.prog 56 [.int .i64 x0, .int .i64 x1] [] (d_ip_In r) [] :=
  con_intro ok mix (fn := Try.f56) (body := bodyOf Try.f56) (by kernel_rfl) (by kernel_rfl) (by kernel_rfl) rfl (Nat.le_of_ble_eq_true (by kernel_rfl)) fun c h1 h2 h3 h4 hfin => g_ip_In_0 ⟨h1, h2, h3, h4⟩ N hfin x0 x1 h
/-! ### wharfage/seg.May -/
def L_seg_May_2 (N : Nat) (t2 : Bool) : Option (Bool) :=
  some t2
def L_seg_May_3 (N : Nat) (t2 : Bool) : Option (Bool) :=
  some t2
def L_seg_May_1 (N : Nat) (b108_0 : Int) (b108_1 : Int) (b108_2 : Int) (b108_3 : Int) (b108_4 : Int) (b108_5 : Int) (b108_6 : ByteArray) (t3 : Bool) : Option (Bool) :=
  bif (b108_0 == 6) then
    bif t3 then
      (L_ip_In N b108_3 32).bind fun v1 =>
      bif v1 then
        (L_ip_In N b108_4 32).bind fun v2 =>
        bif v2 then
          (L_ip_In N b108_5 6).bind fun v3 =>
          L_seg_May_2 N v3
        else
          L_seg_May_2 N false
      else
        L_seg_May_2 N false
    else
      L_seg_May_2 N false
  else
    bif (b108_0 == 17) then
      bif t3 then
        bif (b108_3 == 0) then
          bif (b108_4 == 0) then
            L_seg_May_3 N (b108_5 == 0)
          else
            L_seg_May_3 N false
        else
          L_seg_May_3 N false
      else
        L_seg_May_3 N false
    else
      some false
def L_seg_May (N : Nat) (x0 : GSeg) : Option (Bool) :=
  (L_ip_In N x0.Sport 16).bind fun v1 =>
  bif v1 then
    (L_ip_In N x0.Dport 16).bind fun v2 =>
    bif v2 then
      L_seg_May_1 N x0.Proto x0.Sport x0.Dport x0.Seq x0.Ack x0.Flags x0.Body (decide ((x0.Body.size : Int) ≤ 256))
    else
      L_seg_May_1 N x0.Proto x0.Sport x0.Dport x0.Seq x0.Ack x0.Flags x0.Body false
  else
    L_seg_May_1 N x0.Proto x0.Sport x0.Dport x0.Seq x0.Ack x0.Flags x0.Body false
def d_seg_May (r : Bool) : D := .bool r
theorem g_seg_May_2 {c : Cx} (hc : Is c Try.prog ty 33 56) (N : Nat) {r : Bool} (hfin : c.Fin [] (d_seg_May r) []) (t2 : Bool) (h : L_seg_May_2 N t2 = some r) : c.Goes (items (bodyOf Try.f33) [.c 427, .b 0, .c 15]) ⟨[(2, .bool t2)], []⟩ := by
  unfold L_seg_May_2 at h
  have h := Option.some.inj h
  refine hc.ret hfin (fn := Try.f33) (by kernel_rfl) (orc := []) (m := 0) (d := .bool t2) (by kernel_rfl) .nil ?_ ?_
  · rw [← h]; exact Le.of rfl
  · rw [← h]; rfl

theorem g_seg_May_3 {c : Cx} (hc : Is c Try.prog ty 33 56) (N : Nat) {r : Bool} (hfin : c.Fin [] (d_seg_May r) []) (t2 : Bool) (h : L_seg_May_3 N t2 = some r) : c.Goes (items (bodyOf Try.f33) [.c 1771, .b 0, .c 15]) ⟨[(2, .bool t2)], []⟩ := by
  unfold L_seg_May_3 at h
  have h := Option.some.inj h
  refine hc.ret hfin (fn := Try.f33) (by kernel_rfl) (orc := []) (m := 0) (d := .bool t2) (by kernel_rfl) .nil ?_ ?_
  · rw [← h]; exact Le.of rfl
  · rw [← h]; rfl

theorem g_seg_May_1 {c : Cx} (hc : Is c Try.prog ty 33 56) (N : Nat) {r : Bool} (hfin : c.Fin [] (d_seg_May r) []) (b108_0 : Int) (b108_1 : Int) (b108_2 : Int) (b108_3 : Int) (b108_4 : Int) (b108_5 : Int) (b108_6 : ByteArray) (t3 : Bool) (h : L_seg_May_1 N b108_0 b108_1 b108_2 b108_3 b108_4 b108_5 b108_6 t3 = some r) : c.Goes (items (bodyOf Try.f33) [.c 7]) ⟨[(1, .ptr 108 0), (3, .bool t3)], [(108, some ⟨false, 0, [.int .i64 b108_0, .int .i64 b108_1, .int .i64 b108_2, .int .i64 b108_3, .int .i64 b108_4, .int .i64 b108_5, .str b108_6]⟩)]⟩ := by
  unfold L_seg_May_1 at h
  rcases brk h with ⟨h0, h⟩ | ⟨h0, h⟩
  · rcases brk h with ⟨h1, h⟩ | ⟨h1, h⟩
    · obtain ⟨v1, h2, h⟩ := bind_of h
      rcases brk h with ⟨h3, h⟩ | ⟨h3, h⟩
      · obtain ⟨v2, h4, h⟩ := bind_of h
        rcases brk h with ⟨h5, h⟩ | ⟨h5, h⟩
        · obtain ⟨v3, h6, h⟩ := bind_of h
          exact hc.jump (orc := [(3, [(1, { cv := some (.bool true) })]), (4, [(1, { cv := some (.bool true) }), (4, { r := d_ip_In v1 }), (6, { cv := some (.bool true) }), (9, { r := d_ip_In v2 }), (11, { cv := some (.bool true) }), (14, { r := d_ip_In v3 })])]) (m := 9) (kt := [2]) (kh := []) (by kernel_rfl) (.cons (Le.tt h0) (.cons (Le.tt h1) (.cons (c_ip_In N b108_3 32 h2) (.cons (Le.tt h3) (.cons (c_ip_In N b108_4 32 h4) (.cons (Le.tt h5) (.cons (c_ip_In N b108_5 6 h6) .nil))))))) (g_seg_May_2 hc N hfin v3 h)
        · exact hc.jump (orc := [(3, [(1, { cv := some (.bool true) })]), (4, [(1, { cv := some (.bool true) }), (4, { r := d_ip_In v1 }), (6, { cv := some (.bool true) }), (9, { r := d_ip_In v2 }), (11, { cv := some (.bool false) })])]) (m := 9) (kt := [2]) (kh := []) (by kernel_rfl) (.cons (Le.tt h0) (.cons (Le.tt h1) (.cons (c_ip_In N b108_3 32 h2) (.cons (Le.tt h3) (.cons (c_ip_In N b108_4 32 h4) (.cons (Le.ff h5) .nil)))))) (g_seg_May_2 hc N hfin false h)
      · exact hc.jump (orc := [(3, [(1, { cv := some (.bool true) })]), (4, [(1, { cv := some (.bool true) }), (4, { r := d_ip_In v1 }), (6, { cv := some (.bool false) })])]) (m := 9) (kt := [2]) (kh := []) (by kernel_rfl) (.cons (Le.tt h0) (.cons (Le.tt h1) (.cons (c_ip_In N b108_3 32 h2) (.cons (Le.ff h3) .nil)))) (g_seg_May_2 hc N hfin false h)
    · exact hc.jump (orc := [(3, [(1, { cv := some (.bool true) })]), (4, [(1, { cv := some (.bool false) })])]) (m := 9) (kt := [2]) (kh := []) (by kernel_rfl) (.cons (Le.tt h0) (.cons (Le.ff h1) .nil)) (g_seg_May_2 hc N hfin false h)
  · rcases brk h with ⟨h1, h⟩ | ⟨h1, h⟩
    · rcases brk h with ⟨h2, h⟩ | ⟨h2, h⟩
      · rcases brk h with ⟨h3, h⟩ | ⟨h3, h⟩
        · rcases brk h with ⟨h4, h⟩ | ⟨h4, h⟩
          · exact hc.jump (orc := [(3, [(1, { cv := some (.bool false) })]), (5, [(1, { cv := some (.bool true) })]), (6, [(1, { cv := some (.bool true) }), (6, { cv := some (.bool true) }), (11, { cv := some (.bool true) })])]) (m := 12) (kt := [2]) (kh := []) (by kernel_rfl) (.cons (Le.ff h0) (.cons (Le.tt h1) (.cons (Le.tt h2) (.cons (Le.tt h3) (.cons (Le.tt h4) .nil))))) (g_seg_May_3 hc N hfin (b108_5 == 0) h)
          · exact hc.jump (orc := [(3, [(1, { cv := some (.bool false) })]), (5, [(1, { cv := some (.bool true) })]), (6, [(1, { cv := some (.bool true) }), (6, { cv := some (.bool true) }), (11, { cv := some (.bool false) })])]) (m := 12) (kt := [2]) (kh := []) (by kernel_rfl) (.cons (Le.ff h0) (.cons (Le.tt h1) (.cons (Le.tt h2) (.cons (Le.tt h3) (.cons (Le.ff h4) .nil))))) (g_seg_May_3 hc N hfin false h)
        · exact hc.jump (orc := [(3, [(1, { cv := some (.bool false) })]), (5, [(1, { cv := some (.bool true) })]), (6, [(1, { cv := some (.bool true) }), (6, { cv := some (.bool false) })])]) (m := 12) (kt := [2]) (kh := []) (by kernel_rfl) (.cons (Le.ff h0) (.cons (Le.tt h1) (.cons (Le.tt h2) (.cons (Le.ff h3) .nil)))) (g_seg_May_3 hc N hfin false h)
      · exact hc.jump (orc := [(3, [(1, { cv := some (.bool false) })]), (5, [(1, { cv := some (.bool true) })]), (6, [(1, { cv := some (.bool false) })])]) (m := 12) (kt := [2]) (kh := []) (by kernel_rfl) (.cons (Le.ff h0) (.cons (Le.tt h1) (.cons (Le.ff h2) .nil))) (g_seg_May_3 hc N hfin false h)
    · have h := Option.some.inj h
      refine hc.ret hfin (fn := Try.f33) (by kernel_rfl) (orc := [(3, [(1, { cv := some (.bool false) })]), (5, [(1, { cv := some (.bool false) })])]) (m := 14) (d := .bool false) (by kernel_rfl) (.cons (Le.ff h0) (.cons (Le.ff h1) .nil)) ?_ ?_
      · rw [← h]; exact Le.of rfl
      · rw [← h]; rfl

theorem g_seg_May_0 {c : Cx} (hc : Is c Try.prog ty 33 56) (N : Nat) {r : Bool} (hfin : c.Fin [] (d_seg_May r) []) (x0 : GSeg) (h : L_seg_May N x0 = some r) : c.Goes (items (bodyOf Try.f33) [.c 1]) ⟨[(0, .agg [.int .i64 x0.Proto, .int .i64 x0.Sport, .int .i64 x0.Dport, .int .i64 x0.Seq, .int .i64 x0.Ack, .int .i64 x0.Flags, .str x0.Body])], []⟩ := by
  unfold L_seg_May at h
  obtain ⟨v1, h0, h⟩ := bind_of h
  rcases brk h with ⟨h1, h⟩ | ⟨h1, h⟩
  · obtain ⟨v2, h2, h⟩ := bind_of h
    rcases brk h with ⟨h3, h⟩ | ⟨h3, h⟩
    · exact hc.jump (orc := [(1, [(2, { r := d_ip_In v1 }), (3, { cv := some (.bool true) }), (6, { r := d_ip_In v2 }), (8, { cv := some (.bool true) })])]) (m := 4) (kt := [1, 3]) (kh := [(108, 108)]) (by kernel_rfl) (.cons (c_ip_In N x0.Sport 16 h0) (.cons (Le.tt h1) (.cons (c_ip_In N x0.Dport 16 h2) (.cons (Le.tt h3) .nil)))) (g_seg_May_1 hc N hfin x0.Proto x0.Sport x0.Dport x0.Seq x0.Ack x0.Flags x0.Body (decide ((x0.Body.size : Int) ≤ 256)) h)
    · exact hc.jump (orc := [(1, [(2, { r := d_ip_In v1 }), (3, { cv := some (.bool true) }), (6, { r := d_ip_In v2 }), (8, { cv := some (.bool false) })])]) (m := 4) (kt := [1, 3]) (kh := [(108, 108)]) (by kernel_rfl) (.cons (c_ip_In N x0.Sport 16 h0) (.cons (Le.tt h1) (.cons (c_ip_In N x0.Dport 16 h2) (.cons (Le.ff h3) .nil)))) (g_seg_May_1 hc N hfin x0.Proto x0.Sport x0.Dport x0.Seq x0.Ack x0.Flags x0.Body false h)
  · exact hc.jump (orc := [(1, [(2, { r := d_ip_In v1 }), (3, { cv := some (.bool false) })])]) (m := 4) (kt := [1, 3]) (kh := [(108, 108)]) (by kernel_rfl) (.cons (c_ip_In N x0.Sport 16 h0) (.cons (Le.ff h1) .nil)) (g_seg_May_1 hc N hfin x0.Proto x0.Sport x0.Dport x0.Seq x0.Ack x0.Flags x0.Body false h)

theorem c_seg_May (N : Nat) (x0 : GSeg) {r : Bool} (h : L_seg_May N x0 = some r) : Con Try.prog 33 [.agg [.int .i64 x0.Proto, .int .i64 x0.Sport, .int .i64 x0.Dport, .int .i64 x0.Seq, .int .i64 x0.Ack, .int .i64 x0.Flags, .str x0.Body]] [] (d_seg_May r) [] :=
  con_intro ok mix (fn := Try.f33) (body := bodyOf Try.f33) (by kernel_rfl) (by kernel_rfl) (by kernel_rfl) rfl (Nat.le_of_ble_eq_true (by kernel_rfl)) fun c h1 h2 h3 h4 hfin => g_seg_May_0 ⟨h1, h2, h3, h4⟩ N hfin x0 h
/-! ### (wharfage/seg.ends).may -/
def L_seg_ends_may_1 (N : Nat) (t2 : Bool) : Option (Bool) :=
  some t2
def L_seg_ends_may (N : Nat) (x0 : Gseg_ends) : Option (Bool) :=
  (L_ip_In N x0.src_ 32).bind fun v1 =>
  bif v1 then
    (L_ip_In N x0.dst_ 32).bind fun v2 =>
    L_seg_ends_may_1 N v2
  else
    L_seg_ends_may_1 N false
def d_seg_ends_may (r : Bool) : D := .bool r
theorem g_seg_ends_may_1 {c : Cx} (hc : Is c Try.prog ty 59 11) (N : Nat) {r : Bool} (hfin : c.Fin [] (d_seg_ends_may r) []) (t2 : Bool) (h : L_seg_ends_may_1 N t2 = some r) : c.Goes (items (bodyOf Try.f59) [.c 7]) ⟨[(2, .bool t2)], []⟩ := by
  unfold L_seg_ends_may_1 at h
  have h := Option.some.inj h
  refine hc.ret hfin (fn := Try.f59) (by kernel_rfl) (orc := []) (m := 0) (d := .bool t2) (by kernel_rfl) .nil ?_ ?_
  · rw [← h]; exact Le.of rfl
  · rw [← h]; rfl

theorem g_seg_ends_may_0 {c : Cx} (hc : Is c Try.prog ty 59 11) (N : Nat) {r : Bool} (hfin : c.Fin [] (d_seg_ends_may r) []) (x0 : Gseg_ends) (h : L_seg_ends_may N x0 = some r) : c.Goes (items (bodyOf Try.f59) [.c 1]) ⟨[(0, .agg [.int .i64 x0.src_, .int .i64 x0.dst_])], []⟩ := by
  unfold L_seg_ends_may at h
  obtain ⟨v1, h0, h⟩ := bind_of h
  rcases brk h with ⟨h1, h⟩ | ⟨h1, h⟩
  · obtain ⟨v2, h2, h⟩ := bind_of h
    exact hc.jump (orc := [(1, [(2, { r := d_ip_In v1 }), (3, { cv := some (.bool true) }), (6, { r := d_ip_In v2 })])]) (m := 4) (kt := [2]) (kh := []) (by kernel_rfl) (.cons (c_ip_In N x0.src_ 32 h0) (.cons (Le.tt h1) (.cons (c_ip_In N x0.dst_ 32 h2) .nil))) (g_seg_ends_may_1 hc N hfin v2 h)
  · exact hc.jump (orc := [(1, [(2, { r := d_ip_In v1 }), (3, { cv := some (.bool false) })])]) (m := 4) (kt := [2]) (kh := []) (by kernel_rfl) (.cons (c_ip_In N x0.src_ 32 h0) (.cons (Le.ff h1) .nil)) (g_seg_ends_may_1 hc N hfin false h)

theorem c_seg_ends_may (N : Nat) (x0 : Gseg_ends) {r : Bool} (h : L_seg_ends_may N x0 = some r) : Con Try.prog 59 [.agg [.int .i64 x0.src_, .int .i64 x0.dst_]] [] (d_seg_ends_may r) [] :=
  con_intro ok mix (fn := Try.f59) (body := bodyOf Try.f59) (by kernel_rfl) (by kernel_rfl) (by kernel_rfl) rfl (Nat.le_of_ble_eq_true (by kernel_rfl)) fun c h1 h2 h3 h4 hfin => g_seg_ends_may_0 ⟨h1, h2, h3, h4⟩ N hfin x0 h
/-! ### wharfage/ip.Bytes -/
def L_ip_Bytes_1 (N : Nat) : Nat → Int → (List Int) → Int → Option (ByteArray)
  | 0, _, _, _ => none
  | fuel + 1, t0, b164, t6 =>
    bif (decide (t6 ≥ 0)) then
      if 0 ≤ t6 ∧ t6 < ((b164.length : Nat) : Int) then
      L_ip_Bytes_1 N fuel (t0.fdiv (2 ^ 8)) (b164.set t6.toNat (IntKind.u8.wrap t0)) (IntKind.i64.wrap (t6 - 1))
      else none
    else
      some (mkS b164)
def L_ip_Bytes (N : Nat) (x0 : Int) (x1 : Int) : Option (ByteArray) :=
  if 0 ≤ x1 ∧ x1 ≤ x1 ∧ ((1 : Nat) : Int) * x1 ≤ 140737488355328 ∧ x1 ≤ 4611686018427387904 then
  L_ip_Bytes_1 N N x0 (List.replicate (Int.toNat x1) (0 : Int)) (IntKind.i64.wrap (x1 - 1))
  else none
def d_ip_Bytes (r : ByteArray) : D := .str r
theorem g_ip_Bytes_1 {c : Cx} (hc : Is c Try.prog ty 50 24) (N : Nat) {r : ByteArray} (hfin : c.Fin [] (d_ip_Bytes r) []) : ∀ (fuel : Nat) (t0 : Int) (b164 : (List Int)) (t6 : Int), L_ip_Bytes_1 N fuel t0 b164 t6 = some r → c.Goes (items (bodyOf Try.f50) [.c 75, .l 75, .b 0, .c 15]) ⟨[(0, .int .i64 t0), (5, .ref 164 0 b164.length b164.length), (6, .int .i64 t6)], [(164, some ⟨true, 1, (eL (eInt .u8) b164)⟩)]⟩ := by
  intro fuel
  induction fuel with
  | zero => intro t0 b164 t6 h; simp [L_ip_Bytes_1] at h
  | succ fuel ih =>
    intro t0 b164 t6 h
    unfold L_ip_Bytes_1 at h
    rcases brk h with ⟨h0, h⟩ | ⟨h0, h⟩
    · obtain ⟨h1, h⟩ := chk h
      exact hc.jumpL (orc := [(3, [(1, { cv := some (.bool true) })]), (5, [(4, { cv := some (.ptr 164 (t6.toNat * 1 + 0)) }), (5, { cb := [(164, eL (eInt .u8) (b164.set t6.toNat (IntKind.u8.wrap t0)))] })])]) (m := 13) (kt := [0, 5, 6]) (kh := [(164, 164)]) (by kernel_rfl) (.cons (Le.tt h0) (.cons (h1) (.cons (Le.pt (b := 164) (k := t6.toNat * 1)) (.cons (st_need (xs := b164) (eInt_len .u8) (ixl h1) (o := 0) (k := 1) (vs := [.int .u8 (IntKind.u8.wrap t0)]) (p := true) (by decide) rfl rfl) (.cons (st_set (xs := b164) (eInt_len .u8) (ixl h1) (o := 0) (vs := [.int .u8 (IntKind.u8.wrap t0)]) (y := (IntKind.u8.wrap t0)) (Nat.le_of_ble_eq_true rfl) rfl) (.cons ((by decide : (0:Int) ≤ 8)) .nil)))))) (.cons (Le.rfl) (.cons (Le.rfs (b := 164) (by simp : b164.length = (b164.set t6.toNat (IntKind.u8.wrap t0)).length) (by simp : b164.length = (b164.set t6.toNat (IntKind.u8.wrap t0)).length)) (.cons (Le.rfl) .nil))) (ih (t0.fdiv (2 ^ 8)) (b164.set t6.toNat (IntKind.u8.wrap t0)) (IntKind.i64.wrap (t6 - 1)) h)
    · have h := Option.some.inj h
      refine hc.ret hfin (fn := Try.f50) (by kernel_rfl) (orc := [(3, [(1, { cv := some (.bool false) })]), (7, [(1, { cv := some (.str (mkS b164)) })])]) (m := 7) (d := .str (mkS b164)) (by kernel_rfl) (.cons (Le.ff h0) (.cons (byte_ok b164) (.cons (Le.str (bytesD_eq b164)) .nil))) ?_ ?_
      · rw [← h]; exact Le.of rfl
      · rw [← h]; rfl

theorem g_ip_Bytes_0 {c : Cx} (hc : Is c Try.prog ty 50 24) (N : Nat) {r : ByteArray} (hfin : c.Fin [] (d_ip_Bytes r) []) (x0 : Int) (x1 : Int) (h : L_ip_Bytes N x0 x1 = some r) : c.Goes (items (bodyOf Try.f50) [.c 1]) ⟨[(0, .int .i64 x0), (1, .int .i64 x1)], []⟩ := by
  unfold L_ip_Bytes at h
  obtain ⟨h0, h⟩ := chk h
  exact hc.jump (orc := [(1, [(1, { cv := some (.ref 164 0 (List.replicate (Int.toNat x1) (0 : Int)).length (List.replicate (Int.toNat x1) (0 : Int)).length), cb := [(164, eL (eInt .u8) (List.replicate (Int.toNat x1) (0 : Int)))] })])]) (m := 9) (kt := [0, 5, 6]) (kh := [(164, 164)]) (by kernel_rfl) (.cons (h0) (.cons (Le.apr (b := 164) (by simp : (List.replicate (Int.toNat x1) (0 : Int)).length = (Int.toNat x1))) (.cons (repD_eq (e := (eInt .u8)) (z := 0) (cs := [.int .u8 0]) rfl (Int.toNat x1)) .nil))) (g_ip_Bytes_1 hc N hfin N x0 (List.replicate (Int.toNat x1) (0 : Int)) (IntKind.i64.wrap (x1 - 1)) h)

theorem c_ip_Bytes (N : Nat) (x0 : Int) (x1 : Int) {r : ByteArray} (h : L_ip_Bytes N x0 x1 = some r) : Con Try.prog 50 [.int .i64 x0, .int .i64 x1] [] (d_ip_Bytes r) [] :=
  con_intro ok mix (fn := Try.f50) (body := bodyOf Try.f50) (by kernel_rfl) (by kernel_rfl) (by kernel_rfl) rfl (Nat.le_of_ble_eq_true (by kernel_rfl)) fun c h1 h2 h3 h4 hfin => g_ip_Bytes_0 ⟨h1, h2, h3, h4⟩ N hfin x0 x1 h
/-! ### wharfage/seg.text -/
def L_seg_text (N : Nat) (x0 : GSeg) (x1 : Int) : Option (ByteArray) :=
  (L_ip_Bytes N x0.Sport 2).bind fun v1 =>
  (L_ip_Bytes N x0.Dport 2).bind fun v2 =>
  if ((v1.size + v2.size : Nat) : Int) ≤ 9223372036854775807 then
  bif (x0.Proto == 6) then
    (L_ip_Bytes N x0.Seq 4).bind fun v3 =>
    if (((v1 ++ v2).size + v3.size : Nat) : Int) ≤ 9223372036854775807 then
    (L_ip_Bytes N x0.Ack 4).bind fun v4 =>
    if ((((v1 ++ v2) ++ v3).size + v4.size : Nat) : Int) ≤ 9223372036854775807 then
    (L_ip_Bytes N 80 1).bind fun v5 =>
    if (((((v1 ++ v2) ++ v3) ++ v4).size + v5.size : Nat) : Int) ≤ 9223372036854775807 then
    (L_ip_Bytes N x0.Flags 1).bind fun v6 =>
    if ((((((v1 ++ v2) ++ v3) ++ v4) ++ v5).size + v6.size : Nat) : Int) ≤ 9223372036854775807 then
    (L_ip_Bytes N 1024 2).bind fun v7 =>
    if (((((((v1 ++ v2) ++ v3) ++ v4) ++ v5) ++ v6).size + v7.size : Nat) : Int) ≤ 9223372036854775807 then
    via (((((((v1 ++ v2) ++ v3) ++ v4) ++ v5) ++ v6) ++ v7) : ByteArray) fun v8 =>
    (L_ip_Bytes N x1 2).bind fun v9 =>
    if ((v8.size + v9.size : Nat) : Int) ≤ 9223372036854775807 then
    (L_ip_Bytes N 0 2).bind fun v10 =>
    if (((v8 ++ v9).size + v10.size : Nat) : Int) ≤ 9223372036854775807 then
    if ((((v8 ++ v9) ++ v10).size + x0.Body.size : Nat) : Int) ≤ 9223372036854775807 then
    some (((v8 ++ v9) ++ v10) ++ x0.Body)
    else none
    else none
    else none
    else none
    else none
    else none
    else none
    else none
  else
    via ((IntKind.i64.wrap ((8 : Int) + (x0.Body.size : Int))) : Int) fun v3 =>
    (L_ip_Bytes N v3 2).bind fun v4 =>
    if (((v1 ++ v2).size + v4.size : Nat) : Int) ≤ 9223372036854775807 then
    (L_ip_Bytes N x1 2).bind fun v5 =>
    if ((((v1 ++ v2) ++ v4).size + v5.size : Nat) : Int) ≤ 9223372036854775807 then
    if (((((v1 ++ v2) ++ v4) ++ v5).size + x0.Body.size : Nat) : Int) ≤ 9223372036854775807 then
    some ((((v1 ++ v2) ++ v4) ++ v5) ++ x0.Body)
    else none
    else none
    else none
  else none
def d_seg_text (r : ByteArray) : D := .str r
theorem g_seg_text_0 (gx0 : Bool) {c : Cx} (hc : Is c Try.prog ty 61 72) (N : Nat) {r : ByteArray} (hfin : c.Fin [] (d_seg_text r) []) (x0 : GSeg) (x1 : Int) (h : L_seg_text N x0 x1 = some r) : c.Goes (items (bodyOf Try.f61) [.c 1]) ⟨[(0, .ip gx0 [.int .i64 x0.Proto, .int .i64 x0.Sport, .int .i64 x0.Dport, .int .i64 x0.Seq, .int .i64 x0.Ack, .int .i64 x0.Flags, .str x0.Body]), (1, .int .i64 x1)], []⟩ := by
  unfold L_seg_text at h
  obtain ⟨v1, h0, h⟩ := bind_of h
  obtain ⟨v2, h1, h⟩ := bind_of h
  obtain ⟨h2, h⟩ := chk h
  rcases brk h with ⟨h3, h⟩ | ⟨h3, h⟩
  · obtain ⟨v3, h4, h⟩ := bind_of h
    obtain ⟨h5, h⟩ := chk h
    obtain ⟨v4, h6, h⟩ := bind_of h
    obtain ⟨h7, h⟩ := chk h
    obtain ⟨v5, h8, h⟩ := bind_of h
    obtain ⟨h9, h⟩ := chk h
    obtain ⟨v6, h10, h⟩ := bind_of h
    obtain ⟨h11, h⟩ := chk h
    obtain ⟨v7, h12, h⟩ := bind_of h
    obtain ⟨h13, h⟩ := chk h
    obtain ⟨v8, h14, h⟩ := via_some h
    obtain ⟨v9, h15, h⟩ := bind_of h
    obtain ⟨h16, h⟩ := chk h
    obtain ⟨v10, h17, h⟩ := bind_of h
    obtain ⟨h18, h⟩ := chk h
    obtain ⟨h19, h⟩ := chk h
    have h := Option.some.inj h
    refine hc.ret hfin (fn := Try.f61) (by kernel_rfl) (orc := [(1, [(4, { r := d_ip_Bytes v1 }), (9, { r := d_ip_Bytes v2 })]), (2, [(4, { cv := some (.bool true) })]), (3, [(5, { r := d_ip_Bytes v3 }), (11, { r := d_ip_Bytes v4 }), (13, { r := d_ip_Bytes v5 }), (19, { r := d_ip_Bytes v6 }), (21, { r := d_ip_Bytes v7 }), (22, { cv := some (.str v8) }), (24, { r := d_ip_Bytes v9 }), (26, { r := d_ip_Bytes v10 })])]) (m := 10) (d := .str (((v8 ++ v9) ++ v10) ++ x0.Body)) (by kernel_rfl) (.cons (c_ip_Bytes N x0.Sport 2 h0) (.cons (c_ip_Bytes N x0.Dport 2 h1) (.cons (h2) (.cons (Le.tt h3) (.cons (c_ip_Bytes N x0.Seq 4 h4) (.cons (h5) (.cons (c_ip_Bytes N x0.Ack 4 h6) (.cons (h7) (.cons (c_ip_Bytes N 80 1 h8) (.cons (h9) (.cons (c_ip_Bytes N x0.Flags 1 h10) (.cons (h11) (.cons (c_ip_Bytes N 1024 2 h12) (.cons (h13) (.cons (Le.str h14) (.cons (c_ip_Bytes N x1 2 h15) (.cons (h16) (.cons (c_ip_Bytes N 0 2 h17) (.cons (h18) (.cons (h19) .nil)))))))))))))))))))) ?_ ?_
    · rw [← h]; exact Le.of rfl
    · rw [← h]; rfl
  · obtain ⟨v3, h4, h⟩ := via_some h
    obtain ⟨v4, h5, h⟩ := bind_of h
    obtain ⟨h6, h⟩ := chk h
    obtain ⟨v5, h7, h⟩ := bind_of h
    obtain ⟨h8, h⟩ := chk h
    obtain ⟨h9, h⟩ := chk h
    have h := Option.some.inj h
    refine hc.ret hfin (fn := Try.f61) (by kernel_rfl) (orc := [(1, [(4, { r := d_ip_Bytes v1 }), (9, { r := d_ip_Bytes v2 })]), (2, [(4, { cv := some (.bool false) })]), (4, [(6, { cv := some (.int .i64 v3) }), (7, { r := d_ip_Bytes v4 }), (10, { r := d_ip_Bytes v5 })])]) (m := 11) (d := .str ((((v1 ++ v2) ++ v4) ++ v5) ++ x0.Body)) (by kernel_rfl) (.cons (c_ip_Bytes N x0.Sport 2 h0) (.cons (c_ip_Bytes N x0.Dport 2 h1) (.cons (h2) (.cons (Le.ff h3) (.cons (Le.int (k := .i64) h4) (.cons (c_ip_Bytes N v3 2 h5) (.cons (h6) (.cons (c_ip_Bytes N x1 2 h7) (.cons (h8) (.cons (h9) .nil)))))))))) ?_ ?_
    · rw [← h]; exact Le.of rfl
    · rw [← h]; rfl

theorem c_seg_text (N : Nat) (gx0 : Bool) (x0 : GSeg) (x1 : Int) {r : ByteArray} (h : L_seg_text N x0 x1 = some r) : Con Try.prog 61 [.ip gx0 [.int .i64 x0.Proto, .int .i64 x0.Sport, .int .i64 x0.Dport, .int .i64 x0.Seq, .int .i64 x0.Ack, .int .i64 x0.Flags, .str x0.Body], .int .i64 x1] [] (d_seg_text r) [] :=
  con_intro ok mix (fn := Try.f61) (body := bodyOf Try.f61) (by kernel_rfl) (by kernel_rfl) (by kernel_rfl) rfl (Nat.le_of_ble_eq_true (by kernel_rfl)) fun c h1 h2 h3 h4 hfin => g_seg_text_0 gx0 ⟨h1, h2, h3, h4⟩ N hfin x0 x1 h
/-! ### wharfage/sum.fold[uint64] -/
def L_sum_fold_uint64_1 (N : Nat) : Nat → Int → Option (Int)
  | 0, _ => none
  | fuel + 1, t0 =>
    bif (decide (t0 ≥ 65536)) then
      via ((IntKind.u64.wrap ((t0.tmod 65536) + (IntKind.u64.wrap (t0.tdiv 65536)))) : Int) fun v1 =>
      L_sum_fold_uint64_1 N fuel v1
    else
      some (IntKind.i64.wrap t0)
def L_sum_fold_uint64 (N : Nat) (x0 : Int) : Option (Int) :=
  L_sum_fold_uint64_1 N N x0
def d_sum_fold_uint64 (r : Int) : D := .int .i64 r
theorem g_sum_fold_uint64_1 {c : Cx} (hc : Is c Try.prog ty 89 12) (N : Nat) {r : Int} (hfin : c.Fin [] (d_sum_fold_uint64 r) []) : ∀ (fuel : Nat) (t0 : Int), L_sum_fold_uint64_1 N fuel t0 = some r → c.Goes (items (bodyOf Try.f89) [.c 17, .l 17, .b 0, .c 7]) ⟨[(0, .int .u64 t0)], []⟩ := by
  intro fuel
  induction fuel with
  | zero => intro t0 h; simp [L_sum_fold_uint64_1] at h
  | succ fuel ih =>
    intro t0 h
    unfold L_sum_fold_uint64_1 at h
    rcases brk h with ⟨h0, h⟩ | ⟨h0, h⟩
    · obtain ⟨v1, h1, h⟩ := via_some h
      exact hc.jump (orc := [(1, [(1, { cv := some (.bool true) })]), (2, [(4, { cv := some (.int .u64 v1) })])]) (m := 9) (kt := [0]) (kh := []) (by kernel_rfl) (.cons (Le.tt h0) (.cons ((by decide : (65536:Int) ≠ 0)) (.cons ((by decide : (65536:Int) ≠ 0)) (.cons (Le.int (k := .u64) h1) .nil)))) (ih v1 h)
    · have h := Option.some.inj h
      refine hc.ret hfin (fn := Try.f89) (by kernel_rfl) (orc := [(1, [(1, { cv := some (.bool false) })])]) (m := 7) (d := .int .i64 (IntKind.i64.wrap t0)) (by kernel_rfl) (.cons (Le.ff h0) .nil) ?_ ?_
      · rw [← h]; exact Le.of rfl
      · rw [← h]; rfl

theorem g_sum_fold_uint64_0 {c : Cx} (hc : Is c Try.prog ty 89 12) (N : Nat) {r : Int} (hfin : c.Fin [] (d_sum_fold_uint64 r) []) (x0 : Int) (h : L_sum_fold_uint64 N x0 = some r) : c.Goes (items (bodyOf Try.f89) [.c 1]) ⟨[(0, .int .u64 x0)], []⟩ := by
  unfold L_sum_fold_uint64 at h
  exact hc.jump (orc := []) (m := 5) (kt := [0]) (kh := []) (by kernel_rfl) .nil (g_sum_fold_uint64_1 hc N hfin N x0 h)

theorem c_sum_fold_uint64 (N : Nat) (x0 : Int) {r : Int} (h : L_sum_fold_uint64 N x0 = some r) : Con Try.prog 89 [.int .u64 x0] [] (d_sum_fold_uint64 r) [] :=
  con_intro ok mix (fn := Try.f89) (body := bodyOf Try.f89) (by kernel_rfl) (by kernel_rfl) (by kernel_rfl) rfl (Nat.le_of_ble_eq_true (by kernel_rfl)) fun c h1 h2 h3 h4 hfin => g_sum_fold_uint64_0 ⟨h1, h2, h3, h4⟩ N hfin x0 h
/-! ### wharfage/sum.Sum -/
def L_sum_Sum_2 (N : Nat) (r1 : ByteArray → Int → Int → Option (Int)) (t0 : ByteArray) (t3 : Int) (t4 : Int) : Option (Int) :=
  r1 t0 t3 (IntKind.i64.wrap (t4 + 2))
def L_sum_Sum_1 (N : Nat) : Nat → ByteArray → Int → Int → Option (Int)
  | 0, _, _, _ => none
  | fuel + 1, t0, t3, t4 =>
    bif (decide (t4 < (t0.size : Int))) then
      if 0 ≤ t4 ∧ t4 < (t0.size : Int) then
      via ((IntKind.u64.wrap ((IntKind.u64.wrap (bt t0 t4)) * 2 ^ 8)) : Int) fun v1 =>
      bif (decide ((IntKind.i64.wrap (t4 + 1)) < (t0.size : Int))) then
        if 0 ≤ (IntKind.i64.wrap (t4 + 1)) ∧ (IntKind.i64.wrap (t4 + 1)) < (t0.size : Int) then
        via ((IntKind.u64.wrap (bt t0 (IntKind.i64.wrap (t4 + 1)))) : Int) fun v2 =>
        via ((IntKind.u64.wrap ((IntKind.u64.wrap (t3 + v1)) + v2)) : Int) fun v3 =>
        L_sum_Sum_2 N (L_sum_Sum_1 N fuel) t0 v3 t4
        else none
      else
        L_sum_Sum_2 N (L_sum_Sum_1 N fuel) t0 (IntKind.u64.wrap (t3 + v1)) t4
      else none
    else
      (L_sum_fold_uint64 N t3).bind fun v1 =>
      some v1
def L_sum_Sum (N : Nat) (x0 : ByteArray) : Option (Int) :=
  L_sum_Sum_1 N N x0 0 0
def d_sum_Sum (r : Int) : D := .int .i64 r
theorem g_sum_Sum_2 {c : Cx} (hc : Is c Try.prog ty 84 32) (N : Nat) {r : Int} (hfin : c.Fin [] (d_sum_Sum r) []) (r1 : ByteArray → Int → Int → Option (Int)) (hr1 : ∀ (t0 : ByteArray) (t3 : Int) (t4 : Int), r1 t0 t3 t4 = some r → c.Goes (items (bodyOf Try.f84) [.c 75, .l 75, .b 0, .c 15]) ⟨[(0, .str t0), (3, .int .u64 t3), (4, .int .i64 t4)], []⟩) (t0 : ByteArray) (t3 : Int) (t4 : Int) (h : L_sum_Sum_2 N r1 t0 t3 t4 = some r) : c.Goes (items (bodyOf Try.f84) [.b 1, .c 459, .l 75, .b 0, .c 15]) ⟨[(0, .str t0), (3, .int .u64 t3), (4, .int .i64 t4)], []⟩ := by
  unfold L_sum_Sum_2 at h
  exact hc.jump (orc := []) (m := 3) (kt := [0, 3, 4]) (kh := []) (by kernel_rfl) .nil (hr1 t0 t3 (IntKind.i64.wrap (t4 + 2)) h)

theorem g_sum_Sum_1 {c : Cx} (hc : Is c Try.prog ty 84 32) (N : Nat) {r : Int} (hfin : c.Fin [] (d_sum_Sum r) []) : ∀ (fuel : Nat) (t0 : ByteArray) (t3 : Int) (t4 : Int), L_sum_Sum_1 N fuel t0 t3 t4 = some r → c.Goes (items (bodyOf Try.f84) [.c 75, .l 75, .b 0, .c 15]) ⟨[(0, .str t0), (3, .int .u64 t3), (4, .int .i64 t4)], []⟩ := by
  intro fuel
  induction fuel with
  | zero => intro t0 t3 t4 h; simp [L_sum_Sum_1] at h
  | succ fuel ih =>
    intro t0 t3 t4 h
    unfold L_sum_Sum_1 at h
    rcases brk h with ⟨h0, h⟩ | ⟨h0, h⟩
    · obtain ⟨h1, h⟩ := chk h
      obtain ⟨v1, h2, h⟩ := via_some h
      rcases brk h with ⟨h3, h⟩ | ⟨h3, h⟩
      · obtain ⟨h4, h⟩ := chk h
        obtain ⟨v2, h5, h⟩ := via_some h
        obtain ⟨v3, h6, h⟩ := via_some h
        exact hc.jump (orc := [(3, [(3, { cv := some (.bool true) })]), (5, [(5, { cv := some (.int .u64 v1) })]), (6, [(4, { cv := some (.bool true) })]), (7, [(5, { cv := some (.int .u64 v2) }), (6, { cv := some (.int .u64 v3) })])]) (m := 13) (kt := [0, 3, 4]) (kh := []) (by kernel_rfl) (.cons (Le.tt h0) (.cons (h1) (.cons ((by decide : (0:Int) ≤ 8)) (.cons (Le.int (k := .u64) h2) (.cons (Le.tt h3) (.cons (h4) (.cons (Le.int (k := .u64) h5) (.cons (Le.int (k := .u64) h6) .nil)))))))) (g_sum_Sum_2 hc N hfin (L_sum_Sum_1 N fuel) ih t0 v3 t4 h)
      · exact hc.jump (orc := [(3, [(3, { cv := some (.bool true) })]), (5, [(5, { cv := some (.int .u64 v1) })]), (6, [(4, { cv := some (.bool false) })])]) (m := 13) (kt := [0, 3, 4]) (kh := []) (by kernel_rfl) (.cons (Le.tt h0) (.cons (h1) (.cons ((by decide : (0:Int) ≤ 8)) (.cons (Le.int (k := .u64) h2) (.cons (Le.ff h3) .nil))))) (g_sum_Sum_2 hc N hfin (L_sum_Sum_1 N fuel) ih t0 (IntKind.u64.wrap (t3 + v1)) t4 h)
    · obtain ⟨v1, h1, h⟩ := bind_of h
      have h := Option.some.inj h
      refine hc.ret hfin (fn := Try.f84) (by kernel_rfl) (orc := [(3, [(3, { cv := some (.bool false) })]), (8, [(1, { r := d_sum_fold_uint64 v1 })])]) (m := 7) (d := .int .i64 v1) (by kernel_rfl) (.cons (Le.ff h0) (.cons (c_sum_fold_uint64 N t3 h1) .nil)) ?_ ?_
      · rw [← h]; exact Le.of rfl
      · rw [← h]; rfl

theorem g_sum_Sum_0 {c : Cx} (hc : Is c Try.prog ty 84 32) (N : Nat) {r : Int} (hfin : c.Fin [] (d_sum_Sum r) []) (x0 : ByteArray) (h : L_sum_Sum N x0 = some r) : c.Goes (items (bodyOf Try.f84) [.c 1]) ⟨[(0, .str x0)], []⟩ := by
  unfold L_sum_Sum at h
  exact hc.jump (orc := []) (m := 9) (kt := [0, 3, 4]) (kh := []) (by kernel_rfl) .nil (g_sum_Sum_1 hc N hfin N x0 0 0 h)

theorem c_sum_Sum (N : Nat) (x0 : ByteArray) {r : Int} (h : L_sum_Sum N x0 = some r) : Con Try.prog 84 [.str x0] [] (d_sum_Sum r) [] :=
  con_intro ok mix (fn := Try.f84) (body := bodyOf Try.f84) (by kernel_rfl) (by kernel_rfl) (by kernel_rfl) rfl (Nat.le_of_ble_eq_true (by kernel_rfl)) fun c h1 h2 h3 h4 hfin => g_sum_Sum_0 ⟨h1, h2, h3, h4⟩ N hfin x0 h
/-! ### (wharfage/seg.ends).sum -/
def L_seg_ends_sum (N : Nat) (x0 : Gseg_ends) (x1 : Int) (x2 : ByteArray) : Option (Int) :=
  (L_ip_Bytes N x0.src_ 4).bind fun v1 =>
  (L_ip_Bytes N x0.dst_ 4).bind fun v2 =>
  if ((v1.size + v2.size : Nat) : Int) ≤ 9223372036854775807 then
  (L_ip_Bytes N x1 2).bind fun v3 =>
  if (((v1 ++ v2).size + v3.size : Nat) : Int) ≤ 9223372036854775807 then
  (L_ip_Bytes N (x2.size : Int) 2).bind fun v4 =>
  if ((((v1 ++ v2) ++ v3).size + v4.size : Nat) : Int) ≤ 9223372036854775807 then
  if (((((v1 ++ v2) ++ v3) ++ v4).size + x2.size : Nat) : Int) ≤ 9223372036854775807 then
  (L_sum_Sum N ((((v1 ++ v2) ++ v3) ++ v4) ++ x2)).bind fun v5 =>
  some v5
  else none
  else none
  else none
  else none
def d_seg_ends_sum (r : Int) : D := .int .i64 r
theorem g_seg_ends_sum_0 {c : Cx} (hc : Is c Try.prog ty 60 24) (N : Nat) {r : Int} (hfin : c.Fin [] (d_seg_ends_sum r) []) (x0 : Gseg_ends) (x1 : Int) (x2 : ByteArray) (h : L_seg_ends_sum N x0 x1 x2 = some r) : c.Goes (items (bodyOf Try.f60) [.c 1]) ⟨[(0, .agg [.int .i64 x0.src_, .int .i64 x0.dst_]), (1, .int .i64 x1), (2, .str x2)], []⟩ := by
  unfold L_seg_ends_sum at h
  obtain ⟨v1, h0, h⟩ := bind_of h
  obtain ⟨v2, h1, h⟩ := bind_of h
  obtain ⟨h2, h⟩ := chk h
  obtain ⟨v3, h3, h⟩ := bind_of h
  obtain ⟨h4, h⟩ := chk h
  obtain ⟨v4, h5, h⟩ := bind_of h
  obtain ⟨h6, h⟩ := chk h
  obtain ⟨h7, h⟩ := chk h
  obtain ⟨v5, h8, h⟩ := bind_of h
  have h := Option.some.inj h
  refine hc.ret hfin (fn := Try.f60) (by kernel_rfl) (orc := [(1, [(2, { r := d_ip_Bytes v1 }), (5, { r := d_ip_Bytes v2 }), (8, { r := d_ip_Bytes v3 }), (12, { r := d_ip_Bytes v4 }), (16, { r := d_sum_Sum v5 })])]) (m := 4) (d := .int .i64 v5) (by kernel_rfl) (.cons (c_ip_Bytes N x0.src_ 4 h0) (.cons (c_ip_Bytes N x0.dst_ 4 h1) (.cons (h2) (.cons (c_ip_Bytes N x1 2 h3) (.cons (h4) (.cons (c_ip_Bytes N (x2.size : Int) 2 h5) (.cons (h6) (.cons (h7) (.cons (c_sum_Sum N ((((v1 ++ v2) ++ v3) ++ v4) ++ x2) h8) .nil))))))))) ?_ ?_
  · rw [← h]; exact Le.of rfl
  · rw [← h]; rfl

theorem c_seg_ends_sum (N : Nat) (x0 : Gseg_ends) (x1 : Int) (x2 : ByteArray) {r : Int} (h : L_seg_ends_sum N x0 x1 x2 = some r) : Con Try.prog 60 [.agg [.int .i64 x0.src_, .int .i64 x0.dst_], .int .i64 x1, .str x2] [] (d_seg_ends_sum r) [] :=
  con_intro ok mix (fn := Try.f60) (body := bodyOf Try.f60) (by kernel_rfl) (by kernel_rfl) (by kernel_rfl) rfl (Nat.le_of_ble_eq_true (by kernel_rfl)) fun c h1 h2 h3 h4 hfin => g_seg_ends_sum_0 ⟨h1, h2, h3, h4⟩ N hfin x0 x1 x2 h
/-! ### wharfage/seg.Put -/
def L_seg_Put_3 (N : Nat) (b124_0 : Int) (b124_1 : Int) (b124_2 : Int) (b124_3 : Int) (b124_4 : Int) (b124_5 : Int) (b124_6 : ByteArray) (t9 : Int) : Option (ByteArray × Int) :=
  (L_seg_text N (GSeg.mk b124_0 b124_1 b124_2 b124_3 b124_4 b124_5 b124_6) t9).bind fun v1 =>
  some (v1, 0)
def L_seg_Put_2 (N : Nat) (b124_0 : Int) (b124_1 : Int) (b124_2 : Int) (b124_3 : Int) (b124_4 : Int) (b124_5 : Int) (b124_6 : ByteArray) (t9 : Int) (t33 : Bool) : Option (ByteArray × Int) :=
  bif t33 then
    L_seg_Put_3 N b124_0 b124_1 b124_2 b124_3 b124_4 b124_5 b124_6 65535
  else
    L_seg_Put_3 N b124_0 b124_1 b124_2 b124_3 b124_4 b124_5 b124_6 t9
def L_seg_Put_1 (N : Nat) (b124_0 : Int) (b124_1 : Int) (b124_2 : Int) (b124_3 : Int) (b124_4 : Int) (b124_5 : Int) (b124_6 : ByteArray) (b164_0 : Int) (b164_1 : Int) (t20 : Bool) : Option (ByteArray × Int) :=
  bif t20 then
    some (ByteArray.empty, 300)
  else
    (L_seg_text N (GSeg.mk b124_0 b124_1 b124_2 b124_3 b124_4 b124_5 b124_6) 0).bind fun v1 =>
    (L_seg_ends_sum N (Gseg_ends.mk b164_0 b164_1) b124_0 v1).bind fun v2 =>
    bif (b124_0 == 17) then
      L_seg_Put_2 N b124_0 b124_1 b124_2 b124_3 b124_4 b124_5 b124_6 (IntKind.i64.wrap ((65535 : Int) - v2)) ((IntKind.i64.wrap ((65535 : Int) - v2)) == 0)
    else
      L_seg_Put_2 N b124_0 b124_1 b124_2 b124_3 b124_4 b124_5 b124_6 (IntKind.i64.wrap ((65535 : Int) - v2)) false
def L_seg_Put (N : Nat) (x0 : GSeg) (x1 : Int) (x2 : Int) : Option (ByteArray × Int) :=
  (L_seg_May N x0).bind fun v1 =>
  bif (!v1) then
    L_seg_Put_1 N x0.Proto x0.Sport x0.Dport x0.Seq x0.Ack x0.Flags x0.Body x1 x2 true
  else
    (L_seg_ends_may N (Gseg_ends.mk x1 x2)).bind fun v2 =>
    L_seg_Put_1 N x0.Proto x0.Sport x0.Dport x0.Seq x0.Ack x0.Flags x0.Body x1 x2 (!v2)
def d_seg_Put (r : ByteArray × Int) : D := .tup [.str r.1, .int .i64 r.2]
theorem g_seg_Put_3 {c : Cx} (hc : Is c Try.prog ty 29 36) (N : Nat) {r : ByteArray × Int} (hfin : c.Fin [] (d_seg_Put r) []) (b124_0 : Int) (b124_1 : Int) (b124_2 : Int) (b124_3 : Int) (b124_4 : Int) (b124_5 : Int) (b124_6 : ByteArray) (t9 : Int) (h : L_seg_Put_3 N b124_0 b124_1 b124_2 b124_3 b124_4 b124_5 b124_6 t9 = some r) : c.Goes (items (bodyOf Try.f29) [.c 63]) ⟨[(3, .ptr 124 0), (9, .int .i64 t9)], [(124, some ⟨false, 0, [.int .i64 b124_0, .int .i64 b124_1, .int .i64 b124_2, .int .i64 b124_3, .int .i64 b124_4, .int .i64 b124_5, .str b124_6]⟩)]⟩ := by
  unfold L_seg_Put_3 at h
  obtain ⟨v1, h0, h⟩ := bind_of h
  have h := Option.some.inj h
  refine hc.ret hfin (fn := Try.f29) (by kernel_rfl) (orc := [(7, [(1, { r := d_seg_text v1 })])]) (m := 2) (d := .tup [.str v1, .int .i64 0]) (by kernel_rfl) (.cons (c_seg_text N false (GSeg.mk b124_0 b124_1 b124_2 b124_3 b124_4 b124_5 b124_6) t9 h0) .nil) ?_ ?_
  · rw [← h]; exact Le.of rfl
  · rw [← h]; rfl

theorem g_seg_Put_2 {c : Cx} (hc : Is c Try.prog ty 29 36) (N : Nat) {r : ByteArray × Int} (hfin : c.Fin [] (d_seg_Put r) []) (b124_0 : Int) (b124_1 : Int) (b124_2 : Int) (b124_3 : Int) (b124_4 : Int) (b124_5 : Int) (b124_6 : ByteArray) (t9 : Int) (t33 : Bool) (h : L_seg_Put_2 N b124_0 b124_1 b124_2 b124_3 b124_4 b124_5 b124_6 t9 t33 = some r) : c.Goes (items (bodyOf Try.f29) [.c 111, .c 63]) ⟨[(3, .ptr 124 0), (9, .int .i64 t9), (33, .bool t33)], [(124, some ⟨false, 0, [.int .i64 b124_0, .int .i64 b124_1, .int .i64 b124_2, .int .i64 b124_3, .int .i64 b124_4, .int .i64 b124_5, .str b124_6]⟩)]⟩ := by
  unfold L_seg_Put_2 at h
  rcases brk h with ⟨h0, k0⟩ | ⟨h0, k0⟩
  · subst h0
    replace h := k0
    exact hc.jump (orc := []) (m := 2) (kt := [3, 9]) (kh := [(124, 124)]) (by kernel_rfl) .nil (g_seg_Put_3 hc N hfin b124_0 b124_1 b124_2 b124_3 b124_4 b124_5 b124_6 65535 h)
  · subst h0
    replace h := k0
    exact hc.jump (orc := []) (m := 2) (kt := [3, 9]) (kh := [(124, 124)]) (by kernel_rfl) .nil (g_seg_Put_3 hc N hfin b124_0 b124_1 b124_2 b124_3 b124_4 b124_5 b124_6 t9 h)

theorem g_seg_Put_1 {c : Cx} (hc : Is c Try.prog ty 29 36) (N : Nat) {r : ByteArray × Int} (hfin : c.Fin [] (d_seg_Put r) []) (b124_0 : Int) (b124_1 : Int) (b124_2 : Int) (b124_3 : Int) (b124_4 : Int) (b124_5 : Int) (b124_6 : ByteArray) (b164_0 : Int) (b164_1 : Int) (t20 : Bool) (h : L_seg_Put_1 N b124_0 b124_1 b124_2 b124_3 b124_4 b124_5 b124_6 b164_0 b164_1 t20 = some r) : c.Goes (items (bodyOf Try.f29) [.c 27, .c 15]) ⟨[(3, .ptr 124 0), (8, .ptr 164 0), (20, .bool t20)], [(124, some ⟨false, 0, [.int .i64 b124_0, .int .i64 b124_1, .int .i64 b124_2, .int .i64 b124_3, .int .i64 b124_4, .int .i64 b124_5, .str b124_6]⟩), (164, some ⟨false, 0, [.int .i64 b164_0, .int .i64 b164_1]⟩)]⟩ := by
  unfold L_seg_Put_1 at h
  rcases brk h with ⟨h0, k0⟩ | ⟨h0, k0⟩
  · subst h0
    replace h := k0
    have h := Option.some.inj h
    refine hc.ret hfin (fn := Try.f29) (by kernel_rfl) (orc := []) (m := 3) (d := .tup [.str ByteArray.empty, .int .i64 300]) (by kernel_rfl) .nil ?_ ?_
    · rw [← h]; exact Le.of rfl
    · rw [← h]; rfl
  · subst h0
    replace h := k0
    obtain ⟨v1, h1, h⟩ := bind_of h
    obtain ⟨v2, h2, h⟩ := bind_of h
    rcases brk h with ⟨h3, h⟩ | ⟨h3, h⟩
    · exact hc.jump (orc := [(4, [(3, { r := d_seg_text v1 }), (4, { r := d_seg_ends_sum v2 })]), (5, [(3, { cv := some (.bool true) })])]) (m := 7) (kt := [3, 9, 33]) (kh := [(124, 124)]) (by kernel_rfl) (.cons (c_seg_text N false (GSeg.mk b124_0 b124_1 b124_2 b124_3 b124_4 b124_5 b124_6) 0 h1) (.cons (c_seg_ends_sum N (Gseg_ends.mk b164_0 b164_1) b124_0 v1 h2) (.cons (Le.tt h3) .nil))) (g_seg_Put_2 hc N hfin b124_0 b124_1 b124_2 b124_3 b124_4 b124_5 b124_6 (IntKind.i64.wrap ((65535 : Int) - v2)) ((IntKind.i64.wrap ((65535 : Int) - v2)) == 0) h)
    · exact hc.jump (orc := [(4, [(3, { r := d_seg_text v1 }), (4, { r := d_seg_ends_sum v2 })]), (5, [(3, { cv := some (.bool false) })])]) (m := 7) (kt := [3, 9, 33]) (kh := [(124, 124)]) (by kernel_rfl) (.cons (c_seg_text N false (GSeg.mk b124_0 b124_1 b124_2 b124_3 b124_4 b124_5 b124_6) 0 h1) (.cons (c_seg_ends_sum N (Gseg_ends.mk b164_0 b164_1) b124_0 v1 h2) (.cons (Le.ff h3) .nil))) (g_seg_Put_2 hc N hfin b124_0 b124_1 b124_2 b124_3 b124_4 b124_5 b124_6 (IntKind.i64.wrap ((65535 : Int) - v2)) false h)

theorem g_seg_Put_0 {c : Cx} (hc : Is c Try.prog ty 29 36) (N : Nat) {r : ByteArray × Int} (hfin : c.Fin [] (d_seg_Put r) []) (x0 : GSeg) (x1 : Int) (x2 : Int) (h : L_seg_Put N x0 x1 x2 = some r) : c.Goes (items (bodyOf Try.f29) [.c 1]) ⟨[(0, .agg [.int .i64 x0.Proto, .int .i64 x0.Sport, .int .i64 x0.Dport, .int .i64 x0.Seq, .int .i64 x0.Ack, .int .i64 x0.Flags, .str x0.Body]), (1, .int .i64 x1), (2, .int .i64 x2)], []⟩ := by
  unfold L_seg_Put at h
  obtain ⟨v1, h0, h⟩ := bind_of h
  rcases brk h with ⟨h1, h⟩ | ⟨h1, h⟩
  · exact hc.jump (orc := [(2, [(1, { r := d_seg_May v1 }), (3, { cv := some (.bool true) })])]) (m := 7) (kt := [3, 8, 20]) (kh := [(124, 124), (164, 164)]) (by kernel_rfl) (.cons (c_seg_May N x0 h0) (.cons (Le.tt h1) .nil)) (g_seg_Put_1 hc N hfin x0.Proto x0.Sport x0.Dport x0.Seq x0.Ack x0.Flags x0.Body x1 x2 true h)
  · obtain ⟨v2, h2, h⟩ := bind_of h
    exact hc.jump (orc := [(2, [(1, { r := d_seg_May v1 }), (3, { cv := some (.bool false) }), (5, { r := d_seg_ends_may v2 })])]) (m := 7) (kt := [3, 8, 20]) (kh := [(124, 124), (164, 164)]) (by kernel_rfl) (.cons (c_seg_May N x0 h0) (.cons (Le.ff h1) (.cons (c_seg_ends_may N (Gseg_ends.mk x1 x2) h2) .nil))) (g_seg_Put_1 hc N hfin x0.Proto x0.Sport x0.Dport x0.Seq x0.Ack x0.Flags x0.Body x1 x2 (!v2) h)

theorem c_seg_Put (N : Nat) (x0 : GSeg) (x1 : Int) (x2 : Int) {r : ByteArray × Int} (h : L_seg_Put N x0 x1 x2 = some r) : Con Try.prog 29 [.agg [.int .i64 x0.Proto, .int .i64 x0.Sport, .int .i64 x0.Dport, .int .i64 x0.Seq, .int .i64 x0.Ack, .int .i64 x0.Flags, .str x0.Body], .int .i64 x1, .int .i64 x2] [] (d_seg_Put r) [] :=
  con_intro ok mix (fn := Try.f29) (body := bodyOf Try.f29) (by kernel_rfl) (by kernel_rfl) (by kernel_rfl) rfl (Nat.le_of_ble_eq_true (by kernel_rfl)) fun c h1 h2 h3 h4 hfin => g_seg_Put_0 ⟨h1, h2, h3, h4⟩ N hfin x0 x1 x2 h
/-! ### wharfage/flow.handled -/
def L_flow_handled_1 (N : Nat) (t2 : Bool) : Option (Bool) :=
  some t2
def L_flow_handled (N : Nat) (x0 : Int) : Option (Bool) :=
  bif (x0 == 6) then
    L_flow_handled_1 N true
  else
    L_flow_handled_1 N (x0 == 17)
def d_flow_handled (r : Bool) : D := .bool r
theorem g_flow_handled_1 {c : Cx} (hc : Is c Try.prog ty 67 9) (N : Nat) {r : Bool} (hfin : c.Fin [] (d_flow_handled r) []) (t2 : Bool) (h : L_flow_handled_1 N t2 = some r) : c.Goes (items (bodyOf Try.f67) [.c 7]) ⟨[(2, .bool t2)], []⟩ := by
  unfold L_flow_handled_1 at h
  have h := Option.some.inj h
  refine hc.ret hfin (fn := Try.f67) (by kernel_rfl) (orc := []) (m := 0) (d := .bool t2) (by kernel_rfl) .nil ?_ ?_
  · rw [← h]; exact Le.of rfl
  · rw [← h]; rfl

theorem g_flow_handled_0 {c : Cx} (hc : Is c Try.prog ty 67 9) (N : Nat) {r : Bool} (hfin : c.Fin [] (d_flow_handled r) []) (x0 : Int) (h : L_flow_handled N x0 = some r) : c.Goes (items (bodyOf Try.f67) [.c 1]) ⟨[(0, .int .i64 x0)], []⟩ := by
  unfold L_flow_handled at h
  rcases brk h with ⟨h0, h⟩ | ⟨h0, h⟩
  · exact hc.jump (orc := [(1, [(2, { cv := some (.bool true) })])]) (m := 4) (kt := [2]) (kh := []) (by kernel_rfl) (.cons (Le.tt h0) .nil) (g_flow_handled_1 hc N hfin true h)
  · exact hc.jump (orc := [(1, [(2, { cv := some (.bool false) })])]) (m := 4) (kt := [2]) (kh := []) (by kernel_rfl) (.cons (Le.ff h0) .nil) (g_flow_handled_1 hc N hfin (x0 == 17) h)

theorem c_flow_handled (N : Nat) (x0 : Int) {r : Bool} (h : L_flow_handled N x0 = some r) : Con Try.prog 67 [.int .i64 x0] [] (d_flow_handled r) [] :=
  con_intro ok mix (fn := Try.f67) (body := bodyOf Try.f67) (by kernel_rfl) (by kernel_rfl) (by kernel_rfl) rfl (Nat.le_of_ble_eq_true (by kernel_rfl)) fun c h1 h2 h3 h4 hfin => g_flow_handled_0 ⟨h1, h2, h3, h4⟩ N hfin x0 h
/-! ### wharfage/flow.May -/
def L_flow_May_1 (N : Nat) (t2 : Bool) : Option (Bool) :=
  some t2
def L_flow_May (N : Nat) (x0 : GFlow) : Option (Bool) :=
  (L_ip_In N x0.Src 32).bind fun v1 =>
  bif v1 then
    (L_ip_In N x0.Dst 32).bind fun v2 =>
    bif v2 then
      (L_flow_handled N x0.Proto).bind fun v3 =>
      bif v3 then
        (L_ip_In N x0.Sport 16).bind fun v4 =>
        bif v4 then
          (L_ip_In N x0.Dport 16).bind fun v5 =>
          L_flow_May_1 N v5
        else
          L_flow_May_1 N false
      else
        L_flow_May_1 N false
    else
      L_flow_May_1 N false
  else
    L_flow_May_1 N false
def d_flow_May (r : Bool) : D := .bool r
theorem g_flow_May_1 {c : Cx} (hc : Is c Try.prog ty 40 26) (N : Nat) {r : Bool} (hfin : c.Fin [] (d_flow_May r) []) (t2 : Bool) (h : L_flow_May_1 N t2 = some r) : c.Goes (items (bodyOf Try.f40) [.c 7]) ⟨[(2, .bool t2)], []⟩ := by
  unfold L_flow_May_1 at h
  have h := Option.some.inj h
  refine hc.ret hfin (fn := Try.f40) (by kernel_rfl) (orc := []) (m := 0) (d := .bool t2) (by kernel_rfl) .nil ?_ ?_
  · rw [← h]; exact Le.of rfl
  · rw [← h]; rfl

theorem g_flow_May_0 {c : Cx} (hc : Is c Try.prog ty 40 26) (N : Nat) {r : Bool} (hfin : c.Fin [] (d_flow_May r) []) (x0 : GFlow) (h : L_flow_May N x0 = some r) : c.Goes (items (bodyOf Try.f40) [.c 1]) ⟨[(0, .agg [.int .i64 x0.Src, .int .i64 x0.Dst, .int .i64 x0.Proto, .int .i64 x0.Sport, .int .i64 x0.Dport])], []⟩ := by
  unfold L_flow_May at h
  obtain ⟨v1, h0, h⟩ := bind_of h
  rcases brk h with ⟨h1, h⟩ | ⟨h1, h⟩
  · obtain ⟨v2, h2, h⟩ := bind_of h
    rcases brk h with ⟨h3, h⟩ | ⟨h3, h⟩
    · obtain ⟨v3, h4, h⟩ := bind_of h
      rcases brk h with ⟨h5, h⟩ | ⟨h5, h⟩
      · obtain ⟨v4, h6, h⟩ := bind_of h
        rcases brk h with ⟨h7, h⟩ | ⟨h7, h⟩
        · obtain ⟨v5, h8, h⟩ := bind_of h
          exact hc.jump (orc := [(1, [(2, { r := d_ip_In v1 }), (3, { cv := some (.bool true) }), (6, { r := d_ip_In v2 }), (8, { cv := some (.bool true) }), (11, { r := d_flow_handled v3 }), (13, { cv := some (.bool true) }), (16, { r := d_ip_In v4 }), (18, { cv := some (.bool true) }), (21, { r := d_ip_In v5 })])]) (m := 4) (kt := [2]) (kh := []) (by kernel_rfl) (.cons (c_ip_In N x0.Src 32 h0) (.cons (Le.tt h1) (.cons (c_ip_In N x0.Dst 32 h2) (.cons (Le.tt h3) (.cons (c_flow_handled N x0.Proto h4) (.cons (Le.tt h5) (.cons (c_ip_In N x0.Sport 16 h6) (.cons (Le.tt h7) (.cons (c_ip_In N x0.Dport 16 h8) .nil))))))))) (g_flow_May_1 hc N hfin v5 h)
        · exact hc.jump (orc := [(1, [(2, { r := d_ip_In v1 }), (3, { cv := some (.bool true) }), (6, { r := d_ip_In v2 }), (8, { cv := some (.bool true) }), (11, { r := d_flow_handled v3 }), (13, { cv := some (.bool true) }), (16, { r := d_ip_In v4 }), (18, { cv := some (.bool false) })])]) (m := 4) (kt := [2]) (kh := []) (by kernel_rfl) (.cons (c_ip_In N x0.Src 32 h0) (.cons (Le.tt h1) (.cons (c_ip_In N x0.Dst 32 h2) (.cons (Le.tt h3) (.cons (c_flow_handled N x0.Proto h4) (.cons (Le.tt h5) (.cons (c_ip_In N x0.Sport 16 h6) (.cons (Le.ff h7) .nil)))))))) (g_flow_May_1 hc N hfin false h)
      · exact hc.jump (orc := [(1, [(2, { r := d_ip_In v1 }), (3, { cv := some (.bool true) }), (6, { r := d_ip_In v2 }), (8, { cv := some (.bool true) }), (11, { r := d_flow_handled v3 }), (13, { cv := some (.bool false) })])]) (m := 4) (kt := [2]) (kh := []) (by kernel_rfl) (.cons (c_ip_In N x0.Src 32 h0) (.cons (Le.tt h1) (.cons (c_ip_In N x0.Dst 32 h2) (.cons (Le.tt h3) (.cons (c_flow_handled N x0.Proto h4) (.cons (Le.ff h5) .nil)))))) (g_flow_May_1 hc N hfin false h)
    · exact hc.jump (orc := [(1, [(2, { r := d_ip_In v1 }), (3, { cv := some (.bool true) }), (6, { r := d_ip_In v2 }), (8, { cv := some (.bool false) })])]) (m := 4) (kt := [2]) (kh := []) (by kernel_rfl) (.cons (c_ip_In N x0.Src 32 h0) (.cons (Le.tt h1) (.cons (c_ip_In N x0.Dst 32 h2) (.cons (Le.ff h3) .nil)))) (g_flow_May_1 hc N hfin false h)
  · exact hc.jump (orc := [(1, [(2, { r := d_ip_In v1 }), (3, { cv := some (.bool false) })])]) (m := 4) (kt := [2]) (kh := []) (by kernel_rfl) (.cons (c_ip_In N x0.Src 32 h0) (.cons (Le.ff h1) .nil)) (g_flow_May_1 hc N hfin false h)

theorem c_flow_May (N : Nat) (x0 : GFlow) {r : Bool} (h : L_flow_May N x0 = some r) : Con Try.prog 40 [.agg [.int .i64 x0.Src, .int .i64 x0.Dst, .int .i64 x0.Proto, .int .i64 x0.Sport, .int .i64 x0.Dport]] [] (d_flow_May r) [] :=
  con_intro ok mix (fn := Try.f40) (body := bodyOf Try.f40) (by kernel_rfl) (by kernel_rfl) (by kernel_rfl) rfl (Nat.le_of_ble_eq_true (by kernel_rfl)) fun c h1 h2 h3 h4 hfin => g_flow_May_0 ⟨h1, h2, h3, h4⟩ N hfin x0 h
/-! ### wharfage/ip.May -/
def L_ip_May_1 (N : Nat) (t2 : Bool) : Option (Bool) :=
  some t2
def L_ip_May (N : Nat) (x0 : GIp) : Option (Bool) :=
  (L_ip_In N x0.Src 32).bind fun v1 =>
  bif v1 then
    (L_ip_In N x0.Dst 32).bind fun v2 =>
    bif v2 then
      (L_ip_In N x0.Proto 8).bind fun v3 =>
      bif v3 then
        (L_ip_In N x0.Ttl 8).bind fun v4 =>
        bif v4 then
          (L_ip_In N x0.Id 16).bind fun v5 =>
          bif v5 then
            L_ip_May_1 N (decide ((x0.Body.size : Int) ≤ 492))
          else
            L_ip_May_1 N false
        else
          L_ip_May_1 N false
      else
        L_ip_May_1 N false
    else
      L_ip_May_1 N false
  else
    L_ip_May_1 N false
def d_ip_May (r : Bool) : D := .bool r
theorem g_ip_May_1 {c : Cx} (hc : Is c Try.prog ty 82 32) (N : Nat) {r : Bool} (hfin : c.Fin [] (d_ip_May r) []) (t2 : Bool) (h : L_ip_May_1 N t2 = some r) : c.Goes (items (bodyOf Try.f82) [.c 7]) ⟨[(2, .bool t2)], []⟩ := by
  unfold L_ip_May_1 at h
  have h := Option.some.inj h
  refine hc.ret hfin (fn := Try.f82) (by kernel_rfl) (orc := []) (m := 0) (d := .bool t2) (by kernel_rfl) .nil ?_ ?_
  · rw [← h]; exact Le.of rfl
  · rw [← h]; rfl

theorem g_ip_May_0 {c : Cx} (hc : Is c Try.prog ty 82 32) (N : Nat) {r : Bool} (hfin : c.Fin [] (d_ip_May r) []) (x0 : GIp) (h : L_ip_May N x0 = some r) : c.Goes (items (bodyOf Try.f82) [.c 1]) ⟨[(0, .agg [.int .i64 x0.Src, .int .i64 x0.Dst, .int .i64 x0.Proto, .int .i64 x0.Ttl, .int .i64 x0.Id, .str x0.Body])], []⟩ := by
  unfold L_ip_May at h
  obtain ⟨v1, h0, h⟩ := bind_of h
  rcases brk h with ⟨h1, h⟩ | ⟨h1, h⟩
  · obtain ⟨v2, h2, h⟩ := bind_of h
    rcases brk h with ⟨h3, h⟩ | ⟨h3, h⟩
    · obtain ⟨v3, h4, h⟩ := bind_of h
      rcases brk h with ⟨h5, h⟩ | ⟨h5, h⟩
      · obtain ⟨v4, h6, h⟩ := bind_of h
        rcases brk h with ⟨h7, h⟩ | ⟨h7, h⟩
        · obtain ⟨v5, h8, h⟩ := bind_of h
          rcases brk h with ⟨h9, h⟩ | ⟨h9, h⟩
          · exact hc.jump (orc := [(1, [(2, { r := d_ip_In v1 }), (3, { cv := some (.bool true) }), (6, { r := d_ip_In v2 }), (8, { cv := some (.bool true) }), (11, { r := d_ip_In v3 }), (13, { cv := some (.bool true) }), (16, { r := d_ip_In v4 }), (18, { cv := some (.bool true) }), (21, { r := d_ip_In v5 }), (23, { cv := some (.bool true) })])]) (m := 4) (kt := [2]) (kh := []) (by kernel_rfl) (.cons (c_ip_In N x0.Src 32 h0) (.cons (Le.tt h1) (.cons (c_ip_In N x0.Dst 32 h2) (.cons (Le.tt h3) (.cons (c_ip_In N x0.Proto 8 h4) (.cons (Le.tt h5) (.cons (c_ip_In N x0.Ttl 8 h6) (.cons (Le.tt h7) (.cons (c_ip_In N x0.Id 16 h8) (.cons (Le.tt h9) .nil)))))))))) (g_ip_May_1 hc N hfin (decide ((x0.Body.size : Int) ≤ 492)) h)
          · exact hc.jump (orc := [(1, [(2, { r := d_ip_In v1 }), (3, { cv := some (.bool true) }), (6, { r := d_ip_In v2 }), (8, { cv := some (.bool true) }), (11, { r := d_ip_In v3 }), (13, { cv := some (.bool true) }), (16, { r := d_ip_In v4 }), (18, { cv := some (.bool true) }), (21, { r := d_ip_In v5 }), (23, { cv := some (.bool false) })])]) (m := 4) (kt := [2]) (kh := []) (by kernel_rfl) (.cons (c_ip_In N x0.Src 32 h0) (.cons (Le.tt h1) (.cons (c_ip_In N x0.Dst 32 h2) (.cons (Le.tt h3) (.cons (c_ip_In N x0.Proto 8 h4) (.cons (Le.tt h5) (.cons (c_ip_In N x0.Ttl 8 h6) (.cons (Le.tt h7) (.cons (c_ip_In N x0.Id 16 h8) (.cons (Le.ff h9) .nil)))))))))) (g_ip_May_1 hc N hfin false h)
        · exact hc.jump (orc := [(1, [(2, { r := d_ip_In v1 }), (3, { cv := some (.bool true) }), (6, { r := d_ip_In v2 }), (8, { cv := some (.bool true) }), (11, { r := d_ip_In v3 }), (13, { cv := some (.bool true) }), (16, { r := d_ip_In v4 }), (18, { cv := some (.bool false) })])]) (m := 4) (kt := [2]) (kh := []) (by kernel_rfl) (.cons (c_ip_In N x0.Src 32 h0) (.cons (Le.tt h1) (.cons (c_ip_In N x0.Dst 32 h2) (.cons (Le.tt h3) (.cons (c_ip_In N x0.Proto 8 h4) (.cons (Le.tt h5) (.cons (c_ip_In N x0.Ttl 8 h6) (.cons (Le.ff h7) .nil)))))))) (g_ip_May_1 hc N hfin false h)
      · exact hc.jump (orc := [(1, [(2, { r := d_ip_In v1 }), (3, { cv := some (.bool true) }), (6, { r := d_ip_In v2 }), (8, { cv := some (.bool true) }), (11, { r := d_ip_In v3 }), (13, { cv := some (.bool false) })])]) (m := 4) (kt := [2]) (kh := []) (by kernel_rfl) (.cons (c_ip_In N x0.Src 32 h0) (.cons (Le.tt h1) (.cons (c_ip_In N x0.Dst 32 h2) (.cons (Le.tt h3) (.cons (c_ip_In N x0.Proto 8 h4) (.cons (Le.ff h5) .nil)))))) (g_ip_May_1 hc N hfin false h)
    · exact hc.jump (orc := [(1, [(2, { r := d_ip_In v1 }), (3, { cv := some (.bool true) }), (6, { r := d_ip_In v2 }), (8, { cv := some (.bool false) })])]) (m := 4) (kt := [2]) (kh := []) (by kernel_rfl) (.cons (c_ip_In N x0.Src 32 h0) (.cons (Le.tt h1) (.cons (c_ip_In N x0.Dst 32 h2) (.cons (Le.ff h3) .nil)))) (g_ip_May_1 hc N hfin false h)
  · exact hc.jump (orc := [(1, [(2, { r := d_ip_In v1 }), (3, { cv := some (.bool false) })])]) (m := 4) (kt := [2]) (kh := []) (by kernel_rfl) (.cons (c_ip_In N x0.Src 32 h0) (.cons (Le.ff h1) .nil)) (g_ip_May_1 hc N hfin false h)

theorem c_ip_May (N : Nat) (x0 : GIp) {r : Bool} (h : L_ip_May N x0 = some r) : Con Try.prog 82 [.agg [.int .i64 x0.Src, .int .i64 x0.Dst, .int .i64 x0.Proto, .int .i64 x0.Ttl, .int .i64 x0.Id, .str x0.Body]] [] (d_ip_May r) [] :=
  con_intro ok mix (fn := Try.f82) (body := bodyOf Try.f82) (by kernel_rfl) (by kernel_rfl) (by kernel_rfl) rfl (Nat.le_of_ble_eq_true (by kernel_rfl)) fun c h1 h2 h3 h4 hfin => g_ip_May_0 ⟨h1, h2, h3, h4⟩ N hfin x0 h
/-! ### wharfage/ip.head -/
def L_ip_head (N : Nat) (x0 : GIp) (x1 : Int) : Option (ByteArray) :=
  (L_ip_Bytes N 69 1).bind fun v1 =>
  (L_ip_Bytes N 0 1).bind fun v2 =>
  if ((v1.size + v2.size : Nat) : Int) ≤ 9223372036854775807 then
  via ((IntKind.i64.wrap ((20 : Int) + (x0.Body.size : Int))) : Int) fun v3 =>
  (L_ip_Bytes N v3 2).bind fun v4 =>
  if (((v1 ++ v2).size + v4.size : Nat) : Int) ≤ 9223372036854775807 then
  (L_ip_Bytes N x0.Id 2).bind fun v5 =>
  if ((((v1 ++ v2) ++ v4).size + v5.size : Nat) : Int) ≤ 9223372036854775807 then
  (L_ip_Bytes N 64 1).bind fun v6 =>
  if (((((v1 ++ v2) ++ v4) ++ v5).size + v6.size : Nat) : Int) ≤ 9223372036854775807 then
  (L_ip_Bytes N 0 1).bind fun v7 =>
  if ((((((v1 ++ v2) ++ v4) ++ v5) ++ v6).size + v7.size : Nat) : Int) ≤ 9223372036854775807 then
  (L_ip_Bytes N x0.Ttl 1).bind fun v8 =>
  if (((((((v1 ++ v2) ++ v4) ++ v5) ++ v6) ++ v7).size + v8.size : Nat) : Int) ≤ 9223372036854775807 then
  via (((((((v1 ++ v2) ++ v4) ++ v5) ++ v6) ++ v7) ++ v8) : ByteArray) fun v9 =>
  (L_ip_Bytes N x0.Proto 1).bind fun v10 =>
  if ((v9.size + v10.size : Nat) : Int) ≤ 9223372036854775807 then
  (L_ip_Bytes N x1 2).bind fun v11 =>
  if (((v9 ++ v10).size + v11.size : Nat) : Int) ≤ 9223372036854775807 then
  (L_ip_Bytes N x0.Src 4).bind fun v12 =>
  if ((((v9 ++ v10) ++ v11).size + v12.size : Nat) : Int) ≤ 9223372036854775807 then
  (L_ip_Bytes N x0.Dst 4).bind fun v13 =>
  if (((((v9 ++ v10) ++ v11) ++ v12).size + v13.size : Nat) : Int) ≤ 9223372036854775807 then
  some ((((v9 ++ v10) ++ v11) ++ v12) ++ v13)
  else none
  else none
  else none
  else none
  else none
  else none
  else none
  else none
  else none
  else none
def d_ip_head (r : ByteArray) : D := .str r
theorem g_ip_head_0 (gx0 : Bool) {c : Cx} (hc : Is c Try.prog ty 83 53) (N : Nat) {r : ByteArray} (hfin : c.Fin [] (d_ip_head r) []) (x0 : GIp) (x1 : Int) (h : L_ip_head N x0 x1 = some r) : c.Goes (items (bodyOf Try.f83) [.c 1]) ⟨[(0, .ip gx0 [.int .i64 x0.Src, .int .i64 x0.Dst, .int .i64 x0.Proto, .int .i64 x0.Ttl, .int .i64 x0.Id, .str x0.Body]), (1, .int .i64 x1)], []⟩ := by
  unfold L_ip_head at h
  obtain ⟨v1, h0, h⟩ := bind_of h
  obtain ⟨v2, h1, h⟩ := bind_of h
  obtain ⟨h2, h⟩ := chk h
  obtain ⟨v3, h3, h⟩ := via_some h
  obtain ⟨v4, h4, h⟩ := bind_of h
  obtain ⟨h5, h⟩ := chk h
  obtain ⟨v5, h6, h⟩ := bind_of h
  obtain ⟨h7, h⟩ := chk h
  obtain ⟨v6, h8, h⟩ := bind_of h
  obtain ⟨h9, h⟩ := chk h
  obtain ⟨v7, h10, h⟩ := bind_of h
  obtain ⟨h11, h⟩ := chk h
  obtain ⟨v8, h12, h⟩ := bind_of h
  obtain ⟨h13, h⟩ := chk h
  obtain ⟨v9, h14, h⟩ := via_some h
  obtain ⟨v10, h15, h⟩ := bind_of h
  obtain ⟨h16, h⟩ := chk h
  obtain ⟨v11, h17, h⟩ := bind_of h
  obtain ⟨h18, h⟩ := chk h
  obtain ⟨v12, h19, h⟩ := bind_of h
  obtain ⟨h20, h⟩ := chk h
  obtain ⟨v13, h21, h⟩ := bind_of h
  obtain ⟨h22, h⟩ := chk h
  have h := Option.some.inj h
  refine hc.ret hfin (fn := Try.f83) (by kernel_rfl) (orc := [(1, [(0, { r := d_ip_Bytes v1 }), (1, { r := d_ip_Bytes v2 }), (8, { cv := some (.int .i64 v3) }), (9, { r := d_ip_Bytes v4 }), (15, { r := d_ip_Bytes v5 }), (17, { r := d_ip_Bytes v6 }), (19, { r := d_ip_Bytes v7 }), (25, { r := d_ip_Bytes v8 }), (26, { cv := some (.str v9) }), (31, { r := d_ip_Bytes v10 }), (34, { r := d_ip_Bytes v11 }), (40, { r := d_ip_Bytes v12 }), (46, { r := d_ip_Bytes v13 })])]) (m := 4) (d := .str ((((v9 ++ v10) ++ v11) ++ v12) ++ v13)) (by kernel_rfl) (.cons (c_ip_Bytes N 69 1 h0) (.cons (c_ip_Bytes N 0 1 h1) (.cons (h2) (.cons (Le.int (k := .i64) h3) (.cons (c_ip_Bytes N v3 2 h4) (.cons (h5) (.cons (c_ip_Bytes N x0.Id 2 h6) (.cons (h7) (.cons (c_ip_Bytes N 64 1 h8) (.cons (h9) (.cons (c_ip_Bytes N 0 1 h10) (.cons (h11) (.cons (c_ip_Bytes N x0.Ttl 1 h12) (.cons (h13) (.cons (Le.str h14) (.cons (c_ip_Bytes N x0.Proto 1 h15) (.cons (h16) (.cons (c_ip_Bytes N x1 2 h17) (.cons (h18) (.cons (c_ip_Bytes N x0.Src 4 h19) (.cons (h20) (.cons (c_ip_Bytes N x0.Dst 4 h21) (.cons (h22) .nil))))))))))))))))))))))) ?_ ?_
  · rw [← h]; exact Le.of rfl
  · rw [← h]; rfl

theorem c_ip_head (N : Nat) (gx0 : Bool) (x0 : GIp) (x1 : Int) {r : ByteArray} (h : L_ip_head N x0 x1 = some r) : Con Try.prog 83 [.ip gx0 [.int .i64 x0.Src, .int .i64 x0.Dst, .int .i64 x0.Proto, .int .i64 x0.Ttl, .int .i64 x0.Id, .str x0.Body], .int .i64 x1] [] (d_ip_head r) [] :=
  con_intro ok mix (fn := Try.f83) (body := bodyOf Try.f83) (by kernel_rfl) (by kernel_rfl) (by kernel_rfl) rfl (Nat.le_of_ble_eq_true (by kernel_rfl)) fun c h1 h2 h3 h4 hfin => g_ip_head_0 gx0 ⟨h1, h2, h3, h4⟩ N hfin x0 x1 h
/-! ### wharfage/ip.Put -/
def L_ip_Put (N : Nat) (x0 : GIp) : Option (ByteArray × Int) :=
  (L_ip_May N x0).bind fun v1 =>
  bif (!v1) then
    some (ByteArray.empty, 200)
  else
    (L_ip_head N x0 0).bind fun v2 =>
    (L_sum_Sum N v2).bind fun v3 =>
    (L_ip_head N x0 (IntKind.i64.wrap ((65535 : Int) - v3))).bind fun v4 =>
    if ((v4.size + x0.Body.size : Nat) : Int) ≤ 9223372036854775807 then
    some ((v4 ++ x0.Body), 0)
    else none
def d_ip_Put (r : ByteArray × Int) : D := .tup [.str r.1, .int .i64 r.2]
theorem g_ip_Put_0 {c : Cx} (hc : Is c Try.prog ty 51 14) (N : Nat) {r : ByteArray × Int} (hfin : c.Fin [] (d_ip_Put r) []) (x0 : GIp) (h : L_ip_Put N x0 = some r) : c.Goes (items (bodyOf Try.f51) [.c 1]) ⟨[(0, .agg [.int .i64 x0.Src, .int .i64 x0.Dst, .int .i64 x0.Proto, .int .i64 x0.Ttl, .int .i64 x0.Id, .str x0.Body])], []⟩ := by
  unfold L_ip_Put at h
  obtain ⟨v1, h0, h⟩ := bind_of h
  rcases brk h with ⟨h1, h⟩ | ⟨h1, h⟩
  · have h := Option.some.inj h
    refine hc.ret hfin (fn := Try.f51) (by kernel_rfl) (orc := [(1, [(1, { r := d_ip_May v1 }), (2, { cv := some (.bool true) })])]) (m := 8) (d := .tup [.str ByteArray.empty, .int .i64 200]) (by kernel_rfl) (.cons (c_ip_May N x0 h0) (.cons (Le.tt h1) .nil)) ?_ ?_
    · rw [← h]; exact Le.of rfl
    · rw [← h]; rfl
  · obtain ⟨v2, h2, h⟩ := bind_of h
    obtain ⟨v3, h3, h⟩ := bind_of h
    obtain ⟨v4, h4, h⟩ := bind_of h
    obtain ⟨h5, h⟩ := chk h
    have h := Option.some.inj h
    refine hc.ret hfin (fn := Try.f51) (by kernel_rfl) (orc := [(1, [(1, { r := d_ip_May v1 }), (2, { cv := some (.bool false) })]), (3, [(0, { r := d_ip_head v2 }), (1, { r := d_sum_Sum v3 }), (3, { r := d_ip_head v4 })])]) (m := 9) (d := .tup [.str (v4 ++ x0.Body), .int .i64 0]) (by kernel_rfl) (.cons (c_ip_May N x0 h0) (.cons (Le.ff h1) (.cons (c_ip_head N false x0 0 h2) (.cons (c_sum_Sum N v2 h3) (.cons (c_ip_head N false x0 (IntKind.i64.wrap ((65535 : Int) - v3)) h4) (.cons (h5) .nil)))))) ?_ ?_
    · rw [← h]; exact Le.of rfl
    · rw [← h]; rfl

theorem c_ip_Put (N : Nat) (x0 : GIp) {r : ByteArray × Int} (h : L_ip_Put N x0 = some r) : Con Try.prog 51 [.agg [.int .i64 x0.Src, .int .i64 x0.Dst, .int .i64 x0.Proto, .int .i64 x0.Ttl, .int .i64 x0.Id, .str x0.Body]] [] (d_ip_Put r) [] :=
  con_intro ok mix (fn := Try.f51) (body := bodyOf Try.f51) (by kernel_rfl) (by kernel_rfl) (by kernel_rfl) rfl (Nat.le_of_ble_eq_true (by kernel_rfl)) fun c h1 h2 h3 h4 hfin => g_ip_Put_0 ⟨h1, h2, h3, h4⟩ N hfin x0 h
/-! ### wharfage/flow.Packet -/
def L_flow_Packet_1 (N : Nat) (b124_0 : Int) (b124_1 : Int) (b124_2 : Int) (b124_3 : Int) (b124_4 : Int) (t8 : ByteArray) (t33 : Bool) : Option (ByteArray × Int) :=
  bif t33 then
    some (ByteArray.empty, 400)
  else
    (L_ip_Put N (GIp.mk b124_0 b124_1 b124_2 64 0 t8)).bind fun v1 =>
    some (v1.1, v1.2)
def L_flow_Packet (N : Nat) (x0 : GFlow) (x1 : Int) (x2 : ByteArray) : Option (ByteArray × Int) :=
  (L_seg_Put N (GSeg.mk x0.Proto x0.Sport x0.Dport 0 0 x1 x2) x0.Src x0.Dst).bind fun v1 =>
  bif (v1.2 != 0) then
    L_flow_Packet_1 N x0.Src x0.Dst x0.Proto x0.Sport x0.Dport v1.1 true
  else
    (L_flow_May N x0).bind fun v2 =>
    L_flow_Packet_1 N x0.Src x0.Dst x0.Proto x0.Sport x0.Dport v1.1 (!v2)
def d_flow_Packet (r : ByteArray × Int) : D := .tup [.str r.1, .int .i64 r.2]
theorem g_flow_Packet_1 {c : Cx} (hc : Is c Try.prog ty 36 45) (N : Nat) {r : ByteArray × Int} (hfin : c.Fin [] (d_flow_Packet r) []) (b124_0 : Int) (b124_1 : Int) (b124_2 : Int) (b124_3 : Int) (b124_4 : Int) (t8 : ByteArray) (t33 : Bool) (h : L_flow_Packet_1 N b124_0 b124_1 b124_2 b124_3 b124_4 t8 t33 = some r) : c.Goes (items (bodyOf Try.f36) [.c 27, .c 15]) ⟨[(3, .ptr 124 0), (8, .str t8), (33, .bool t33)], [(124, some ⟨false, 0, [.int .i64 b124_0, .int .i64 b124_1, .int .i64 b124_2, .int .i64 b124_3, .int .i64 b124_4]⟩)]⟩ := by
  unfold L_flow_Packet_1 at h
  rcases brk h with ⟨h0, k0⟩ | ⟨h0, k0⟩
  · subst h0
    replace h := k0
    have h := Option.some.inj h
    refine hc.ret hfin (fn := Try.f36) (by kernel_rfl) (orc := []) (m := 3) (d := .tup [.str ByteArray.empty, .int .i64 400]) (by kernel_rfl) .nil ?_ ?_
    · rw [← h]; exact Le.of rfl
    · rw [← h]; rfl
  · subst h0
    replace h := k0
    obtain ⟨v1, h1, h⟩ := bind_of h
    have h := Option.some.inj h
    refine hc.ret hfin (fn := Try.f36) (by kernel_rfl) (orc := [(4, [(8, { r := d_ip_Put v1 })])]) (m := 4) (d := .tup [.str v1.1, .int .i64 v1.2]) (by kernel_rfl) (.cons (c_ip_Put N (GIp.mk b124_0 b124_1 b124_2 64 0 t8) h1) .nil) ?_ ?_
    · rw [← h]; exact Le.of rfl
    · rw [← h]; rfl

theorem g_flow_Packet_0 {c : Cx} (hc : Is c Try.prog ty 36 45) (N : Nat) {r : ByteArray × Int} (hfin : c.Fin [] (d_flow_Packet r) []) (x0 : GFlow) (x1 : Int) (x2 : ByteArray) (h : L_flow_Packet N x0 x1 x2 = some r) : c.Goes (items (bodyOf Try.f36) [.c 1]) ⟨[(0, .agg [.int .i64 x0.Src, .int .i64 x0.Dst, .int .i64 x0.Proto, .int .i64 x0.Sport, .int .i64 x0.Dport]), (1, .int .i64 x1), (2, .str x2)], []⟩ := by
  unfold L_flow_Packet at h
  obtain ⟨v1, h0, h⟩ := bind_of h
  rcases brk h with ⟨h1, h⟩ | ⟨h1, h⟩
  · exact hc.jump (orc := [(1, [(13, { r := d_seg_Put v1 })]), (2, [(2, { cv := some (.bool true) })])]) (m := 7) (kt := [3, 8, 33]) (kh := [(124, 124)]) (by kernel_rfl) (.cons (c_seg_Put N (GSeg.mk x0.Proto x0.Sport x0.Dport 0 0 x1 x2) x0.Src x0.Dst h0) (.cons (Le.tt h1) .nil)) (g_flow_Packet_1 hc N hfin x0.Src x0.Dst x0.Proto x0.Sport x0.Dport v1.1 true h)
  · obtain ⟨v2, h2, h⟩ := bind_of h
    exact hc.jump (orc := [(1, [(13, { r := d_seg_Put v1 })]), (2, [(2, { cv := some (.bool false) }), (4, { r := d_flow_May v2 })])]) (m := 7) (kt := [3, 8, 33]) (kh := [(124, 124)]) (by kernel_rfl) (.cons (c_seg_Put N (GSeg.mk x0.Proto x0.Sport x0.Dport 0 0 x1 x2) x0.Src x0.Dst h0) (.cons (Le.ff h1) (.cons (c_flow_May N x0 h2) .nil))) (g_flow_Packet_1 hc N hfin x0.Src x0.Dst x0.Proto x0.Sport x0.Dport v1.1 (!v2) h)

theorem c_flow_Packet (N : Nat) (x0 : GFlow) (x1 : Int) (x2 : ByteArray) {r : ByteArray × Int} (h : L_flow_Packet N x0 x1 x2 = some r) : Con Try.prog 36 [.agg [.int .i64 x0.Src, .int .i64 x0.Dst, .int .i64 x0.Proto, .int .i64 x0.Sport, .int .i64 x0.Dport], .int .i64 x1, .str x2] [] (d_flow_Packet r) [] :=
  con_intro ok mix (fn := Try.f36) (body := bodyOf Try.f36) (by kernel_rfl) (by kernel_rfl) (by kernel_rfl) rfl (Nat.le_of_ble_eq_true (by kernel_rfl)) fun c h1 h2 h3 h4 hfin => g_flow_Packet_0 ⟨h1, h2, h3, h4⟩ N hfin x0 x1 x2 h
/-! ### wharfage/wharfageref1.within -/
def L_ref1_within_1 (N : Nat) (t4 : Bool) : Option (Bool) :=
  some t4
def L_ref1_within (N : Nat) (x0 : Int) (x1 : Int) : Option (Bool) :=
  bif (decide (x0 ≥ 0)) then
    if 0 ≤ x1 then
    via ((IntKind.i64.wrap (1 * 2 ^ (min x1.toNat 64))) : Int) fun v1 =>
    L_ref1_within_1 N (decide (x0 < v1))
    else none
  else
    L_ref1_within_1 N false
def d_ref1_within (r : Bool) : D := .bool r
theorem g_ref1_within_1 {c : Cx} (hc : Is c Try.prog ty 58 13) (N : Nat) {r : Bool} (hfin : c.Fin [] (d_ref1_within r) []) (t4 : Bool) (h : L_ref1_within_1 N t4 = some r) : c.Goes (items (bodyOf Try.f58) [.c 7]) ⟨[(4, .bool t4)], []⟩ := by
  unfold L_ref1_within_1 at h
  have h := Option.some.inj h
  refine hc.ret hfin (fn := Try.f58) (by kernel_rfl) (orc := []) (m := 0) (d := .bool t4) (by kernel_rfl) .nil ?_ ?_
  · rw [← h]; exact Le.of rfl
  · rw [← h]; rfl

theorem g_ref1_within_0 {c : Cx} (hc : Is c Try.prog ty 58 13) (N : Nat) {r : Bool} (hfin : c.Fin [] (d_ref1_within r) []) (x0 : Int) (x1 : Int) (h : L_ref1_within N x0 x1 = some r) : c.Goes (items (bodyOf Try.f58) [.c 1]) ⟨[(0, .int .i64 x0), (1, .int .i64 x1)], []⟩ := by
  unfold L_ref1_within at h
  rcases brk h with ⟨h0, h⟩ | ⟨h0, h⟩
  · obtain ⟨h1, h⟩ := chk h
    obtain ⟨v1, h2, h⟩ := via_some h
    exact hc.jump (orc := [(1, [(2, { cv := some (.bool true) }), (5, { cv := some (.int .i64 v1) })])]) (m := 4) (kt := [4]) (kh := []) (by kernel_rfl) (.cons (Le.tt h0) (.cons (h1) (.cons (Le.int (k := .i64) h2) .nil))) (g_ref1_within_1 hc N hfin (decide (x0 < v1)) h)
  · exact hc.jump (orc := [(1, [(2, { cv := some (.bool false) })])]) (m := 4) (kt := [4]) (kh := []) (by kernel_rfl) (.cons (Le.ff h0) .nil) (g_ref1_within_1 hc N hfin false h)

theorem c_ref1_within (N : Nat) (x0 : Int) (x1 : Int) {r : Bool} (h : L_ref1_within N x0 x1 = some r) : Con Try.prog 58 [.int .i64 x0, .int .i64 x1] [] (d_ref1_within r) [] :=
  con_intro ok mix (fn := Try.f58) (body := bodyOf Try.f58) (by kernel_rfl) (by kernel_rfl) (by kernel_rfl) rfl (Nat.le_of_ble_eq_true (by kernel_rfl)) fun c h1 h2 h3 h4 hfin => g_ref1_within_0 ⟨h1, h2, h3, h4⟩ N hfin x0 x1 h
/-! ### wharfage/wharfageref1.FlowMay -/
def L_ref1_FlowMay_1 (N : Nat) (t2 : Bool) : Option (Bool) :=
  some t2
def L_ref1_FlowMay (N : Nat) (x0 : GFlow) : Option (Bool) :=
  (L_ref1_within N x0.Src 32).bind fun v1 =>
  bif v1 then
    (L_ref1_within N x0.Dst 32).bind fun v2 =>
    bif v2 then
      bif (x0.Proto == 6) then
        (L_ref1_within N x0.Sport 16).bind fun v3 =>
        bif v3 then
          (L_ref1_within N x0.Dport 16).bind fun v4 =>
          L_ref1_FlowMay_1 N v4
        else
          L_ref1_FlowMay_1 N false
      else
        bif (x0.Proto == 17) then
          (L_ref1_within N x0.Sport 16).bind fun v3 =>
          bif v3 then
            (L_ref1_within N x0.Dport 16).bind fun v4 =>
            L_ref1_FlowMay_1 N v4
          else
            L_ref1_FlowMay_1 N false
        else
          L_ref1_FlowMay_1 N false
    else
      L_ref1_FlowMay_1 N false
  else
    L_ref1_FlowMay_1 N false
def d_ref1_FlowMay (r : Bool) : D := .bool r
theorem g_ref1_FlowMay_1 {c : Cx} (hc : Is c Try.prog ty 41 31) (N : Nat) {r : Bool} (hfin : c.Fin [] (d_ref1_FlowMay r) []) (t2 : Bool) (h : L_ref1_FlowMay_1 N t2 = some r) : c.Goes (items (bodyOf Try.f41) [.c 7]) ⟨[(2, .bool t2)], []⟩ := by
  unfold L_ref1_FlowMay_1 at h
  have h := Option.some.inj h
  refine hc.ret hfin (fn := Try.f41) (by kernel_rfl) (orc := []) (m := 0) (d := .bool t2) (by kernel_rfl) .nil ?_ ?_
  · rw [← h]; exact Le.of rfl
  · rw [← h]; rfl

theorem g_ref1_FlowMay_0 {c : Cx} (hc : Is c Try.prog ty 41 31) (N : Nat) {r : Bool} (hfin : c.Fin [] (d_ref1_FlowMay r) []) (x0 : GFlow) (h : L_ref1_FlowMay N x0 = some r) : c.Goes (items (bodyOf Try.f41) [.c 1]) ⟨[(0, .agg [.int .i64 x0.Src, .int .i64 x0.Dst, .int .i64 x0.Proto, .int .i64 x0.Sport, .int .i64 x0.Dport])], []⟩ := by
  unfold L_ref1_FlowMay at h
  obtain ⟨v1, h0, h⟩ := bind_of h
  rcases brk h with ⟨h1, h⟩ | ⟨h1, h⟩
  · obtain ⟨v2, h2, h⟩ := bind_of h
    rcases brk h with ⟨h3, h⟩ | ⟨h3, h⟩
    · rcases brk h with ⟨h4, h⟩ | ⟨h4, h⟩
      · obtain ⟨v3, h5, h⟩ := bind_of h
        rcases brk h with ⟨h6, h⟩ | ⟨h6, h⟩
        · obtain ⟨v4, h7, h⟩ := bind_of h
          exact hc.jump (orc := [(1, [(2, { r := d_ref1_within v1 }), (3, { cv := some (.bool true) }), (6, { r := d_ref1_within v2 }), (8, { cv := some (.bool true) }), (12, { cv := some (.bool true) }), (21, { r := d_ref1_within v3 }), (23, { cv := some (.bool true) }), (26, { r := d_ref1_within v4 })])]) (m := 4) (kt := [2]) (kh := []) (by kernel_rfl) (.cons (c_ref1_within N x0.Src 32 h0) (.cons (Le.tt h1) (.cons (c_ref1_within N x0.Dst 32 h2) (.cons (Le.tt h3) (.cons (Le.tt h4) (.cons (c_ref1_within N x0.Sport 16 h5) (.cons (Le.tt h6) (.cons (c_ref1_within N x0.Dport 16 h7) .nil)))))))) (g_ref1_FlowMay_1 hc N hfin v4 h)
        · exact hc.jump (orc := [(1, [(2, { r := d_ref1_within v1 }), (3, { cv := some (.bool true) }), (6, { r := d_ref1_within v2 }), (8, { cv := some (.bool true) }), (12, { cv := some (.bool true) }), (21, { r := d_ref1_within v3 }), (23, { cv := some (.bool false) })])]) (m := 4) (kt := [2]) (kh := []) (by kernel_rfl) (.cons (c_ref1_within N x0.Src 32 h0) (.cons (Le.tt h1) (.cons (c_ref1_within N x0.Dst 32 h2) (.cons (Le.tt h3) (.cons (Le.tt h4) (.cons (c_ref1_within N x0.Sport 16 h5) (.cons (Le.ff h6) .nil))))))) (g_ref1_FlowMay_1 hc N hfin false h)
      · rcases brk h with ⟨h5, h⟩ | ⟨h5, h⟩
        · obtain ⟨v3, h6, h⟩ := bind_of h
          rcases brk h with ⟨h7, h⟩ | ⟨h7, h⟩
          · obtain ⟨v4, h8, h⟩ := bind_of h
            exact hc.jump (orc := [(1, [(2, { r := d_ref1_within v1 }), (3, { cv := some (.bool true) }), (6, { r := d_ref1_within v2 }), (8, { cv := some (.bool true) }), (12, { cv := some (.bool false) }), (18, { cv := some (.bool true) }), (21, { r := d_ref1_within v3 }), (23, { cv := some (.bool true) }), (26, { r := d_ref1_within v4 })])]) (m := 4) (kt := [2]) (kh := []) (by kernel_rfl) (.cons (c_ref1_within N x0.Src 32 h0) (.cons (Le.tt h1) (.cons (c_ref1_within N x0.Dst 32 h2) (.cons (Le.tt h3) (.cons (Le.ff h4) (.cons (Le.tt h5) (.cons (c_ref1_within N x0.Sport 16 h6) (.cons (Le.tt h7) (.cons (c_ref1_within N x0.Dport 16 h8) .nil))))))))) (g_ref1_FlowMay_1 hc N hfin v4 h)
          · exact hc.jump (orc := [(1, [(2, { r := d_ref1_within v1 }), (3, { cv := some (.bool true) }), (6, { r := d_ref1_within v2 }), (8, { cv := some (.bool true) }), (12, { cv := some (.bool false) }), (18, { cv := some (.bool true) }), (21, { r := d_ref1_within v3 }), (23, { cv := some (.bool false) })])]) (m := 4) (kt := [2]) (kh := []) (by kernel_rfl) (.cons (c_ref1_within N x0.Src 32 h0) (.cons (Le.tt h1) (.cons (c_ref1_within N x0.Dst 32 h2) (.cons (Le.tt h3) (.cons (Le.ff h4) (.cons (Le.tt h5) (.cons (c_ref1_within N x0.Sport 16 h6) (.cons (Le.ff h7) .nil)))))))) (g_ref1_FlowMay_1 hc N hfin false h)
        · exact hc.jump (orc := [(1, [(2, { r := d_ref1_within v1 }), (3, { cv := some (.bool true) }), (6, { r := d_ref1_within v2 }), (8, { cv := some (.bool true) }), (12, { cv := some (.bool false) }), (18, { cv := some (.bool false) })])]) (m := 4) (kt := [2]) (kh := []) (by kernel_rfl) (.cons (c_ref1_within N x0.Src 32 h0) (.cons (Le.tt h1) (.cons (c_ref1_within N x0.Dst 32 h2) (.cons (Le.tt h3) (.cons (Le.ff h4) (.cons (Le.ff h5) .nil)))))) (g_ref1_FlowMay_1 hc N hfin false h)
    · exact hc.jump (orc := [(1, [(2, { r := d_ref1_within v1 }), (3, { cv := some (.bool true) }), (6, { r := d_ref1_within v2 }), (8, { cv := some (.bool false) })])]) (m := 4) (kt := [2]) (kh := []) (by kernel_rfl) (.cons (c_ref1_within N x0.Src 32 h0) (.cons (Le.tt h1) (.cons (c_ref1_within N x0.Dst 32 h2) (.cons (Le.ff h3) .nil)))) (g_ref1_FlowMay_1 hc N hfin false h)
  · exact hc.jump (orc := [(1, [(2, { r := d_ref1_within v1 }), (3, { cv := some (.bool false) })])]) (m := 4) (kt := [2]) (kh := []) (by kernel_rfl) (.cons (c_ref1_within N x0.Src 32 h0) (.cons (Le.ff h1) .nil)) (g_ref1_FlowMay_1 hc N hfin false h)

theorem c_ref1_FlowMay (N : Nat) (x0 : GFlow) {r : Bool} (h : L_ref1_FlowMay N x0 = some r) : Con Try.prog 41 [.agg [.int .i64 x0.Src, .int .i64 x0.Dst, .int .i64 x0.Proto, .int .i64 x0.Sport, .int .i64 x0.Dport]] [] (d_ref1_FlowMay r) [] :=
  con_intro ok mix (fn := Try.f41) (body := bodyOf Try.f41) (by kernel_rfl) (by kernel_rfl) (by kernel_rfl) rfl (Nat.le_of_ble_eq_true (by kernel_rfl)) fun c h1 h2 h3 h4 hfin => g_ref1_FlowMay_0 ⟨h1, h2, h3, h4⟩ N hfin x0 h
/-! ### wharfage/wharfageref1.SegMay -/
def L_ref1_SegMay_2 (N : Nat) (t2 : Bool) : Option (Bool) :=
  some t2
def L_ref1_SegMay_3 (N : Nat) (t2 : Bool) : Option (Bool) :=
  some t2
def L_ref1_SegMay_1 (N : Nat) (b108_0 : Int) (b108_1 : Int) (b108_2 : Int) (b108_3 : Int) (b108_4 : Int) (b108_5 : Int) (b108_6 : ByteArray) (t18 : Bool) : Option (Bool) :=
  bif t18 then
    some false
  else
    bif (b108_0 == 17) then
      bif (b108_3 == 0) then
        bif (b108_4 == 0) then
          L_ref1_SegMay_2 N (b108_5 == 0)
        else
          L_ref1_SegMay_2 N false
      else
        L_ref1_SegMay_2 N false
    else
      bif (b108_0 == 6) then
        (L_ref1_within N b108_3 32).bind fun v1 =>
        bif v1 then
          (L_ref1_within N b108_4 32).bind fun v2 =>
          bif v2 then
            (L_ref1_within N b108_5 6).bind fun v3 =>
            L_ref1_SegMay_3 N v3
          else
            L_ref1_SegMay_3 N false
        else
          L_ref1_SegMay_3 N false
      else
        L_ref1_SegMay_3 N false
def L_ref1_SegMay (N : Nat) (x0 : GSeg) : Option (Bool) :=
  (L_ref1_within N x0.Sport 16).bind fun v1 =>
  bif (!v1) then
    L_ref1_SegMay_1 N x0.Proto x0.Sport x0.Dport x0.Seq x0.Ack x0.Flags x0.Body true
  else
    (L_ref1_within N x0.Dport 16).bind fun v2 =>
    bif (!v2) then
      L_ref1_SegMay_1 N x0.Proto x0.Sport x0.Dport x0.Seq x0.Ack x0.Flags x0.Body true
    else
      L_ref1_SegMay_1 N x0.Proto x0.Sport x0.Dport x0.Seq x0.Ack x0.Flags x0.Body (decide ((x0.Body.size : Int) > 256))
def d_ref1_SegMay (r : Bool) : D := .bool r
theorem g_ref1_SegMay_2 {c : Cx} (hc : Is c Try.prog ty 34 53) (N : Nat) {r : Bool} (hfin : c.Fin [] (d_ref1_SegMay r) []) (t2 : Bool) (h : L_ref1_SegMay_2 N t2 = some r) : c.Goes (items (bodyOf Try.f34) [.c 107, .c 15]) ⟨[(2, .bool t2)], []⟩ := by
  unfold L_ref1_SegMay_2 at h
  have h := Option.some.inj h
  refine hc.ret hfin (fn := Try.f34) (by kernel_rfl) (orc := []) (m := 0) (d := .bool t2) (by kernel_rfl) .nil ?_ ?_
  · rw [← h]; exact Le.of rfl
  · rw [← h]; rfl

theorem g_ref1_SegMay_3 {c : Cx} (hc : Is c Try.prog ty 34 53) (N : Nat) {r : Bool} (hfin : c.Fin [] (d_ref1_SegMay r) []) (t2 : Bool) (h : L_ref1_SegMay_3 N t2 = some r) : c.Goes (items (bodyOf Try.f34) [.c 31]) ⟨[(2, .bool t2)], []⟩ := by
  unfold L_ref1_SegMay_3 at h
  have h := Option.some.inj h
  refine hc.ret hfin (fn := Try.f34) (by kernel_rfl) (orc := []) (m := 0) (d := .bool t2) (by kernel_rfl) .nil ?_ ?_
  · rw [← h]; exact Le.of rfl
  · rw [← h]; rfl

theorem g_ref1_SegMay_1 {c : Cx} (hc : Is c Try.prog ty 34 53) (N : Nat) {r : Bool} (hfin : c.Fin [] (d_ref1_SegMay r) []) (b108_0 : Int) (b108_1 : Int) (b108_2 : Int) (b108_3 : Int) (b108_4 : Int) (b108_5 : Int) (b108_6 : ByteArray) (t18 : Bool) (h : L_ref1_SegMay_1 N b108_0 b108_1 b108_2 b108_3 b108_4 b108_5 b108_6 t18 = some r) : c.Goes (items (bodyOf Try.f34) [.c 13, .c 7]) ⟨[(1, .ptr 108 0), (18, .bool t18)], [(108, some ⟨false, 0, [.int .i64 b108_0, .int .i64 b108_1, .int .i64 b108_2, .int .i64 b108_3, .int .i64 b108_4, .int .i64 b108_5, .str b108_6]⟩)]⟩ := by
  unfold L_ref1_SegMay_1 at h
  rcases brk h with ⟨h0, k0⟩ | ⟨h0, k0⟩
  · subst h0
    replace h := k0
    have h := Option.some.inj h
    refine hc.ret hfin (fn := Try.f34) (by kernel_rfl) (orc := []) (m := 3) (d := .bool false) (by kernel_rfl) .nil ?_ ?_
    · rw [← h]; exact Le.of rfl
    · rw [← h]; rfl
  · subst h0
    replace h := k0
    rcases brk h with ⟨h1, h⟩ | ⟨h1, h⟩
    · rcases brk h with ⟨h2, h⟩ | ⟨h2, h⟩
      · rcases brk h with ⟨h3, h⟩ | ⟨h3, h⟩
        · exact hc.jump (orc := [(3, [(2, { cv := some (.bool true) })]), (4, [(3, { cv := some (.bool true) }), (8, { cv := some (.bool true) })])]) (m := 8) (kt := [2]) (kh := []) (by kernel_rfl) (.cons (Le.tt h1) (.cons (Le.tt h2) (.cons (Le.tt h3) .nil))) (g_ref1_SegMay_2 hc N hfin (b108_5 == 0) h)
        · exact hc.jump (orc := [(3, [(2, { cv := some (.bool true) })]), (4, [(3, { cv := some (.bool true) }), (8, { cv := some (.bool false) })])]) (m := 8) (kt := [2]) (kh := []) (by kernel_rfl) (.cons (Le.tt h1) (.cons (Le.tt h2) (.cons (Le.ff h3) .nil))) (g_ref1_SegMay_2 hc N hfin false h)
      · exact hc.jump (orc := [(3, [(2, { cv := some (.bool true) })]), (4, [(3, { cv := some (.bool false) })])]) (m := 8) (kt := [2]) (kh := []) (by kernel_rfl) (.cons (Le.tt h1) (.cons (Le.ff h2) .nil)) (g_ref1_SegMay_2 hc N hfin false h)
    · rcases brk h with ⟨h2, h⟩ | ⟨h2, h⟩
      · obtain ⟨v1, h3, h⟩ := bind_of h
        rcases brk h with ⟨h4, h⟩ | ⟨h4, h⟩
        · obtain ⟨v2, h5, h⟩ := bind_of h
          rcases brk h with ⟨h6, h⟩ | ⟨h6, h⟩
          · obtain ⟨v3, h7, h⟩ := bind_of h
            exact hc.jump (orc := [(3, [(2, { cv := some (.bool false) })]), (5, [(3, { cv := some (.bool true) }), (6, { r := d_ref1_within v1 }), (8, { cv := some (.bool true) }), (11, { r := d_ref1_within v2 }), (13, { cv := some (.bool true) }), (16, { r := d_ref1_within v3 })])]) (m := 9) (kt := [2]) (kh := []) (by kernel_rfl) (.cons (Le.ff h1) (.cons (Le.tt h2) (.cons (c_ref1_within N b108_3 32 h3) (.cons (Le.tt h4) (.cons (c_ref1_within N b108_4 32 h5) (.cons (Le.tt h6) (.cons (c_ref1_within N b108_5 6 h7) .nil))))))) (g_ref1_SegMay_3 hc N hfin v3 h)
          · exact hc.jump (orc := [(3, [(2, { cv := some (.bool false) })]), (5, [(3, { cv := some (.bool true) }), (6, { r := d_ref1_within v1 }), (8, { cv := some (.bool true) }), (11, { r := d_ref1_within v2 }), (13, { cv := some (.bool false) })])]) (m := 9) (kt := [2]) (kh := []) (by kernel_rfl) (.cons (Le.ff h1) (.cons (Le.tt h2) (.cons (c_ref1_within N b108_3 32 h3) (.cons (Le.tt h4) (.cons (c_ref1_within N b108_4 32 h5) (.cons (Le.ff h6) .nil)))))) (g_ref1_SegMay_3 hc N hfin false h)
        · exact hc.jump (orc := [(3, [(2, { cv := some (.bool false) })]), (5, [(3, { cv := some (.bool true) }), (6, { r := d_ref1_within v1 }), (8, { cv := some (.bool false) })])]) (m := 9) (kt := [2]) (kh := []) (by kernel_rfl) (.cons (Le.ff h1) (.cons (Le.tt h2) (.cons (c_ref1_within N b108_3 32 h3) (.cons (Le.ff h4) .nil)))) (g_ref1_SegMay_3 hc N hfin false h)
      · exact hc.jump (orc := [(3, [(2, { cv := some (.bool false) })]), (5, [(3, { cv := some (.bool false) })])]) (m := 9) (kt := [2]) (kh := []) (by kernel_rfl) (.cons (Le.ff h1) (.cons (Le.ff h2) .nil)) (g_ref1_SegMay_3 hc N hfin false h)

theorem g_ref1_SegMay_0 {c : Cx} (hc : Is c Try.prog ty 34 53) (N : Nat) {r : Bool} (hfin : c.Fin [] (d_ref1_SegMay r) []) (x0 : GSeg) (h : L_ref1_SegMay N x0 = some r) : c.Goes (items (bodyOf Try.f34) [.c 1]) ⟨[(0, .agg [.int .i64 x0.Proto, .int .i64 x0.Sport, .int .i64 x0.Dport, .int .i64 x0.Seq, .int .i64 x0.Ack, .int .i64 x0.Flags, .str x0.Body])], []⟩ := by
  unfold L_ref1_SegMay at h
  obtain ⟨v1, h0, h⟩ := bind_of h
  rcases brk h with ⟨h1, h⟩ | ⟨h1, h⟩
  · exact hc.jump (orc := [(1, [(2, { r := d_ref1_within v1 }), (4, { cv := some (.bool true) })])]) (m := 5) (kt := [1, 18]) (kh := [(108, 108)]) (by kernel_rfl) (.cons (c_ref1_within N x0.Sport 16 h0) (.cons (Le.tt h1) .nil)) (g_ref1_SegMay_1 hc N hfin x0.Proto x0.Sport x0.Dport x0.Seq x0.Ack x0.Flags x0.Body true h)
  · obtain ⟨v2, h2, h⟩ := bind_of h
    rcases brk h with ⟨h3, h⟩ | ⟨h3, h⟩
    · exact hc.jump (orc := [(1, [(2, { r := d_ref1_within v1 }), (4, { cv := some (.bool false) }), (7, { r := d_ref1_within v2 }), (10, { cv := some (.bool true) })])]) (m := 5) (kt := [1, 18]) (kh := [(108, 108)]) (by kernel_rfl) (.cons (c_ref1_within N x0.Sport 16 h0) (.cons (Le.ff h1) (.cons (c_ref1_within N x0.Dport 16 h2) (.cons (Le.tt h3) .nil)))) (g_ref1_SegMay_1 hc N hfin x0.Proto x0.Sport x0.Dport x0.Seq x0.Ack x0.Flags x0.Body true h)
    · exact hc.jump (orc := [(1, [(2, { r := d_ref1_within v1 }), (4, { cv := some (.bool false) }), (7, { r := d_ref1_within v2 }), (10, { cv := some (.bool false) })])]) (m := 5) (kt := [1, 18]) (kh := [(108, 108)]) (by kernel_rfl) (.cons (c_ref1_within N x0.Sport 16 h0) (.cons (Le.ff h1) (.cons (c_ref1_within N x0.Dport 16 h2) (.cons (Le.ff h3) .nil)))) (g_ref1_SegMay_1 hc N hfin x0.Proto x0.Sport x0.Dport x0.Seq x0.Ack x0.Flags x0.Body (decide ((x0.Body.size : Int) > 256)) h)

theorem c_ref1_SegMay (N : Nat) (x0 : GSeg) {r : Bool} (h : L_ref1_SegMay N x0 = some r) : Con Try.prog 34 [.agg [.int .i64 x0.Proto, .int .i64 x0.Sport, .int .i64 x0.Dport, .int .i64 x0.Seq, .int .i64 x0.Ack, .int .i64 x0.Flags, .str x0.Body]] [] (d_ref1_SegMay r) [] :=
  con_intro ok mix (fn := Try.f34) (body := bodyOf Try.f34) (by kernel_rfl) (by kernel_rfl) (by kernel_rfl) rfl (Nat.le_of_ble_eq_true (by kernel_rfl)) fun c h1 h2 h3 h4 hfin => g_ref1_SegMay_0 ⟨h1, h2, h3, h4⟩ N hfin x0 h
/-! ### wharfage/wharfageref1.Num -/
def L_ref1_Num_1 (N : Nat) : Nat → Int → (List Int) → Int → Option (ByteArray)
  | 0, _, _, _ => none
  | fuel + 1, t0, b140, t6 =>
    bif (decide (t6 ≥ 0)) then
      if 0 ≤ (IntKind.i64.wrap ((8 : Int) * t6)) then
      via ((t0.fdiv (2 ^ (min (IntKind.i64.wrap ((8 : Int) * t6)).toNat 64))) : Int) fun v1 =>
      if growOk 1 (b140.length + 1) then
      L_ref1_Num_1 N fuel t0 (b140 ++ [(IntKind.u8.wrap v1)]) (IntKind.i64.wrap (t6 - 1))
      else none
      else none
    else
      some (mkS b140)
def L_ref1_Num (N : Nat) (x0 : Int) (x1 : Int) : Option (ByteArray) :=
  L_ref1_Num_1 N N x0 ([]) (IntKind.i64.wrap (x1 - 1))
def d_ref1_Num (r : ByteArray) : D := .str r
theorem g_ref1_Num_1 {c : Cx} (hc : Is c Try.prog ty 52 23) (N : Nat) {r : ByteArray} (hfin : c.Fin [] (d_ref1_Num r) []) : ∀ (fuel : Nat) (t0 : Int) (b140 : (List Int)) (t6 : Int), L_ref1_Num_1 N fuel t0 b140 t6 = some r → c.Goes (items (bodyOf Try.f52) [.c 75, .l 75, .b 0, .c 15]) ⟨[(0, .int .i64 t0), (5, .ref 140 0 b140.length b140.length), (6, .int .i64 t6)], [(140, some ⟨true, 1, (eL (eInt .u8) b140)⟩)]⟩ := by
  intro fuel
  induction fuel with
  | zero => intro t0 b140 t6 h; simp [L_ref1_Num_1] at h
  | succ fuel ih =>
    intro t0 b140 t6 h
    unfold L_ref1_Num_1 at h
    rcases brk h with ⟨h0, h⟩ | ⟨h0, h⟩
    · obtain ⟨h1, h⟩ := chk h
      obtain ⟨v1, h2, h⟩ := via_some h
      obtain ⟨h3, h⟩ := chk h
      exact hc.jump (orc := [(3, [(1, { cv := some (.bool true) })]), (5, [(4, { cv := some (.int .i64 v1) }), (7, { cv := some (.ref 260 0 (b140 ++ [(IntKind.u8.wrap v1)]).length (b140 ++ [(IntKind.u8.wrap v1)]).length), cb := [(260, eL (eInt .u8) (b140 ++ [(IntKind.u8.wrap v1)]))] })])]) (m := 11) (kt := [0, 5, 6]) (kh := [(260, 140)]) (by kernel_rfl) (.cons (Le.tt h0) (.cons (h1) (.cons (Le.int (k := .i64) h2) (.cons ((by decide : 1 * 1 ≤ 1)) (.cons (ap_len (xs := b140) (eInt_len .u8)) (.cons (h3) (.cons (Le.apr (b := 260) (by simp : (b140 ++ [(IntKind.u8.wrap v1)]).length = b140.length + 1)) (.cons (ap_one (xs := b140) (eInt_len .u8) (y := (IntKind.u8.wrap v1)) (cs := [.int .u8 (IntKind.u8.wrap v1)]) rfl) .nil)))))))) (ih t0 (b140 ++ [(IntKind.u8.wrap v1)]) (IntKind.i64.wrap (t6 - 1)) h)
    · have h := Option.some.inj h
      refine hc.ret hfin (fn := Try.f52) (by kernel_rfl) (orc := [(3, [(1, { cv := some (.bool false) })]), (6, [(1, { cv := some (.str (mkS b140)) })])]) (m := 7) (d := .str (mkS b140)) (by kernel_rfl) (.cons (Le.ff h0) (.cons (byte_ok b140) (.cons (Le.str (bytesD_eq b140)) .nil))) ?_ ?_
      · rw [← h]; exact Le.of rfl
      · rw [← h]; rfl

theorem g_ref1_Num_0 {c : Cx} (hc : Is c Try.prog ty 52 23) (N : Nat) {r : ByteArray} (hfin : c.Fin [] (d_ref1_Num r) []) (x0 : Int) (x1 : Int) (h : L_ref1_Num N x0 x1 = some r) : c.Goes (items (bodyOf Try.f52) [.c 1]) ⟨[(0, .int .i64 x0), (1, .int .i64 x1)], []⟩ := by
  unfold L_ref1_Num at h
  exact hc.jump (orc := [(1, [(0, { own := some (1) })])]) (m := 9) (kt := [0, 5, 6]) (kh := [(140, 140)]) (by kernel_rfl) .nil (g_ref1_Num_1 hc N hfin N x0 ([]) (IntKind.i64.wrap (x1 - 1)) h)

theorem c_ref1_Num (N : Nat) (x0 : Int) (x1 : Int) {r : ByteArray} (h : L_ref1_Num N x0 x1 = some r) : Con Try.prog 52 [.int .i64 x0, .int .i64 x1] [] (d_ref1_Num r) [] :=
  con_intro ok mix (fn := Try.f52) (body := bodyOf Try.f52) (by kernel_rfl) (by kernel_rfl) (by kernel_rfl) rfl (Nat.le_of_ble_eq_true (by kernel_rfl)) fun c h1 h2 h3 h4 hfin => g_ref1_Num_0 ⟨h1, h2, h3, h4⟩ N hfin x0 x1 h
/-! ### wharfage/wharfageref1.fold -/
def L_ref1_fold_1 (N : Nat) : Nat → Int → Option (Int)
  | 0, _ => none
  | fuel + 1, t0 =>
    bif (decide (t0 > 65535)) then
      via ((IntKind.i64.wrap ((bAnd .i64 t0 65535) + (t0.fdiv (2 ^ 16)))) : Int) fun v1 =>
      L_ref1_fold_1 N fuel v1
    else
      some t0
def L_ref1_fold (N : Nat) (x0 : Int) : Option (Int) :=
  L_ref1_fold_1 N N x0
def d_ref1_fold (r : Int) : D := .int .i64 r
theorem g_ref1_fold_1 {c : Cx} (hc : Is c Try.prog ty 87 11) (N : Nat) {r : Int} (hfin : c.Fin [] (d_ref1_fold r) []) : ∀ (fuel : Nat) (t0 : Int), L_ref1_fold_1 N fuel t0 = some r → c.Goes (items (bodyOf Try.f87) [.c 17, .l 17, .b 0, .c 7]) ⟨[(0, .int .i64 t0)], []⟩ := by
  intro fuel
  induction fuel with
  | zero => intro t0 h; simp [L_ref1_fold_1] at h
  | succ fuel ih =>
    intro t0 h
    unfold L_ref1_fold_1 at h
    rcases brk h with ⟨h0, h⟩ | ⟨h0, h⟩
    · obtain ⟨v1, h1, h⟩ := via_some h
      exact hc.jump (orc := [(1, [(1, { cv := some (.bool true) })]), (2, [(4, { cv := some (.int .i64 v1) })])]) (m := 9) (kt := [0]) (kh := []) (by kernel_rfl) (.cons (Le.tt h0) (.cons ((by decide : (0:Int) ≤ 16)) (.cons (Le.int (k := .i64) h1) .nil))) (ih v1 h)
    · have h := Option.some.inj h
      refine hc.ret hfin (fn := Try.f87) (by kernel_rfl) (orc := [(1, [(1, { cv := some (.bool false) })])]) (m := 7) (d := .int .i64 t0) (by kernel_rfl) (.cons (Le.ff h0) .nil) ?_ ?_
      · rw [← h]; exact Le.of rfl
      · rw [← h]; rfl

theorem g_ref1_fold_0 {c : Cx} (hc : Is c Try.prog ty 87 11) (N : Nat) {r : Int} (hfin : c.Fin [] (d_ref1_fold r) []) (x0 : Int) (h : L_ref1_fold N x0 = some r) : c.Goes (items (bodyOf Try.f87) [.c 1]) ⟨[(0, .int .i64 x0)], []⟩ := by
  unfold L_ref1_fold at h
  exact hc.jump (orc := []) (m := 5) (kt := [0]) (kh := []) (by kernel_rfl) .nil (g_ref1_fold_1 hc N hfin N x0 h)

theorem c_ref1_fold (N : Nat) (x0 : Int) {r : Int} (h : L_ref1_fold N x0 = some r) : Con Try.prog 87 [.int .i64 x0] [] (d_ref1_fold r) [] :=
  con_intro ok mix (fn := Try.f87) (body := bodyOf Try.f87) (by kernel_rfl) (by kernel_rfl) (by kernel_rfl) rfl (Nat.le_of_ble_eq_true (by kernel_rfl)) fun c h1 h2 h3 h4 hfin => g_ref1_fold_0 ⟨h1, h2, h3, h4⟩ N hfin x0 h
/-! ### wharfage/wharfageref1.Sum -/
def L_ref1_Sum_2 (N : Nat) (r1 : ByteArray → Int → Int → Option (Int)) (t0 : ByteArray) (t3 : Int) (t4 : Int) : Option (Int) :=
  (L_ref1_fold N t3).bind fun v1 =>
  r1 t0 v1 (IntKind.i64.wrap (t4 + 2))
def L_ref1_Sum_1 (N : Nat) : Nat → ByteArray → Int → Int → Option (Int)
  | 0, _, _, _ => none
  | fuel + 1, t0, t3, t4 =>
    bif (decide (t4 < (t0.size : Int))) then
      if 0 ≤ t4 ∧ t4 < (t0.size : Int) then
      via ((IntKind.i64.wrap ((IntKind.i64.wrap (bt t0 t4)) * 2 ^ 8)) : Int) fun v1 =>
      bif (decide ((IntKind.i64.wrap (t4 + 1)) < (t0.size : Int))) then
        if 0 ≤ (IntKind.i64.wrap (t4 + 1)) ∧ (IntKind.i64.wrap (t4 + 1)) < (t0.size : Int) then
        via ((IntKind.i64.wrap (bt t0 (IntKind.i64.wrap (t4 + 1)))) : Int) fun v2 =>
        via ((IntKind.i64.wrap ((IntKind.i64.wrap (t3 + v1)) + v2)) : Int) fun v3 =>
        L_ref1_Sum_2 N (L_ref1_Sum_1 N fuel) t0 v3 t4
        else none
      else
        L_ref1_Sum_2 N (L_ref1_Sum_1 N fuel) t0 (IntKind.i64.wrap (t3 + v1)) t4
      else none
    else
      some t3
def L_ref1_Sum (N : Nat) (x0 : ByteArray) : Option (Int) :=
  L_ref1_Sum_1 N N x0 0 0
def d_ref1_Sum (r : Int) : D := .int .i64 r
theorem g_ref1_Sum_2 {c : Cx} (hc : Is c Try.prog ty 69 33) (N : Nat) {r : Int} (hfin : c.Fin [] (d_ref1_Sum r) []) (r1 : ByteArray → Int → Int → Option (Int)) (hr1 : ∀ (t0 : ByteArray) (t3 : Int) (t4 : Int), r1 t0 t3 t4 = some r → c.Goes (items (bodyOf Try.f69) [.c 75, .l 75, .b 0, .c 15]) ⟨[(0, .str t0), (3, .int .i64 t3), (4, .int .i64 t4)], []⟩) (t0 : ByteArray) (t3 : Int) (t4 : Int) (h : L_ref1_Sum_2 N r1 t0 t3 t4 = some r) : c.Goes (items (bodyOf Try.f69) [.c 3659, .b 1, .c 459, .l 75, .b 0, .c 15]) ⟨[(0, .str t0), (3, .int .i64 t3), (4, .int .i64 t4)], []⟩ := by
  unfold L_ref1_Sum_2 at h
  obtain ⟨v1, h0, h⟩ := bind_of h
  exact hc.jump (orc := [(8, [(1, { r := d_ref1_fold v1 })])]) (m := 4) (kt := [0, 3, 4]) (kh := []) (by kernel_rfl) (.cons (c_ref1_fold N t3 h0) .nil) (hr1 t0 v1 (IntKind.i64.wrap (t4 + 2)) h)

theorem g_ref1_Sum_1 {c : Cx} (hc : Is c Try.prog ty 69 33) (N : Nat) {r : Int} (hfin : c.Fin [] (d_ref1_Sum r) []) : ∀ (fuel : Nat) (t0 : ByteArray) (t3 : Int) (t4 : Int), L_ref1_Sum_1 N fuel t0 t3 t4 = some r → c.Goes (items (bodyOf Try.f69) [.c 75, .l 75, .b 0, .c 15]) ⟨[(0, .str t0), (3, .int .i64 t3), (4, .int .i64 t4)], []⟩ := by
  intro fuel
  induction fuel with
  | zero => intro t0 t3 t4 h; simp [L_ref1_Sum_1] at h
  | succ fuel ih =>
    intro t0 t3 t4 h
    unfold L_ref1_Sum_1 at h
    rcases brk h with ⟨h0, h⟩ | ⟨h0, h⟩
    · obtain ⟨h1, h⟩ := chk h
      obtain ⟨v1, h2, h⟩ := via_some h
      rcases brk h with ⟨h3, h⟩ | ⟨h3, h⟩
      · obtain ⟨h4, h⟩ := chk h
        obtain ⟨v2, h5, h⟩ := via_some h
        obtain ⟨v3, h6, h⟩ := via_some h
        exact hc.jump (orc := [(3, [(3, { cv := some (.bool true) })]), (5, [(5, { cv := some (.int .i64 v1) })]), (6, [(4, { cv := some (.bool true) })]), (7, [(5, { cv := some (.int .i64 v2) }), (6, { cv := some (.int .i64 v3) })])]) (m := 14) (kt := [0, 3, 4]) (kh := []) (by kernel_rfl) (.cons (Le.tt h0) (.cons (h1) (.cons ((by decide : (0:Int) ≤ 8)) (.cons (Le.int (k := .i64) h2) (.cons (Le.tt h3) (.cons (h4) (.cons (Le.int (k := .i64) h5) (.cons (Le.int (k := .i64) h6) .nil)))))))) (g_ref1_Sum_2 hc N hfin (L_ref1_Sum_1 N fuel) ih t0 v3 t4 h)
      · exact hc.jump (orc := [(3, [(3, { cv := some (.bool true) })]), (5, [(5, { cv := some (.int .i64 v1) })]), (6, [(4, { cv := some (.bool false) })])]) (m := 14) (kt := [0, 3, 4]) (kh := []) (by kernel_rfl) (.cons (Le.tt h0) (.cons (h1) (.cons ((by decide : (0:Int) ≤ 8)) (.cons (Le.int (k := .i64) h2) (.cons (Le.ff h3) .nil))))) (g_ref1_Sum_2 hc N hfin (L_ref1_Sum_1 N fuel) ih t0 (IntKind.i64.wrap (t3 + v1)) t4 h)
    · have h := Option.some.inj h
      refine hc.ret hfin (fn := Try.f69) (by kernel_rfl) (orc := [(3, [(3, { cv := some (.bool false) })])]) (m := 7) (d := .int .i64 t3) (by kernel_rfl) (.cons (Le.ff h0) .nil) ?_ ?_
      · rw [← h]; exact Le.of rfl
      · rw [← h]; rfl

theorem g_ref1_Sum_0 {c : Cx} (hc : Is c Try.prog ty 69 33) (N : Nat) {r : Int} (hfin : c.Fin [] (d_ref1_Sum r) []) (x0 : ByteArray) (h : L_ref1_Sum N x0 = some r) : c.Goes (items (bodyOf Try.f69) [.c 1]) ⟨[(0, .str x0)], []⟩ := by
  unfold L_ref1_Sum at h
  exact hc.jump (orc := []) (m := 9) (kt := [0, 3, 4]) (kh := []) (by kernel_rfl) .nil (g_ref1_Sum_1 hc N hfin N x0 0 0 h)

theorem c_ref1_Sum (N : Nat) (x0 : ByteArray) {r : Int} (h : L_ref1_Sum N x0 = some r) : Con Try.prog 69 [.str x0] [] (d_ref1_Sum r) [] :=
  con_intro ok mix (fn := Try.f69) (body := bodyOf Try.f69) (by kernel_rfl) (by kernel_rfl) (by kernel_rfl) rfl (Nat.le_of_ble_eq_true (by kernel_rfl)) fun c h1 h2 h3 h4 hfin => g_ref1_Sum_0 ⟨h1, h2, h3, h4⟩ N hfin x0 h
/-! ### wharfage/wharfageref1.pseudo -/
def L_ref1_pseudo (N : Nat) (x0 : Int) (x1 : ByteArray) (x2 : Int) (x3 : Int) : Option (Int) :=
  (L_ref1_Num N x2 4).bind fun v1 =>
  (L_ref1_Num N x3 4).bind fun v2 =>
  if ((v1.size + v2.size : Nat) : Int) ≤ 9223372036854775807 then
  (L_ref1_Num N x0 2).bind fun v3 =>
  if (((v1 ++ v2).size + v3.size : Nat) : Int) ≤ 9223372036854775807 then
  (L_ref1_Num N (x1.size : Int) 2).bind fun v4 =>
  if ((((v1 ++ v2) ++ v3).size + v4.size : Nat) : Int) ≤ 9223372036854775807 then
  if (((((v1 ++ v2) ++ v3) ++ v4).size + x1.size : Nat) : Int) ≤ 9223372036854775807 then
  (L_ref1_Sum N ((((v1 ++ v2) ++ v3) ++ v4) ++ x1)).bind fun v5 =>
  some v5
  else none
  else none
  else none
  else none
def d_ref1_pseudo (r : Int) : D := .int .i64 r
theorem g_ref1_pseudo_0 {c : Cx} (hc : Is c Try.prog ty 62 24) (N : Nat) {r : Int} (hfin : c.Fin [] (d_ref1_pseudo r) []) (x0 : Int) (x1 : ByteArray) (x2 : Int) (x3 : Int) (h : L_ref1_pseudo N x0 x1 x2 x3 = some r) : c.Goes (items (bodyOf Try.f62) [.c 1]) ⟨[(0, .int .i64 x0), (1, .str x1), (2, .int .i64 x2), (3, .int .i64 x3)], []⟩ := by
  unfold L_ref1_pseudo at h
  obtain ⟨v1, h0, h⟩ := bind_of h
  obtain ⟨v2, h1, h⟩ := bind_of h
  obtain ⟨h2, h⟩ := chk h
  obtain ⟨v3, h3, h⟩ := bind_of h
  obtain ⟨h4, h⟩ := chk h
  obtain ⟨v4, h5, h⟩ := bind_of h
  obtain ⟨h6, h⟩ := chk h
  obtain ⟨h7, h⟩ := chk h
  obtain ⟨v5, h8, h⟩ := bind_of h
  have h := Option.some.inj h
  refine hc.ret hfin (fn := Try.f62) (by kernel_rfl) (orc := [(1, [(1, { r := d_ref1_Num v1 }), (3, { r := d_ref1_Num v2 }), (6, { r := d_ref1_Num v3 }), (10, { r := d_ref1_Num v4 }), (14, { r := d_ref1_Sum v5 })])]) (m := 4) (d := .int .i64 v5) (by kernel_rfl) (.cons (c_ref1_Num N x2 4 h0) (.cons (c_ref1_Num N x3 4 h1) (.cons (h2) (.cons (c_ref1_Num N x0 2 h3) (.cons (h4) (.cons (c_ref1_Num N (x1.size : Int) 2 h5) (.cons (h6) (.cons (h7) (.cons (c_ref1_Sum N ((((v1 ++ v2) ++ v3) ++ v4) ++ x1) h8) .nil))))))))) ?_ ?_
  · rw [← h]; exact Le.of rfl
  · rw [← h]; rfl

theorem c_ref1_pseudo (N : Nat) (x0 : Int) (x1 : ByteArray) (x2 : Int) (x3 : Int) {r : Int} (h : L_ref1_pseudo N x0 x1 x2 x3 = some r) : Con Try.prog 62 [.int .i64 x0, .str x1, .int .i64 x2, .int .i64 x3] [] (d_ref1_pseudo r) [] :=
  con_intro ok mix (fn := Try.f62) (body := bodyOf Try.f62) (by kernel_rfl) (by kernel_rfl) (by kernel_rfl) rfl (Nat.le_of_ble_eq_true (by kernel_rfl)) fun c h1 h2 h3 h4 hfin => g_ref1_pseudo_0 ⟨h1, h2, h3, h4⟩ N hfin x0 x1 x2 x3 h
/-! ### wharfage/wharfageref1.PutSeg -/
def L_ref1_PutSeg_2 (N : Nat) (b124_0 : Int) (b124_1 : Int) (b124_2 : Int) (b124_3 : Int) (b124_4 : Int) (b124_5 : Int) (b124_6 : ByteArray) (t8 : ByteArray) (t10 : Int) : Option (ByteArray × Int) :=
  (L_ref1_Num N t10 2).bind fun v1 =>
  if ((t8.size + v1.size : Nat) : Int) ≤ 9223372036854775807 then
  if (((t8 ++ v1).size + b124_6.size : Nat) : Int) ≤ 9223372036854775807 then
  some (((t8 ++ v1) ++ b124_6), 0)
  else none
  else none
def L_ref1_PutSeg_1 (N : Nat) (t1 : Int) (t2 : Int) (b124_0 : Int) (b124_1 : Int) (b124_2 : Int) (b124_3 : Int) (b124_4 : Int) (b124_5 : Int) (b124_6 : ByteArray) (t23 : Bool) : Option (ByteArray × Int) :=
  bif t23 then
    some (ByteArray.empty, 300)
  else
    (L_ref1_Num N b124_1 2).bind fun v1 =>
    (L_ref1_Num N b124_2 2).bind fun v2 =>
    if ((v1.size + v2.size : Nat) : Int) ≤ 9223372036854775807 then
    bif (b124_0 == 6) then
      (L_ref1_Num N b124_3 4).bind fun v3 =>
      if (((v1 ++ v2).size + v3.size : Nat) : Int) ≤ 9223372036854775807 then
      (L_ref1_Num N b124_4 4).bind fun v4 =>
      if ((((v1 ++ v2) ++ v3).size + v4.size : Nat) : Int) ≤ 9223372036854775807 then
      if (((((v1 ++ v2) ++ v3) ++ v4).size + (ByteArray.mk #[80]).size : Nat) : Int) ≤ 9223372036854775807 then
      via (((((v1 ++ v2) ++ v3) ++ v4) ++ (ByteArray.mk #[80])) : ByteArray) fun v5 =>
      (L_ref1_Num N b124_5 1).bind fun v6 =>
      if ((v5.size + v6.size : Nat) : Int) ≤ 9223372036854775807 then
      (L_ref1_Num N 1024 2).bind fun v7 =>
      if (((v5 ++ v6).size + v7.size : Nat) : Int) ≤ 9223372036854775807 then
      if (((ByteArray.mk #[0, 0]).size + b124_6.size : Nat) : Int) ≤ 9223372036854775807 then
      if ((((v5 ++ v6) ++ v7).size + (ByteArray.mk #[0, 0]).size : Nat) : Int) ≤ 9223372036854775807 then
      via ((((v5 ++ v6) ++ v7) ++ (ByteArray.mk #[0, 0])) : ByteArray) fun v8 =>
      if ((v8.size + ((ByteArray.mk #[0, 0]) ++ b124_6).size : Nat) : Int) ≤ 9223372036854775807 then
      (L_ref1_pseudo N b124_0 (v8 ++ ((ByteArray.mk #[0, 0]) ++ b124_6)) t1 t2).bind fun v9 =>
      (L_ref1_Num N (IntKind.i64.wrap ((65535 : Int) - v9)) 2).bind fun v10 =>
      if ((((v5 ++ v6) ++ v7).size + v10.size : Nat) : Int) ≤ 9223372036854775807 then
      if (((((v5 ++ v6) ++ v7) ++ v10).size + ((ByteArray.mk #[0, 0]) ++ b124_6).size : Nat) : Int) ≤ 9223372036854775807 then
      via (((((v5 ++ v6) ++ v7) ++ v10) ++ ((ByteArray.mk #[0, 0]) ++ b124_6)) : ByteArray) fun v11 =>
      some (v11, 0)
      else none
      else none
      else none
      else none
      else none
      else none
      else none
      else none
      else none
      else none
    else
      via ((IntKind.i64.wrap ((8 : Int) + (b124_6.size : Int))) : Int) fun v3 =>
      (L_ref1_Num N v3 2).bind fun v4 =>
      if (((v1 ++ v2).size + v4.size : Nat) : Int) ≤ 9223372036854775807 then
      if ((((v1 ++ v2) ++ v4).size + (ByteArray.mk #[0, 0]).size : Nat) : Int) ≤ 9223372036854775807 then
      via ((((v1 ++ v2) ++ v4) ++ (ByteArray.mk #[0, 0])) : ByteArray) fun v5 =>
      if ((v5.size + b124_6.size : Nat) : Int) ≤ 9223372036854775807 then
      (L_ref1_pseudo N b124_0 (v5 ++ b124_6) t1 t2).bind fun v6 =>
      bif ((IntKind.i64.wrap ((65535 : Int) - v6)) == 0) then
        L_ref1_PutSeg_2 N b124_0 b124_1 b124_2 b124_3 b124_4 b124_5 b124_6 ((v1 ++ v2) ++ v4) 65535
      else
        L_ref1_PutSeg_2 N b124_0 b124_1 b124_2 b124_3 b124_4 b124_5 b124_6 ((v1 ++ v2) ++ v4) (IntKind.i64.wrap ((65535 : Int) - v6))
      else none
      else none
      else none
    else none
def L_ref1_PutSeg (N : Nat) (x0 : GSeg) (x1 : Int) (x2 : Int) : Option (ByteArray × Int) :=
  (L_ref1_SegMay N x0).bind fun v1 =>
  bif (!v1) then
    L_ref1_PutSeg_1 N x1 x2 x0.Proto x0.Sport x0.Dport x0.Seq x0.Ack x0.Flags x0.Body true
  else
    (L_ref1_within N x1 32).bind fun v2 =>
    bif (!v2) then
      L_ref1_PutSeg_1 N x1 x2 x0.Proto x0.Sport x0.Dport x0.Seq x0.Ack x0.Flags x0.Body true
    else
      (L_ref1_within N x2 32).bind fun v3 =>
      L_ref1_PutSeg_1 N x1 x2 x0.Proto x0.Sport x0.Dport x0.Seq x0.Ack x0.Flags x0.Body (!v3)
def d_ref1_PutSeg (r : ByteArray × Int) : D := .tup [.str r.1, .int .i64 r.2]
theorem g_ref1_PutSeg_2 {c : Cx} (hc : Is c Try.prog ty 30 95) (N : Nat) {r : ByteArray × Int} (hfin : c.Fin [] (d_ref1_PutSeg r) []) (b124_0 : Int) (b124_1 : Int) (b124_2 : Int) (b124_3 : Int) (b124_4 : Int) (b124_5 : Int) (b124_6 : ByteArray) (t8 : ByteArray) (t10 : Int) (h : L_ref1_PutSeg_2 N b124_0 b124_1 b124_2 b124_3 b124_4 b124_5 b124_6 t8 t10 = some r) : c.Goes (items (bodyOf Try.f30) [.c 255]) ⟨[(3, .ptr 124 0), (8, .str t8), (10, .int .i64 t10)], [(124, some ⟨false, 0, [.int .i64 b124_0, .int .i64 b124_1, .int .i64 b124_2, .int .i64 b124_3, .int .i64 b124_4, .int .i64 b124_5, .str b124_6]⟩)]⟩ := by
  unfold L_ref1_PutSeg_2 at h
  obtain ⟨v1, h0, h⟩ := bind_of h
  obtain ⟨h1, h⟩ := chk h
  obtain ⟨h2, h⟩ := chk h
  have h := Option.some.inj h
  refine hc.ret hfin (fn := Try.f30) (by kernel_rfl) (orc := [(12, [(2, { r := d_ref1_Num v1 })])]) (m := 2) (d := .tup [.str ((t8 ++ v1) ++ b124_6), .int .i64 0]) (by kernel_rfl) (.cons (c_ref1_Num N t10 2 h0) (.cons (h1) (.cons (h2) .nil))) ?_ ?_
  · rw [← h]; exact Le.of rfl
  · rw [← h]; rfl

theorem g_ref1_PutSeg_1 {c : Cx} (hc : Is c Try.prog ty 30 95) (N : Nat) {r : ByteArray × Int} (hfin : c.Fin [] (d_ref1_PutSeg r) []) (t1 : Int) (t2 : Int) (b124_0 : Int) (b124_1 : Int) (b124_2 : Int) (b124_3 : Int) (b124_4 : Int) (b124_5 : Int) (b124_6 : ByteArray) (t23 : Bool) (h : L_ref1_PutSeg_1 N t1 t2 b124_0 b124_1 b124_2 b124_3 b124_4 b124_5 b124_6 t23 = some r) : c.Goes (items (bodyOf Try.f30) [.c 13, .c 7]) ⟨[(1, .int .i64 t1), (2, .int .i64 t2), (3, .ptr 124 0), (23, .bool t23)], [(124, some ⟨false, 0, [.int .i64 b124_0, .int .i64 b124_1, .int .i64 b124_2, .int .i64 b124_3, .int .i64 b124_4, .int .i64 b124_5, .str b124_6]⟩)]⟩ := by
  unfold L_ref1_PutSeg_1 at h
  rcases brk h with ⟨h0, k0⟩ | ⟨h0, k0⟩
  · subst h0
    replace h := k0
    have h := Option.some.inj h
    refine hc.ret hfin (fn := Try.f30) (by kernel_rfl) (orc := []) (m := 3) (d := .tup [.str ByteArray.empty, .int .i64 300]) (by kernel_rfl) .nil ?_ ?_
    · rw [← h]; exact Le.of rfl
    · rw [← h]; rfl
  · subst h0
    replace h := k0
    obtain ⟨v1, h1, h⟩ := bind_of h
    obtain ⟨v2, h2, h⟩ := bind_of h
    obtain ⟨h3, h⟩ := chk h
    rcases brk h with ⟨h4, h⟩ | ⟨h4, h⟩
    · obtain ⟨v3, h5, h⟩ := bind_of h
      obtain ⟨h6, h⟩ := chk h
      obtain ⟨v4, h7, h⟩ := bind_of h
      obtain ⟨h8, h⟩ := chk h
      obtain ⟨h9, h⟩ := chk h
      obtain ⟨v5, h10, h⟩ := via_some h
      obtain ⟨v6, h11, h⟩ := bind_of h
      obtain ⟨h12, h⟩ := chk h
      obtain ⟨v7, h13, h⟩ := bind_of h
      obtain ⟨h14, h⟩ := chk h
      obtain ⟨h15, h⟩ := chk h
      obtain ⟨h16, h⟩ := chk h
      obtain ⟨v8, h17, h⟩ := via_some h
      obtain ⟨h18, h⟩ := chk h
      obtain ⟨v9, h19, h⟩ := bind_of h
      obtain ⟨v10, h20, h⟩ := bind_of h
      obtain ⟨h21, h⟩ := chk h
      obtain ⟨h22, h⟩ := chk h
      obtain ⟨v11, h23, h⟩ := via_some h
      have h := Option.some.inj h
      refine hc.ret hfin (fn := Try.f30) (by kernel_rfl) (orc := [(3, [(2, { r := d_ref1_Num v1 }), (5, { r := d_ref1_Num v2 })]), (4, [(2, { cv := some (.bool true) })]), (5, [(3, { r := d_ref1_Num v3 }), (7, { r := d_ref1_Num v4 }), (9, { cv := some (.str v5) }), (12, { r := d_ref1_Num v6 }), (14, { r := d_ref1_Num v7 })]), (7, [(4, { cv := some (.str v8) }), (9, { r := d_ref1_pseudo v9 }), (11, { r := d_ref1_Num v10 }), (14, { cv := some (.str v11) })])]) (m := 14) (d := .tup [.str v11, .int .i64 0]) (by kernel_rfl) (.cons (c_ref1_Num N b124_1 2 h1) (.cons (c_ref1_Num N b124_2 2 h2) (.cons (h3) (.cons (Le.tt h4) (.cons (c_ref1_Num N b124_3 4 h5) (.cons (h6) (.cons (c_ref1_Num N b124_4 4 h7) (.cons (h8) (.cons (h9) (.cons (Le.str h10) (.cons (c_ref1_Num N b124_5 1 h11) (.cons (h12) (.cons (c_ref1_Num N 1024 2 h13) (.cons (h14) (.cons (h15) (.cons (h16) (.cons (Le.str h17) (.cons (h18) (.cons (c_ref1_pseudo N b124_0 (v8 ++ ((ByteArray.mk #[0, 0]) ++ b124_6)) t1 t2 h19) (.cons (c_ref1_Num N (IntKind.i64.wrap ((65535 : Int) - v9)) 2 h20) (.cons (h21) (.cons (h22) (.cons (Le.str h23) .nil))))))))))))))))))))))) ?_ ?_
      · rw [← h]; exact Le.of rfl
      · rw [← h]; rfl
    · obtain ⟨v3, h5, h⟩ := via_some h
      obtain ⟨v4, h6, h⟩ := bind_of h
      obtain ⟨h7, h⟩ := chk h
      obtain ⟨h8, h⟩ := chk h
      obtain ⟨v5, h9, h⟩ := via_some h
      obtain ⟨h10, h⟩ := chk h
      obtain ⟨v6, h11, h⟩ := bind_of h
      rcases brk h with ⟨h12, h⟩ | ⟨h12, h⟩
      · exact hc.jump (orc := [(3, [(2, { r := d_ref1_Num v1 }), (5, { r := d_ref1_Num v2 })]), (4, [(2, { cv := some (.bool false) })]), (8, [(4, { cv := some (.int .i64 v3) }), (5, { r := d_ref1_Num v4 })]), (9, [(3, { cv := some (.str v5) }), (9, { r := d_ref1_pseudo v6 })]), (10, [(1, { cv := some (.bool true) })])]) (m := 18) (kt := [3, 8, 10]) (kh := [(124, 124)]) (by kernel_rfl) (.cons (c_ref1_Num N b124_1 2 h1) (.cons (c_ref1_Num N b124_2 2 h2) (.cons (h3) (.cons (Le.ff h4) (.cons (Le.int (k := .i64) h5) (.cons (c_ref1_Num N v3 2 h6) (.cons (h7) (.cons (h8) (.cons (Le.str h9) (.cons (h10) (.cons (c_ref1_pseudo N b124_0 (v5 ++ b124_6) t1 t2 h11) (.cons (Le.tt h12) .nil)))))))))))) (g_ref1_PutSeg_2 hc N hfin b124_0 b124_1 b124_2 b124_3 b124_4 b124_5 b124_6 ((v1 ++ v2) ++ v4) 65535 h)
      · exact hc.jump (orc := [(3, [(2, { r := d_ref1_Num v1 }), (5, { r := d_ref1_Num v2 })]), (4, [(2, { cv := some (.bool false) })]), (8, [(4, { cv := some (.int .i64 v3) }), (5, { r := d_ref1_Num v4 })]), (9, [(3, { cv := some (.str v5) }), (9, { r := d_ref1_pseudo v6 })]), (10, [(1, { cv := some (.bool false) })])]) (m := 18) (kt := [3, 8, 10]) (kh := [(124, 124)]) (by kernel_rfl) (.cons (c_ref1_Num N b124_1 2 h1) (.cons (c_ref1_Num N b124_2 2 h2) (.cons (h3) (.cons (Le.ff h4) (.cons (Le.int (k := .i64) h5) (.cons (c_ref1_Num N v3 2 h6) (.cons (h7) (.cons (h8) (.cons (Le.str h9) (.cons (h10) (.cons (c_ref1_pseudo N b124_0 (v5 ++ b124_6) t1 t2 h11) (.cons (Le.ff h12) .nil)))))))))))) (g_ref1_PutSeg_2 hc N hfin b124_0 b124_1 b124_2 b124_3 b124_4 b124_5 b124_6 ((v1 ++ v2) ++ v4) (IntKind.i64.wrap ((65535 : Int) - v6)) h)

theorem g_ref1_PutSeg_0 {c : Cx} (hc : Is c Try.prog ty 30 95) (N : Nat) {r : ByteArray × Int} (hfin : c.Fin [] (d_ref1_PutSeg r) []) (x0 : GSeg) (x1 : Int) (x2 : Int) (h : L_ref1_PutSeg N x0 x1 x2 = some r) : c.Goes (items (bodyOf Try.f30) [.c 1]) ⟨[(0, .agg [.int .i64 x0.Proto, .int .i64 x0.Sport, .int .i64 x0.Dport, .int .i64 x0.Seq, .int .i64 x0.Ack, .int .i64 x0.Flags, .str x0.Body]), (1, .int .i64 x1), (2, .int .i64 x2)], []⟩ := by
  unfold L_ref1_PutSeg at h
  obtain ⟨v1, h0, h⟩ := bind_of h
  rcases brk h with ⟨h1, h⟩ | ⟨h1, h⟩
  · exact hc.jump (orc := [(1, [(1, { r := d_ref1_SegMay v1 }), (3, { cv := some (.bool true) })])]) (m := 5) (kt := [1, 2, 3, 23]) (kh := [(124, 124)]) (by kernel_rfl) (.cons (c_ref1_SegMay N x0 h0) (.cons (Le.tt h1) .nil)) (g_ref1_PutSeg_1 hc N hfin x1 x2 x0.Proto x0.Sport x0.Dport x0.Seq x0.Ack x0.Flags x0.Body true h)
  · obtain ⟨v2, h2, h⟩ := bind_of h
    rcases brk h with ⟨h3, h⟩ | ⟨h3, h⟩
    · exact hc.jump (orc := [(1, [(1, { r := d_ref1_SegMay v1 }), (3, { cv := some (.bool false) }), (5, { r := d_ref1_within v2 }), (8, { cv := some (.bool true) })])]) (m := 5) (kt := [1, 2, 3, 23]) (kh := [(124, 124)]) (by kernel_rfl) (.cons (c_ref1_SegMay N x0 h0) (.cons (Le.ff h1) (.cons (c_ref1_within N x1 32 h2) (.cons (Le.tt h3) .nil)))) (g_ref1_PutSeg_1 hc N hfin x1 x2 x0.Proto x0.Sport x0.Dport x0.Seq x0.Ack x0.Flags x0.Body true h)
    · obtain ⟨v3, h4, h⟩ := bind_of h
      exact hc.jump (orc := [(1, [(1, { r := d_ref1_SegMay v1 }), (3, { cv := some (.bool false) }), (5, { r := d_ref1_within v2 }), (8, { cv := some (.bool false) }), (10, { r := d_ref1_within v3 })])]) (m := 5) (kt := [1, 2, 3, 23]) (kh := [(124, 124)]) (by kernel_rfl) (.cons (c_ref1_SegMay N x0 h0) (.cons (Le.ff h1) (.cons (c_ref1_within N x1 32 h2) (.cons (Le.ff h3) (.cons (c_ref1_within N x2 32 h4) .nil))))) (g_ref1_PutSeg_1 hc N hfin x1 x2 x0.Proto x0.Sport x0.Dport x0.Seq x0.Ack x0.Flags x0.Body (!v3) h)

theorem c_ref1_PutSeg (N : Nat) (x0 : GSeg) (x1 : Int) (x2 : Int) {r : ByteArray × Int} (h : L_ref1_PutSeg N x0 x1 x2 = some r) : Con Try.prog 30 [.agg [.int .i64 x0.Proto, .int .i64 x0.Sport, .int .i64 x0.Dport, .int .i64 x0.Seq, .int .i64 x0.Ack, .int .i64 x0.Flags, .str x0.Body], .int .i64 x1, .int .i64 x2] [] (d_ref1_PutSeg r) [] :=
  con_intro ok mix (fn := Try.f30) (body := bodyOf Try.f30) (by kernel_rfl) (by kernel_rfl) (by kernel_rfl) rfl (Nat.le_of_ble_eq_true (by kernel_rfl)) fun c h1 h2 h3 h4 hfin => g_ref1_PutSeg_0 ⟨h1, h2, h3, h4⟩ N hfin x0 x1 x2 h
/-! ### wharfage/wharfageref1.IpMay -/
def L_ref1_IpMay_1 (N : Nat) (t2 : Bool) : Option (Bool) :=
  some t2
def L_ref1_IpMay (N : Nat) (x0 : GIp) : Option (Bool) :=
  (L_ref1_within N x0.Src 32).bind fun v1 =>
  bif v1 then
    (L_ref1_within N x0.Dst 32).bind fun v2 =>
    bif v2 then
      (L_ref1_within N x0.Proto 8).bind fun v3 =>
      bif v3 then
        (L_ref1_within N x0.Ttl 8).bind fun v4 =>
        bif v4 then
          (L_ref1_within N x0.Id 16).bind fun v5 =>
          bif v5 then
            L_ref1_IpMay_1 N (decide ((x0.Body.size : Int) ≤ 492))
          else
            L_ref1_IpMay_1 N false
        else
          L_ref1_IpMay_1 N false
      else
        L_ref1_IpMay_1 N false
    else
      L_ref1_IpMay_1 N false
  else
    L_ref1_IpMay_1 N false
def d_ref1_IpMay (r : Bool) : D := .bool r
theorem g_ref1_IpMay_1 {c : Cx} (hc : Is c Try.prog ty 68 32) (N : Nat) {r : Bool} (hfin : c.Fin [] (d_ref1_IpMay r) []) (t2 : Bool) (h : L_ref1_IpMay_1 N t2 = some r) : c.Goes (items (bodyOf Try.f68) [.c 7]) ⟨[(2, .bool t2)], []⟩ := by
  unfold L_ref1_IpMay_1 at h
  have h := Option.some.inj h
  refine hc.ret hfin (fn := Try.f68) (by kernel_rfl) (orc := []) (m := 0) (d := .bool t2) (by kernel_rfl) .nil ?_ ?_
  · rw [← h]; exact Le.of rfl
  · rw [← h]; rfl

theorem g_ref1_IpMay_0 {c : Cx} (hc : Is c Try.prog ty 68 32) (N : Nat) {r : Bool} (hfin : c.Fin [] (d_ref1_IpMay r) []) (x0 : GIp) (h : L_ref1_IpMay N x0 = some r) : c.Goes (items (bodyOf Try.f68) [.c 1]) ⟨[(0, .agg [.int .i64 x0.Src, .int .i64 x0.Dst, .int .i64 x0.Proto, .int .i64 x0.Ttl, .int .i64 x0.Id, .str x0.Body])], []⟩ := by
  unfold L_ref1_IpMay at h
  obtain ⟨v1, h0, h⟩ := bind_of h
  rcases brk h with ⟨h1, h⟩ | ⟨h1, h⟩
  · obtain ⟨v2, h2, h⟩ := bind_of h
    rcases brk h with ⟨h3, h⟩ | ⟨h3, h⟩
    · obtain ⟨v3, h4, h⟩ := bind_of h
      rcases brk h with ⟨h5, h⟩ | ⟨h5, h⟩
      · obtain ⟨v4, h6, h⟩ := bind_of h
        rcases brk h with ⟨h7, h⟩ | ⟨h7, h⟩
        · obtain ⟨v5, h8, h⟩ := bind_of h
          rcases brk h with ⟨h9, h⟩ | ⟨h9, h⟩
          · exact hc.jump (orc := [(1, [(2, { r := d_ref1_within v1 }), (3, { cv := some (.bool true) }), (6, { r := d_ref1_within v2 }), (8, { cv := some (.bool true) }), (11, { r := d_ref1_within v3 }), (13, { cv := some (.bool true) }), (16, { r := d_ref1_within v4 }), (18, { cv := some (.bool true) }), (21, { r := d_ref1_within v5 }), (23, { cv := some (.bool true) })])]) (m := 4) (kt := [2]) (kh := []) (by kernel_rfl) (.cons (c_ref1_within N x0.Src 32 h0) (.cons (Le.tt h1) (.cons (c_ref1_within N x0.Dst 32 h2) (.cons (Le.tt h3) (.cons (c_ref1_within N x0.Proto 8 h4) (.cons (Le.tt h5) (.cons (c_ref1_within N x0.Ttl 8 h6) (.cons (Le.tt h7) (.cons (c_ref1_within N x0.Id 16 h8) (.cons (Le.tt h9) .nil)))))))))) (g_ref1_IpMay_1 hc N hfin (decide ((x0.Body.size : Int) ≤ 492)) h)
          · exact hc.jump (orc := [(1, [(2, { r := d_ref1_within v1 }), (3, { cv := some (.bool true) }), (6, { r := d_ref1_within v2 }), (8, { cv := some (.bool true) }), (11, { r := d_ref1_within v3 }), (13, { cv := some (.bool true) }), (16, { r := d_ref1_within v4 }), (18, { cv := some (.bool true) }), (21, { r := d_ref1_within v5 }), (23, { cv := some (.bool false) })])]) (m := 4) (kt := [2]) (kh := []) (by kernel_rfl) (.cons (c_ref1_within N x0.Src 32 h0) (.cons (Le.tt h1) (.cons (c_ref1_within N x0.Dst 32 h2) (.cons (Le.tt h3) (.cons (c_ref1_within N x0.Proto 8 h4) (.cons (Le.tt h5) (.cons (c_ref1_within N x0.Ttl 8 h6) (.cons (Le.tt h7) (.cons (c_ref1_within N x0.Id 16 h8) (.cons (Le.ff h9) .nil)))))))))) (g_ref1_IpMay_1 hc N hfin false h)
        · exact hc.jump (orc := [(1, [(2, { r := d_ref1_within v1 }), (3, { cv := some (.bool true) }), (6, { r := d_ref1_within v2 }), (8, { cv := some (.bool true) }), (11, { r := d_ref1_within v3 }), (13, { cv := some (.bool true) }), (16, { r := d_ref1_within v4 }), (18, { cv := some (.bool false) })])]) (m := 4) (kt := [2]) (kh := []) (by kernel_rfl) (.cons (c_ref1_within N x0.Src 32 h0) (.cons (Le.tt h1) (.cons (c_ref1_within N x0.Dst 32 h2) (.cons (Le.tt h3) (.cons (c_ref1_within N x0.Proto 8 h4) (.cons (Le.tt h5) (.cons (c_ref1_within N x0.Ttl 8 h6) (.cons (Le.ff h7) .nil)))))))) (g_ref1_IpMay_1 hc N hfin false h)
      · exact hc.jump (orc := [(1, [(2, { r := d_ref1_within v1 }), (3, { cv := some (.bool true) }), (6, { r := d_ref1_within v2 }), (8, { cv := some (.bool true) }), (11, { r := d_ref1_within v3 }), (13, { cv := some (.bool false) })])]) (m := 4) (kt := [2]) (kh := []) (by kernel_rfl) (.cons (c_ref1_within N x0.Src 32 h0) (.cons (Le.tt h1) (.cons (c_ref1_within N x0.Dst 32 h2) (.cons (Le.tt h3) (.cons (c_ref1_within N x0.Proto 8 h4) (.cons (Le.ff h5) .nil)))))) (g_ref1_IpMay_1 hc N hfin false h)
    · exact hc.jump (orc := [(1, [(2, { r := d_ref1_within v1 }), (3, { cv := some (.bool true) }), (6, { r := d_ref1_within v2 }), (8, { cv := some (.bool false) })])]) (m := 4) (kt := [2]) (kh := []) (by kernel_rfl) (.cons (c_ref1_within N x0.Src 32 h0) (.cons (Le.tt h1) (.cons (c_ref1_within N x0.Dst 32 h2) (.cons (Le.ff h3) .nil)))) (g_ref1_IpMay_1 hc N hfin false h)
  · exact hc.jump (orc := [(1, [(2, { r := d_ref1_within v1 }), (3, { cv := some (.bool false) })])]) (m := 4) (kt := [2]) (kh := []) (by kernel_rfl) (.cons (c_ref1_within N x0.Src 32 h0) (.cons (Le.ff h1) .nil)) (g_ref1_IpMay_1 hc N hfin false h)

theorem c_ref1_IpMay (N : Nat) (x0 : GIp) {r : Bool} (h : L_ref1_IpMay N x0 = some r) : Con Try.prog 68 [.agg [.int .i64 x0.Src, .int .i64 x0.Dst, .int .i64 x0.Proto, .int .i64 x0.Ttl, .int .i64 x0.Id, .str x0.Body]] [] (d_ref1_IpMay r) [] :=
  con_intro ok mix (fn := Try.f68) (body := bodyOf Try.f68) (by kernel_rfl) (by kernel_rfl) (by kernel_rfl) rfl (Nat.le_of_ble_eq_true (by kernel_rfl)) fun c h1 h2 h3 h4 hfin => g_ref1_IpMay_0 ⟨h1, h2, h3, h4⟩ N hfin x0 h
/-! ### wharfage/wharfageref1.PutIp -/
def L_ref1_PutIp (N : Nat) (x0 : GIp) : Option (ByteArray × Int) :=
  (L_ref1_IpMay N x0).bind fun v1 =>
  bif (!v1) then
    some (ByteArray.empty, 200)
  else
    via ((IntKind.i64.wrap ((20 : Int) + (x0.Body.size : Int))) : Int) fun v2 =>
    (L_ref1_Num N v2 2).bind fun v3 =>
    if (((ByteArray.mk #[69, 0]).size + v3.size : Nat) : Int) ≤ 9223372036854775807 then
    (L_ref1_Num N x0.Id 2).bind fun v4 =>
    if ((((ByteArray.mk #[69, 0]) ++ v3).size + v4.size : Nat) : Int) ≤ 9223372036854775807 then
    if (((((ByteArray.mk #[69, 0]) ++ v3) ++ v4).size + (ByteArray.mk #[64, 0]).size : Nat) : Int) ≤ 9223372036854775807 then
    via (((((ByteArray.mk #[69, 0]) ++ v3) ++ v4) ++ (ByteArray.mk #[64, 0])) : ByteArray) fun v5 =>
    (L_ref1_Num N x0.Ttl 1).bind fun v6 =>
    if ((v5.size + v6.size : Nat) : Int) ≤ 9223372036854775807 then
    (L_ref1_Num N x0.Proto 1).bind fun v7 =>
    if (((v5 ++ v6).size + v7.size : Nat) : Int) ≤ 9223372036854775807 then
    (L_ref1_Num N x0.Src 4).bind fun v8 =>
    (L_ref1_Num N x0.Dst 4).bind fun v9 =>
    if ((v8.size + v9.size : Nat) : Int) ≤ 9223372036854775807 then
    if ((((v5 ++ v6) ++ v7).size + (ByteArray.mk #[0, 0]).size : Nat) : Int) ≤ 9223372036854775807 then
    via ((((v5 ++ v6) ++ v7) ++ (ByteArray.mk #[0, 0])) : ByteArray) fun v10 =>
    if ((v10.size + (v8 ++ v9).size : Nat) : Int) ≤ 9223372036854775807 then
    (L_ref1_Sum N (v10 ++ (v8 ++ v9))).bind fun v11 =>
    (L_ref1_Num N (IntKind.i64.wrap ((65535 : Int) - v11)) 2).bind fun v12 =>
    if ((((v5 ++ v6) ++ v7).size + v12.size : Nat) : Int) ≤ 9223372036854775807 then
    if (((((v5 ++ v6) ++ v7) ++ v12).size + (v8 ++ v9).size : Nat) : Int) ≤ 9223372036854775807 then
    if ((((((v5 ++ v6) ++ v7) ++ v12) ++ (v8 ++ v9)).size + x0.Body.size : Nat) : Int) ≤ 9223372036854775807 then
    via ((((((v5 ++ v6) ++ v7) ++ v12) ++ (v8 ++ v9)) ++ x0.Body) : ByteArray) fun v13 =>
    some (v13, 0)
    else none
    else none
    else none
    else none
    else none
    else none
    else none
    else none
    else none
    else none
    else none
def d_ref1_PutIp (r : ByteArray × Int) : D := .tup [.str r.1, .int .i64 r.2]
theorem g_ref1_PutIp_0 {c : Cx} (hc : Is c Try.prog ty 43 49) (N : Nat) {r : ByteArray × Int} (hfin : c.Fin [] (d_ref1_PutIp r) []) (x0 : GIp) (h : L_ref1_PutIp N x0 = some r) : c.Goes (items (bodyOf Try.f43) [.c 1]) ⟨[(0, .agg [.int .i64 x0.Src, .int .i64 x0.Dst, .int .i64 x0.Proto, .int .i64 x0.Ttl, .int .i64 x0.Id, .str x0.Body])], []⟩ := by
  unfold L_ref1_PutIp at h
  obtain ⟨v1, h0, h⟩ := bind_of h
  rcases brk h with ⟨h1, h⟩ | ⟨h1, h⟩
  · have h := Option.some.inj h
    refine hc.ret hfin (fn := Try.f43) (by kernel_rfl) (orc := [(1, [(1, { r := d_ref1_IpMay v1 }), (2, { cv := some (.bool true) })])]) (m := 8) (d := .tup [.str ByteArray.empty, .int .i64 200]) (by kernel_rfl) (.cons (c_ref1_IpMay N x0 h0) (.cons (Le.tt h1) .nil)) ?_ ?_
    · rw [← h]; exact Le.of rfl
    · rw [← h]; rfl
  · obtain ⟨v2, h2, h⟩ := via_some h
    obtain ⟨v3, h3, h⟩ := bind_of h
    obtain ⟨h4, h⟩ := chk h
    obtain ⟨v4, h5, h⟩ := bind_of h
    obtain ⟨h6, h⟩ := chk h
    obtain ⟨h7, h⟩ := chk h
    obtain ⟨v5, h8, h⟩ := via_some h
    obtain ⟨v6, h9, h⟩ := bind_of h
    obtain ⟨h10, h⟩ := chk h
    obtain ⟨v7, h11, h⟩ := bind_of h
    obtain ⟨h12, h⟩ := chk h
    obtain ⟨v8, h13, h⟩ := bind_of h
    obtain ⟨v9, h14, h⟩ := bind_of h
    obtain ⟨h15, h⟩ := chk h
    obtain ⟨h16, h⟩ := chk h
    obtain ⟨v10, h17, h⟩ := via_some h
    obtain ⟨h18, h⟩ := chk h
    obtain ⟨v11, h19, h⟩ := bind_of h
    obtain ⟨v12, h20, h⟩ := bind_of h
    obtain ⟨h21, h⟩ := chk h
    obtain ⟨h22, h⟩ := chk h
    obtain ⟨h23, h⟩ := chk h
    obtain ⟨v13, h24, h⟩ := via_some h
    have h := Option.some.inj h
    refine hc.ret hfin (fn := Try.f43) (by kernel_rfl) (orc := [(1, [(1, { r := d_ref1_IpMay v1 }), (2, { cv := some (.bool false) })]), (3, [(3, { cv := some (.int .i64 v2) }), (4, { r := d_ref1_Num v3 }), (8, { r := d_ref1_Num v4 }), (10, { cv := some (.str v5) }), (13, { r := d_ref1_Num v6 }), (17, { r := d_ref1_Num v7 })]), (4, [(2, { r := d_ref1_Num v8 }), (5, { r := d_ref1_Num v9 })]), (5, [(2, { cv := some (.str v10) }), (5, { r := d_ref1_Sum v11 }), (7, { r := d_ref1_Num v12 }), (13, { cv := some (.str v13) })])]) (m := 13) (d := .tup [.str v13, .int .i64 0]) (by kernel_rfl) (.cons (c_ref1_IpMay N x0 h0) (.cons (Le.ff h1) (.cons (Le.int (k := .i64) h2) (.cons (c_ref1_Num N v2 2 h3) (.cons (h4) (.cons (c_ref1_Num N x0.Id 2 h5) (.cons (h6) (.cons (h7) (.cons (Le.str h8) (.cons (c_ref1_Num N x0.Ttl 1 h9) (.cons (h10) (.cons (c_ref1_Num N x0.Proto 1 h11) (.cons (h12) (.cons (c_ref1_Num N x0.Src 4 h13) (.cons (c_ref1_Num N x0.Dst 4 h14) (.cons (h15) (.cons (h16) (.cons (Le.str h17) (.cons (h18) (.cons (c_ref1_Sum N (v10 ++ (v8 ++ v9)) h19) (.cons (c_ref1_Num N (IntKind.i64.wrap ((65535 : Int) - v11)) 2 h20) (.cons (h21) (.cons (h22) (.cons (h23) (.cons (Le.str h24) .nil))))))))))))))))))))))))) ?_ ?_
    · rw [← h]; exact Le.of rfl
    · rw [← h]; rfl

theorem c_ref1_PutIp (N : Nat) (x0 : GIp) {r : ByteArray × Int} (h : L_ref1_PutIp N x0 = some r) : Con Try.prog 43 [.agg [.int .i64 x0.Src, .int .i64 x0.Dst, .int .i64 x0.Proto, .int .i64 x0.Ttl, .int .i64 x0.Id, .str x0.Body]] [] (d_ref1_PutIp r) [] :=
  con_intro ok mix (fn := Try.f43) (body := bodyOf Try.f43) (by kernel_rfl) (by kernel_rfl) (by kernel_rfl) rfl (Nat.le_of_ble_eq_true (by kernel_rfl)) fun c h1 h2 h3 h4 hfin => g_ref1_PutIp_0 ⟨h1, h2, h3, h4⟩ N hfin x0 h
/-! ### wharfage/wharfageref1.PacketOf -/
def L_ref1_PacketOf_1 (N : Nat) (b124_0 : Int) (b124_1 : Int) (b124_2 : Int) (b124_3 : Int) (b124_4 : Int) (b164_0 : Int) (b164_1 : Int) (b164_2 : Int) (b164_3 : Int) (b164_4 : Int) (b164_5 : Int) (b164_6 : ByteArray) (t29 : Bool) : Option (ByteArray × Int) :=
  bif t29 then
    some (ByteArray.empty, 400)
  else
    (L_ref1_PutSeg N (GSeg.mk b164_0 b164_1 b164_2 b164_3 b164_4 b164_5 b164_6) b124_0 b124_1).bind fun v1 =>
    (L_ref1_PutIp N (GIp.mk b124_0 b124_1 b124_2 64 0 v1.1)).bind fun v2 =>
    some (v2.1, 0)
def L_ref1_PacketOf (N : Nat) (x0 : GFlow) (x1 : Int) (x2 : ByteArray) : Option (ByteArray × Int) :=
  (L_ref1_FlowMay N x0).bind fun v1 =>
  bif (!v1) then
    L_ref1_PacketOf_1 N x0.Src x0.Dst x0.Proto x0.Sport x0.Dport x0.Proto x0.Sport x0.Dport 0 0 x1 x2 true
  else
    (L_ref1_SegMay N (GSeg.mk x0.Proto x0.Sport x0.Dport 0 0 x1 x2)).bind fun v2 =>
    L_ref1_PacketOf_1 N x0.Src x0.Dst x0.Proto x0.Sport x0.Dport x0.Proto x0.Sport x0.Dport 0 0 x1 x2 (!v2)
def d_ref1_PacketOf (r : ByteArray × Int) : D := .tup [.str r.1, .int .i64 r.2]
theorem g_ref1_PacketOf_1 {c : Cx} (hc : Is c Try.prog ty 37 52) (N : Nat) {r : ByteArray × Int} (hfin : c.Fin [] (d_ref1_PacketOf r) []) (b124_0 : Int) (b124_1 : Int) (b124_2 : Int) (b124_3 : Int) (b124_4 : Int) (b164_0 : Int) (b164_1 : Int) (b164_2 : Int) (b164_3 : Int) (b164_4 : Int) (b164_5 : Int) (b164_6 : ByteArray) (t29 : Bool) (h : L_ref1_PacketOf_1 N b124_0 b124_1 b124_2 b124_3 b124_4 b164_0 b164_1 b164_2 b164_3 b164_4 b164_5 b164_6 t29 = some r) : c.Goes (items (bodyOf Try.f37) [.c 27, .c 15]) ⟨[(3, .ptr 124 0), (8, .ptr 164 0), (29, .bool t29)], [(124, some ⟨false, 0, [.int .i64 b124_0, .int .i64 b124_1, .int .i64 b124_2, .int .i64 b124_3, .int .i64 b124_4]⟩), (164, some ⟨false, 0, [.int .i64 b164_0, .int .i64 b164_1, .int .i64 b164_2, .int .i64 b164_3, .int .i64 b164_4, .int .i64 b164_5, .str b164_6]⟩)]⟩ := by
  unfold L_ref1_PacketOf_1 at h
  rcases brk h with ⟨h0, k0⟩ | ⟨h0, k0⟩
  · subst h0
    replace h := k0
    have h := Option.some.inj h
    refine hc.ret hfin (fn := Try.f37) (by kernel_rfl) (orc := []) (m := 3) (d := .tup [.str ByteArray.empty, .int .i64 400]) (by kernel_rfl) .nil ?_ ?_
    · rw [← h]; exact Le.of rfl
    · rw [← h]; rfl
  · subst h0
    replace h := k0
    obtain ⟨v1, h1, h⟩ := bind_of h
    obtain ⟨v2, h2, h⟩ := bind_of h
    have h := Option.some.inj h
    refine hc.ret hfin (fn := Try.f37) (by kernel_rfl) (orc := [(4, [(5, { r := d_ref1_PutSeg v1 })]), (5, [(8, { r := d_ref1_PutIp v2 })])]) (m := 8) (d := .tup [.str v2.1, .int .i64 0]) (by kernel_rfl) (.cons (c_ref1_PutSeg N (GSeg.mk b164_0 b164_1 b164_2 b164_3 b164_4 b164_5 b164_6) b124_0 b124_1 h1) (.cons (c_ref1_PutIp N (GIp.mk b124_0 b124_1 b124_2 64 0 v1.1) h2) .nil)) ?_ ?_
    · rw [← h]; exact Le.of rfl
    · rw [← h]; rfl

theorem g_ref1_PacketOf_0 {c : Cx} (hc : Is c Try.prog ty 37 52) (N : Nat) {r : ByteArray × Int} (hfin : c.Fin [] (d_ref1_PacketOf r) []) (x0 : GFlow) (x1 : Int) (x2 : ByteArray) (h : L_ref1_PacketOf N x0 x1 x2 = some r) : c.Goes (items (bodyOf Try.f37) [.c 1]) ⟨[(0, .agg [.int .i64 x0.Src, .int .i64 x0.Dst, .int .i64 x0.Proto, .int .i64 x0.Sport, .int .i64 x0.Dport]), (1, .int .i64 x1), (2, .str x2)], []⟩ := by
  unfold L_ref1_PacketOf at h
  obtain ⟨v1, h0, h⟩ := bind_of h
  rcases brk h with ⟨h1, h⟩ | ⟨h1, h⟩
  · exact hc.jump (orc := [(2, [(1, { r := d_ref1_FlowMay v1 }), (3, { cv := some (.bool true) })])]) (m := 7) (kt := [3, 8, 29]) (kh := [(124, 124), (164, 164)]) (by kernel_rfl) (.cons (c_ref1_FlowMay N x0 h0) (.cons (Le.tt h1) .nil)) (g_ref1_PacketOf_1 hc N hfin x0.Src x0.Dst x0.Proto x0.Sport x0.Dport x0.Proto x0.Sport x0.Dport 0 0 x1 x2 true h)
  · obtain ⟨v2, h2, h⟩ := bind_of h
    exact hc.jump (orc := [(2, [(1, { r := d_ref1_FlowMay v1 }), (3, { cv := some (.bool false) }), (5, { r := d_ref1_SegMay v2 })])]) (m := 7) (kt := [3, 8, 29]) (kh := [(124, 124), (164, 164)]) (by kernel_rfl) (.cons (c_ref1_FlowMay N x0 h0) (.cons (Le.ff h1) (.cons (c_ref1_SegMay N (GSeg.mk x0.Proto x0.Sport x0.Dport 0 0 x1 x2) h2) .nil))) (g_ref1_PacketOf_1 hc N hfin x0.Src x0.Dst x0.Proto x0.Sport x0.Dport x0.Proto x0.Sport x0.Dport 0 0 x1 x2 (!v2) h)

theorem c_ref1_PacketOf (N : Nat) (x0 : GFlow) (x1 : Int) (x2 : ByteArray) {r : ByteArray × Int} (h : L_ref1_PacketOf N x0 x1 x2 = some r) : Con Try.prog 37 [.agg [.int .i64 x0.Src, .int .i64 x0.Dst, .int .i64 x0.Proto, .int .i64 x0.Sport, .int .i64 x0.Dport], .int .i64 x1, .str x2] [] (d_ref1_PacketOf r) [] :=
  con_intro ok mix (fn := Try.f37) (body := bodyOf Try.f37) (by kernel_rfl) (by kernel_rfl) (by kernel_rfl) rfl (Nat.le_of_ble_eq_true (by kernel_rfl)) fun c h1 h2 h3 h4 hfin => g_ref1_PacketOf_0 ⟨h1, h2, h3, h4⟩ N hfin x0 x1 x2 h
/-! ### wharfage/ip.Number -/
def L_ip_Number_1 (N : Nat) : Nat → ByteArray → Int → Int → Int → Option (Int)
  | 0, _, _, _, _ => none
  | fuel + 1, t0, t3, t6, t7 =>
    bif (decide (t7 < t6)) then
      if 0 ≤ t7 ∧ t7 < (t0.size : Int) then
      via ((bOr .i64 (IntKind.i64.wrap (t3 * 2 ^ 8)) (IntKind.i64.wrap (bt t0 t7))) : Int) fun v1 =>
      L_ip_Number_1 N fuel t0 v1 t6 (IntKind.i64.wrap (t7 + 1))
      else none
    else
      some t3
def L_ip_Number (N : Nat) (x0 : ByteArray) : Option (Int) :=
  L_ip_Number_1 N N x0 0 (x0.size : Int) 0
def d_ip_Number (r : Int) : D := .int .i64 r
theorem g_ip_Number_1 {c : Cx} (hc : Is c Try.prog ty 53 19) (N : Nat) {r : Int} (hfin : c.Fin [] (d_ip_Number r) []) : ∀ (fuel : Nat) (t0 : ByteArray) (t3 : Int) (t6 : Int) (t7 : Int), L_ip_Number_1 N fuel t0 t3 t6 t7 = some r → c.Goes (items (bodyOf Try.f53) [.c 75, .l 75, .b 0, .c 15]) ⟨[(0, .str t0), (3, .int .i64 t3), (6, .int .i64 t6), (7, .int .i64 t7)], []⟩ := by
  intro fuel
  induction fuel with
  | zero => intro t0 t3 t6 t7 h; simp [L_ip_Number_1] at h
  | succ fuel ih =>
    intro t0 t3 t6 t7 h
    unfold L_ip_Number_1 at h
    rcases brk h with ⟨h0, h⟩ | ⟨h0, h⟩
    · obtain ⟨h1, h⟩ := chk h
      obtain ⟨v1, h2, h⟩ := via_some h
      exact hc.jump (orc := [(3, [(0, { cv := some (.bool true) })]), (5, [(6, { cv := some (.int .i64 v1) })])]) (m := 13) (kt := [0, 3, 6, 7]) (kh := []) (by kernel_rfl) (.cons (Le.tt h0) (.cons ((by decide : (0:Int) ≤ 8)) (.cons (h1) (.cons (Le.int (k := .i64) h2) .nil)))) (ih t0 v1 t6 (IntKind.i64.wrap (t7 + 1)) h)
    · have h := Option.some.inj h
      refine hc.ret hfin (fn := Try.f53) (by kernel_rfl) (orc := [(3, [(0, { cv := some (.bool false) })])]) (m := 7) (d := .int .i64 t3) (by kernel_rfl) (.cons (Le.ff h0) .nil) ?_ ?_
      · rw [← h]; exact Le.of rfl
      · rw [← h]; rfl

theorem g_ip_Number_0 {c : Cx} (hc : Is c Try.prog ty 53 19) (N : Nat) {r : Int} (hfin : c.Fin [] (d_ip_Number r) []) (x0 : ByteArray) (h : L_ip_Number N x0 = some r) : c.Goes (items (bodyOf Try.f53) [.c 1]) ⟨[(0, .str x0)], []⟩ := by
  unfold L_ip_Number at h
  exact hc.jump (orc := []) (m := 9) (kt := [0, 3, 6, 7]) (kh := []) (by kernel_rfl) .nil (g_ip_Number_1 hc N hfin N x0 0 (x0.size : Int) 0 h)

theorem c_ip_Number (N : Nat) (x0 : ByteArray) {r : Int} (h : L_ip_Number N x0 = some r) : Con Try.prog 53 [.str x0] [] (d_ip_Number r) [] :=
  con_intro ok mix (fn := Try.f53) (body := bodyOf Try.f53) (by kernel_rfl) (by kernel_rfl) (by kernel_rfl) rfl (Nat.le_of_ble_eq_true (by kernel_rfl)) fun c h1 h2 h3 h4 hfin => g_ip_Number_0 ⟨h1, h2, h3, h4⟩ N hfin x0 h
/-! ### wharfage/ip.words -/
def L_ip_words_3 (N : Nat) (t2 : Int) (t3 : Bool) : Option (Int × Bool) :=
  some (t2, t3)
def L_ip_words_2 (N : Nat) (t0 : ByteArray) (t4 : Int) (t31 : Bool) : Option (Int × Bool) :=
  bif t31 then
    some (0, false)
  else
    if 0 ≤ (4 : Int) ∧ (4 : Int) ≤ (t0.size : Int) ∧ 0 ≤ (2 : Int) ∧ (2 : Int) ≤ (4 : Int) then
    (L_ip_Number N (t0.extract 2 4)).bind fun v1 =>
    bif (v1 == (t0.size : Int)) then
      if 0 ≤ (IntKind.i64.wrap ((4 : Int) * t4)) ∧ (IntKind.i64.wrap ((4 : Int) * t4)) ≤ (t0.size : Int) ∧ 0 ≤ (0 : Int) ∧ (0 : Int) ≤ (IntKind.i64.wrap ((4 : Int) * t4)) then
      via ((t0.extract 0 (IntKind.i64.wrap ((4 : Int) * t4)).toNat) : ByteArray) fun v2 =>
      (L_sum_Sum N v2).bind fun v3 =>
      L_ip_words_3 N t4 (v3 == 65535)
      else none
    else
      L_ip_words_3 N t4 false
    else none
def L_ip_words_1 (N : Nat) (t0 : ByteArray) (t12 : Bool) : Option (Int × Bool) :=
  bif t12 then
    some (0, false)
  else
    if 0 ≤ (0 : Int) ∧ (0 : Int) < (t0.size : Int) then
    if 0 ≤ (0 : Int) ∧ (0 : Int) < (t0.size : Int) then
    bif (((bt t0 0).fdiv (2 ^ 4)) != 4) then
      L_ip_words_2 N t0 (IntKind.i64.wrap (bAnd .u8 (bt t0 0) 15)) true
    else
      bif (decide ((IntKind.i64.wrap (bAnd .u8 (bt t0 0) 15)) < 5)) then
        L_ip_words_2 N t0 (IntKind.i64.wrap (bAnd .u8 (bt t0 0) 15)) true
      else
        via ((IntKind.i64.wrap ((4 : Int) * (IntKind.i64.wrap (bAnd .u8 (bt t0 0) 15)))) : Int) fun v1 =>
        L_ip_words_2 N t0 (IntKind.i64.wrap (bAnd .u8 (bt t0 0) 15)) (decide (v1 > (t0.size : Int)))
    else none
    else none
def L_ip_words (N : Nat) (x0 : ByteArray) : Option (Int × Bool) :=
  bif (decide ((x0.size : Int) < 20)) then
    L_ip_words_1 N x0 true
  else
    L_ip_words_1 N x0 (decide ((x0.size : Int) > 512))
def d_ip_words (r : Int × Bool) : D := .tup [.int .i64 r.1, .bool r.2]
theorem g_ip_words_3 {c : Cx} (hc : Is c Try.prog ty 86 47) (N : Nat) {r : Int × Bool} (hfin : c.Fin [] (d_ip_words r) []) (t2 : Int) (t3 : Bool) (h : L_ip_words_3 N t2 t3 = some r) : c.Goes (items (bodyOf Try.f86) [.c 63]) ⟨[(2, .int .i64 t2), (3, .bool t3)], []⟩ := by
  unfold L_ip_words_3 at h
  have h := Option.some.inj h
  refine hc.ret hfin (fn := Try.f86) (by kernel_rfl) (orc := []) (m := 0) (d := .tup [.int .i64 t2, .bool t3]) (by kernel_rfl) .nil ?_ ?_
  · rw [← h]; exact Le.of rfl
  · rw [← h]; rfl

theorem g_ip_words_2 {c : Cx} (hc : Is c Try.prog ty 86 47) (N : Nat) {r : Int × Bool} (hfin : c.Fin [] (d_ip_words r) []) (t0 : ByteArray) (t4 : Int) (t31 : Bool) (h : L_ip_words_2 N t0 t4 t31 = some r) : c.Goes (items (bodyOf Try.f86) [.c 55, .c 31]) ⟨[(0, .str t0), (4, .int .i64 t4), (31, .bool t31)], []⟩ := by
  unfold L_ip_words_2 at h
  rcases brk h with ⟨h0, k0⟩ | ⟨h0, k0⟩
  · subst h0
    replace h := k0
    have h := Option.some.inj h
    refine hc.ret hfin (fn := Try.f86) (by kernel_rfl) (orc := []) (m := 3) (d := .tup [.int .i64 0, .bool false]) (by kernel_rfl) .nil ?_ ?_
    · rw [← h]; exact Le.of rfl
    · rw [← h]; rfl
  · subst h0
    replace h := k0
    obtain ⟨h1, h⟩ := chk h
    obtain ⟨v1, h2, h⟩ := bind_of h
    rcases brk h with ⟨h3, h⟩ | ⟨h3, h⟩
    · obtain ⟨h4, h⟩ := chk h
      obtain ⟨v2, h5, h⟩ := via_some h
      obtain ⟨v3, h6, h⟩ := bind_of h
      exact hc.jump (orc := [(6, [(3, { r := d_ip_Number v1 }), (7, { cv := some (.bool true) }), (11, { cv := some (.str v2) }), (12, { r := d_sum_Sum v3 })])]) (m := 4) (kt := [2, 3]) (kh := []) (by kernel_rfl) (.cons (h1) (.cons (c_ip_Number N (t0.extract 2 4) h2) (.cons (Le.tt h3) (.cons (h4) (.cons (Le.str h5) (.cons (c_sum_Sum N v2 h6) .nil)))))) (g_ip_words_3 hc N hfin t4 (v3 == 65535) h)
    · exact hc.jump (orc := [(6, [(3, { r := d_ip_Number v1 }), (7, { cv := some (.bool false) })])]) (m := 4) (kt := [2, 3]) (kh := []) (by kernel_rfl) (.cons (h1) (.cons (c_ip_Number N (t0.extract 2 4) h2) (.cons (Le.ff h3) .nil))) (g_ip_words_3 hc N hfin t4 false h)

theorem g_ip_words_1 {c : Cx} (hc : Is c Try.prog ty 86 47) (N : Nat) {r : Int × Bool} (hfin : c.Fin [] (d_ip_words r) []) (t0 : ByteArray) (t12 : Bool) (h : L_ip_words_1 N t0 t12 = some r) : c.Goes (items (bodyOf Try.f86) [.c 13, .c 7]) ⟨[(0, .str t0), (12, .bool t12)], []⟩ := by
  unfold L_ip_words_1 at h
  rcases brk h with ⟨h0, k0⟩ | ⟨h0, k0⟩
  · subst h0
    replace h := k0
    have h := Option.some.inj h
    refine hc.ret hfin (fn := Try.f86) (by kernel_rfl) (orc := []) (m := 3) (d := .tup [.int .i64 0, .bool false]) (by kernel_rfl) .nil ?_ ?_
    · rw [← h]; exact Le.of rfl
    · rw [← h]; rfl
  · subst h0
    replace h := k0
    obtain ⟨h1, h⟩ := chk h
    obtain ⟨h2, h⟩ := chk h
    rcases brk h with ⟨h3, h⟩ | ⟨h3, h⟩
    · exact hc.jump (orc := [(4, [(4, { cv := some (.bool true) })])]) (m := 7) (kt := [0, 4, 31]) (kh := []) (by kernel_rfl) (.cons (h1) (.cons (h2) (.cons ((by decide : (0:Int) ≤ 4)) (.cons (Le.tt h3) .nil)))) (g_ip_words_2 hc N hfin t0 (IntKind.i64.wrap (bAnd .u8 (bt t0 0) 15)) true h)
    · rcases brk h with ⟨h4, h⟩ | ⟨h4, h⟩
      · exact hc.jump (orc := [(4, [(4, { cv := some (.bool false) }), (8, { cv := some (.bool true) })])]) (m := 7) (kt := [0, 4, 31]) (kh := []) (by kernel_rfl) (.cons (h1) (.cons (h2) (.cons ((by decide : (0:Int) ≤ 4)) (.cons (Le.ff h3) (.cons (Le.tt h4) .nil))))) (g_ip_words_2 hc N hfin t0 (IntKind.i64.wrap (bAnd .u8 (bt t0 0) 15)) true h)
      · obtain ⟨v1, h5, h⟩ := via_some h
        exact hc.jump (orc := [(4, [(4, { cv := some (.bool false) }), (8, { cv := some (.bool false) }), (10, { cv := some (.int .i64 v1) })])]) (m := 7) (kt := [0, 4, 31]) (kh := []) (by kernel_rfl) (.cons (h1) (.cons (h2) (.cons ((by decide : (0:Int) ≤ 4)) (.cons (Le.ff h3) (.cons (Le.ff h4) (.cons (Le.int (k := .i64) h5) .nil)))))) (g_ip_words_2 hc N hfin t0 (IntKind.i64.wrap (bAnd .u8 (bt t0 0) 15)) (decide (v1 > (t0.size : Int))) h)

theorem g_ip_words_0 {c : Cx} (hc : Is c Try.prog ty 86 47) (N : Nat) {r : Int × Bool} (hfin : c.Fin [] (d_ip_words r) []) (x0 : ByteArray) (h : L_ip_words N x0 = some r) : c.Goes (items (bodyOf Try.f86) [.c 1]) ⟨[(0, .str x0)], []⟩ := by
  unfold L_ip_words at h
  rcases brk h with ⟨h0, h⟩ | ⟨h0, h⟩
  · exact hc.jump (orc := [(1, [(3, { cv := some (.bool true) })])]) (m := 5) (kt := [0, 12]) (kh := []) (by kernel_rfl) (.cons (Le.tt h0) .nil) (g_ip_words_1 hc N hfin x0 true h)
  · exact hc.jump (orc := [(1, [(3, { cv := some (.bool false) })])]) (m := 5) (kt := [0, 12]) (kh := []) (by kernel_rfl) (.cons (Le.ff h0) .nil) (g_ip_words_1 hc N hfin x0 (decide ((x0.size : Int) > 512)) h)

theorem c_ip_words (N : Nat) (x0 : ByteArray) {r : Int × Bool} (h : L_ip_words N x0 = some r) : Con Try.prog 86 [.str x0] [] (d_ip_words r) [] :=
  con_intro ok mix (fn := Try.f86) (body := bodyOf Try.f86) (by kernel_rfl) (by kernel_rfl) (by kernel_rfl) rfl (Nat.le_of_ble_eq_true (by kernel_rfl)) fun c h1 h2 h3 h4 hfin => g_ip_words_0 ⟨h1, h2, h3, h4⟩ N hfin x0 h
/-! ### wharfage/ip.Get -/
def L_ip_Get (N : Nat) (x0 : ByteArray) : Option (GIp × Int × Int) :=
  (L_ip_words N x0).bind fun v1 =>
  bif (!v1.2) then
    some ((GIp.mk 0 0 0 0 0 ByteArray.empty), 1, 200)
  else
    bif (decide (v1.1 > 5)) then
      some ((GIp.mk 0 0 0 0 0 ByteArray.empty), 3, 0)
    else
      if 0 ≤ (8 : Int) ∧ (8 : Int) ≤ (x0.size : Int) ∧ 0 ≤ (6 : Int) ∧ (6 : Int) ≤ (8 : Int) then
      (L_ip_Number N (x0.extract 6 8)).bind fun v2 =>
      bif ((bAndNot .i64 v2 16384) != 0) then
        some ((GIp.mk 0 0 0 0 0 ByteArray.empty), 2, 0)
      else
        if 0 ≤ (16 : Int) ∧ (16 : Int) ≤ (x0.size : Int) ∧ 0 ≤ (12 : Int) ∧ (12 : Int) ≤ (16 : Int) then
        (L_ip_Number N (x0.extract 12 16)).bind fun v3 =>
        if 0 ≤ (20 : Int) ∧ (20 : Int) ≤ (x0.size : Int) ∧ 0 ≤ (16 : Int) ∧ (16 : Int) ≤ (20 : Int) then
        (L_ip_Number N (x0.extract 16 20)).bind fun v4 =>
        if 0 ≤ (9 : Int) ∧ (9 : Int) < (x0.size : Int) then
        if 0 ≤ (8 : Int) ∧ (8 : Int) < (x0.size : Int) then
        if 0 ≤ (6 : Int) ∧ (6 : Int) ≤ (x0.size : Int) ∧ 0 ≤ (4 : Int) ∧ (4 : Int) ≤ (6 : Int) then
        (L_ip_Number N (x0.extract 4 6)).bind fun v5 =>
        if 0 ≤ (x0.size : Int) ∧ (x0.size : Int) ≤ (x0.size : Int) ∧ 0 ≤ (20 : Int) ∧ (20 : Int) ≤ (x0.size : Int) then
        some ((GIp.mk v3 v4 (IntKind.i64.wrap (bt x0 9)) (IntKind.i64.wrap (bt x0 8)) v5 (x0.extract 20 x0.size)), 0, 0)
        else none
        else none
        else none
        else none
        else none
        else none
      else none
def d_ip_Get (r : GIp × Int × Int) : D := .tup [.agg [.int .i64 r.1.Src, .int .i64 r.1.Dst, .int .i64 r.1.Proto, .int .i64 r.1.Ttl, .int .i64 r.1.Id, .str r.1.Body], .int .i64 r.2.1, .int .i64 r.2.2]
theorem g_ip_Get_0 {c : Cx} (hc : Is c Try.prog ty 66 45) (N : Nat) {r : GIp × Int × Int} (hfin : c.Fin [] (d_ip_Get r) []) (x0 : ByteArray) (h : L_ip_Get N x0 = some r) : c.Goes (items (bodyOf Try.f66) [.c 1]) ⟨[(0, .str x0)], []⟩ := by
  unfold L_ip_Get at h
  obtain ⟨v1, h0, h⟩ := bind_of h
  rcases brk h with ⟨h1, h⟩ | ⟨h1, h⟩
  · have h := Option.some.inj h
    refine hc.ret hfin (fn := Try.f66) (by kernel_rfl) (orc := [(1, [(1, { r := d_ip_words v1 })]), (2, [(2, { cv := some (.bool true) })])]) (m := 11) (d := .tup [.agg [.int .i64 0, .int .i64 0, .int .i64 0, .int .i64 0, .int .i64 0, .str ByteArray.empty], .int .i64 1, .int .i64 200]) (by kernel_rfl) (.cons (c_ip_words N x0 h0) (.cons (Le.tt h1) .nil)) ?_ ?_
    · rw [← h]; exact Le.of rfl
    · rw [← h]; rfl
  · rcases brk h with ⟨h2, h⟩ | ⟨h2, h⟩
    · have h := Option.some.inj h
      refine hc.ret hfin (fn := Try.f66) (by kernel_rfl) (orc := [(1, [(1, { r := d_ip_words v1 })]), (2, [(2, { cv := some (.bool false) })]), (4, [(2, { cv := some (.bool true) })])]) (m := 14) (d := .tup [.agg [.int .i64 0, .int .i64 0, .int .i64 0, .int .i64 0, .int .i64 0, .str ByteArray.empty], .int .i64 3, .int .i64 0]) (by kernel_rfl) (.cons (c_ip_words N x0 h0) (.cons (Le.ff h1) (.cons (Le.tt h2) .nil))) ?_ ?_
      · rw [← h]; exact Le.of rfl
      · rw [← h]; rfl
    · obtain ⟨h3, h⟩ := chk h
      obtain ⟨v2, h4, h⟩ := bind_of h
      rcases brk h with ⟨h5, h⟩ | ⟨h5, h⟩
      · have h := Option.some.inj h
        refine hc.ret hfin (fn := Try.f66) (by kernel_rfl) (orc := [(1, [(1, { r := d_ip_words v1 })]), (2, [(2, { cv := some (.bool false) })]), (4, [(2, { cv := some (.bool false) })]), (6, [(2, { r := d_ip_Number v2 }), (5, { cv := some (.bool true) })])]) (m := 17) (d := .tup [.agg [.int .i64 0, .int .i64 0, .int .i64 0, .int .i64 0, .int .i64 0, .str ByteArray.empty], .int .i64 2, .int .i64 0]) (by kernel_rfl) (.cons (c_ip_words N x0 h0) (.cons (Le.ff h1) (.cons (Le.ff h2) (.cons (h3) (.cons (c_ip_Number N (x0.extract 6 8) h4) (.cons (Le.tt h5) .nil)))))) ?_ ?_
        · rw [← h]; exact Le.of rfl
        · rw [← h]; rfl
      · obtain ⟨h6, h⟩ := chk h
        obtain ⟨v3, h7, h⟩ := bind_of h
        obtain ⟨h8, h⟩ := chk h
        obtain ⟨v4, h9, h⟩ := bind_of h
        obtain ⟨h10, h⟩ := chk h
        obtain ⟨h11, h⟩ := chk h
        obtain ⟨h12, h⟩ := chk h
        obtain ⟨v5, h13, h⟩ := bind_of h
        obtain ⟨h14, h⟩ := chk h
        have h := Option.some.inj h
        refine hc.ret hfin (fn := Try.f66) (by kernel_rfl) (orc := [(1, [(1, { r := d_ip_words v1 })]), (2, [(2, { cv := some (.bool false) })]), (4, [(2, { cv := some (.bool false) })]), (6, [(2, { r := d_ip_Number v2 }), (5, { cv := some (.bool false) })]), (8, [(2, { r := d_ip_Number v3 }), (5, { r := d_ip_Number v4 }), (14, { r := d_ip_Number v5 })])]) (m := 19) (d := .tup [.agg [.int .i64 v3, .int .i64 v4, .int .i64 (IntKind.i64.wrap (bt x0 9)), .int .i64 (IntKind.i64.wrap (bt x0 8)), .int .i64 v5, .str (x0.extract 20 x0.size)], .int .i64 0, .int .i64 0]) (by kernel_rfl) (.cons (c_ip_words N x0 h0) (.cons (Le.ff h1) (.cons (Le.ff h2) (.cons (h3) (.cons (c_ip_Number N (x0.extract 6 8) h4) (.cons (Le.ff h5) (.cons (h6) (.cons (c_ip_Number N (x0.extract 12 16) h7) (.cons (h8) (.cons (c_ip_Number N (x0.extract 16 20) h9) (.cons (h10) (.cons (h11) (.cons (h12) (.cons (c_ip_Number N (x0.extract 4 6) h13) (.cons (h14) .nil))))))))))))))) ?_ ?_
        · rw [← h]; exact Le.of rfl
        · rw [← h]; rfl

theorem c_ip_Get (N : Nat) (x0 : ByteArray) {r : GIp × Int × Int} (h : L_ip_Get N x0 = some r) : Con Try.prog 66 [.str x0] [] (d_ip_Get r) [] :=
  con_intro ok mix (fn := Try.f66) (body := bodyOf Try.f66) (by kernel_rfl) (by kernel_rfl) (by kernel_rfl) rfl (Nat.le_of_ble_eq_true (by kernel_rfl)) fun c h1 h2 h3 h4 hfin => g_ip_Get_0 ⟨h1, h2, h3, h4⟩ N hfin x0 h
/-! ### wharfage/seg.tcp -/
def L_seg_tcp_1 (N : Nat) (t0 : ByteArray) (b116_0 : Int) (b116_1 : Int) (b116_2 : Int) (b116_3 : Int) (b116_4 : Int) (b116_5 : Int) (b116_6 : ByteArray) (t11 : Bool) : Option (GSeg × Bool) :=
  bif t11 then
    some ((GSeg.mk 0 0 0 0 0 0 ByteArray.empty), false)
  else
    if 0 ≤ (2 : Int) ∧ (2 : Int) ≤ (t0.size : Int) ∧ 0 ≤ (0 : Int) ∧ (0 : Int) ≤ (2 : Int) then
    (L_ip_Number N (t0.extract 0 2)).bind fun v1 =>
    if 0 ≤ (4 : Int) ∧ (4 : Int) ≤ (t0.size : Int) ∧ 0 ≤ (2 : Int) ∧ (2 : Int) ≤ (4 : Int) then
    (L_ip_Number N (t0.extract 2 4)).bind fun v2 =>
    if 0 ≤ (8 : Int) ∧ (8 : Int) ≤ (t0.size : Int) ∧ 0 ≤ (4 : Int) ∧ (4 : Int) ≤ (8 : Int) then
    (L_ip_Number N (t0.extract 4 8)).bind fun v3 =>
    if 0 ≤ (12 : Int) ∧ (12 : Int) ≤ (t0.size : Int) ∧ 0 ≤ (8 : Int) ∧ (8 : Int) ≤ (12 : Int) then
    (L_ip_Number N (t0.extract 8 12)).bind fun v4 =>
    if 0 ≤ (13 : Int) ∧ (13 : Int) < (t0.size : Int) then
    if 0 ≤ (t0.size : Int) ∧ (t0.size : Int) ≤ (t0.size : Int) ∧ 0 ≤ (20 : Int) ∧ (20 : Int) ≤ (t0.size : Int) then
    some ((GSeg.mk 6 v1 v2 v3 v4 (IntKind.i64.wrap (bt t0 13)) (t0.extract 20 t0.size)), true)
    else none
    else none
    else none
    else none
    else none
    else none
def L_seg_tcp (N : Nat) (x0 : ByteArray) : Option (GSeg × Bool) :=
  bif (decide ((x0.size : Int) < 20)) then
    L_seg_tcp_1 N x0 0 0 0 0 0 0 ByteArray.empty true
  else
    if 0 ≤ (12 : Int) ∧ (12 : Int) < (x0.size : Int) then
    L_seg_tcp_1 N x0 0 0 0 0 0 0 ByteArray.empty ((bt x0 12) != 80)
    else none
def d_seg_tcp (r : GSeg × Bool) : D := .tup [.agg [.int .i64 r.1.Proto, .int .i64 r.1.Sport, .int .i64 r.1.Dport, .int .i64 r.1.Seq, .int .i64 r.1.Ack, .int .i64 r.1.Flags, .str r.1.Body], .bool r.2]
theorem g_seg_tcp_1 {c : Cx} (hc : Is c Try.prog ty 63 31) (N : Nat) {r : GSeg × Bool} (hfin : c.Fin [] (d_seg_tcp r) []) (t0 : ByteArray) (b116_0 : Int) (b116_1 : Int) (b116_2 : Int) (b116_3 : Int) (b116_4 : Int) (b116_5 : Int) (b116_6 : ByteArray) (t11 : Bool) (h : L_seg_tcp_1 N t0 b116_0 b116_1 b116_2 b116_3 b116_4 b116_5 b116_6 t11 = some r) : c.Goes (items (bodyOf Try.f63) [.c 13, .c 7]) ⟨[(0, .str t0), (2, .ptr 116 0), (11, .bool t11)], [(116, some ⟨false, 0, [.int .i64 b116_0, .int .i64 b116_1, .int .i64 b116_2, .int .i64 b116_3, .int .i64 b116_4, .int .i64 b116_5, .str b116_6]⟩)]⟩ := by
  unfold L_seg_tcp_1 at h
  rcases brk h with ⟨h0, k0⟩ | ⟨h0, k0⟩
  · subst h0
    replace h := k0
    have h := Option.some.inj h
    refine hc.ret hfin (fn := Try.f63) (by kernel_rfl) (orc := []) (m := 3) (d := .tup [.agg [.int .i64 0, .int .i64 0, .int .i64 0, .int .i64 0, .int .i64 0, .int .i64 0, .str ByteArray.empty], .bool false]) (by kernel_rfl) .nil ?_ ?_
    · rw [← h]; exact Le.of rfl
    · rw [← h]; rfl
  · subst h0
    replace h := k0
    obtain ⟨h1, h⟩ := chk h
    obtain ⟨v1, h2, h⟩ := bind_of h
    obtain ⟨h3, h⟩ := chk h
    obtain ⟨v2, h4, h⟩ := bind_of h
    obtain ⟨h5, h⟩ := chk h
    obtain ⟨v3, h6, h⟩ := bind_of h
    obtain ⟨h7, h⟩ := chk h
    obtain ⟨v4, h8, h⟩ := bind_of h
    obtain ⟨h9, h⟩ := chk h
    obtain ⟨h10, h⟩ := chk h
    have h := Option.some.inj h
    refine hc.ret hfin (fn := Try.f63) (by kernel_rfl) (orc := [(3, [(2, { r := d_ip_Number v1 }), (5, { r := d_ip_Number v2 }), (8, { r := d_ip_Number v3 }), (11, { r := d_ip_Number v4 })])]) (m := 4) (d := .tup [.agg [.int .i64 6, .int .i64 v1, .int .i64 v2, .int .i64 v3, .int .i64 v4, .int .i64 (IntKind.i64.wrap (bt t0 13)), .str (t0.extract 20 t0.size)], .bool true]) (by kernel_rfl) (.cons (h1) (.cons (c_ip_Number N (t0.extract 0 2) h2) (.cons (h3) (.cons (c_ip_Number N (t0.extract 2 4) h4) (.cons (h5) (.cons (c_ip_Number N (t0.extract 4 8) h6) (.cons (h7) (.cons (c_ip_Number N (t0.extract 8 12) h8) (.cons (h9) (.cons (h10) .nil)))))))))) ?_ ?_
    · rw [← h]; exact Le.of rfl
    · rw [← h]; rfl

theorem g_seg_tcp_0 {c : Cx} (hc : Is c Try.prog ty 63 31) (N : Nat) {r : GSeg × Bool} (hfin : c.Fin [] (d_seg_tcp r) []) (x0 : ByteArray) (h : L_seg_tcp N x0 = some r) : c.Goes (items (bodyOf Try.f63) [.c 1]) ⟨[(0, .str x0)], []⟩ := by
  unfold L_seg_tcp at h
  rcases brk h with ⟨h0, h⟩ | ⟨h0, h⟩
  · exact hc.jump (orc := [(1, [(3, { cv := some (.bool true) })])]) (m := 5) (kt := [0, 2, 11]) (kh := [(116, 116)]) (by kernel_rfl) (.cons (Le.tt h0) .nil) (g_seg_tcp_1 hc N hfin x0 0 0 0 0 0 0 ByteArray.empty true h)
  · obtain ⟨h1, h⟩ := chk h
    exact hc.jump (orc := [(1, [(3, { cv := some (.bool false) })])]) (m := 5) (kt := [0, 2, 11]) (kh := [(116, 116)]) (by kernel_rfl) (.cons (Le.ff h0) (.cons (h1) .nil)) (g_seg_tcp_1 hc N hfin x0 0 0 0 0 0 0 ByteArray.empty ((bt x0 12) != 80) h)

theorem c_seg_tcp (N : Nat) (x0 : ByteArray) {r : GSeg × Bool} (h : L_seg_tcp N x0 = some r) : Con Try.prog 63 [.str x0] [] (d_seg_tcp r) [] :=
  con_intro ok mix (fn := Try.f63) (body := bodyOf Try.f63) (by kernel_rfl) (by kernel_rfl) (by kernel_rfl) rfl (Nat.le_of_ble_eq_true (by kernel_rfl)) fun c h1 h2 h3 h4 hfin => g_seg_tcp_0 ⟨h1, h2, h3, h4⟩ N hfin x0 h
/-! ### wharfage/seg.udp -/
def L_seg_udp_1 (N : Nat) (t0 : ByteArray) (b116_0 : Int) (b116_1 : Int) (b116_2 : Int) (b116_3 : Int) (b116_4 : Int) (b116_5 : Int) (b116_6 : ByteArray) (t14 : Bool) : Option (GSeg × Bool) :=
  bif t14 then
    some ((GSeg.mk 0 0 0 0 0 0 ByteArray.empty), false)
  else
    if 0 ≤ (2 : Int) ∧ (2 : Int) ≤ (t0.size : Int) ∧ 0 ≤ (0 : Int) ∧ (0 : Int) ≤ (2 : Int) then
    (L_ip_Number N (t0.extract 0 2)).bind fun v1 =>
    if 0 ≤ (4 : Int) ∧ (4 : Int) ≤ (t0.size : Int) ∧ 0 ≤ (2 : Int) ∧ (2 : Int) ≤ (4 : Int) then
    (L_ip_Number N (t0.extract 2 4)).bind fun v2 =>
    if 0 ≤ (t0.size : Int) ∧ (t0.size : Int) ≤ (t0.size : Int) ∧ 0 ≤ (8 : Int) ∧ (8 : Int) ≤ (t0.size : Int) then
    some ((GSeg.mk 17 v1 v2 0 0 0 (t0.extract 8 t0.size)), true)
    else none
    else none
    else none
def L_seg_udp (N : Nat) (x0 : ByteArray) : Option (GSeg × Bool) :=
  bif (decide ((x0.size : Int) < 8)) then
    L_seg_udp_1 N x0 0 0 0 0 0 0 ByteArray.empty true
  else
    if 0 ≤ (6 : Int) ∧ (6 : Int) ≤ (x0.size : Int) ∧ 0 ≤ (4 : Int) ∧ (4 : Int) ≤ (6 : Int) then
    (L_ip_Number N (x0.extract 4 6)).bind fun v1 =>
    L_seg_udp_1 N x0 0 0 0 0 0 0 ByteArray.empty (v1 != (x0.size : Int))
    else none
def d_seg_udp (r : GSeg × Bool) : D := .tup [.agg [.int .i64 r.1.Proto, .int .i64 r.1.Sport, .int .i64 r.1.Dport, .int .i64 r.1.Seq, .int .i64 r.1.Ack, .int .i64 r.1.Flags, .str r.1.Body], .bool r.2]
theorem g_seg_udp_1 {c : Cx} (hc : Is c Try.prog ty 64 25) (N : Nat) {r : GSeg × Bool} (hfin : c.Fin [] (d_seg_udp r) []) (t0 : ByteArray) (b116_0 : Int) (b116_1 : Int) (b116_2 : Int) (b116_3 : Int) (b116_4 : Int) (b116_5 : Int) (b116_6 : ByteArray) (t14 : Bool) (h : L_seg_udp_1 N t0 b116_0 b116_1 b116_2 b116_3 b116_4 b116_5 b116_6 t14 = some r) : c.Goes (items (bodyOf Try.f64) [.c 13, .c 7]) ⟨[(0, .str t0), (2, .ptr 116 0), (14, .bool t14)], [(116, some ⟨false, 0, [.int .i64 b116_0, .int .i64 b116_1, .int .i64 b116_2, .int .i64 b116_3, .int .i64 b116_4, .int .i64 b116_5, .str b116_6]⟩)]⟩ := by
  unfold L_seg_udp_1 at h
  rcases brk h with ⟨h0, k0⟩ | ⟨h0, k0⟩
  · subst h0
    replace h := k0
    have h := Option.some.inj h
    refine hc.ret hfin (fn := Try.f64) (by kernel_rfl) (orc := []) (m := 3) (d := .tup [.agg [.int .i64 0, .int .i64 0, .int .i64 0, .int .i64 0, .int .i64 0, .int .i64 0, .str ByteArray.empty], .bool false]) (by kernel_rfl) .nil ?_ ?_
    · rw [← h]; exact Le.of rfl
    · rw [← h]; rfl
  · subst h0
    replace h := k0
    obtain ⟨h1, h⟩ := chk h
    obtain ⟨v1, h2, h⟩ := bind_of h
    obtain ⟨h3, h⟩ := chk h
    obtain ⟨v2, h4, h⟩ := bind_of h
    obtain ⟨h5, h⟩ := chk h
    have h := Option.some.inj h
    refine hc.ret hfin (fn := Try.f64) (by kernel_rfl) (orc := [(3, [(2, { r := d_ip_Number v1 }), (5, { r := d_ip_Number v2 })])]) (m := 4) (d := .tup [.agg [.int .i64 17, .int .i64 v1, .int .i64 v2, .int .i64 0, .int .i64 0, .int .i64 0, .str (t0.extract 8 t0.size)], .bool true]) (by kernel_rfl) (.cons (h1) (.cons (c_ip_Number N (t0.extract 0 2) h2) (.cons (h3) (.cons (c_ip_Number N (t0.extract 2 4) h4) (.cons (h5) .nil))))) ?_ ?_
    · rw [← h]; exact Le.of rfl
    · rw [← h]; rfl

theorem g_seg_udp_0 {c : Cx} (hc : Is c Try.prog ty 64 25) (N : Nat) {r : GSeg × Bool} (hfin : c.Fin [] (d_seg_udp r) []) (x0 : ByteArray) (h : L_seg_udp N x0 = some r) : c.Goes (items (bodyOf Try.f64) [.c 1]) ⟨[(0, .str x0)], []⟩ := by
  unfold L_seg_udp at h
  rcases brk h with ⟨h0, h⟩ | ⟨h0, h⟩
  · exact hc.jump (orc := [(1, [(3, { cv := some (.bool true) })])]) (m := 5) (kt := [0, 2, 14]) (kh := [(116, 116)]) (by kernel_rfl) (.cons (Le.tt h0) .nil) (g_seg_udp_1 hc N hfin x0 0 0 0 0 0 0 ByteArray.empty true h)
  · obtain ⟨h1, h⟩ := chk h
    obtain ⟨v1, h2, h⟩ := bind_of h
    exact hc.jump (orc := [(1, [(3, { cv := some (.bool false) }), (6, { r := d_ip_Number v1 })])]) (m := 5) (kt := [0, 2, 14]) (kh := [(116, 116)]) (by kernel_rfl) (.cons (Le.ff h0) (.cons (h1) (.cons (c_ip_Number N (x0.extract 4 6) h2) .nil))) (g_seg_udp_1 hc N hfin x0 0 0 0 0 0 0 ByteArray.empty (v1 != (x0.size : Int)) h)

theorem c_seg_udp (N : Nat) (x0 : ByteArray) {r : GSeg × Bool} (h : L_seg_udp N x0 = some r) : Con Try.prog 64 [.str x0] [] (d_seg_udp r) [] :=
  con_intro ok mix (fn := Try.f64) (body := bodyOf Try.f64) (by kernel_rfl) (by kernel_rfl) (by kernel_rfl) rfl (Nat.le_of_ble_eq_true (by kernel_rfl)) fun c h1 h2 h3 h4 hfin => g_seg_udp_0 ⟨h1, h2, h3, h4⟩ N hfin x0 h
/-! ### wharfage/seg.Get -/
def L_seg_Get_2 (N : Nat) (b164_0 : Int) (b164_1 : Int) (b164_2 : Int) (b164_3 : Int) (b164_4 : Int) (b164_5 : Int) (b164_6 : ByteArray) (b188_0 : Int) (b188_1 : Int) (b188_2 : Int) (b188_3 : Int) (b188_4 : Int) (b188_5 : Int) (b188_6 : ByteArray) (t58 : Bool) : Option (GSeg × Int) :=
  bif t58 then
    some ((GSeg.mk 0 0 0 0 0 0 ByteArray.empty), 300)
  else
    some ((GSeg.mk b188_0 b188_1 b188_2 b188_3 b188_4 b188_5 b188_6), 0)
def L_seg_Get_1 (N : Nat) (t0 : Int) (t1 : ByteArray) (b164_0 : Int) (b164_1 : Int) (b164_2 : Int) (b164_3 : Int) (b164_4 : Int) (b164_5 : Int) (b164_6 : ByteArray) (b180_0 : Int) (b180_1 : Int) (b188_0 : Int) (b188_1 : Int) (b188_2 : Int) (b188_3 : Int) (b188_4 : Int) (b188_5 : Int) (b188_6 : ByteArray) (t12 : Bool) (t13 : Bool) : Option (GSeg × Int) :=
  bif (!t12) then
    L_seg_Get_2 N b164_0 b164_1 b164_2 b164_3 b164_4 b164_5 b164_6 b188_0 b188_1 b188_2 b188_3 b188_4 b188_5 b188_6 true
  else
    (L_seg_May N (GSeg.mk b188_0 b188_1 b188_2 b188_3 b188_4 b188_5 b188_6)).bind fun v1 =>
    bif (!v1) then
      L_seg_Get_2 N b164_0 b164_1 b164_2 b164_3 b164_4 b164_5 b164_6 b188_0 b188_1 b188_2 b188_3 b188_4 b188_5 b188_6 true
    else
      (L_seg_ends_may N (Gseg_ends.mk b180_0 b180_1)).bind fun v2 =>
      bif (!v2) then
        L_seg_Get_2 N b164_0 b164_1 b164_2 b164_3 b164_4 b164_5 b164_6 b188_0 b188_1 b188_2 b188_3 b188_4 b188_5 b188_6 true
      else
        bif (!t13) then
          (L_seg_ends_sum N (Gseg_ends.mk b180_0 b180_1) t0 t1).bind fun v3 =>
          L_seg_Get_2 N b164_0 b164_1 b164_2 b164_3 b164_4 b164_5 b164_6 b188_0 b188_1 b188_2 b188_3 b188_4 b188_5 b188_6 (v3 != 65535)
        else
          L_seg_Get_2 N b164_0 b164_1 b164_2 b164_3 b164_4 b164_5 b164_6 b188_0 b188_1 b188_2 b188_3 b188_4 b188_5 b188_6 false
def L_seg_Get (N : Nat) (x0 : Int) (x1 : ByteArray) (x2 : Int) (x3 : Int) : Option (GSeg × Int) :=
  bif (x0 == 6) then
    (L_seg_tcp N x1).bind fun v1 =>
    L_seg_Get_1 N x0 x1 0 0 0 0 0 0 ByteArray.empty x2 x3 v1.1.Proto v1.1.Sport v1.1.Dport v1.1.Seq v1.1.Ack v1.1.Flags v1.1.Body v1.2 false
  else
    bif (x0 == 17) then
      (L_seg_udp N x1).bind fun v1 =>
      bif v1.2 then
        if 0 ≤ (8 : Int) ∧ (8 : Int) ≤ (x1.size : Int) ∧ 0 ≤ (6 : Int) ∧ (6 : Int) ≤ (8 : Int) then
        L_seg_Get_1 N x0 x1 0 0 0 0 0 0 ByteArray.empty x2 x3 v1.1.Proto v1.1.Sport v1.1.Dport v1.1.Seq v1.1.Ack v1.1.Flags v1.1.Body v1.2 ((x1.extract 6 8).toList == (ByteArray.mk #[0, 0]).toList)
        else none
      else
        L_seg_Get_1 N x0 x1 0 0 0 0 0 0 ByteArray.empty x2 x3 v1.1.Proto v1.1.Sport v1.1.Dport v1.1.Seq v1.1.Ack v1.1.Flags v1.1.Body v1.2 false
    else
      L_seg_Get_1 N x0 x1 0 0 0 0 0 0 ByteArray.empty x2 x3 0 0 0 0 0 0 ByteArray.empty false false
def d_seg_Get (r : GSeg × Int) : D := .tup [.agg [.int .i64 r.1.Proto, .int .i64 r.1.Sport, .int .i64 r.1.Dport, .int .i64 r.1.Seq, .int .i64 r.1.Ack, .int .i64 r.1.Flags, .str r.1.Body], .int .i64 r.2]
theorem g_seg_Get_2 {c : Cx} (hc : Is c Try.prog ty 31 61) (N : Nat) {r : GSeg × Int} (hfin : c.Fin [] (d_seg_Get r) []) (b164_0 : Int) (b164_1 : Int) (b164_2 : Int) (b164_3 : Int) (b164_4 : Int) (b164_5 : Int) (b164_6 : ByteArray) (b188_0 : Int) (b188_1 : Int) (b188_2 : Int) (b188_3 : Int) (b188_4 : Int) (b188_5 : Int) (b188_6 : ByteArray) (t58 : Bool) (h : L_seg_Get_2 N b164_0 b164_1 b164_2 b164_3 b164_4 b164_5 b164_6 b188_0 b188_1 b188_2 b188_3 b188_4 b188_5 b188_6 t58 = some r) : c.Goes (items (bodyOf Try.f31) [.c 223, .c 127]) ⟨[(8, .ptr 164 0), (11, .ptr 188 0), (58, .bool t58)], [(164, some ⟨false, 0, [.int .i64 b164_0, .int .i64 b164_1, .int .i64 b164_2, .int .i64 b164_3, .int .i64 b164_4, .int .i64 b164_5, .str b164_6]⟩), (188, some ⟨false, 0, [.int .i64 b188_0, .int .i64 b188_1, .int .i64 b188_2, .int .i64 b188_3, .int .i64 b188_4, .int .i64 b188_5, .str b188_6]⟩)]⟩ := by
  unfold L_seg_Get_2 at h
  rcases brk h with ⟨h0, k0⟩ | ⟨h0, k0⟩
  · subst h0
    replace h := k0
    have h := Option.some.inj h
    refine hc.ret hfin (fn := Try.f31) (by kernel_rfl) (orc := []) (m := 3) (d := .tup [.agg [.int .i64 0, .int .i64 0, .int .i64 0, .int .i64 0, .int .i64 0, .int .i64 0, .str ByteArray.empty], .int .i64 300]) (by kernel_rfl) .nil ?_ ?_
    · rw [← h]; exact Le.of rfl
    · rw [← h]; rfl
  · subst h0
    replace h := k0
    have h := Option.some.inj h
    refine hc.ret hfin (fn := Try.f31) (by kernel_rfl) (orc := []) (m := 4) (d := .tup [.agg [.int .i64 b188_0, .int .i64 b188_1, .int .i64 b188_2, .int .i64 b188_3, .int .i64 b188_4, .int .i64 b188_5, .str b188_6], .int .i64 0]) (by kernel_rfl) .nil ?_ ?_
    · rw [← h]; exact Le.of rfl
    · rw [← h]; rfl

theorem g_seg_Get_1 {c : Cx} (hc : Is c Try.prog ty 31 61) (N : Nat) {r : GSeg × Int} (hfin : c.Fin [] (d_seg_Get r) []) (t0 : Int) (t1 : ByteArray) (b164_0 : Int) (b164_1 : Int) (b164_2 : Int) (b164_3 : Int) (b164_4 : Int) (b164_5 : Int) (b164_6 : ByteArray) (b180_0 : Int) (b180_1 : Int) (b188_0 : Int) (b188_1 : Int) (b188_2 : Int) (b188_3 : Int) (b188_4 : Int) (b188_5 : Int) (b188_6 : ByteArray) (t12 : Bool) (t13 : Bool) (h : L_seg_Get_1 N t0 t1 b164_0 b164_1 b164_2 b164_3 b164_4 b164_5 b164_6 b180_0 b180_1 b188_0 b188_1 b188_2 b188_3 b188_4 b188_5 b188_6 t12 t13 = some r) : c.Goes (items (bodyOf Try.f31) [.b 0, .c 63]) ⟨[(0, .int .i64 t0), (1, .str t1), (8, .ptr 164 0), (10, .ptr 180 0), (11, .ptr 188 0), (12, .bool t12), (13, .bool t13)], [(164, some ⟨false, 0, [.int .i64 b164_0, .int .i64 b164_1, .int .i64 b164_2, .int .i64 b164_3, .int .i64 b164_4, .int .i64 b164_5, .str b164_6]⟩), (180, some ⟨false, 0, [.int .i64 b180_0, .int .i64 b180_1]⟩), (188, some ⟨false, 0, [.int .i64 b188_0, .int .i64 b188_1, .int .i64 b188_2, .int .i64 b188_3, .int .i64 b188_4, .int .i64 b188_5, .str b188_6]⟩)]⟩ := by
  unfold L_seg_Get_1 at h
  rcases brk h with ⟨h0, h⟩ | ⟨h0, h⟩
  · exact hc.jump (orc := [(11, [(2, { cv := some (.bool true) })])]) (m := 4) (kt := [8, 11, 58]) (kh := [(164, 164), (188, 188)]) (by kernel_rfl) (.cons (Le.tt h0) .nil) (g_seg_Get_2 hc N hfin b164_0 b164_1 b164_2 b164_3 b164_4 b164_5 b164_6 b188_0 b188_1 b188_2 b188_3 b188_4 b188_5 b188_6 true h)
  · obtain ⟨v1, h1, h⟩ := bind_of h
    rcases brk h with ⟨h2, h⟩ | ⟨h2, h⟩
    · exact hc.jump (orc := [(11, [(2, { cv := some (.bool false) }), (4, { r := d_seg_May v1 }), (7, { cv := some (.bool true) })])]) (m := 4) (kt := [8, 11, 58]) (kh := [(164, 164), (188, 188)]) (by kernel_rfl) (.cons (Le.ff h0) (.cons (c_seg_May N (GSeg.mk b188_0 b188_1 b188_2 b188_3 b188_4 b188_5 b188_6) h1) (.cons (Le.tt h2) .nil))) (g_seg_Get_2 hc N hfin b164_0 b164_1 b164_2 b164_3 b164_4 b164_5 b164_6 b188_0 b188_1 b188_2 b188_3 b188_4 b188_5 b188_6 true h)
    · obtain ⟨v2, h3, h⟩ := bind_of h
      rcases brk h with ⟨h4, h⟩ | ⟨h4, h⟩
      · exact hc.jump (orc := [(11, [(2, { cv := some (.bool false) }), (4, { r := d_seg_May v1 }), (7, { cv := some (.bool false) }), (9, { r := d_seg_ends_may v2 }), (12, { cv := some (.bool true) })])]) (m := 4) (kt := [8, 11, 58]) (kh := [(164, 164), (188, 188)]) (by kernel_rfl) (.cons (Le.ff h0) (.cons (c_seg_May N (GSeg.mk b188_0 b188_1 b188_2 b188_3 b188_4 b188_5 b188_6) h1) (.cons (Le.ff h2) (.cons (c_seg_ends_may N (Gseg_ends.mk b180_0 b180_1) h3) (.cons (Le.tt h4) .nil))))) (g_seg_Get_2 hc N hfin b164_0 b164_1 b164_2 b164_3 b164_4 b164_5 b164_6 b188_0 b188_1 b188_2 b188_3 b188_4 b188_5 b188_6 true h)
      · rcases brk h with ⟨h5, h⟩ | ⟨h5, h⟩
        · obtain ⟨v3, h6, h⟩ := bind_of h
          exact hc.jump (orc := [(11, [(2, { cv := some (.bool false) }), (4, { r := d_seg_May v1 }), (7, { cv := some (.bool false) }), (9, { r := d_seg_ends_may v2 }), (12, { cv := some (.bool false) }), (15, { cv := some (.bool true) }), (19, { r := d_seg_ends_sum v3 })])]) (m := 4) (kt := [8, 11, 58]) (kh := [(164, 164), (188, 188)]) (by kernel_rfl) (.cons (Le.ff h0) (.cons (c_seg_May N (GSeg.mk b188_0 b188_1 b188_2 b188_3 b188_4 b188_5 b188_6) h1) (.cons (Le.ff h2) (.cons (c_seg_ends_may N (Gseg_ends.mk b180_0 b180_1) h3) (.cons (Le.ff h4) (.cons (Le.tt h5) (.cons (c_seg_ends_sum N (Gseg_ends.mk b180_0 b180_1) t0 t1 h6) .nil))))))) (g_seg_Get_2 hc N hfin b164_0 b164_1 b164_2 b164_3 b164_4 b164_5 b164_6 b188_0 b188_1 b188_2 b188_3 b188_4 b188_5 b188_6 (v3 != 65535) h)
        · exact hc.jump (orc := [(11, [(2, { cv := some (.bool false) }), (4, { r := d_seg_May v1 }), (7, { cv := some (.bool false) }), (9, { r := d_seg_ends_may v2 }), (12, { cv := some (.bool false) }), (15, { cv := some (.bool false) })])]) (m := 4) (kt := [8, 11, 58]) (kh := [(164, 164), (188, 188)]) (by kernel_rfl) (.cons (Le.ff h0) (.cons (c_seg_May N (GSeg.mk b188_0 b188_1 b188_2 b188_3 b188_4 b188_5 b188_6) h1) (.cons (Le.ff h2) (.cons (c_seg_ends_may N (Gseg_ends.mk b180_0 b180_1) h3) (.cons (Le.ff h4) (.cons (Le.ff h5) .nil)))))) (g_seg_Get_2 hc N hfin b164_0 b164_1 b164_2 b164_3 b164_4 b164_5 b164_6 b188_0 b188_1 b188_2 b188_3 b188_4 b188_5 b188_6 false h)

theorem g_seg_Get_0 {c : Cx} (hc : Is c Try.prog ty 31 61) (N : Nat) {r : GSeg × Int} (hfin : c.Fin [] (d_seg_Get r) []) (x0 : Int) (x1 : ByteArray) (x2 : Int) (x3 : Int) (h : L_seg_Get N x0 x1 x2 x3 = some r) : c.Goes (items (bodyOf Try.f31) [.c 1]) ⟨[(0, .int .i64 x0), (1, .str x1), (2, .int .i64 x2), (3, .int .i64 x3)], []⟩ := by
  unfold L_seg_Get at h
  rcases brk h with ⟨h0, h⟩ | ⟨h0, h⟩
  · obtain ⟨v1, h1, h⟩ := bind_of h
    exact hc.jump (orc := [(5, [(1, { cv := some (.bool true) })]), (6, [(1, { r := d_seg_tcp v1 })])]) (m := 16) (kt := [0, 1, 8, 10, 11, 12, 13]) (kh := [(164, 164), (180, 180), (188, 188)]) (by kernel_rfl) (.cons (Le.tt h0) (.cons (c_seg_tcp N x1 h1) .nil)) (g_seg_Get_1 hc N hfin x0 x1 0 0 0 0 0 0 ByteArray.empty x2 x3 v1.1.Proto v1.1.Sport v1.1.Dport v1.1.Seq v1.1.Ack v1.1.Flags v1.1.Body v1.2 false h)
  · rcases brk h with ⟨h1, h⟩ | ⟨h1, h⟩
    · obtain ⟨v1, h2, h⟩ := bind_of h
      rcases brk h with ⟨h3, h⟩ | ⟨h3, h⟩
      · obtain ⟨h4, h⟩ := chk h
        exact hc.jump (orc := [(5, [(1, { cv := some (.bool false) })]), (7, [(1, { cv := some (.bool true) })]), (8, [(1, { r := d_seg_udp v1 })]), (9, [(0, { cv := some (.bool true) })])]) (m := 24) (kt := [0, 1, 8, 10, 11, 12, 13]) (kh := [(164, 164), (180, 180), (188, 188)]) (by kernel_rfl) (.cons (Le.ff h0) (.cons (Le.tt h1) (.cons (c_seg_udp N x1 h2) (.cons (Le.tt h3) (.cons (h4) .nil))))) (g_seg_Get_1 hc N hfin x0 x1 0 0 0 0 0 0 ByteArray.empty x2 x3 v1.1.Proto v1.1.Sport v1.1.Dport v1.1.Seq v1.1.Ack v1.1.Flags v1.1.Body v1.2 ((x1.extract 6 8).toList == (ByteArray.mk #[0, 0]).toList) h)
      · exact hc.jump (orc := [(5, [(1, { cv := some (.bool false) })]), (7, [(1, { cv := some (.bool true) })]), (8, [(1, { r := d_seg_udp v1 })]), (9, [(0, { cv := some (.bool false) })])]) (m := 24) (kt := [0, 1, 8, 10, 11, 12, 13]) (kh := [(164, 164), (180, 180), (188, 188)]) (by kernel_rfl) (.cons (Le.ff h0) (.cons (Le.tt h1) (.cons (c_seg_udp N x1 h2) (.cons (Le.ff h3) .nil)))) (g_seg_Get_1 hc N hfin x0 x1 0 0 0 0 0 0 ByteArray.empty x2 x3 v1.1.Proto v1.1.Sport v1.1.Dport v1.1.Seq v1.1.Ack v1.1.Flags v1.1.Body v1.2 false h)
    · exact hc.jump (orc := [(5, [(1, { cv := some (.bool false) })]), (7, [(1, { cv := some (.bool false) })])]) (m := 19) (kt := [0, 1, 8, 10, 11, 12, 13]) (kh := [(164, 164), (180, 180), (188, 188)]) (by kernel_rfl) (.cons (Le.ff h0) (.cons (Le.ff h1) .nil)) (g_seg_Get_1 hc N hfin x0 x1 0 0 0 0 0 0 ByteArray.empty x2 x3 0 0 0 0 0 0 ByteArray.empty false false h)

theorem c_seg_Get (N : Nat) (x0 : Int) (x1 : ByteArray) (x2 : Int) (x3 : Int) {r : GSeg × Int} (h : L_seg_Get N x0 x1 x2 x3 = some r) : Con Try.prog 31 [.int .i64 x0, .str x1, .int .i64 x2, .int .i64 x3] [] (d_seg_Get r) [] :=
  con_intro ok mix (fn := Try.f31) (body := bodyOf Try.f31) (by kernel_rfl) (by kernel_rfl) (by kernel_rfl) rfl (Nat.le_of_ble_eq_true (by kernel_rfl)) fun c h1 h2 h3 h4 hfin => g_seg_Get_0 ⟨h1, h2, h3, h4⟩ N hfin x0 x1 x2 x3 h
/-! ### wharfage/flow.Of -/
def L_flow_Of_1 (N : Nat) (b116_0 : Int) (b116_1 : Int) (b116_2 : Int) (b116_3 : Int) (b116_4 : Int) (b124_0 : Int) (b124_1 : Int) (b124_2 : Int) (b124_3 : Int) (b124_4 : Int) (b124_5 : Int) (b124_6 : ByteArray) (b140_0 : Int) (b140_1 : Int) (b140_2 : Int) (b140_3 : Int) (b140_4 : Int) (b140_5 : ByteArray) (t22 : Bool) : Option (GFlow × GSeg × Int) :=
  bif t22 then
    some ((GFlow.mk 0 0 0 0 0), (GSeg.mk 0 0 0 0 0 0 ByteArray.empty), 3)
  else
    (L_seg_Get N b140_2 b140_5 b140_0 b140_1).bind fun v1 =>
    bif (v1.2 != 0) then
      some ((GFlow.mk 0 0 0 0 0), (GSeg.mk 0 0 0 0 0 0 ByteArray.empty), 1)
    else
      some ((GFlow.mk b140_0 b140_1 b140_2 v1.1.Sport v1.1.Dport), v1.1, 0)
def L_flow_Of (N : Nat) (x0 : ByteArray) : Option (GFlow × GSeg × Int) :=
  (L_ip_Get N x0).bind fun v1 =>
  bif (v1.2.1 != 0) then
    some ((GFlow.mk 0 0 0 0 0), (GSeg.mk 0 0 0 0 0 0 ByteArray.empty), v1.2.1)
  else
    (L_flow_handled N v1.1.Proto).bind fun v2 =>
    bif (!v2) then
      L_flow_Of_1 N 0 0 0 0 0 0 0 0 0 0 0 ByteArray.empty v1.1.Src v1.1.Dst v1.1.Proto v1.1.Ttl v1.1.Id v1.1.Body true
    else
      L_flow_Of_1 N 0 0 0 0 0 0 0 0 0 0 0 ByteArray.empty v1.1.Src v1.1.Dst v1.1.Proto v1.1.Ttl v1.1.Id v1.1.Body (v1.1.Dst != 167772161)
def d_flow_Of (r : GFlow × GSeg × Int) : D := .tup [.agg [.int .i64 r.1.Src, .int .i64 r.1.Dst, .int .i64 r.1.Proto, .int .i64 r.1.Sport, .int .i64 r.1.Dport], .agg [.int .i64 r.2.1.Proto, .int .i64 r.2.1.Sport, .int .i64 r.2.1.Dport, .int .i64 r.2.1.Seq, .int .i64 r.2.1.Ack, .int .i64 r.2.1.Flags, .str r.2.1.Body], .int .i64 r.2.2]
theorem g_flow_Of_1 {c : Cx} (hc : Is c Try.prog ty 38 62) (N : Nat) {r : GFlow × GSeg × Int} (hfin : c.Fin [] (d_flow_Of r) []) (b116_0 : Int) (b116_1 : Int) (b116_2 : Int) (b116_3 : Int) (b116_4 : Int) (b124_0 : Int) (b124_1 : Int) (b124_2 : Int) (b124_3 : Int) (b124_4 : Int) (b124_5 : Int) (b124_6 : ByteArray) (b140_0 : Int) (b140_1 : Int) (b140_2 : Int) (b140_3 : Int) (b140_4 : Int) (b140_5 : ByteArray) (t22 : Bool) (h : L_flow_Of_1 N b116_0 b116_1 b116_2 b116_3 b116_4 b124_0 b124_1 b124_2 b124_3 b124_4 b124_5 b124_6 b140_0 b140_1 b140_2 b140_3 b140_4 b140_5 t22 = some r) : c.Goes (items (bodyOf Try.f38) [.c 243, .b 0, .c 15]) ⟨[(2, .ptr 116 0), (3, .ptr 124 0), (5, .ptr 140 0), (22, .bool t22)], [(116, some ⟨false, 0, [.int .i64 b116_0, .int .i64 b116_1, .int .i64 b116_2, .int .i64 b116_3, .int .i64 b116_4]⟩), (124, some ⟨false, 0, [.int .i64 b124_0, .int .i64 b124_1, .int .i64 b124_2, .int .i64 b124_3, .int .i64 b124_4, .int .i64 b124_5, .str b124_6]⟩), (140, some ⟨false, 0, [.int .i64 b140_0, .int .i64 b140_1, .int .i64 b140_2, .int .i64 b140_3, .int .i64 b140_4, .str b140_5]⟩)]⟩ := by
  unfold L_flow_Of_1 at h
  rcases brk h with ⟨h0, k0⟩ | ⟨h0, k0⟩
  · subst h0
    replace h := k0
    have h := Option.some.inj h
    refine hc.ret hfin (fn := Try.f38) (by kernel_rfl) (orc := []) (m := 3) (d := .tup [.agg [.int .i64 0, .int .i64 0, .int .i64 0, .int .i64 0, .int .i64 0], .agg [.int .i64 0, .int .i64 0, .int .i64 0, .int .i64 0, .int .i64 0, .int .i64 0, .str ByteArray.empty], .int .i64 3]) (by kernel_rfl) .nil ?_ ?_
    · rw [← h]; exact Le.of rfl
    · rw [← h]; rfl
  · subst h0
    replace h := k0
    obtain ⟨v1, h1, h⟩ := bind_of h
    rcases brk h with ⟨h2, h⟩ | ⟨h2, h⟩
    · have h := Option.some.inj h
      refine hc.ret hfin (fn := Try.f38) (by kernel_rfl) (orc := [(6, [(8, { r := d_seg_Get v1 })]), (7, [(1, { cv := some (.bool true) })])]) (m := 11) (d := .tup [.agg [.int .i64 0, .int .i64 0, .int .i64 0, .int .i64 0, .int .i64 0], .agg [.int .i64 0, .int .i64 0, .int .i64 0, .int .i64 0, .int .i64 0, .int .i64 0, .str ByteArray.empty], .int .i64 1]) (by kernel_rfl) (.cons (c_seg_Get N b140_2 b140_5 b140_0 b140_1 h1) (.cons (Le.tt h2) .nil)) ?_ ?_
      · rw [← h]; exact Le.of rfl
      · rw [← h]; rfl
    · have h := Option.some.inj h
      refine hc.ret hfin (fn := Try.f38) (by kernel_rfl) (orc := [(6, [(8, { r := d_seg_Get v1 })]), (7, [(1, { cv := some (.bool false) })])]) (m := 12) (d := .tup [.agg [.int .i64 b140_0, .int .i64 b140_1, .int .i64 b140_2, .int .i64 v1.1.Sport, .int .i64 v1.1.Dport], .agg [.int .i64 v1.1.Proto, .int .i64 v1.1.Sport, .int .i64 v1.1.Dport, .int .i64 v1.1.Seq, .int .i64 v1.1.Ack, .int .i64 v1.1.Flags, .str v1.1.Body], .int .i64 0]) (by kernel_rfl) (.cons (c_seg_Get N b140_2 b140_5 b140_0 b140_1 h1) (.cons (Le.ff h2) .nil)) ?_ ?_
      · rw [← h]; exact Le.of rfl
      · rw [← h]; rfl

theorem g_flow_Of_0 {c : Cx} (hc : Is c Try.prog ty 38 62) (N : Nat) {r : GFlow × GSeg × Int} (hfin : c.Fin [] (d_flow_Of r) []) (x0 : ByteArray) (h : L_flow_Of N x0 = some r) : c.Goes (items (bodyOf Try.f38) [.c 1]) ⟨[(0, .str x0)], []⟩ := by
  unfold L_flow_Of at h
  obtain ⟨v1, h0, h⟩ := bind_of h
  rcases brk h with ⟨h1, h⟩ | ⟨h1, h⟩
  · have h := Option.some.inj h
    refine hc.ret hfin (fn := Try.f38) (by kernel_rfl) (orc := [(1, [(1, { r := d_ip_Get v1 })]), (2, [(2, { cv := some (.bool true) })])]) (m := 11) (d := .tup [.agg [.int .i64 0, .int .i64 0, .int .i64 0, .int .i64 0, .int .i64 0], .agg [.int .i64 0, .int .i64 0, .int .i64 0, .int .i64 0, .int .i64 0, .int .i64 0, .str ByteArray.empty], .int .i64 v1.2.1]) (by kernel_rfl) (.cons (c_ip_Get N x0 h0) (.cons (Le.tt h1) .nil)) ?_ ?_
    · rw [← h]; exact Le.of rfl
    · rw [← h]; rfl
  · obtain ⟨v2, h2, h⟩ := bind_of h
    rcases brk h with ⟨h3, h⟩ | ⟨h3, h⟩
    · exact hc.jump (orc := [(1, [(1, { r := d_ip_Get v1 })]), (2, [(2, { cv := some (.bool false) })]), (4, [(2, { r := d_flow_handled v2 }), (4, { cv := some (.bool true) })])]) (m := 11) (kt := [2, 3, 5, 22]) (kh := [(116, 116), (124, 124), (140, 140)]) (by kernel_rfl) (.cons (c_ip_Get N x0 h0) (.cons (Le.ff h1) (.cons (c_flow_handled N v1.1.Proto h2) (.cons (Le.tt h3) .nil)))) (g_flow_Of_1 hc N hfin 0 0 0 0 0 0 0 0 0 0 0 ByteArray.empty v1.1.Src v1.1.Dst v1.1.Proto v1.1.Ttl v1.1.Id v1.1.Body true h)
    · exact hc.jump (orc := [(1, [(1, { r := d_ip_Get v1 })]), (2, [(2, { cv := some (.bool false) })]), (4, [(2, { r := d_flow_handled v2 }), (4, { cv := some (.bool false) })])]) (m := 11) (kt := [2, 3, 5, 22]) (kh := [(116, 116), (124, 124), (140, 140)]) (by kernel_rfl) (.cons (c_ip_Get N x0 h0) (.cons (Le.ff h1) (.cons (c_flow_handled N v1.1.Proto h2) (.cons (Le.ff h3) .nil)))) (g_flow_Of_1 hc N hfin 0 0 0 0 0 0 0 0 0 0 0 ByteArray.empty v1.1.Src v1.1.Dst v1.1.Proto v1.1.Ttl v1.1.Id v1.1.Body (v1.1.Dst != 167772161) h)

theorem c_flow_Of (N : Nat) (x0 : ByteArray) {r : GFlow × GSeg × Int} (h : L_flow_Of N x0 = some r) : Con Try.prog 38 [.str x0] [] (d_flow_Of r) [] :=
  con_intro ok mix (fn := Try.f38) (body := bodyOf Try.f38) (by kernel_rfl) (by kernel_rfl) (by kernel_rfl) rfl (Nat.le_of_ble_eq_true (by kernel_rfl)) fun c h1 h2 h3 h4 hfin => g_flow_Of_0 ⟨h1, h2, h3, h4⟩ N hfin x0 h
/-! ### wharfage/wharfageref1.Of -/
def L_ref1_Of_1 (N : Nat) : Nat → ByteArray → Int → Int → Option (Int)
  | 0, _, _, _ => none
  | fuel + 1, t0, t3, t4 =>
    bif (decide (t4 < (t0.size : Int))) then
      if 0 ≤ t4 ∧ t4 < (t0.size : Int) then
      via ((bOr .i64 (IntKind.i64.wrap (t3 * 2 ^ 8)) (IntKind.i64.wrap (bt t0 t4))) : Int) fun v1 =>
      L_ref1_Of_1 N fuel t0 v1 (IntKind.i64.wrap (t4 + 1))
      else none
    else
      some t3
def L_ref1_Of (N : Nat) (x0 : ByteArray) : Option (Int) :=
  L_ref1_Of_1 N N x0 0 0
def d_ref1_Of (r : Int) : D := .int .i64 r
theorem g_ref1_Of_1 {c : Cx} (hc : Is c Try.prog ty 65 19) (N : Nat) {r : Int} (hfin : c.Fin [] (d_ref1_Of r) []) : ∀ (fuel : Nat) (t0 : ByteArray) (t3 : Int) (t4 : Int), L_ref1_Of_1 N fuel t0 t3 t4 = some r → c.Goes (items (bodyOf Try.f65) [.c 75, .l 75, .b 0, .c 15]) ⟨[(0, .str t0), (3, .int .i64 t3), (4, .int .i64 t4)], []⟩ := by
  intro fuel
  induction fuel with
  | zero => intro t0 t3 t4 h; simp [L_ref1_Of_1] at h
  | succ fuel ih =>
    intro t0 t3 t4 h
    unfold L_ref1_Of_1 at h
    rcases brk h with ⟨h0, h⟩ | ⟨h0, h⟩
    · obtain ⟨h1, h⟩ := chk h
      obtain ⟨v1, h2, h⟩ := via_some h
      exact hc.jump (orc := [(3, [(3, { cv := some (.bool true) })]), (5, [(6, { cv := some (.int .i64 v1) })])]) (m := 11) (kt := [0, 3, 4]) (kh := []) (by kernel_rfl) (.cons (Le.tt h0) (.cons ((by decide : (0:Int) ≤ 8)) (.cons (h1) (.cons (Le.int (k := .i64) h2) .nil)))) (ih t0 v1 (IntKind.i64.wrap (t4 + 1)) h)
    · have h := Option.some.inj h
      refine hc.ret hfin (fn := Try.f65) (by kernel_rfl) (orc := [(3, [(3, { cv := some (.bool false) })])]) (m := 7) (d := .int .i64 t3) (by kernel_rfl) (.cons (Le.ff h0) .nil) ?_ ?_
      · rw [← h]; exact Le.of rfl
      · rw [← h]; rfl

theorem g_ref1_Of_0 {c : Cx} (hc : Is c Try.prog ty 65 19) (N : Nat) {r : Int} (hfin : c.Fin [] (d_ref1_Of r) []) (x0 : ByteArray) (h : L_ref1_Of N x0 = some r) : c.Goes (items (bodyOf Try.f65) [.c 1]) ⟨[(0, .str x0)], []⟩ := by
  unfold L_ref1_Of at h
  exact hc.jump (orc := []) (m := 9) (kt := [0, 3, 4]) (kh := []) (by kernel_rfl) .nil (g_ref1_Of_1 hc N hfin N x0 0 0 h)

theorem c_ref1_Of (N : Nat) (x0 : ByteArray) {r : Int} (h : L_ref1_Of N x0 = some r) : Con Try.prog 65 [.str x0] [] (d_ref1_Of r) [] :=
  con_intro ok mix (fn := Try.f65) (body := bodyOf Try.f65) (by kernel_rfl) (by kernel_rfl) (by kernel_rfl) rfl (Nat.le_of_ble_eq_true (by kernel_rfl)) fun c h1 h2 h3 h4 hfin => g_ref1_Of_0 ⟨h1, h2, h3, h4⟩ N hfin x0 h
/-! ### wharfage/wharfageref1.GetIp -/
def L_ref1_GetIp_2 (N : Nat) (t0 : ByteArray) (b116_0 : Int) (b116_1 : Int) (b116_2 : Int) (b116_3 : Int) (b116_4 : Int) (b116_5 : ByteArray) (t5 : Int) (t48 : Bool) : Option (GIp × Int × Int) :=
  bif t48 then
    some ((GIp.mk 0 0 0 0 0 ByteArray.empty), 1, 200)
  else
    bif (decide (t5 > 20)) then
      some ((GIp.mk 0 0 0 0 0 ByteArray.empty), 3, 0)
    else
      if 0 ≤ (8 : Int) ∧ (8 : Int) ≤ (t0.size : Int) ∧ 0 ≤ (6 : Int) ∧ (6 : Int) ≤ (8 : Int) then
      (L_ref1_Of N (t0.extract 6 8)).bind fun v1 =>
      bif ((bAnd .i64 v1 49151) != 0) then
        some ((GIp.mk 0 0 0 0 0 ByteArray.empty), 2, 0)
      else
        if 0 ≤ (16 : Int) ∧ (16 : Int) ≤ (t0.size : Int) ∧ 0 ≤ (12 : Int) ∧ (12 : Int) ≤ (16 : Int) then
        (L_ref1_Of N (t0.extract 12 16)).bind fun v2 =>
        if 0 ≤ (20 : Int) ∧ (20 : Int) ≤ (t0.size : Int) ∧ 0 ≤ (16 : Int) ∧ (16 : Int) ≤ (20 : Int) then
        (L_ref1_Of N (t0.extract 16 20)).bind fun v3 =>
        if 0 ≤ (9 : Int) ∧ (9 : Int) < (t0.size : Int) then
        if 0 ≤ (8 : Int) ∧ (8 : Int) < (t0.size : Int) then
        if 0 ≤ (6 : Int) ∧ (6 : Int) ≤ (t0.size : Int) ∧ 0 ≤ (4 : Int) ∧ (4 : Int) ≤ (6 : Int) then
        (L_ref1_Of N (t0.extract 4 6)).bind fun v4 =>
        if 0 ≤ (t0.size : Int) ∧ (t0.size : Int) ≤ (t0.size : Int) ∧ 0 ≤ (20 : Int) ∧ (20 : Int) ≤ (t0.size : Int) then
        some ((GIp.mk v2 v3 (IntKind.i64.wrap (bt t0 9)) (IntKind.i64.wrap (bt t0 8)) v4 (t0.extract 20 t0.size)), 0, 0)
        else none
        else none
        else none
        else none
        else none
        else none
      else none
def L_ref1_GetIp_1 (N : Nat) (t0 : ByteArray) (b116_0 : Int) (b116_1 : Int) (b116_2 : Int) (b116_3 : Int) (b116_4 : Int) (b116_5 : ByteArray) (t19 : Bool) : Option (GIp × Int × Int) :=
  bif t19 then
    some ((GIp.mk 0 0 0 0 0 ByteArray.empty), 1, 200)
  else
    if 0 ≤ (0 : Int) ∧ (0 : Int) < (t0.size : Int) then
    via ((IntKind.i64.wrap ((4 : Int) * (IntKind.i64.wrap (bAnd .u8 (bt t0 0) 15)))) : Int) fun v1 =>
    bif (decide (v1 < 20)) then
      L_ref1_GetIp_2 N t0 b116_0 b116_1 b116_2 b116_3 b116_4 b116_5 v1 true
    else
      bif (decide (v1 > (t0.size : Int))) then
        L_ref1_GetIp_2 N t0 b116_0 b116_1 b116_2 b116_3 b116_4 b116_5 v1 true
      else
        if 0 ≤ (4 : Int) ∧ (4 : Int) ≤ (t0.size : Int) ∧ 0 ≤ (2 : Int) ∧ (2 : Int) ≤ (4 : Int) then
        (L_ref1_Of N (t0.extract 2 4)).bind fun v2 =>
        bif (v2 != (t0.size : Int)) then
          L_ref1_GetIp_2 N t0 b116_0 b116_1 b116_2 b116_3 b116_4 b116_5 v1 true
        else
          if 0 ≤ v1 ∧ v1 ≤ (t0.size : Int) ∧ 0 ≤ (0 : Int) ∧ (0 : Int) ≤ v1 then
          (L_ref1_Sum N (t0.extract 0 v1.toNat)).bind fun v3 =>
          L_ref1_GetIp_2 N t0 b116_0 b116_1 b116_2 b116_3 b116_4 b116_5 v1 (v3 != 65535)
          else none
        else none
    else none
def L_ref1_GetIp (N : Nat) (x0 : ByteArray) : Option (GIp × Int × Int) :=
  bif (decide ((x0.size : Int) < 20)) then
    L_ref1_GetIp_1 N x0 0 0 0 0 0 ByteArray.empty true
  else
    bif (decide ((x0.size : Int) > 512)) then
      L_ref1_GetIp_1 N x0 0 0 0 0 0 ByteArray.empty true
    else
      if 0 ≤ (0 : Int) ∧ (0 : Int) < (x0.size : Int) then
      L_ref1_GetIp_1 N x0 0 0 0 0 0 ByteArray.empty (((bt x0 0).fdiv (2 ^ 4)) != 4)
      else none
def d_ref1_GetIp (r : GIp × Int × Int) : D := .tup [.agg [.int .i64 r.1.Src, .int .i64 r.1.Dst, .int .i64 r.1.Proto, .int .i64 r.1.Ttl, .int .i64 r.1.Id, .str r.1.Body], .int .i64 r.2.1, .int .i64 r.2.2]
theorem g_ref1_GetIp_2 {c : Cx} (hc : Is c Try.prog ty 54 77) (N : Nat) {r : GIp × Int × Int} (hfin : c.Fin [] (d_ref1_GetIp r) []) (t0 : ByteArray) (b116_0 : Int) (b116_1 : Int) (b116_2 : Int) (b116_3 : Int) (b116_4 : Int) (b116_5 : ByteArray) (t5 : Int) (t48 : Bool) (h : L_ref1_GetIp_2 N t0 b116_0 b116_1 b116_2 b116_3 b116_4 b116_5 t5 t48 = some r) : c.Goes (items (bodyOf Try.f54) [.c 55, .c 31]) ⟨[(0, .str t0), (2, .ptr 116 0), (5, .int .i64 t5), (48, .bool t48)], [(116, some ⟨false, 0, [.int .i64 b116_0, .int .i64 b116_1, .int .i64 b116_2, .int .i64 b116_3, .int .i64 b116_4, .str b116_5]⟩)]⟩ := by
  unfold L_ref1_GetIp_2 at h
  rcases brk h with ⟨h0, k0⟩ | ⟨h0, k0⟩
  · subst h0
    replace h := k0
    have h := Option.some.inj h
    refine hc.ret hfin (fn := Try.f54) (by kernel_rfl) (orc := []) (m := 3) (d := .tup [.agg [.int .i64 0, .int .i64 0, .int .i64 0, .int .i64 0, .int .i64 0, .str ByteArray.empty], .int .i64 1, .int .i64 200]) (by kernel_rfl) .nil ?_ ?_
    · rw [← h]; exact Le.of rfl
    · rw [← h]; rfl
  · subst h0
    replace h := k0
    rcases brk h with ⟨h1, h⟩ | ⟨h1, h⟩
    · have h := Option.some.inj h
      refine hc.ret hfin (fn := Try.f54) (by kernel_rfl) (orc := [(6, [(1, { cv := some (.bool true) })])]) (m := 8) (d := .tup [.agg [.int .i64 0, .int .i64 0, .int .i64 0, .int .i64 0, .int .i64 0, .str ByteArray.empty], .int .i64 3, .int .i64 0]) (by kernel_rfl) (.cons (Le.tt h1) .nil) ?_ ?_
      · rw [← h]; exact Le.of rfl
      · rw [← h]; rfl
    · obtain ⟨h2, h⟩ := chk h
      obtain ⟨v1, h3, h⟩ := bind_of h
      rcases brk h with ⟨h4, h⟩ | ⟨h4, h⟩
      · have h := Option.some.inj h
        refine hc.ret hfin (fn := Try.f54) (by kernel_rfl) (orc := [(6, [(1, { cv := some (.bool false) })]), (8, [(2, { r := d_ref1_Of v1 }), (4, { cv := some (.bool true) })])]) (m := 13) (d := .tup [.agg [.int .i64 0, .int .i64 0, .int .i64 0, .int .i64 0, .int .i64 0, .str ByteArray.empty], .int .i64 2, .int .i64 0]) (by kernel_rfl) (.cons (Le.ff h1) (.cons (h2) (.cons (c_ref1_Of N (t0.extract 6 8) h3) (.cons (Le.tt h4) .nil)))) ?_ ?_
        · rw [← h]; exact Le.of rfl
        · rw [← h]; rfl
      · obtain ⟨h5, h⟩ := chk h
        obtain ⟨v2, h6, h⟩ := bind_of h
        obtain ⟨h7, h⟩ := chk h
        obtain ⟨v3, h8, h⟩ := bind_of h
        obtain ⟨h9, h⟩ := chk h
        obtain ⟨h10, h⟩ := chk h
        obtain ⟨h11, h⟩ := chk h
        obtain ⟨v4, h12, h⟩ := bind_of h
        obtain ⟨h13, h⟩ := chk h
        have h := Option.some.inj h
        refine hc.ret hfin (fn := Try.f54) (by kernel_rfl) (orc := [(6, [(1, { cv := some (.bool false) })]), (8, [(2, { r := d_ref1_Of v1 }), (4, { cv := some (.bool false) })]), (10, [(2, { r := d_ref1_Of v2 }), (5, { r := d_ref1_Of v3 }), (14, { r := d_ref1_Of v4 })])]) (m := 14) (d := .tup [.agg [.int .i64 v2, .int .i64 v3, .int .i64 (IntKind.i64.wrap (bt t0 9)), .int .i64 (IntKind.i64.wrap (bt t0 8)), .int .i64 v4, .str (t0.extract 20 t0.size)], .int .i64 0, .int .i64 0]) (by kernel_rfl) (.cons (Le.ff h1) (.cons (h2) (.cons (c_ref1_Of N (t0.extract 6 8) h3) (.cons (Le.ff h4) (.cons (h5) (.cons (c_ref1_Of N (t0.extract 12 16) h6) (.cons (h7) (.cons (c_ref1_Of N (t0.extract 16 20) h8) (.cons (h9) (.cons (h10) (.cons (h11) (.cons (c_ref1_Of N (t0.extract 4 6) h12) (.cons (h13) .nil))))))))))))) ?_ ?_
        · rw [← h]; exact Le.of rfl
        · rw [← h]; rfl

theorem g_ref1_GetIp_1 {c : Cx} (hc : Is c Try.prog ty 54 77) (N : Nat) {r : GIp × Int × Int} (hfin : c.Fin [] (d_ref1_GetIp r) []) (t0 : ByteArray) (b116_0 : Int) (b116_1 : Int) (b116_2 : Int) (b116_3 : Int) (b116_4 : Int) (b116_5 : ByteArray) (t19 : Bool) (h : L_ref1_GetIp_1 N t0 b116_0 b116_1 b116_2 b116_3 b116_4 b116_5 t19 = some r) : c.Goes (items (bodyOf Try.f54) [.c 13, .c 7]) ⟨[(0, .str t0), (2, .ptr 116 0), (19, .bool t19)], [(116, some ⟨false, 0, [.int .i64 b116_0, .int .i64 b116_1, .int .i64 b116_2, .int .i64 b116_3, .int .i64 b116_4, .str b116_5]⟩)]⟩ := by
  unfold L_ref1_GetIp_1 at h
  rcases brk h with ⟨h0, k0⟩ | ⟨h0, k0⟩
  · subst h0
    replace h := k0
    have h := Option.some.inj h
    refine hc.ret hfin (fn := Try.f54) (by kernel_rfl) (orc := []) (m := 3) (d := .tup [.agg [.int .i64 0, .int .i64 0, .int .i64 0, .int .i64 0, .int .i64 0, .str ByteArray.empty], .int .i64 1, .int .i64 200]) (by kernel_rfl) .nil ?_ ?_
    · rw [← h]; exact Le.of rfl
    · rw [← h]; rfl
  · subst h0
    replace h := k0
    obtain ⟨h1, h⟩ := chk h
    obtain ⟨v1, h2, h⟩ := via_some h
    rcases brk h with ⟨h3, h⟩ | ⟨h3, h⟩
    · exact hc.jump (orc := [(3, [(4, { cv := some (.int .i64 v1) })]), (4, [(2, { cv := some (.bool true) })])]) (m := 7) (kt := [0, 2, 5, 48]) (kh := [(116, 116)]) (by kernel_rfl) (.cons (h1) (.cons (Le.int (k := .i64) h2) (.cons (Le.tt h3) .nil))) (g_ref1_GetIp_2 hc N hfin t0 b116_0 b116_1 b116_2 b116_3 b116_4 b116_5 v1 true h)
    · rcases brk h with ⟨h4, h⟩ | ⟨h4, h⟩
      · exact hc.jump (orc := [(3, [(4, { cv := some (.int .i64 v1) })]), (4, [(2, { cv := some (.bool false) }), (8, { cv := some (.bool true) })])]) (m := 7) (kt := [0, 2, 5, 48]) (kh := [(116, 116)]) (by kernel_rfl) (.cons (h1) (.cons (Le.int (k := .i64) h2) (.cons (Le.ff h3) (.cons (Le.tt h4) .nil)))) (g_ref1_GetIp_2 hc N hfin t0 b116_0 b116_1 b116_2 b116_3 b116_4 b116_5 v1 true h)
      · obtain ⟨h5, h⟩ := chk h
        obtain ⟨v2, h6, h⟩ := bind_of h
        rcases brk h with ⟨h7, h⟩ | ⟨h7, h⟩
        · exact hc.jump (orc := [(3, [(4, { cv := some (.int .i64 v1) })]), (4, [(2, { cv := some (.bool false) }), (8, { cv := some (.bool false) }), (11, { r := d_ref1_Of v2 }), (16, { cv := some (.bool true) })])]) (m := 7) (kt := [0, 2, 5, 48]) (kh := [(116, 116)]) (by kernel_rfl) (.cons (h1) (.cons (Le.int (k := .i64) h2) (.cons (Le.ff h3) (.cons (Le.ff h4) (.cons (h5) (.cons (c_ref1_Of N (t0.extract 2 4) h6) (.cons (Le.tt h7) .nil))))))) (g_ref1_GetIp_2 hc N hfin t0 b116_0 b116_1 b116_2 b116_3 b116_4 b116_5 v1 true h)
        · obtain ⟨h8, h⟩ := chk h
          obtain ⟨v3, h9, h⟩ := bind_of h
          exact hc.jump (orc := [(3, [(4, { cv := some (.int .i64 v1) })]), (4, [(2, { cv := some (.bool false) }), (8, { cv := some (.bool false) }), (11, { r := d_ref1_Of v2 }), (16, { cv := some (.bool false) }), (20, { r := d_ref1_Sum v3 })])]) (m := 7) (kt := [0, 2, 5, 48]) (kh := [(116, 116)]) (by kernel_rfl) (.cons (h1) (.cons (Le.int (k := .i64) h2) (.cons (Le.ff h3) (.cons (Le.ff h4) (.cons (h5) (.cons (c_ref1_Of N (t0.extract 2 4) h6) (.cons (Le.ff h7) (.cons (h8) (.cons (c_ref1_Sum N (t0.extract 0 v1.toNat) h9) .nil))))))))) (g_ref1_GetIp_2 hc N hfin t0 b116_0 b116_1 b116_2 b116_3 b116_4 b116_5 v1 (v3 != 65535) h)

theorem g_ref1_GetIp_0 {c : Cx} (hc : Is c Try.prog ty 54 77) (N : Nat) {r : GIp × Int × Int} (hfin : c.Fin [] (d_ref1_GetIp r) []) (x0 : ByteArray) (h : L_ref1_GetIp N x0 = some r) : c.Goes (items (bodyOf Try.f54) [.c 1]) ⟨[(0, .str x0)], []⟩ := by
  unfold L_ref1_GetIp at h
  rcases brk h with ⟨h0, h⟩ | ⟨h0, h⟩
  · exact hc.jump (orc := [(1, [(3, { cv := some (.bool true) })])]) (m := 5) (kt := [0, 2, 19]) (kh := [(116, 116)]) (by kernel_rfl) (.cons (Le.tt h0) .nil) (g_ref1_GetIp_1 hc N hfin x0 0 0 0 0 0 ByteArray.empty true h)
  · rcases brk h with ⟨h1, h⟩ | ⟨h1, h⟩
    · exact hc.jump (orc := [(1, [(3, { cv := some (.bool false) }), (8, { cv := some (.bool true) })])]) (m := 5) (kt := [0, 2, 19]) (kh := [(116, 116)]) (by kernel_rfl) (.cons (Le.ff h0) (.cons (Le.tt h1) .nil)) (g_ref1_GetIp_1 hc N hfin x0 0 0 0 0 0 ByteArray.empty true h)
    · obtain ⟨h2, h⟩ := chk h
      exact hc.jump (orc := [(1, [(3, { cv := some (.bool false) }), (8, { cv := some (.bool false) })])]) (m := 5) (kt := [0, 2, 19]) (kh := [(116, 116)]) (by kernel_rfl) (.cons (Le.ff h0) (.cons (Le.ff h1) (.cons (h2) (.cons ((by decide : (0:Int) ≤ 4)) .nil)))) (g_ref1_GetIp_1 hc N hfin x0 0 0 0 0 0 ByteArray.empty (((bt x0 0).fdiv (2 ^ 4)) != 4) h)

theorem c_ref1_GetIp (N : Nat) (x0 : ByteArray) {r : GIp × Int × Int} (h : L_ref1_GetIp N x0 = some r) : Con Try.prog 54 [.str x0] [] (d_ref1_GetIp r) [] :=
  con_intro ok mix (fn := Try.f54) (body := bodyOf Try.f54) (by kernel_rfl) (by kernel_rfl) (by kernel_rfl) rfl (Nat.le_of_ble_eq_true (by kernel_rfl)) fun c h1 h2 h3 h4 hfin => g_ref1_GetIp_0 ⟨h1, h2, h3, h4⟩ N hfin x0 h
/-! ### wharfage/wharfageref1.GetSeg -/
def L_ref1_GetSeg_4 (N : Nat) (b164_0 : Int) (b164_1 : Int) (b164_2 : Int) (b164_3 : Int) (b164_4 : Int) (b164_5 : Int) (b164_6 : ByteArray) (b180_0 : Int) (b180_1 : Int) (b180_2 : Int) (b180_3 : Int) (b180_4 : Int) (b180_5 : Int) (b180_6 : ByteArray) (t100 : Bool) : Option (GSeg × Int) :=
  bif t100 then
    some ((GSeg.mk 0 0 0 0 0 0 ByteArray.empty), 300)
  else
    some ((GSeg.mk b180_0 b180_1 b180_2 b180_3 b180_4 b180_5 b180_6), 0)
def L_ref1_GetSeg_3 (N : Nat) (b164_0 : Int) (b164_1 : Int) (b164_2 : Int) (b164_3 : Int) (b164_4 : Int) (b164_5 : Int) (b164_6 : ByteArray) (b180_0 : Int) (b180_1 : Int) (b180_2 : Int) (b180_3 : Int) (b180_4 : Int) (b180_5 : Int) (b180_6 : ByteArray) (t11 : Bool) : Option (GSeg × Int) :=
  bif (!t11) then
    L_ref1_GetSeg_4 N b164_0 b164_1 b164_2 b164_3 b164_4 b164_5 b164_6 b180_0 b180_1 b180_2 b180_3 b180_4 b180_5 b180_6 true
  else
    (L_ref1_SegMay N (GSeg.mk b180_0 b180_1 b180_2 b180_3 b180_4 b180_5 b180_6)).bind fun v1 =>
    L_ref1_GetSeg_4 N b164_0 b164_1 b164_2 b164_3 b164_4 b164_5 b164_6 b180_0 b180_1 b180_2 b180_3 b180_4 b180_5 b180_6 (!v1)
def L_ref1_GetSeg_2 (N : Nat) (t0 : Int) (t1 : ByteArray) (t2 : Int) (t3 : Int) (b164_0 : Int) (b164_1 : Int) (b164_2 : Int) (b164_3 : Int) (b164_4 : Int) (b164_5 : Int) (b164_6 : ByteArray) (b180_0 : Int) (b180_1 : Int) (b180_2 : Int) (b180_3 : Int) (b180_4 : Int) (b180_5 : Int) (b180_6 : ByteArray) (t11 : Bool) (t34 : Bool) : Option (GSeg × Int) :=
  bif t34 then
    if 0 ≤ (8 : Int) ∧ (8 : Int) ≤ (t1.size : Int) ∧ 0 ≤ (4 : Int) ∧ (4 : Int) ≤ (8 : Int) then
    (L_ref1_Of N (t1.extract 4 8)).bind fun v1 =>
    if 0 ≤ (12 : Int) ∧ (12 : Int) ≤ (t1.size : Int) ∧ 0 ≤ (8 : Int) ∧ (8 : Int) ≤ (12 : Int) then
    (L_ref1_Of N (t1.extract 8 12)).bind fun v2 =>
    if 0 ≤ (13 : Int) ∧ (13 : Int) < (t1.size : Int) then
    if 0 ≤ (t1.size : Int) ∧ (t1.size : Int) ≤ (t1.size : Int) ∧ 0 ≤ (20 : Int) ∧ (20 : Int) ≤ (t1.size : Int) then
    if 0 ≤ (12 : Int) ∧ (12 : Int) < (t1.size : Int) then
    bif ((bt t1 12) == 80) then
      (L_ref1_pseudo N t0 t1 t2 t3).bind fun v3 =>
      L_ref1_GetSeg_3 N b164_0 b164_1 b164_2 b164_3 b164_4 b164_5 b164_6 b180_0 b180_1 b180_2 v1 v2 (IntKind.i64.wrap (bt t1 13)) (t1.extract 20 t1.size) (v3 == 65535)
    else
      L_ref1_GetSeg_3 N b164_0 b164_1 b164_2 b164_3 b164_4 b164_5 b164_6 b180_0 b180_1 b180_2 v1 v2 (IntKind.i64.wrap (bt t1 13)) (t1.extract 20 t1.size) false
    else none
    else none
    else none
    else none
    else none
  else
    bif (t0 == 17) then
      if 0 ≤ (t1.size : Int) ∧ (t1.size : Int) ≤ (t1.size : Int) ∧ 0 ≤ (8 : Int) ∧ (8 : Int) ≤ (t1.size : Int) then
      if 0 ≤ (6 : Int) ∧ (6 : Int) ≤ (t1.size : Int) ∧ 0 ≤ (4 : Int) ∧ (4 : Int) ≤ (6 : Int) then
      (L_ref1_Of N (t1.extract 4 6)).bind fun v1 =>
      bif (v1 == (t1.size : Int)) then
        if 0 ≤ (8 : Int) ∧ (8 : Int) ≤ (t1.size : Int) ∧ 0 ≤ (6 : Int) ∧ (6 : Int) ≤ (8 : Int) then
        (L_ref1_Of N (t1.extract 6 8)).bind fun v2 =>
        bif (v2 == 0) then
          L_ref1_GetSeg_3 N b164_0 b164_1 b164_2 b164_3 b164_4 b164_5 b164_6 b180_0 b180_1 b180_2 b180_3 b180_4 b180_5 (t1.extract 8 t1.size) true
        else
          (L_ref1_pseudo N t0 t1 t2 t3).bind fun v3 =>
          L_ref1_GetSeg_3 N b164_0 b164_1 b164_2 b164_3 b164_4 b164_5 b164_6 b180_0 b180_1 b180_2 b180_3 b180_4 b180_5 (t1.extract 8 t1.size) (v3 == 65535)
        else none
      else
        L_ref1_GetSeg_3 N b164_0 b164_1 b164_2 b164_3 b164_4 b164_5 b164_6 b180_0 b180_1 b180_2 b180_3 b180_4 b180_5 (t1.extract 8 t1.size) false
      else none
      else none
    else
      L_ref1_GetSeg_3 N b164_0 b164_1 b164_2 b164_3 b164_4 b164_5 b164_6 b180_0 b180_1 b180_2 b180_3 b180_4 b180_5 b180_6 t11
def L_ref1_GetSeg_1 (N : Nat) (t0 : Int) (t1 : ByteArray) (t2 : Int) (t3 : Int) (b164_0 : Int) (b164_1 : Int) (b164_2 : Int) (b164_3 : Int) (b164_4 : Int) (b164_5 : Int) (b164_6 : ByteArray) (t24 : Bool) : Option (GSeg × Int) :=
  bif t24 then
    some ((GSeg.mk 0 0 0 0 0 0 ByteArray.empty), 300)
  else
    if 0 ≤ (2 : Int) ∧ (2 : Int) ≤ (t1.size : Int) ∧ 0 ≤ (0 : Int) ∧ (0 : Int) ≤ (2 : Int) then
    (L_ref1_Of N (t1.extract 0 2)).bind fun v1 =>
    if 0 ≤ (4 : Int) ∧ (4 : Int) ≤ (t1.size : Int) ∧ 0 ≤ (2 : Int) ∧ (2 : Int) ≤ (4 : Int) then
    (L_ref1_Of N (t1.extract 2 4)).bind fun v2 =>
    bif (t0 == 6) then
      L_ref1_GetSeg_2 N t0 t1 t2 t3 b164_0 b164_1 b164_2 b164_3 b164_4 b164_5 b164_6 t0 v1 v2 0 0 0 ByteArray.empty false (decide ((t1.size : Int) ≥ 20))
    else
      L_ref1_GetSeg_2 N t0 t1 t2 t3 b164_0 b164_1 b164_2 b164_3 b164_4 b164_5 b164_6 t0 v1 v2 0 0 0 ByteArray.empty false false
    else none
    else none
def L_ref1_GetSeg (N : Nat) (x0 : Int) (x1 : ByteArray) (x2 : Int) (x3 : Int) : Option (GSeg × Int) :=
  (L_ref1_within N x2 32).bind fun v1 =>
  bif (!v1) then
    L_ref1_GetSeg_1 N x0 x1 x2 x3 0 0 0 0 0 0 ByteArray.empty true
  else
    (L_ref1_within N x3 32).bind fun v2 =>
    bif (!v2) then
      L_ref1_GetSeg_1 N x0 x1 x2 x3 0 0 0 0 0 0 ByteArray.empty true
    else
      L_ref1_GetSeg_1 N x0 x1 x2 x3 0 0 0 0 0 0 ByteArray.empty (decide ((x1.size : Int) < 8))
def d_ref1_GetSeg (r : GSeg × Int) : D := .tup [.agg [.int .i64 r.1.Proto, .int .i64 r.1.Sport, .int .i64 r.1.Dport, .int .i64 r.1.Seq, .int .i64 r.1.Ack, .int .i64 r.1.Flags, .str r.1.Body], .int .i64 r.2]
theorem g_ref1_GetSeg_4 {c : Cx} (hc : Is c Try.prog ty 32 103) (N : Nat) {r : GSeg × Int} (hfin : c.Fin [] (d_ref1_GetSeg r) []) (b164_0 : Int) (b164_1 : Int) (b164_2 : Int) (b164_3 : Int) (b164_4 : Int) (b164_5 : Int) (b164_6 : ByteArray) (b180_0 : Int) (b180_1 : Int) (b180_2 : Int) (b180_3 : Int) (b180_4 : Int) (b180_5 : Int) (b180_6 : ByteArray) (t100 : Bool) (h : L_ref1_GetSeg_4 N b164_0 b164_1 b164_2 b164_3 b164_4 b164_5 b164_6 b180_0 b180_1 b180_2 b180_3 b180_4 b180_5 b180_6 t100 = some r) : c.Goes (items (bodyOf Try.f32) [.c 223, .c 127]) ⟨[(8, .ptr 164 0), (10, .ptr 180 0), (100, .bool t100)], [(164, some ⟨false, 0, [.int .i64 b164_0, .int .i64 b164_1, .int .i64 b164_2, .int .i64 b164_3, .int .i64 b164_4, .int .i64 b164_5, .str b164_6]⟩), (180, some ⟨false, 0, [.int .i64 b180_0, .int .i64 b180_1, .int .i64 b180_2, .int .i64 b180_3, .int .i64 b180_4, .int .i64 b180_5, .str b180_6]⟩)]⟩ := by
  unfold L_ref1_GetSeg_4 at h
  rcases brk h with ⟨h0, k0⟩ | ⟨h0, k0⟩
  · subst h0
    replace h := k0
    have h := Option.some.inj h
    refine hc.ret hfin (fn := Try.f32) (by kernel_rfl) (orc := []) (m := 3) (d := .tup [.agg [.int .i64 0, .int .i64 0, .int .i64 0, .int .i64 0, .int .i64 0, .int .i64 0, .str ByteArray.empty], .int .i64 300]) (by kernel_rfl) .nil ?_ ?_
    · rw [← h]; exact Le.of rfl
    · rw [← h]; rfl
  · subst h0
    replace h := k0
    have h := Option.some.inj h
    refine hc.ret hfin (fn := Try.f32) (by kernel_rfl) (orc := []) (m := 4) (d := .tup [.agg [.int .i64 b180_0, .int .i64 b180_1, .int .i64 b180_2, .int .i64 b180_3, .int .i64 b180_4, .int .i64 b180_5, .str b180_6], .int .i64 0]) (by kernel_rfl) .nil ?_ ?_
    · rw [← h]; exact Le.of rfl
    · rw [← h]; rfl

theorem g_ref1_GetSeg_3 {c : Cx} (hc : Is c Try.prog ty 32 103) (N : Nat) {r : GSeg × Int} (hfin : c.Fin [] (d_ref1_GetSeg r) []) (b164_0 : Int) (b164_1 : Int) (b164_2 : Int) (b164_3 : Int) (b164_4 : Int) (b164_5 : Int) (b164_6 : ByteArray) (b180_0 : Int) (b180_1 : Int) (b180_2 : Int) (b180_3 : Int) (b180_4 : Int) (b180_5 : Int) (b180_6 : ByteArray) (t11 : Bool) (h : L_ref1_GetSeg_3 N b164_0 b164_1 b164_2 b164_3 b164_4 b164_5 b164_6 b180_0 b180_1 b180_2 b180_3 b180_4 b180_5 b180_6 t11 = some r) : c.Goes (items (bodyOf Try.f32) [.b 0, .c 63]) ⟨[(8, .ptr 164 0), (10, .ptr 180 0), (11, .bool t11)], [(164, some ⟨false, 0, [.int .i64 b164_0, .int .i64 b164_1, .int .i64 b164_2, .int .i64 b164_3, .int .i64 b164_4, .int .i64 b164_5, .str b164_6]⟩), (180, some ⟨false, 0, [.int .i64 b180_0, .int .i64 b180_1, .int .i64 b180_2, .int .i64 b180_3, .int .i64 b180_4, .int .i64 b180_5, .str b180_6]⟩)]⟩ := by
  unfold L_ref1_GetSeg_3 at h
  rcases brk h with ⟨h0, h⟩ | ⟨h0, h⟩
  · exact hc.jump (orc := [(14, [(2, { cv := some (.bool true) })])]) (m := 4) (kt := [8, 10, 100]) (kh := [(164, 164), (180, 180)]) (by kernel_rfl) (.cons (Le.tt h0) .nil) (g_ref1_GetSeg_4 hc N hfin b164_0 b164_1 b164_2 b164_3 b164_4 b164_5 b164_6 b180_0 b180_1 b180_2 b180_3 b180_4 b180_5 b180_6 true h)
  · obtain ⟨v1, h1, h⟩ := bind_of h
    exact hc.jump (orc := [(14, [(2, { cv := some (.bool false) }), (4, { r := d_ref1_SegMay v1 })])]) (m := 4) (kt := [8, 10, 100]) (kh := [(164, 164), (180, 180)]) (by kernel_rfl) (.cons (Le.ff h0) (.cons (c_ref1_SegMay N (GSeg.mk b180_0 b180_1 b180_2 b180_3 b180_4 b180_5 b180_6) h1) .nil)) (g_ref1_GetSeg_4 hc N hfin b164_0 b164_1 b164_2 b164_3 b164_4 b164_5 b164_6 b180_0 b180_1 b180_2 b180_3 b180_4 b180_5 b180_6 (!v1) h)

theorem g_ref1_GetSeg_2 {c : Cx} (hc : Is c Try.prog ty 32 103) (N : Nat) {r : GSeg × Int} (hfin : c.Fin [] (d_ref1_GetSeg r) []) (t0 : Int) (t1 : ByteArray) (t2 : Int) (t3 : Int) (b164_0 : Int) (b164_1 : Int) (b164_2 : Int) (b164_3 : Int) (b164_4 : Int) (b164_5 : Int) (b164_6 : ByteArray) (b180_0 : Int) (b180_1 : Int) (b180_2 : Int) (b180_3 : Int) (b180_4 : Int) (b180_5 : Int) (b180_6 : ByteArray) (t11 : Bool) (t34 : Bool) (h : L_ref1_GetSeg_2 N t0 t1 t2 t3 b164_0 b164_1 b164_2 b164_3 b164_4 b164_5 b164_6 b180_0 b180_1 b180_2 b180_3 b180_4 b180_5 b180_6 t11 t34 = some r) : c.Goes (items (bodyOf Try.f32) [.c 207, .b 0, .c 63]) ⟨[(0, .int .i64 t0), (1, .str t1), (2, .int .i64 t2), (3, .int .i64 t3), (8, .ptr 164 0), (10, .ptr 180 0), (11, .bool t11), (34, .bool t34)], [(164, some ⟨false, 0, [.int .i64 b164_0, .int .i64 b164_1, .int .i64 b164_2, .int .i64 b164_3, .int .i64 b164_4, .int .i64 b164_5, .str b164_6]⟩), (180, some ⟨false, 0, [.int .i64 b180_0, .int .i64 b180_1, .int .i64 b180_2, .int .i64 b180_3, .int .i64 b180_4, .int .i64 b180_5, .str b180_6]⟩)]⟩ := by
  unfold L_ref1_GetSeg_2 at h
  rcases brk h with ⟨h0, k0⟩ | ⟨h0, k0⟩
  · subst h0
    replace h := k0
    obtain ⟨h1, h⟩ := chk h
    obtain ⟨v1, h2, h⟩ := bind_of h
    obtain ⟨h3, h⟩ := chk h
    obtain ⟨v2, h4, h⟩ := bind_of h
    obtain ⟨h5, h⟩ := chk h
    obtain ⟨h6, h⟩ := chk h
    obtain ⟨h7, h⟩ := chk h
    rcases brk h with ⟨h8, h⟩ | ⟨h8, h⟩
    · obtain ⟨v3, h9, h⟩ := bind_of h
      exact hc.jump (orc := [(6, [(2, { r := d_ref1_Of v1 })]), (7, [(2, { r := d_ref1_Of v2 })]), (10, [(3, { cv := some (.bool true) }), (8, { r := d_ref1_pseudo v3 })])]) (m := 10) (kt := [8, 10, 11]) (kh := [(164, 164), (180, 180)]) (by kernel_rfl) (.cons (h1) (.cons (c_ref1_Of N (t1.extract 4 8) h2) (.cons (h3) (.cons (c_ref1_Of N (t1.extract 8 12) h4) (.cons (h5) (.cons (h6) (.cons (h7) (.cons (Le.tt h8) (.cons (c_ref1_pseudo N t0 t1 t2 t3 h9) .nil))))))))) (g_ref1_GetSeg_3 hc N hfin b164_0 b164_1 b164_2 b164_3 b164_4 b164_5 b164_6 b180_0 b180_1 b180_2 v1 v2 (IntKind.i64.wrap (bt t1 13)) (t1.extract 20 t1.size) (v3 == 65535) h)
    · exact hc.jump (orc := [(6, [(2, { r := d_ref1_Of v1 })]), (7, [(2, { r := d_ref1_Of v2 })]), (10, [(3, { cv := some (.bool false) })])]) (m := 10) (kt := [8, 10, 11]) (kh := [(164, 164), (180, 180)]) (by kernel_rfl) (.cons (h1) (.cons (c_ref1_Of N (t1.extract 4 8) h2) (.cons (h3) (.cons (c_ref1_Of N (t1.extract 8 12) h4) (.cons (h5) (.cons (h6) (.cons (h7) (.cons (Le.ff h8) .nil)))))))) (g_ref1_GetSeg_3 hc N hfin b164_0 b164_1 b164_2 b164_3 b164_4 b164_5 b164_6 b180_0 b180_1 b180_2 v1 v2 (IntKind.i64.wrap (bt t1 13)) (t1.extract 20 t1.size) false h)
  · subst h0
    replace h := k0
    rcases brk h with ⟨h1, h⟩ | ⟨h1, h⟩
    · obtain ⟨h2, h⟩ := chk h
      obtain ⟨h3, h⟩ := chk h
      obtain ⟨v1, h4, h⟩ := bind_of h
      rcases brk h with ⟨h5, h⟩ | ⟨h5, h⟩
      · obtain ⟨h6, h⟩ := chk h
        obtain ⟨v2, h7, h⟩ := bind_of h
        rcases brk h with ⟨h8, h⟩ | ⟨h8, h⟩
        · exact hc.jump (orc := [(11, [(2, { cv := some (.bool true) })]), (13, [(2, { r := d_ref1_Of v1 }), (6, { cv := some (.bool true) }), (9, { r := d_ref1_Of v2 }), (11, { cv := some (.bool true) })])]) (m := 7) (kt := [8, 10, 11]) (kh := [(164, 164), (180, 180)]) (by kernel_rfl) (.cons (Le.tt h1) (.cons (h2) (.cons (h3) (.cons (c_ref1_Of N (t1.extract 4 6) h4) (.cons (Le.tt h5) (.cons (h6) (.cons (c_ref1_Of N (t1.extract 6 8) h7) (.cons (Le.tt h8) .nil)))))))) (g_ref1_GetSeg_3 hc N hfin b164_0 b164_1 b164_2 b164_3 b164_4 b164_5 b164_6 b180_0 b180_1 b180_2 b180_3 b180_4 b180_5 (t1.extract 8 t1.size) true h)
        · obtain ⟨v3, h9, h⟩ := bind_of h
          exact hc.jump (orc := [(11, [(2, { cv := some (.bool true) })]), (13, [(2, { r := d_ref1_Of v1 }), (6, { cv := some (.bool true) }), (9, { r := d_ref1_Of v2 }), (11, { cv := some (.bool false) }), (16, { r := d_ref1_pseudo v3 })])]) (m := 7) (kt := [8, 10, 11]) (kh := [(164, 164), (180, 180)]) (by kernel_rfl) (.cons (Le.tt h1) (.cons (h2) (.cons (h3) (.cons (c_ref1_Of N (t1.extract 4 6) h4) (.cons (Le.tt h5) (.cons (h6) (.cons (c_ref1_Of N (t1.extract 6 8) h7) (.cons (Le.ff h8) (.cons (c_ref1_pseudo N t0 t1 t2 t3 h9) .nil))))))))) (g_ref1_GetSeg_3 hc N hfin b164_0 b164_1 b164_2 b164_3 b164_4 b164_5 b164_6 b180_0 b180_1 b180_2 b180_3 b180_4 b180_5 (t1.extract 8 t1.size) (v3 == 65535) h)
      · exact hc.jump (orc := [(11, [(2, { cv := some (.bool true) })]), (13, [(2, { r := d_ref1_Of v1 }), (6, { cv := some (.bool false) })])]) (m := 7) (kt := [8, 10, 11]) (kh := [(164, 164), (180, 180)]) (by kernel_rfl) (.cons (Le.tt h1) (.cons (h2) (.cons (h3) (.cons (c_ref1_Of N (t1.extract 4 6) h4) (.cons (Le.ff h5) .nil))))) (g_ref1_GetSeg_3 hc N hfin b164_0 b164_1 b164_2 b164_3 b164_4 b164_5 b164_6 b180_0 b180_1 b180_2 b180_3 b180_4 b180_5 (t1.extract 8 t1.size) false h)
    · exact hc.jump (orc := [(11, [(2, { cv := some (.bool false) })])]) (m := 5) (kt := [8, 10, 11]) (kh := [(164, 164), (180, 180)]) (by kernel_rfl) (.cons (Le.ff h1) .nil) (g_ref1_GetSeg_3 hc N hfin b164_0 b164_1 b164_2 b164_3 b164_4 b164_5 b164_6 b180_0 b180_1 b180_2 b180_3 b180_4 b180_5 b180_6 t11 h)

theorem g_ref1_GetSeg_1 {c : Cx} (hc : Is c Try.prog ty 32 103) (N : Nat) {r : GSeg × Int} (hfin : c.Fin [] (d_ref1_GetSeg r) []) (t0 : Int) (t1 : ByteArray) (t2 : Int) (t3 : Int) (b164_0 : Int) (b164_1 : Int) (b164_2 : Int) (b164_3 : Int) (b164_4 : Int) (b164_5 : Int) (b164_6 : ByteArray) (t24 : Bool) (h : L_ref1_GetSeg_1 N t0 t1 t2 t3 b164_0 b164_1 b164_2 b164_3 b164_4 b164_5 b164_6 t24 = some r) : c.Goes (items (bodyOf Try.f32) [.c 13, .c 7]) ⟨[(0, .int .i64 t0), (1, .str t1), (2, .int .i64 t2), (3, .int .i64 t3), (8, .ptr 164 0), (24, .bool t24)], [(164, some ⟨false, 0, [.int .i64 b164_0, .int .i64 b164_1, .int .i64 b164_2, .int .i64 b164_3, .int .i64 b164_4, .int .i64 b164_5, .str b164_6]⟩)]⟩ := by
  unfold L_ref1_GetSeg_1 at h
  rcases brk h with ⟨h0, k0⟩ | ⟨h0, k0⟩
  · subst h0
    replace h := k0
    have h := Option.some.inj h
    refine hc.ret hfin (fn := Try.f32) (by kernel_rfl) (orc := []) (m := 3) (d := .tup [.agg [.int .i64 0, .int .i64 0, .int .i64 0, .int .i64 0, .int .i64 0, .int .i64 0, .str ByteArray.empty], .int .i64 300]) (by kernel_rfl) .nil ?_ ?_
    · rw [← h]; exact Le.of rfl
    · rw [← h]; rfl
  · subst h0
    replace h := k0
    obtain ⟨h1, h⟩ := chk h
    obtain ⟨v1, h2, h⟩ := bind_of h
    obtain ⟨h3, h⟩ := chk h
    obtain ⟨v2, h4, h⟩ := bind_of h
    rcases brk h with ⟨h5, h⟩ | ⟨h5, h⟩
    · exact hc.jump (orc := [(3, [(3, { r := d_ref1_Of v1 }), (6, { r := d_ref1_Of v2 })]), (5, [(2, { cv := some (.bool true) })])]) (m := 10) (kt := [0, 1, 2, 3, 8, 10, 11, 34]) (kh := [(164, 164), (180, 180)]) (by kernel_rfl) (.cons (h1) (.cons (c_ref1_Of N (t1.extract 0 2) h2) (.cons (h3) (.cons (c_ref1_Of N (t1.extract 2 4) h4) (.cons (Le.tt h5) .nil))))) (g_ref1_GetSeg_2 hc N hfin t0 t1 t2 t3 b164_0 b164_1 b164_2 b164_3 b164_4 b164_5 b164_6 t0 v1 v2 0 0 0 ByteArray.empty false (decide ((t1.size : Int) ≥ 20)) h)
    · exact hc.jump (orc := [(3, [(3, { r := d_ref1_Of v1 }), (6, { r := d_ref1_Of v2 })]), (5, [(2, { cv := some (.bool false) })])]) (m := 10) (kt := [0, 1, 2, 3, 8, 10, 11, 34]) (kh := [(164, 164), (180, 180)]) (by kernel_rfl) (.cons (h1) (.cons (c_ref1_Of N (t1.extract 0 2) h2) (.cons (h3) (.cons (c_ref1_Of N (t1.extract 2 4) h4) (.cons (Le.ff h5) .nil))))) (g_ref1_GetSeg_2 hc N hfin t0 t1 t2 t3 b164_0 b164_1 b164_2 b164_3 b164_4 b164_5 b164_6 t0 v1 v2 0 0 0 ByteArray.empty false false h)

theorem g_ref1_GetSeg_0 {c : Cx} (hc : Is c Try.prog ty 32 103) (N : Nat) {r : GSeg × Int} (hfin : c.Fin [] (d_ref1_GetSeg r) []) (x0 : Int) (x1 : ByteArray) (x2 : Int) (x3 : Int) (h : L_ref1_GetSeg N x0 x1 x2 x3 = some r) : c.Goes (items (bodyOf Try.f32) [.c 1]) ⟨[(0, .int .i64 x0), (1, .str x1), (2, .int .i64 x2), (3, .int .i64 x3)], []⟩ := by
  unfold L_ref1_GetSeg at h
  obtain ⟨v1, h0, h⟩ := bind_of h
  rcases brk h with ⟨h1, h⟩ | ⟨h1, h⟩
  · exact hc.jump (orc := [(1, [(1, { r := d_ref1_within v1 }), (3, { cv := some (.bool true) })])]) (m := 5) (kt := [0, 1, 2, 3, 8, 24]) (kh := [(164, 164)]) (by kernel_rfl) (.cons (c_ref1_within N x2 32 h0) (.cons (Le.tt h1) .nil)) (g_ref1_GetSeg_1 hc N hfin x0 x1 x2 x3 0 0 0 0 0 0 ByteArray.empty true h)
  · obtain ⟨v2, h2, h⟩ := bind_of h
    rcases brk h with ⟨h3, h⟩ | ⟨h3, h⟩
    · exact hc.jump (orc := [(1, [(1, { r := d_ref1_within v1 }), (3, { cv := some (.bool false) }), (5, { r := d_ref1_within v2 }), (8, { cv := some (.bool true) })])]) (m := 5) (kt := [0, 1, 2, 3, 8, 24]) (kh := [(164, 164)]) (by kernel_rfl) (.cons (c_ref1_within N x2 32 h0) (.cons (Le.ff h1) (.cons (c_ref1_within N x3 32 h2) (.cons (Le.tt h3) .nil)))) (g_ref1_GetSeg_1 hc N hfin x0 x1 x2 x3 0 0 0 0 0 0 ByteArray.empty true h)
    · exact hc.jump (orc := [(1, [(1, { r := d_ref1_within v1 }), (3, { cv := some (.bool false) }), (5, { r := d_ref1_within v2 }), (8, { cv := some (.bool false) })])]) (m := 5) (kt := [0, 1, 2, 3, 8, 24]) (kh := [(164, 164)]) (by kernel_rfl) (.cons (c_ref1_within N x2 32 h0) (.cons (Le.ff h1) (.cons (c_ref1_within N x3 32 h2) (.cons (Le.ff h3) .nil)))) (g_ref1_GetSeg_1 hc N hfin x0 x1 x2 x3 0 0 0 0 0 0 ByteArray.empty (decide ((x1.size : Int) < 8)) h)

theorem c_ref1_GetSeg (N : Nat) (x0 : Int) (x1 : ByteArray) (x2 : Int) (x3 : Int) {r : GSeg × Int} (h : L_ref1_GetSeg N x0 x1 x2 x3 = some r) : Con Try.prog 32 [.int .i64 x0, .str x1, .int .i64 x2, .int .i64 x3] [] (d_ref1_GetSeg r) [] :=
  con_intro ok mix (fn := Try.f32) (body := bodyOf Try.f32) (by kernel_rfl) (by kernel_rfl) (by kernel_rfl) rfl (Nat.le_of_ble_eq_true (by kernel_rfl)) fun c h1 h2 h3 h4 hfin => g_ref1_GetSeg_0 ⟨h1, h2, h3, h4⟩ N hfin x0 x1 x2 x3 h
/-! ### wharfage/wharfageref1.FlowOf -/
def L_ref1_FlowOf_1 (N : Nat) (b116_0 : Int) (b116_1 : Int) (b116_2 : Int) (b116_3 : Int) (b116_4 : Int) (b124_0 : Int) (b124_1 : Int) (b124_2 : Int) (b124_3 : Int) (b124_4 : Int) (b124_5 : Int) (b124_6 : ByteArray) (b140_0 : Int) (b140_1 : Int) (b140_2 : Int) (b140_3 : Int) (b140_4 : Int) (b140_5 : ByteArray) (t33 : Bool) : Option (GFlow × GSeg × Int) :=
  bif t33 then
    some ((GFlow.mk 0 0 0 0 0), (GSeg.mk 0 0 0 0 0 0 ByteArray.empty), 3)
  else
    (L_ref1_GetSeg N b140_2 b140_5 b140_0 b140_1).bind fun v1 =>
    bif (v1.2 != 0) then
      some ((GFlow.mk 0 0 0 0 0), (GSeg.mk 0 0 0 0 0 0 ByteArray.empty), 1)
    else
      some ((GFlow.mk b140_0 b140_1 b140_2 v1.1.Sport v1.1.Dport), v1.1, 0)
def L_ref1_FlowOf (N : Nat) (x0 : ByteArray) : Option (GFlow × GSeg × Int) :=
  (L_ref1_GetIp N x0).bind fun v1 =>
  bif (v1.2.1 != 0) then
    some ((GFlow.mk 0 0 0 0 0), (GSeg.mk 0 0 0 0 0 0 ByteArray.empty), v1.2.1)
  else
    bif (v1.1.Proto != 6) then
      bif (v1.1.Proto != 17) then
        L_ref1_FlowOf_1 N 0 0 0 0 0 0 0 0 0 0 0 ByteArray.empty v1.1.Src v1.1.Dst v1.1.Proto v1.1.Ttl v1.1.Id v1.1.Body true
      else
        L_ref1_FlowOf_1 N 0 0 0 0 0 0 0 0 0 0 0 ByteArray.empty v1.1.Src v1.1.Dst v1.1.Proto v1.1.Ttl v1.1.Id v1.1.Body (v1.1.Dst != 167772161)
    else
      L_ref1_FlowOf_1 N 0 0 0 0 0 0 0 0 0 0 0 ByteArray.empty v1.1.Src v1.1.Dst v1.1.Proto v1.1.Ttl v1.1.Id v1.1.Body (v1.1.Dst != 167772161)
def d_ref1_FlowOf (r : GFlow × GSeg × Int) : D := .tup [.agg [.int .i64 r.1.Src, .int .i64 r.1.Dst, .int .i64 r.1.Proto, .int .i64 r.1.Sport, .int .i64 r.1.Dport], .agg [.int .i64 r.2.1.Proto, .int .i64 r.2.1.Sport, .int .i64 r.2.1.Dport, .int .i64 r.2.1.Seq, .int .i64 r.2.1.Ack, .int .i64 r.2.1.Flags, .str r.2.1.Body], .int .i64 r.2.2]
theorem g_ref1_FlowOf_1 {c : Cx} (hc : Is c Try.prog ty 39 64) (N : Nat) {r : GFlow × GSeg × Int} (hfin : c.Fin [] (d_ref1_FlowOf r) []) (b116_0 : Int) (b116_1 : Int) (b116_2 : Int) (b116_3 : Int) (b116_4 : Int) (b124_0 : Int) (b124_1 : Int) (b124_2 : Int) (b124_3 : Int) (b124_4 : Int) (b124_5 : Int) (b124_6 : ByteArray) (b140_0 : Int) (b140_1 : Int) (b140_2 : Int) (b140_3 : Int) (b140_4 : Int) (b140_5 : ByteArray) (t33 : Bool) (h : L_ref1_FlowOf_1 N b116_0 b116_1 b116_2 b116_3 b116_4 b124_0 b124_1 b124_2 b124_3 b124_4 b124_5 b124_6 b140_0 b140_1 b140_2 b140_3 b140_4 b140_5 t33 = some r) : c.Goes (items (bodyOf Try.f39) [.c 55, .c 31]) ⟨[(2, .ptr 116 0), (3, .ptr 124 0), (5, .ptr 140 0), (33, .bool t33)], [(116, some ⟨false, 0, [.int .i64 b116_0, .int .i64 b116_1, .int .i64 b116_2, .int .i64 b116_3, .int .i64 b116_4]⟩), (124, some ⟨false, 0, [.int .i64 b124_0, .int .i64 b124_1, .int .i64 b124_2, .int .i64 b124_3, .int .i64 b124_4, .int .i64 b124_5, .str b124_6]⟩), (140, some ⟨false, 0, [.int .i64 b140_0, .int .i64 b140_1, .int .i64 b140_2, .int .i64 b140_3, .int .i64 b140_4, .str b140_5]⟩)]⟩ := by
  unfold L_ref1_FlowOf_1 at h
  rcases brk h with ⟨h0, k0⟩ | ⟨h0, k0⟩
  · subst h0
    replace h := k0
    have h := Option.some.inj h
    refine hc.ret hfin (fn := Try.f39) (by kernel_rfl) (orc := []) (m := 3) (d := .tup [.agg [.int .i64 0, .int .i64 0, .int .i64 0, .int .i64 0, .int .i64 0], .agg [.int .i64 0, .int .i64 0, .int .i64 0, .int .i64 0, .int .i64 0, .int .i64 0, .str ByteArray.empty], .int .i64 3]) (by kernel_rfl) .nil ?_ ?_
    · rw [← h]; exact Le.of rfl
    · rw [← h]; rfl
  · subst h0
    replace h := k0
    obtain ⟨v1, h1, h⟩ := bind_of h
    rcases brk h with ⟨h2, h⟩ | ⟨h2, h⟩
    · have h := Option.some.inj h
      refine hc.ret hfin (fn := Try.f39) (by kernel_rfl) (orc := [(6, [(8, { r := d_ref1_GetSeg v1 })]), (7, [(1, { cv := some (.bool true) })])]) (m := 10) (d := .tup [.agg [.int .i64 0, .int .i64 0, .int .i64 0, .int .i64 0, .int .i64 0], .agg [.int .i64 0, .int .i64 0, .int .i64 0, .int .i64 0, .int .i64 0, .int .i64 0, .str ByteArray.empty], .int .i64 1]) (by kernel_rfl) (.cons (c_ref1_GetSeg N b140_2 b140_5 b140_0 b140_1 h1) (.cons (Le.tt h2) .nil)) ?_ ?_
      · rw [← h]; exact Le.of rfl
      · rw [← h]; rfl
    · have h := Option.some.inj h
      refine hc.ret hfin (fn := Try.f39) (by kernel_rfl) (orc := [(6, [(8, { r := d_ref1_GetSeg v1 })]), (7, [(1, { cv := some (.bool false) })])]) (m := 11) (d := .tup [.agg [.int .i64 b140_0, .int .i64 b140_1, .int .i64 b140_2, .int .i64 v1.1.Sport, .int .i64 v1.1.Dport], .agg [.int .i64 v1.1.Proto, .int .i64 v1.1.Sport, .int .i64 v1.1.Dport, .int .i64 v1.1.Seq, .int .i64 v1.1.Ack, .int .i64 v1.1.Flags, .str v1.1.Body], .int .i64 0]) (by kernel_rfl) (.cons (c_ref1_GetSeg N b140_2 b140_5 b140_0 b140_1 h1) (.cons (Le.ff h2) .nil)) ?_ ?_
      · rw [← h]; exact Le.of rfl
      · rw [← h]; rfl

theorem g_ref1_FlowOf_0 {c : Cx} (hc : Is c Try.prog ty 39 64) (N : Nat) {r : GFlow × GSeg × Int} (hfin : c.Fin [] (d_ref1_FlowOf r) []) (x0 : ByteArray) (h : L_ref1_FlowOf N x0 = some r) : c.Goes (items (bodyOf Try.f39) [.c 1]) ⟨[(0, .str x0)], []⟩ := by
  unfold L_ref1_FlowOf at h
  obtain ⟨v1, h0, h⟩ := bind_of h
  rcases brk h with ⟨h1, h⟩ | ⟨h1, h⟩
  · have h := Option.some.inj h
    refine hc.ret hfin (fn := Try.f39) (by kernel_rfl) (orc := [(1, [(1, { r := d_ref1_GetIp v1 })]), (2, [(1, { cv := some (.bool true) })])]) (m := 10) (d := .tup [.agg [.int .i64 0, .int .i64 0, .int .i64 0, .int .i64 0, .int .i64 0], .agg [.int .i64 0, .int .i64 0, .int .i64 0, .int .i64 0, .int .i64 0, .int .i64 0, .str ByteArray.empty], .int .i64 v1.2.1]) (by kernel_rfl) (.cons (c_ref1_GetIp N x0 h0) (.cons (Le.tt h1) .nil)) ?_ ?_
    · rw [← h]; exact Le.of rfl
    · rw [← h]; rfl
  · rcases brk h with ⟨h2, h⟩ | ⟨h2, h⟩
    · rcases brk h with ⟨h3, h⟩ | ⟨h3, h⟩
      · exact hc.jump (orc := [(1, [(1, { r := d_ref1_GetIp v1 })]), (2, [(1, { cv := some (.bool false) })]), (4, [(3, { cv := some (.bool true) }), (8, { cv := some (.bool true) })])]) (m := 12) (kt := [2, 3, 5, 33]) (kh := [(116, 116), (124, 124), (140, 140)]) (by kernel_rfl) (.cons (c_ref1_GetIp N x0 h0) (.cons (Le.ff h1) (.cons (Le.tt h2) (.cons (Le.tt h3) .nil)))) (g_ref1_FlowOf_1 hc N hfin 0 0 0 0 0 0 0 0 0 0 0 ByteArray.empty v1.1.Src v1.1.Dst v1.1.Proto v1.1.Ttl v1.1.Id v1.1.Body true h)
      · exact hc.jump (orc := [(1, [(1, { r := d_ref1_GetIp v1 })]), (2, [(1, { cv := some (.bool false) })]), (4, [(3, { cv := some (.bool true) }), (8, { cv := some (.bool false) })])]) (m := 12) (kt := [2, 3, 5, 33]) (kh := [(116, 116), (124, 124), (140, 140)]) (by kernel_rfl) (.cons (c_ref1_GetIp N x0 h0) (.cons (Le.ff h1) (.cons (Le.tt h2) (.cons (Le.ff h3) .nil)))) (g_ref1_FlowOf_1 hc N hfin 0 0 0 0 0 0 0 0 0 0 0 ByteArray.empty v1.1.Src v1.1.Dst v1.1.Proto v1.1.Ttl v1.1.Id v1.1.Body (v1.1.Dst != 167772161) h)
    · exact hc.jump (orc := [(1, [(1, { r := d_ref1_GetIp v1 })]), (2, [(1, { cv := some (.bool false) })]), (4, [(3, { cv := some (.bool false) })])]) (m := 12) (kt := [2, 3, 5, 33]) (kh := [(116, 116), (124, 124), (140, 140)]) (by kernel_rfl) (.cons (c_ref1_GetIp N x0 h0) (.cons (Le.ff h1) (.cons (Le.ff h2) .nil))) (g_ref1_FlowOf_1 hc N hfin 0 0 0 0 0 0 0 0 0 0 0 ByteArray.empty v1.1.Src v1.1.Dst v1.1.Proto v1.1.Ttl v1.1.Id v1.1.Body (v1.1.Dst != 167772161) h)

theorem c_ref1_FlowOf (N : Nat) (x0 : ByteArray) {r : GFlow × GSeg × Int} (h : L_ref1_FlowOf N x0 = some r) : Con Try.prog 39 [.str x0] [] (d_ref1_FlowOf r) [] :=
  con_intro ok mix (fn := Try.f39) (body := bodyOf Try.f39) (by kernel_rfl) (by kernel_rfl) (by kernel_rfl) rfl (Nat.le_of_ble_eq_true (by kernel_rfl)) fun c h1 h2 h3 h4 hfin => g_ref1_FlowOf_0 ⟨h1, h2, h3, h4⟩ N hfin x0 h
/-! ### wharfage/wharfagelaw0.Num -/
def L_law0_Num (N : Nat) (x0 : Int) : Option (Int) :=
  some x0
def d_law0_Num (r : Int) : D := .int .i64 r
theorem g_law0_Num_0 {c : Cx} (hc : Is c Try.prog ty 25 4) (N : Nat) {r : Int} (hfin : c.Fin [] (d_law0_Num r) []) (x0 : Int) (h : L_law0_Num N x0 = some r) : c.Goes (items (bodyOf Try.f25) [.c 1]) ⟨[(0, .int .i64 x0)], []⟩ := by
  unfold L_law0_Num at h
  have h := Option.some.inj h
  refine hc.ret hfin (fn := Try.f25) (by kernel_rfl) (orc := []) (m := 4) (d := .int .i64 x0) (by kernel_rfl) .nil ?_ ?_
  · rw [← h]; exact Le.of rfl
  · rw [← h]; rfl

theorem c_law0_Num (N : Nat) (x0 : Int) {r : Int} (h : L_law0_Num N x0 = some r) : Con Try.prog 25 [.int .i64 x0] [] (d_law0_Num r) [] :=
  con_intro ok mix (fn := Try.f25) (body := bodyOf Try.f25) (by kernel_rfl) (by kernel_rfl) (by kernel_rfl) rfl (Nat.le_of_ble_eq_true (by kernel_rfl)) fun c h1 h2 h3 h4 hfin => g_law0_Num_0 ⟨h1, h2, h3, h4⟩ N hfin x0 h
/-! ### wharfage/wharfagelaw4.awake -/
def L_law4_awake_1 (N : Nat) (t0 : Bool) : Option (Bool) :=
  some t0
def L_law4_awake (N : Nat) : Option (Bool) :=
  (L_flow_Packet N (GFlow.mk 9 167772161 6 5 80) 2 (ByteArray.mk #[120])).bind fun v1 =>
  (L_flow_Of N v1.1).bind fun v2 =>
  (L_flow_Of N ByteArray.empty).bind fun v3 =>
  (L_flow_Packet N (GFlow.mk 9 3 6 5 80) 0 ByteArray.empty).bind fun v4 =>
  (L_flow_Of N v4.1).bind fun v5 =>
  (L_flow_Packet N (GFlow.mk 0 0 0 0 0) 0 ByteArray.empty).bind fun v6 =>
  (L_law0_Num N v1.2).bind fun v7 =>
  bif (v7 == 0) then
    via (((v2.1.Src == (9 : Int)) && ((v2.1.Dst == (167772161 : Int)) && ((v2.1.Proto == (6 : Int)) && ((v2.1.Sport == (5 : Int)) && ((v2.1.Dport == (80 : Int)) && true))))) : Bool) fun v8 =>
    bif v8 then
      bif (v2.2.1.Flags == 2) then
        bif (v2.2.1.Body.toList == (ByteArray.mk #[120]).toList) then
          bif (v2.2.2 == 0) then
            bif (v3.2.2 == 1) then
              (L_law0_Num N v4.2).bind fun v9 =>
              bif (v9 == 0) then
                bif (v5.2.2 == 3) then
                  (L_law0_Num N v6.2).bind fun v10 =>
                  bif (v10 == 400) then
                    (L_flow_May N (GFlow.mk 9 167772161 6 5 80)).bind fun v11 =>
                    L_law4_awake_1 N v11
                  else
                    L_law4_awake_1 N false
                else
                  L_law4_awake_1 N false
              else
                L_law4_awake_1 N false
            else
              L_law4_awake_1 N false
          else
            L_law4_awake_1 N false
        else
          L_law4_awake_1 N false
      else
        L_law4_awake_1 N false
    else
      L_law4_awake_1 N false
  else
    L_law4_awake_1 N false
def d_law4_awake (r : Bool) : D := .bool r
theorem g_law4_awake_1 {c : Cx} (hc : Is c Try.prog ty 42 97) (N : Nat) {r : Bool} (hfin : c.Fin [] (d_law4_awake r) []) (t0 : Bool) (h : L_law4_awake_1 N t0 = some r) : c.Goes (items (bodyOf Try.f42) [.c 4095]) ⟨[(0, .bool t0)], []⟩ := by
  unfold L_law4_awake_1 at h
  have h := Option.some.inj h
  refine hc.ret hfin (fn := Try.f42) (by kernel_rfl) (orc := []) (m := 0) (d := .bool t0) (by kernel_rfl) .nil ?_ ?_
  · rw [← h]; exact Le.of rfl
  · rw [← h]; rfl

theorem g_law4_awake_0 {c : Cx} (hc : Is c Try.prog ty 42 97) (N : Nat) {r : Bool} (hfin : c.Fin [] (d_law4_awake r) []) (h : L_law4_awake N = some r) : c.Goes (items (bodyOf Try.f42) [.c 1]) ⟨[], []⟩ := by
  unfold L_law4_awake at h
  obtain ⟨v1, h0, h⟩ := bind_of h
  obtain ⟨v2, h1, h⟩ := bind_of h
  obtain ⟨v3, h2, h⟩ := bind_of h
  obtain ⟨v4, h3, h⟩ := bind_of h
  obtain ⟨v5, h4, h⟩ := bind_of h
  obtain ⟨v6, h5, h⟩ := bind_of h
  obtain ⟨v7, h6, h⟩ := bind_of h
  rcases brk h with ⟨h7, h⟩ | ⟨h7, h⟩
  · obtain ⟨v8, h8, h⟩ := via_some h
    rcases brk h with ⟨h9, h⟩ | ⟨h9, h⟩
    · rcases brk h with ⟨h10, h⟩ | ⟨h10, h⟩
      · rcases brk h with ⟨h11, h⟩ | ⟨h11, h⟩
        · rcases brk h with ⟨h12, h⟩ | ⟨h12, h⟩
          · rcases brk h with ⟨h13, h⟩ | ⟨h13, h⟩
            · obtain ⟨v9, h14, h⟩ := bind_of h
              rcases brk h with ⟨h15, h⟩ | ⟨h15, h⟩
              · rcases brk h with ⟨h16, h⟩ | ⟨h16, h⟩
                · obtain ⟨v10, h17, h⟩ := bind_of h
                  rcases brk h with ⟨h18, h⟩ | ⟨h18, h⟩
                  · obtain ⟨v11, h19, h⟩ := bind_of h
                    exact hc.jump (orc := [(2, [(1, { r := d_flow_Packet v1 })]), (3, [(1, { r := d_flow_Of v2 })]), (4, [(0, { r := d_flow_Of v3 })]), (7, [(1, { r := d_flow_Packet v4 })]), (8, [(1, { r := d_flow_Of v5 })]), (9, [(1, { r := d_flow_Packet v6 })]), (10, [(1, { r := d_law0_Num v7 }), (3, { cv := some (.bool true) }), (6, { cv := some (.bool v8) }), (8, { cv := some (.bool true) }), (13, { cv := some (.bool true) }), (18, { cv := some (.bool true) }), (22, { cv := some (.bool true) }), (26, { cv := some (.bool true) }), (28, { r := d_law0_Num v9 }), (31, { cv := some (.bool true) }), (35, { cv := some (.bool true) }), (37, { r := d_law0_Num v10 }), (40, { cv := some (.bool true) }), (42, { r := d_flow_May v11 })])]) (m := 22) (kt := [0]) (kh := []) (by kernel_rfl) (.cons (c_flow_Packet N (GFlow.mk 9 167772161 6 5 80) 2 (ByteArray.mk #[120]) h0) (.cons (c_flow_Of N v1.1 h1) (.cons (c_flow_Of N ByteArray.empty h2) (.cons (c_flow_Packet N (GFlow.mk 9 3 6 5 80) 0 ByteArray.empty h3) (.cons (c_flow_Of N v4.1 h4) (.cons (c_flow_Packet N (GFlow.mk 0 0 0 0 0) 0 ByteArray.empty h5) (.cons (c_law0_Num N v1.2 h6) (.cons (Le.tt h7) (.cons (Le.boo h8) (.cons (Le.tt h9) (.cons (Le.tt h10) (.cons (Le.tt h11) (.cons (Le.tt h12) (.cons (Le.tt h13) (.cons (c_law0_Num N v4.2 h14) (.cons (Le.tt h15) (.cons (Le.tt h16) (.cons (c_law0_Num N v6.2 h17) (.cons (Le.tt h18) (.cons (c_flow_May N (GFlow.mk 9 167772161 6 5 80) h19) .nil)))))))))))))))))))) (g_law4_awake_1 hc N hfin v11 h)
                  · exact hc.jump (orc := [(2, [(1, { r := d_flow_Packet v1 })]), (3, [(1, { r := d_flow_Of v2 })]), (4, [(0, { r := d_flow_Of v3 })]), (7, [(1, { r := d_flow_Packet v4 })]), (8, [(1, { r := d_flow_Of v5 })]), (9, [(1, { r := d_flow_Packet v6 })]), (10, [(1, { r := d_law0_Num v7 }), (3, { cv := some (.bool true) }), (6, { cv := some (.bool v8) }), (8, { cv := some (.bool true) }), (13, { cv := some (.bool true) }), (18, { cv := some (.bool true) }), (22, { cv := some (.bool true) }), (26, { cv := some (.bool true) }), (28, { r := d_law0_Num v9 }), (31, { cv := some (.bool true) }), (35, { cv := some (.bool true) }), (37, { r := d_law0_Num v10 }), (40, { cv := some (.bool false) })])]) (m := 22) (kt := [0]) (kh := []) (by kernel_rfl) (.cons (c_flow_Packet N (GFlow.mk 9 167772161 6 5 80) 2 (ByteArray.mk #[120]) h0) (.cons (c_flow_Of N v1.1 h1) (.cons (c_flow_Of N ByteArray.empty h2) (.cons (c_flow_Packet N (GFlow.mk 9 3 6 5 80) 0 ByteArray.empty h3) (.cons (c_flow_Of N v4.1 h4) (.cons (c_flow_Packet N (GFlow.mk 0 0 0 0 0) 0 ByteArray.empty h5) (.cons (c_law0_Num N v1.2 h6) (.cons (Le.tt h7) (.cons (Le.boo h8) (.cons (Le.tt h9) (.cons (Le.tt h10) (.cons (Le.tt h11) (.cons (Le.tt h12) (.cons (Le.tt h13) (.cons (c_law0_Num N v4.2 h14) (.cons (Le.tt h15) (.cons (Le.tt h16) (.cons (c_law0_Num N v6.2 h17) (.cons (Le.ff h18) .nil))))))))))))))))))) (g_law4_awake_1 hc N hfin false h)
                · exact hc.jump (orc := [(2, [(1, { r := d_flow_Packet v1 })]), (3, [(1, { r := d_flow_Of v2 })]), (4, [(0, { r := d_flow_Of v3 })]), (7, [(1, { r := d_flow_Packet v4 })]), (8, [(1, { r := d_flow_Of v5 })]), (9, [(1, { r := d_flow_Packet v6 })]), (10, [(1, { r := d_law0_Num v7 }), (3, { cv := some (.bool true) }), (6, { cv := some (.bool v8) }), (8, { cv := some (.bool true) }), (13, { cv := some (.bool true) }), (18, { cv := some (.bool true) }), (22, { cv := some (.bool true) }), (26, { cv := some (.bool true) }), (28, { r := d_law0_Num v9 }), (31, { cv := some (.bool true) }), (35, { cv := some (.bool false) })])]) (m := 22) (kt := [0]) (kh := []) (by kernel_rfl) (.cons (c_flow_Packet N (GFlow.mk 9 167772161 6 5 80) 2 (ByteArray.mk #[120]) h0) (.cons (c_flow_Of N v1.1 h1) (.cons (c_flow_Of N ByteArray.empty h2) (.cons (c_flow_Packet N (GFlow.mk 9 3 6 5 80) 0 ByteArray.empty h3) (.cons (c_flow_Of N v4.1 h4) (.cons (c_flow_Packet N (GFlow.mk 0 0 0 0 0) 0 ByteArray.empty h5) (.cons (c_law0_Num N v1.2 h6) (.cons (Le.tt h7) (.cons (Le.boo h8) (.cons (Le.tt h9) (.cons (Le.tt h10) (.cons (Le.tt h11) (.cons (Le.tt h12) (.cons (Le.tt h13) (.cons (c_law0_Num N v4.2 h14) (.cons (Le.tt h15) (.cons (Le.ff h16) .nil))))))))))))))))) (g_law4_awake_1 hc N hfin false h)
              · exact hc.jump (orc := [(2, [(1, { r := d_flow_Packet v1 })]), (3, [(1, { r := d_flow_Of v2 })]), (4, [(0, { r := d_flow_Of v3 })]), (7, [(1, { r := d_flow_Packet v4 })]), (8, [(1, { r := d_flow_Of v5 })]), (9, [(1, { r := d_flow_Packet v6 })]), (10, [(1, { r := d_law0_Num v7 }), (3, { cv := some (.bool true) }), (6, { cv := some (.bool v8) }), (8, { cv := some (.bool true) }), (13, { cv := some (.bool true) }), (18, { cv := some (.bool true) }), (22, { cv := some (.bool true) }), (26, { cv := some (.bool true) }), (28, { r := d_law0_Num v9 }), (31, { cv := some (.bool false) })])]) (m := 22) (kt := [0]) (kh := []) (by kernel_rfl) (.cons (c_flow_Packet N (GFlow.mk 9 167772161 6 5 80) 2 (ByteArray.mk #[120]) h0) (.cons (c_flow_Of N v1.1 h1) (.cons (c_flow_Of N ByteArray.empty h2) (.cons (c_flow_Packet N (GFlow.mk 9 3 6 5 80) 0 ByteArray.empty h3) (.cons (c_flow_Of N v4.1 h4) (.cons (c_flow_Packet N (GFlow.mk 0 0 0 0 0) 0 ByteArray.empty h5) (.cons (c_law0_Num N v1.2 h6) (.cons (Le.tt h7) (.cons (Le.boo h8) (.cons (Le.tt h9) (.cons (Le.tt h10) (.cons (Le.tt h11) (.cons (Le.tt h12) (.cons (Le.tt h13) (.cons (c_law0_Num N v4.2 h14) (.cons (Le.ff h15) .nil)))))))))))))))) (g_law4_awake_1 hc N hfin false h)
            · exact hc.jump (orc := [(2, [(1, { r := d_flow_Packet v1 })]), (3, [(1, { r := d_flow_Of v2 })]), (4, [(0, { r := d_flow_Of v3 })]), (7, [(1, { r := d_flow_Packet v4 })]), (8, [(1, { r := d_flow_Of v5 })]), (9, [(1, { r := d_flow_Packet v6 })]), (10, [(1, { r := d_law0_Num v7 }), (3, { cv := some (.bool true) }), (6, { cv := some (.bool v8) }), (8, { cv := some (.bool true) }), (13, { cv := some (.bool true) }), (18, { cv := some (.bool true) }), (22, { cv := some (.bool true) }), (26, { cv := some (.bool false) })])]) (m := 22) (kt := [0]) (kh := []) (by kernel_rfl) (.cons (c_flow_Packet N (GFlow.mk 9 167772161 6 5 80) 2 (ByteArray.mk #[120]) h0) (.cons (c_flow_Of N v1.1 h1) (.cons (c_flow_Of N ByteArray.empty h2) (.cons (c_flow_Packet N (GFlow.mk 9 3 6 5 80) 0 ByteArray.empty h3) (.cons (c_flow_Of N v4.1 h4) (.cons (c_flow_Packet N (GFlow.mk 0 0 0 0 0) 0 ByteArray.empty h5) (.cons (c_law0_Num N v1.2 h6) (.cons (Le.tt h7) (.cons (Le.boo h8) (.cons (Le.tt h9) (.cons (Le.tt h10) (.cons (Le.tt h11) (.cons (Le.tt h12) (.cons (Le.ff h13) .nil)))))))))))))) (g_law4_awake_1 hc N hfin false h)
          · exact hc.jump (orc := [(2, [(1, { r := d_flow_Packet v1 })]), (3, [(1, { r := d_flow_Of v2 })]), (4, [(0, { r := d_flow_Of v3 })]), (7, [(1, { r := d_flow_Packet v4 })]), (8, [(1, { r := d_flow_Of v5 })]), (9, [(1, { r := d_flow_Packet v6 })]), (10, [(1, { r := d_law0_Num v7 }), (3, { cv := some (.bool true) }), (6, { cv := some (.bool v8) }), (8, { cv := some (.bool true) }), (13, { cv := some (.bool true) }), (18, { cv := some (.bool true) }), (22, { cv := some (.bool false) })])]) (m := 22) (kt := [0]) (kh := []) (by kernel_rfl) (.cons (c_flow_Packet N (GFlow.mk 9 167772161 6 5 80) 2 (ByteArray.mk #[120]) h0) (.cons (c_flow_Of N v1.1 h1) (.cons (c_flow_Of N ByteArray.empty h2) (.cons (c_flow_Packet N (GFlow.mk 9 3 6 5 80) 0 ByteArray.empty h3) (.cons (c_flow_Of N v4.1 h4) (.cons (c_flow_Packet N (GFlow.mk 0 0 0 0 0) 0 ByteArray.empty h5) (.cons (c_law0_Num N v1.2 h6) (.cons (Le.tt h7) (.cons (Le.boo h8) (.cons (Le.tt h9) (.cons (Le.tt h10) (.cons (Le.tt h11) (.cons (Le.ff h12) .nil))))))))))))) (g_law4_awake_1 hc N hfin false h)
        · exact hc.jump (orc := [(2, [(1, { r := d_flow_Packet v1 })]), (3, [(1, { r := d_flow_Of v2 })]), (4, [(0, { r := d_flow_Of v3 })]), (7, [(1, { r := d_flow_Packet v4 })]), (8, [(1, { r := d_flow_Of v5 })]), (9, [(1, { r := d_flow_Packet v6 })]), (10, [(1, { r := d_law0_Num v7 }), (3, { cv := some (.bool true) }), (6, { cv := some (.bool v8) }), (8, { cv := some (.bool true) }), (13, { cv := some (.bool true) }), (18, { cv := some (.bool false) })])]) (m := 22) (kt := [0]) (kh := []) (by kernel_rfl) (.cons (c_flow_Packet N (GFlow.mk 9 167772161 6 5 80) 2 (ByteArray.mk #[120]) h0) (.cons (c_flow_Of N v1.1 h1) (.cons (c_flow_Of N ByteArray.empty h2) (.cons (c_flow_Packet N (GFlow.mk 9 3 6 5 80) 0 ByteArray.empty h3) (.cons (c_flow_Of N v4.1 h4) (.cons (c_flow_Packet N (GFlow.mk 0 0 0 0 0) 0 ByteArray.empty h5) (.cons (c_law0_Num N v1.2 h6) (.cons (Le.tt h7) (.cons (Le.boo h8) (.cons (Le.tt h9) (.cons (Le.tt h10) (.cons (Le.ff h11) .nil)))))))))))) (g_law4_awake_1 hc N hfin false h)
      · exact hc.jump (orc := [(2, [(1, { r := d_flow_Packet v1 })]), (3, [(1, { r := d_flow_Of v2 })]), (4, [(0, { r := d_flow_Of v3 })]), (7, [(1, { r := d_flow_Packet v4 })]), (8, [(1, { r := d_flow_Of v5 })]), (9, [(1, { r := d_flow_Packet v6 })]), (10, [(1, { r := d_law0_Num v7 }), (3, { cv := some (.bool true) }), (6, { cv := some (.bool v8) }), (8, { cv := some (.bool true) }), (13, { cv := some (.bool false) })])]) (m := 22) (kt := [0]) (kh := []) (by kernel_rfl) (.cons (c_flow_Packet N (GFlow.mk 9 167772161 6 5 80) 2 (ByteArray.mk #[120]) h0) (.cons (c_flow_Of N v1.1 h1) (.cons (c_flow_Of N ByteArray.empty h2) (.cons (c_flow_Packet N (GFlow.mk 9 3 6 5 80) 0 ByteArray.empty h3) (.cons (c_flow_Of N v4.1 h4) (.cons (c_flow_Packet N (GFlow.mk 0 0 0 0 0) 0 ByteArray.empty h5) (.cons (c_law0_Num N v1.2 h6) (.cons (Le.tt h7) (.cons (Le.boo h8) (.cons (Le.tt h9) (.cons (Le.ff h10) .nil))))))))))) (g_law4_awake_1 hc N hfin false h)
    · exact hc.jump (orc := [(2, [(1, { r := d_flow_Packet v1 })]), (3, [(1, { r := d_flow_Of v2 })]), (4, [(0, { r := d_flow_Of v3 })]), (7, [(1, { r := d_flow_Packet v4 })]), (8, [(1, { r := d_flow_Of v5 })]), (9, [(1, { r := d_flow_Packet v6 })]), (10, [(1, { r := d_law0_Num v7 }), (3, { cv := some (.bool true) }), (6, { cv := some (.bool v8) }), (8, { cv := some (.bool false) })])]) (m := 22) (kt := [0]) (kh := []) (by kernel_rfl) (.cons (c_flow_Packet N (GFlow.mk 9 167772161 6 5 80) 2 (ByteArray.mk #[120]) h0) (.cons (c_flow_Of N v1.1 h1) (.cons (c_flow_Of N ByteArray.empty h2) (.cons (c_flow_Packet N (GFlow.mk 9 3 6 5 80) 0 ByteArray.empty h3) (.cons (c_flow_Of N v4.1 h4) (.cons (c_flow_Packet N (GFlow.mk 0 0 0 0 0) 0 ByteArray.empty h5) (.cons (c_law0_Num N v1.2 h6) (.cons (Le.tt h7) (.cons (Le.boo h8) (.cons (Le.ff h9) .nil)))))))))) (g_law4_awake_1 hc N hfin false h)
  · exact hc.jump (orc := [(2, [(1, { r := d_flow_Packet v1 })]), (3, [(1, { r := d_flow_Of v2 })]), (4, [(0, { r := d_flow_Of v3 })]), (7, [(1, { r := d_flow_Packet v4 })]), (8, [(1, { r := d_flow_Of v5 })]), (9, [(1, { r := d_flow_Packet v6 })]), (10, [(1, { r := d_law0_Num v7 }), (3, { cv := some (.bool false) })])]) (m := 22) (kt := [0]) (kh := []) (by kernel_rfl) (.cons (c_flow_Packet N (GFlow.mk 9 167772161 6 5 80) 2 (ByteArray.mk #[120]) h0) (.cons (c_flow_Of N v1.1 h1) (.cons (c_flow_Of N ByteArray.empty h2) (.cons (c_flow_Packet N (GFlow.mk 9 3 6 5 80) 0 ByteArray.empty h3) (.cons (c_flow_Of N v4.1 h4) (.cons (c_flow_Packet N (GFlow.mk 0 0 0 0 0) 0 ByteArray.empty h5) (.cons (c_law0_Num N v1.2 h6) (.cons (Le.ff h7) .nil)))))))) (g_law4_awake_1 hc N hfin false h)

theorem c_law4_awake (N : Nat) {r : Bool} (h : L_law4_awake N = some r) : Con Try.prog 42 [] [] (d_law4_awake r) [] :=
  con_intro ok mix (fn := Try.f42) (body := bodyOf Try.f42) (by kernel_rfl) (by kernel_rfl) (by kernel_rfl) rfl (Nat.le_of_ble_eq_true (by kernel_rfl)) fun c h1 h2 h3 h4 hfin => g_law4_awake_0 ⟨h1, h2, h3, h4⟩ N hfin h
/-! ### wharfage/wharfagelaw4.Flows -/
def L_law4_Flows_1 (N : Nat) (t8 : Bool) : Option (Bool) :=
  some t8
def L_law4_Flows (N : Nat) (x0 : GFlow) (x1 : Int) (x2 : ByteArray) (x3 : ByteArray) : Option (Bool) :=
  (L_flow_Packet N x0 x1 x2).bind fun v1 =>
  (L_ref1_PacketOf N x0 x1 x2).bind fun v2 =>
  (L_flow_Of N x3).bind fun v3 =>
  (L_ref1_FlowOf N x3).bind fun v4 =>
  bif (v1.1.toList == v2.1.toList) then
    (L_law0_Num N v1.2).bind fun v5 =>
    bif (v5 == v2.2) then
      via (((v3.1.Src == v4.1.Src) && ((v3.1.Dst == v4.1.Dst) && ((v3.1.Proto == v4.1.Proto) && ((v3.1.Sport == v4.1.Sport) && ((v3.1.Dport == v4.1.Dport) && true))))) : Bool) fun v6 =>
      bif v6 then
        via (((v3.2.1.Proto == v4.2.1.Proto) && ((v3.2.1.Sport == v4.2.1.Sport) && ((v3.2.1.Dport == v4.2.1.Dport) && ((v3.2.1.Seq == v4.2.1.Seq) && ((v3.2.1.Ack == v4.2.1.Ack) && ((v3.2.1.Flags == v4.2.1.Flags) && ((v3.2.1.Body.toList == v4.2.1.Body.toList) && true))))))) : Bool) fun v7 =>
        bif v7 then
          bif (v3.2.2 == v4.2.2) then
            (L_flow_May N x0).bind fun v8 =>
            (L_ref1_FlowMay N x0).bind fun v9 =>
            bif (v8 == v9) then
              (L_law4_awake N).bind fun v10 =>
              L_law4_Flows_1 N v10
            else
              L_law4_Flows_1 N false
          else
            L_law4_Flows_1 N false
        else
          L_law4_Flows_1 N false
      else
        L_law4_Flows_1 N false
    else
      L_law4_Flows_1 N false
  else
    L_law4_Flows_1 N false
def d_law4_Flows (r : Bool) : D := .bool r
theorem g_law4_Flows_1 {c : Cx} (hc : Is c Try.prog ty 14 79) (N : Nat) {r : Bool} (hfin : c.Fin [] (d_law4_Flows r) []) (t8 : Bool) (h : L_law4_Flows_1 N t8 = some r) : c.Goes (items (bodyOf Try.f14) [.c 127]) ⟨[(8, .bool t8)], []⟩ := by
  unfold L_law4_Flows_1 at h
  have h := Option.some.inj h
  refine hc.ret hfin (fn := Try.f14) (by kernel_rfl) (orc := []) (m := 0) (d := .bool t8) (by kernel_rfl) .nil ?_ ?_
  · rw [← h]; exact Le.of rfl
  · rw [← h]; rfl

theorem g_law4_Flows_0 {c : Cx} (hc : Is c Try.prog ty 14 79) (N : Nat) {r : Bool} (hfin : c.Fin [] (d_law4_Flows r) []) (x0 : GFlow) (x1 : Int) (x2 : ByteArray) (x3 : ByteArray) (h : L_law4_Flows N x0 x1 x2 x3 = some r) : c.Goes (items (bodyOf Try.f14) [.c 1]) ⟨[(0, .agg [.int .i64 x0.Src, .int .i64 x0.Dst, .int .i64 x0.Proto, .int .i64 x0.Sport, .int .i64 x0.Dport]), (1, .int .i64 x1), (2, .str x2), (3, .str x3)], []⟩ := by
  unfold L_law4_Flows at h
  obtain ⟨v1, h0, h⟩ := bind_of h
  obtain ⟨v2, h1, h⟩ := bind_of h
  obtain ⟨v3, h2, h⟩ := bind_of h
  obtain ⟨v4, h3, h⟩ := bind_of h
  rcases brk h with ⟨h4, h⟩ | ⟨h4, h⟩
  · obtain ⟨v5, h5, h⟩ := bind_of h
    rcases brk h with ⟨h6, h⟩ | ⟨h6, h⟩
    · obtain ⟨v6, h7, h⟩ := via_some h
      rcases brk h with ⟨h8, h⟩ | ⟨h8, h⟩
      · obtain ⟨v7, h9, h⟩ := via_some h
        rcases brk h with ⟨h10, h⟩ | ⟨h10, h⟩
        · rcases brk h with ⟨h11, h⟩ | ⟨h11, h⟩
          · obtain ⟨v8, h12, h⟩ := bind_of h
            obtain ⟨v9, h13, h⟩ := bind_of h
            rcases brk h with ⟨h14, h⟩ | ⟨h14, h⟩
            · obtain ⟨v10, h15, h⟩ := bind_of h
              exact hc.jump (orc := [(1, [(3, { r := d_flow_Packet v1 })]), (2, [(3, { r := d_ref1_PacketOf v2 })]), (3, [(1, { r := d_flow_Of v3 })]), (4, [(1, { r := d_ref1_FlowOf v4 })]), (5, [(3, { cv := some (.bool true) }), (5, { r := d_law0_Num v5 }), (9, { cv := some (.bool true) }), (12, { cv := some (.bool v6) }), (14, { cv := some (.bool true) }), (17, { cv := some (.bool v7) }), (19, { cv := some (.bool true) }), (24, { cv := some (.bool true) }), (26, { r := d_flow_May v8 }), (28, { r := d_ref1_FlowMay v9 }), (31, { cv := some (.bool true) }), (32, { r := d_law4_awake v10 })])]) (m := 12) (kt := [8]) (kh := []) (by kernel_rfl) (.cons (c_flow_Packet N x0 x1 x2 h0) (.cons (c_ref1_PacketOf N x0 x1 x2 h1) (.cons (c_flow_Of N x3 h2) (.cons (c_ref1_FlowOf N x3 h3) (.cons (Le.tt h4) (.cons (c_law0_Num N v1.2 h5) (.cons (Le.tt h6) (.cons (Le.boo h7) (.cons (Le.tt h8) (.cons (Le.boo h9) (.cons (Le.tt h10) (.cons (Le.tt h11) (.cons (c_flow_May N x0 h12) (.cons (c_ref1_FlowMay N x0 h13) (.cons (Le.tt h14) (.cons (c_law4_awake N h15) .nil)))))))))))))))) (g_law4_Flows_1 hc N hfin v10 h)
            · exact hc.jump (orc := [(1, [(3, { r := d_flow_Packet v1 })]), (2, [(3, { r := d_ref1_PacketOf v2 })]), (3, [(1, { r := d_flow_Of v3 })]), (4, [(1, { r := d_ref1_FlowOf v4 })]), (5, [(3, { cv := some (.bool true) }), (5, { r := d_law0_Num v5 }), (9, { cv := some (.bool true) }), (12, { cv := some (.bool v6) }), (14, { cv := some (.bool true) }), (17, { cv := some (.bool v7) }), (19, { cv := some (.bool true) }), (24, { cv := some (.bool true) }), (26, { r := d_flow_May v8 }), (28, { r := d_ref1_FlowMay v9 }), (31, { cv := some (.bool false) })])]) (m := 12) (kt := [8]) (kh := []) (by kernel_rfl) (.cons (c_flow_Packet N x0 x1 x2 h0) (.cons (c_ref1_PacketOf N x0 x1 x2 h1) (.cons (c_flow_Of N x3 h2) (.cons (c_ref1_FlowOf N x3 h3) (.cons (Le.tt h4) (.cons (c_law0_Num N v1.2 h5) (.cons (Le.tt h6) (.cons (Le.boo h7) (.cons (Le.tt h8) (.cons (Le.boo h9) (.cons (Le.tt h10) (.cons (Le.tt h11) (.cons (c_flow_May N x0 h12) (.cons (c_ref1_FlowMay N x0 h13) (.cons (Le.ff h14) .nil))))))))))))))) (g_law4_Flows_1 hc N hfin false h)
          · exact hc.jump (orc := [(1, [(3, { r := d_flow_Packet v1 })]), (2, [(3, { r := d_ref1_PacketOf v2 })]), (3, [(1, { r := d_flow_Of v3 })]), (4, [(1, { r := d_ref1_FlowOf v4 })]), (5, [(3, { cv := some (.bool true) }), (5, { r := d_law0_Num v5 }), (9, { cv := some (.bool true) }), (12, { cv := some (.bool v6) }), (14, { cv := some (.bool true) }), (17, { cv := some (.bool v7) }), (19, { cv := some (.bool true) }), (24, { cv := some (.bool false) })])]) (m := 12) (kt := [8]) (kh := []) (by kernel_rfl) (.cons (c_flow_Packet N x0 x1 x2 h0) (.cons (c_ref1_PacketOf N x0 x1 x2 h1) (.cons (c_flow_Of N x3 h2) (.cons (c_ref1_FlowOf N x3 h3) (.cons (Le.tt h4) (.cons (c_law0_Num N v1.2 h5) (.cons (Le.tt h6) (.cons (Le.boo h7) (.cons (Le.tt h8) (.cons (Le.boo h9) (.cons (Le.tt h10) (.cons (Le.ff h11) .nil)))))))))))) (g_law4_Flows_1 hc N hfin false h)
        · exact hc.jump (orc := [(1, [(3, { r := d_flow_Packet v1 })]), (2, [(3, { r := d_ref1_PacketOf v2 })]), (3, [(1, { r := d_flow_Of v3 })]), (4, [(1, { r := d_ref1_FlowOf v4 })]), (5, [(3, { cv := some (.bool true) }), (5, { r := d_law0_Num v5 }), (9, { cv := some (.bool true) }), (12, { cv := some (.bool v6) }), (14, { cv := some (.bool true) }), (17, { cv := some (.bool v7) }), (19, { cv := some (.bool false) })])]) (m := 12) (kt := [8]) (kh := []) (by kernel_rfl) (.cons (c_flow_Packet N x0 x1 x2 h0) (.cons (c_ref1_PacketOf N x0 x1 x2 h1) (.cons (c_flow_Of N x3 h2) (.cons (c_ref1_FlowOf N x3 h3) (.cons (Le.tt h4) (.cons (c_law0_Num N v1.2 h5) (.cons (Le.tt h6) (.cons (Le.boo h7) (.cons (Le.tt h8) (.cons (Le.boo h9) (.cons (Le.ff h10) .nil))))))))))) (g_law4_Flows_1 hc N hfin false h)
      · exact hc.jump (orc := [(1, [(3, { r := d_flow_Packet v1 })]), (2, [(3, { r := d_ref1_PacketOf v2 })]), (3, [(1, { r := d_flow_Of v3 })]), (4, [(1, { r := d_ref1_FlowOf v4 })]), (5, [(3, { cv := some (.bool true) }), (5, { r := d_law0_Num v5 }), (9, { cv := some (.bool true) }), (12, { cv := some (.bool v6) }), (14, { cv := some (.bool false) })])]) (m := 12) (kt := [8]) (kh := []) (by kernel_rfl) (.cons (c_flow_Packet N x0 x1 x2 h0) (.cons (c_ref1_PacketOf N x0 x1 x2 h1) (.cons (c_flow_Of N x3 h2) (.cons (c_ref1_FlowOf N x3 h3) (.cons (Le.tt h4) (.cons (c_law0_Num N v1.2 h5) (.cons (Le.tt h6) (.cons (Le.boo h7) (.cons (Le.ff h8) .nil))))))))) (g_law4_Flows_1 hc N hfin false h)
    · exact hc.jump (orc := [(1, [(3, { r := d_flow_Packet v1 })]), (2, [(3, { r := d_ref1_PacketOf v2 })]), (3, [(1, { r := d_flow_Of v3 })]), (4, [(1, { r := d_ref1_FlowOf v4 })]), (5, [(3, { cv := some (.bool true) }), (5, { r := d_law0_Num v5 }), (9, { cv := some (.bool false) })])]) (m := 12) (kt := [8]) (kh := []) (by kernel_rfl) (.cons (c_flow_Packet N x0 x1 x2 h0) (.cons (c_ref1_PacketOf N x0 x1 x2 h1) (.cons (c_flow_Of N x3 h2) (.cons (c_ref1_FlowOf N x3 h3) (.cons (Le.tt h4) (.cons (c_law0_Num N v1.2 h5) (.cons (Le.ff h6) .nil))))))) (g_law4_Flows_1 hc N hfin false h)
  · exact hc.jump (orc := [(1, [(3, { r := d_flow_Packet v1 })]), (2, [(3, { r := d_ref1_PacketOf v2 })]), (3, [(1, { r := d_flow_Of v3 })]), (4, [(1, { r := d_ref1_FlowOf v4 })]), (5, [(3, { cv := some (.bool false) })])]) (m := 12) (kt := [8]) (kh := []) (by kernel_rfl) (.cons (c_flow_Packet N x0 x1 x2 h0) (.cons (c_ref1_PacketOf N x0 x1 x2 h1) (.cons (c_flow_Of N x3 h2) (.cons (c_ref1_FlowOf N x3 h3) (.cons (Le.ff h4) .nil))))) (g_law4_Flows_1 hc N hfin false h)

theorem c_law4_Flows (N : Nat) (x0 : GFlow) (x1 : Int) (x2 : ByteArray) (x3 : ByteArray) {r : Bool} (h : L_law4_Flows N x0 x1 x2 x3 = some r) : Con Try.prog 14 [.agg [.int .i64 x0.Src, .int .i64 x0.Dst, .int .i64 x0.Proto, .int .i64 x0.Sport, .int .i64 x0.Dport], .int .i64 x1, .str x2, .str x3] [] (d_law4_Flows r) [] :=
  con_intro ok mix (fn := Try.f14) (body := bodyOf Try.f14) (by kernel_rfl) (by kernel_rfl) (by kernel_rfl) rfl (Nat.le_of_ble_eq_true (by kernel_rfl)) fun c h1 h2 h3 h4 hfin => g_law4_Flows_0 ⟨h1, h2, h3, h4⟩ N hfin x0 x1 x2 x3 h
end Go.Proofs.Ytobhmonmeocfmaa.Lf
