/- What functions compute, and that they do. -/
import Derived.Test.YtobhmonmeocfmaaTab
namespace Go.Proofs.Ytobhmonmeocfmaa.Lf
set_option linter.unusedVariables false
set_option linter.unusedSimpArgs false
set_option maxRecDepth 20000
open Go Go.RowKit Go.Proofs Go.Proofs.Ytobhmonmeocfmaa.Sv
structure GFlow where
  Src : Int
  Dst : Int
  Proto : Int
  Sport : Int
  Dport : Int
def eFlow (x : GFlow) : List D := [.int .i64 x.Src, .int .i64 x.Dst, .int .i64 x.Proto, .int .i64 x.Sport, .int .i64 x.Dport]
instance : Inhabited GFlow := ⟨⟨default, default, default, default, default⟩⟩
theorem eFlow_len (x : GFlow) : (eFlow x).length = 5 := rfl
structure GEvent where
  Kind : Int
  Role : Int
  Site : Int
  Node : Int
  To : Int
  Flow : GFlow
def eEvent (x : GEvent) : List D := [.int .i64 x.Kind, .int .i64 x.Role, .int .i64 x.Site, .int .i64 x.Node, .int .i64 x.To, .int .i64 x.Flow.Src, .int .i64 x.Flow.Dst, .int .i64 x.Flow.Proto, .int .i64 x.Flow.Sport, .int .i64 x.Flow.Dport]
instance : Inhabited GEvent := ⟨⟨default, default, default, default, default, default⟩⟩
theorem eEvent_len (x : GEvent) : (eEvent x).length = 10 := rfl
structure GOut where
  Sent : (List ByteArray)
  Events : (List GEvent)
def eOut (g : Bool) (x : GOut) : List D := [.sl g (eL eStr x.Sent) x.Sent.length x.Sent.length, .sl g (eL eEvent x.Events) x.Events.length x.Events.length]
instance : Inhabited GOut := ⟨⟨default, default⟩⟩
theorem eOut_len (g : Bool) (x : GOut) : (eOut g x).length = 2 := rfl
structure GOuter where
  Src : Int
  Dst : Int
  Tier : Int
  Marker : Int
  Origin : Int
  Body : ByteArray
def eOuter (x : GOuter) : List D := [.int .i64 x.Src, .int .i64 x.Dst, .int .i64 x.Tier, .int .i64 x.Marker, .int .i64 x.Origin, .str x.Body]
instance : Inhabited GOuter := ⟨⟨default, default, default, default, default, default⟩⟩
theorem eOuter_len (x : GOuter) : (eOuter x).length = 6 := rfl
structure GIp where
  Src : Int
  Dst : Int
  Proto : Int
  Ttl : Int
  Id : Int
  Body : ByteArray
def eIp (x : GIp) : List D := [.int .i64 x.Src, .int .i64 x.Dst, .int .i64 x.Proto, .int .i64 x.Ttl, .int .i64 x.Id, .str x.Body]
instance : Inhabited GIp := ⟨⟨default, default, default, default, default, default⟩⟩
theorem eIp_len (x : GIp) : (eIp x).length = 6 := rfl
structure Gevent_Teller where
  Role : Int
  Site : Int
  Node : Int
def eevent_Teller (x : Gevent_Teller) : List D := [.int .i64 x.Role, .int .i64 x.Site, .int .i64 x.Node]
instance : Inhabited Gevent_Teller := ⟨⟨default, default, default⟩⟩
theorem eevent_Teller_len (x : Gevent_Teller) : (eevent_Teller x).length = 3 := rfl
structure GSeg where
  Proto : Int
  Sport : Int
  Dport : Int
  Seq : Int
  Ack : Int
  Flags : Int
  Body : ByteArray
def eSeg (x : GSeg) : List D := [.int .i64 x.Proto, .int .i64 x.Sport, .int .i64 x.Dport, .int .i64 x.Seq, .int .i64 x.Ack, .int .i64 x.Flags, .str x.Body]
instance : Inhabited GSeg := ⟨⟨default, default, default, default, default, default, default⟩⟩
theorem eSeg_len (x : GSeg) : (eSeg x).length = 7 := rfl
structure Gseg_ends where
  src_ : Int
  dst_ : Int
def eseg_ends (x : Gseg_ends) : List D := [.int .i64 x.src_, .int .i64 x.dst_]
instance : Inhabited Gseg_ends := ⟨⟨default, default⟩⟩
theorem eseg_ends_len (x : Gseg_ends) : (eseg_ends x).length = 2 := rfl
structure GBack where
  Weight : Int
  Drain : Bool
def eBack (x : GBack) : List D := [.int .i64 x.Weight, .bool x.Drain]
instance : Inhabited GBack := ⟨⟨default, default⟩⟩
theorem eBack_len (x : GBack) : (eBack x).length = 2 := rfl
structure GSite where
  Weight : Int
  Drain : Bool
  Cap : Int
  Backs : (List GBack)
def eSite (g : Bool) (x : GSite) : List D := [.int .i64 x.Weight, .bool x.Drain, .int .i64 x.Cap, .sl g (eL eBack x.Backs) x.Backs.length x.Backs.length]
instance : Inhabited GSite := ⟨⟨default, default, default, default⟩⟩
theorem eSite_len (g : Bool) (x : GSite) : (eSite g x).length = 4 := rfl
structure GConfig where
  Version : Int
  Sites : (List GSite)
def eConfig (g : Bool) (x : GConfig) : List D := [.int .i64 x.Version, .sl g (eL (eSite g) x.Sites) x.Sites.length x.Sites.length]
instance : Inhabited GConfig := ⟨⟨default, default⟩⟩
theorem eConfig_len (g : Bool) (x : GConfig) : (eConfig g x).length = 2 := rfl
/-! ### wharfage/addr.below -/
def L_addr_below_1 (N : Nat) (t4 : Bool) : Option (Bool) :=
  some t4
def L_addr_below (N : Nat) (x0 : Int) (x1 : Int) : Option (Bool) :=
  bif (decide (x0 ≥ 0)) then
    L_addr_below_1 N (decide (x0 < x1))
  else
    L_addr_below_1 N false
def d_addr_below (r : Bool) : D := .bool r
theorem g_addr_below_1 {c : Cx} (hc : Is c Try.prog ty 88 12) (N : Nat) {r : Bool} (hfin : c.Fin [] (d_addr_below r) []) (t4 : Bool) (h : L_addr_below_1 N t4 = some r) : c.Goes (items (bodyOf Try.f88) [.c 7]) ⟨[(4, .bool t4)], []⟩ := by
  unfold L_addr_below_1 at h
  have h := Option.some.inj h
  refine hc.ret hfin (fn := Try.f88) (by kernel_rfl) (orc := []) (m := 0) (d := .bool t4) (by kernel_rfl) .nil ?_ ?_
  · rw [← h]; exact Le.of rfl
  · rw [← h]; rfl

theorem g_addr_below_0 {c : Cx} (hc : Is c Try.prog ty 88 12) (N : Nat) {r : Bool} (hfin : c.Fin [] (d_addr_below r) []) (x0 : Int) (x1 : Int) (h : L_addr_below N x0 x1 = some r) : c.Goes (items (bodyOf Try.f88) [.c 1]) ⟨[(0, .int .i64 x0), (1, .int .i64 x1)], []⟩ := by
  unfold L_addr_below at h
  rcases brk h with ⟨h0, h⟩ | ⟨h0, h⟩
  · exact hc.jump (orc := [(1, [(2, { cv := some (.bool true) })])]) (m := 4) (kt := [4]) (kh := []) (by kernel_rfl) (.cons (Le.tt h0) .nil) (g_addr_below_1 hc N hfin (decide (x0 < x1)) h)
  · exact hc.jump (orc := [(1, [(2, { cv := some (.bool false) })])]) (m := 4) (kt := [4]) (kh := []) (by kernel_rfl) (.cons (Le.ff h0) .nil) (g_addr_below_1 hc N hfin false h)

theorem c_addr_below (N : Nat) (x0 : Int) (x1 : Int) {r : Bool} (h : L_addr_below N x0 x1 = some r) : Con Try.prog 88 [.int .i64 x0, .int .i64 x1] [] (d_addr_below r) [] :=
  con_intro ok mix (fn := Try.f88) (body := bodyOf Try.f88) (by kernel_rfl) (by kernel_rfl) (by kernel_rfl) rfl (Nat.le_of_ble_eq_true (by kernel_rfl)) fun c h1 h2 h3 h4 hfin => g_addr_below_0 ⟨h1, h2, h3, h4⟩ N hfin x0 x1 h
/-! ### wharfage/addr.Address -/
def L_addr_Address_3 (N : Nat) (t1 : Int) (t2 : Int) (t34 : Bool) : Option (Int × Int) :=
  bif t34 then
    via ((IntKind.i64.wrap ((167968768 : Int) + (IntKind.i64.wrap ((256 : Int) * t1)))) : Int) fun v1 =>
    some ((IntKind.i64.wrap (v1 + t2)), 0)
  else
    some (0, 500)
def L_addr_Address_2 (N : Nat) (t0 : Int) (t1 : Int) (t2 : Int) (t21 : Bool) : Option (Int × Int) :=
  bif t21 then
    some ((IntKind.i64.wrap ((167903232 : Int) + t1)), 0)
  else
    bif (t0 == 2) then
      (L_addr_below N t1 3).bind fun v1 =>
      bif v1 then
        (L_addr_below N t2 4).bind fun v2 =>
        L_addr_Address_3 N t1 t2 v2
      else
        L_addr_Address_3 N t1 t2 false
    else
      L_addr_Address_3 N t1 t2 false
def L_addr_Address_1 (N : Nat) (t0 : Int) (t1 : Int) (t2 : Int) (t8 : Bool) : Option (Int × Int) :=
  bif t8 then
    some ((IntKind.i64.wrap ((167837696 : Int) + t2)), 0)
  else
    bif (t0 == 1) then
      (L_addr_below N t1 3).bind fun v1 =>
      bif v1 then
        L_addr_Address_2 N t0 t1 t2 (t2 == 0)
      else
        L_addr_Address_2 N t0 t1 t2 false
    else
      L_addr_Address_2 N t0 t1 t2 false
def L_addr_Address (N : Nat) (x0 : Int) (x1 : Int) (x2 : Int) : Option (Int × Int) :=
  bif (x0 == 0) then
    bif (x1 == 0) then
      (L_addr_below N x2 2).bind fun v1 =>
      L_addr_Address_1 N x0 x1 x2 v1
    else
      L_addr_Address_1 N x0 x1 x2 false
  else
    L_addr_Address_1 N x0 x1 x2 false
def d_addr_Address (r : Int × Int) : D := .tup [.int .i64 r.1, .int .i64 r.2]
theorem g_addr_Address_3 {c : Cx} (hc : Is c Try.prog ty 70 50) (N : Nat) {r : Int × Int} (hfin : c.Fin [] (d_addr_Address r) []) (t1 : Int) (t2 : Int) (t34 : Bool) (h : L_addr_Address_3 N t1 t2 t34 = some r) : c.Goes (items (bodyOf Try.f70) [.c 505, .b 0, .c 7]) ⟨[(1, .int .i64 t1), (2, .int .i64 t2), (34, .bool t34)], []⟩ := by
  unfold L_addr_Address_3 at h
  rcases brk h with ⟨h0, k0⟩ | ⟨h0, k0⟩
  · subst h0
    replace h := k0
    obtain ⟨v1, h1, h⟩ := via_some h
    have h := Option.some.inj h
    refine hc.ret hfin (fn := Try.f70) (by kernel_rfl) (orc := [(6, [(2, { cv := some (.int .i64 v1) })])]) (m := 3) (d := .tup [.int .i64 (IntKind.i64.wrap (v1 + t2)), .int .i64 0]) (by kernel_rfl) (.cons (Le.int (k := .i64) h1) .nil) ?_ ?_
    · rw [← h]; exact Le.of rfl
    · rw [← h]; rfl
  · subst h0
    replace h := k0
    have h := Option.some.inj h
    refine hc.ret hfin (fn := Try.f70) (by kernel_rfl) (orc := []) (m := 5) (d := .tup [.int .i64 0, .int .i64 500]) (by kernel_rfl) .nil ?_ ?_
    · rw [← h]; exact Le.of rfl
    · rw [← h]; rfl

theorem g_addr_Address_2 {c : Cx} (hc : Is c Try.prog ty 70 50) (N : Nat) {r : Int × Int} (hfin : c.Fin [] (d_addr_Address r) []) (t0 : Int) (t1 : Int) (t2 : Int) (t21 : Bool) (h : L_addr_Address_2 N t0 t1 t2 t21 = some r) : c.Goes (items (bodyOf Try.f70) [.c 121, .b 0, .c 7]) ⟨[(0, .int .i64 t0), (1, .int .i64 t1), (2, .int .i64 t2), (21, .bool t21)], []⟩ := by
  unfold L_addr_Address_2 at h
  rcases brk h with ⟨h0, k0⟩ | ⟨h0, k0⟩
  · subst h0
    replace h := k0
    have h := Option.some.inj h
    refine hc.ret hfin (fn := Try.f70) (by kernel_rfl) (orc := []) (m := 3) (d := .tup [.int .i64 (IntKind.i64.wrap ((167903232 : Int) + t1)), .int .i64 0]) (by kernel_rfl) .nil ?_ ?_
    · rw [← h]; exact Le.of rfl
    · rw [← h]; rfl
  · subst h0
    replace h := k0
    rcases brk h with ⟨h1, h⟩ | ⟨h1, h⟩
    · obtain ⟨v1, h2, h⟩ := bind_of h
      rcases brk h with ⟨h3, h⟩ | ⟨h3, h⟩
      · obtain ⟨v2, h4, h⟩ := bind_of h
        exact hc.jump (orc := [(5, [(2, { cv := some (.bool true) }), (4, { r := d_addr_below v1 }), (6, { cv := some (.bool true) }), (8, { r := d_addr_below v2 })])]) (m := 3) (kt := [1, 2, 34]) (kh := []) (by kernel_rfl) (.cons (Le.tt h1) (.cons (c_addr_below N t1 3 h2) (.cons (Le.tt h3) (.cons (c_addr_below N t2 4 h4) .nil)))) (g_addr_Address_3 hc N hfin t1 t2 v2 h)
      · exact hc.jump (orc := [(5, [(2, { cv := some (.bool true) }), (4, { r := d_addr_below v1 }), (6, { cv := some (.bool false) })])]) (m := 3) (kt := [1, 2, 34]) (kh := []) (by kernel_rfl) (.cons (Le.tt h1) (.cons (c_addr_below N t1 3 h2) (.cons (Le.ff h3) .nil))) (g_addr_Address_3 hc N hfin t1 t2 false h)
    · exact hc.jump (orc := [(5, [(2, { cv := some (.bool false) })])]) (m := 3) (kt := [1, 2, 34]) (kh := []) (by kernel_rfl) (.cons (Le.ff h1) .nil) (g_addr_Address_3 hc N hfin t1 t2 false h)

theorem g_addr_Address_1 {c : Cx} (hc : Is c Try.prog ty 70 50) (N : Nat) {r : Int × Int} (hfin : c.Fin [] (d_addr_Address r) []) (t0 : Int) (t1 : Int) (t2 : Int) (t8 : Bool) (h : L_addr_Address_1 N t0 t1 t2 t8 = some r) : c.Goes (items (bodyOf Try.f70) [.c 25, .b 0, .c 7]) ⟨[(0, .int .i64 t0), (1, .int .i64 t1), (2, .int .i64 t2), (8, .bool t8)], []⟩ := by
  unfold L_addr_Address_1 at h
  rcases brk h with ⟨h0, k0⟩ | ⟨h0, k0⟩
  · subst h0
    replace h := k0
    have h := Option.some.inj h
    refine hc.ret hfin (fn := Try.f70) (by kernel_rfl) (orc := []) (m := 3) (d := .tup [.int .i64 (IntKind.i64.wrap ((167837696 : Int) + t2)), .int .i64 0]) (by kernel_rfl) .nil ?_ ?_
    · rw [← h]; exact Le.of rfl
    · rw [← h]; rfl
  · subst h0
    replace h := k0
    rcases brk h with ⟨h1, h⟩ | ⟨h1, h⟩
    · obtain ⟨v1, h2, h⟩ := bind_of h
      rcases brk h with ⟨h3, h⟩ | ⟨h3, h⟩
      · exact hc.jump (orc := [(3, [(2, { cv := some (.bool true) }), (4, { r := d_addr_below v1 }), (6, { cv := some (.bool true) })])]) (m := 3) (kt := [0, 1, 2, 21]) (kh := []) (by kernel_rfl) (.cons (Le.tt h1) (.cons (c_addr_below N t1 3 h2) (.cons (Le.tt h3) .nil))) (g_addr_Address_2 hc N hfin t0 t1 t2 (t2 == 0) h)
      · exact hc.jump (orc := [(3, [(2, { cv := some (.bool true) }), (4, { r := d_addr_below v1 }), (6, { cv := some (.bool false) })])]) (m := 3) (kt := [0, 1, 2, 21]) (kh := []) (by kernel_rfl) (.cons (Le.tt h1) (.cons (c_addr_below N t1 3 h2) (.cons (Le.ff h3) .nil))) (g_addr_Address_2 hc N hfin t0 t1 t2 false h)
    · exact hc.jump (orc := [(3, [(2, { cv := some (.bool false) })])]) (m := 3) (kt := [0, 1, 2, 21]) (kh := []) (by kernel_rfl) (.cons (Le.ff h1) .nil) (g_addr_Address_2 hc N hfin t0 t1 t2 false h)

theorem g_addr_Address_0 {c : Cx} (hc : Is c Try.prog ty 70 50) (N : Nat) {r : Int × Int} (hfin : c.Fin [] (d_addr_Address r) []) (x0 : Int) (x1 : Int) (x2 : Int) (h : L_addr_Address N x0 x1 x2 = some r) : c.Goes (items (bodyOf Try.f70) [.c 1]) ⟨[(0, .int .i64 x0), (1, .int .i64 x1), (2, .int .i64 x2)], []⟩ := by
  unfold L_addr_Address at h
  rcases brk h with ⟨h0, h⟩ | ⟨h0, h⟩
  · rcases brk h with ⟨h1, h⟩ | ⟨h1, h⟩
    · obtain ⟨v1, h2, h⟩ := bind_of h
      exact hc.jump (orc := [(1, [(2, { cv := some (.bool true) }), (6, { cv := some (.bool true) }), (8, { r := d_addr_below v1 })])]) (m := 6) (kt := [0, 1, 2, 8]) (kh := []) (by kernel_rfl) (.cons (Le.tt h0) (.cons (Le.tt h1) (.cons (c_addr_below N x2 2 h2) .nil))) (g_addr_Address_1 hc N hfin x0 x1 x2 v1 h)
    · exact hc.jump (orc := [(1, [(2, { cv := some (.bool true) }), (6, { cv := some (.bool false) })])]) (m := 6) (kt := [0, 1, 2, 8]) (kh := []) (by kernel_rfl) (.cons (Le.tt h0) (.cons (Le.ff h1) .nil)) (g_addr_Address_1 hc N hfin x0 x1 x2 false h)
  · exact hc.jump (orc := [(1, [(2, { cv := some (.bool false) })])]) (m := 6) (kt := [0, 1, 2, 8]) (kh := []) (by kernel_rfl) (.cons (Le.ff h0) .nil) (g_addr_Address_1 hc N hfin x0 x1 x2 false h)

theorem c_addr_Address (N : Nat) (x0 : Int) (x1 : Int) (x2 : Int) {r : Int × Int} (h : L_addr_Address N x0 x1 x2 = some r) : Con Try.prog 70 [.int .i64 x0, .int .i64 x1, .int .i64 x2] [] (d_addr_Address r) [] :=
  con_intro ok mix (fn := Try.f70) (body := bodyOf Try.f70) (by kernel_rfl) (by kernel_rfl) (by kernel_rfl) rfl (Nat.le_of_ble_eq_true (by kernel_rfl)) fun c h1 h2 h3 h4 hfin => g_addr_Address_0 ⟨h1, h2, h3, h4⟩ N hfin x0 x1 x2 h
/-! ### wharfage/ip.Number -/
def L_ip_Number_1 (N : Nat) : Nat → ByteArray → Int → Int → Int → Option (Int)
  | 0, _, _, _, _ => none
  | fuel + 1, t0, t3, t6, t7 =>
    bif (decide (t7 < t6)) then
      if 0 ≤ t7 ∧ t7 < (t0.size : Int) then
      via ((bOr .i64 (IntKind.i64.wrap (t3 * 2 ^ 8)) (IntKind.i64.wrap (bt t0 t7))) : Int) fun v1 =>
      L_ip_Number_1 N fuel t0 v1 t6 (IntKind.i64.wrap (t7 + 1))
      else none
    else
      some t3
def L_ip_Number (N : Nat) (x0 : ByteArray) : Option (Int) :=
  L_ip_Number_1 N N x0 0 (x0.size : Int) 0
def d_ip_Number (r : Int) : D := .int .i64 r
theorem g_ip_Number_1 {c : Cx} (hc : Is c Try.prog ty 53 19) (N : Nat) {r : Int} (hfin : c.Fin [] (d_ip_Number r) []) : ∀ (fuel : Nat) (t0 : ByteArray) (t3 : Int) (t6 : Int) (t7 : Int), L_ip_Number_1 N fuel t0 t3 t6 t7 = some r → c.Goes (items (bodyOf Try.f53) [.c 75, .l 75, .b 0, .c 15]) ⟨[(0, .str t0), (3, .int .i64 t3), (6, .int .i64 t6), (7, .int .i64 t7)], []⟩ := by
  intro fuel
  induction fuel with
  | zero => intro t0 t3 t6 t7 h; simp [L_ip_Number_1] at h
  | succ fuel ih =>
    intro t0 t3 t6 t7 h
    unfold L_ip_Number_1 at h
    rcases brk h with ⟨h0, h⟩ | ⟨h0, h⟩
    · obtain ⟨h1, h⟩ := chk h
      obtain ⟨v1, h2, h⟩ := via_some h
      exact hc.jump (orc := [(3, [(0, { cv := some (.bool true) })]), (5, [(6, { cv := some (.int .i64 v1) })])]) (m := 13) (kt := [0, 3, 6, 7]) (kh := []) (by kernel_rfl) (.cons (Le.tt h0) (.cons ((by decide : (0:Int) ≤ 8)) (.cons (h1) (.cons (Le.int (k := .i64) h2) .nil)))) (ih t0 v1 t6 (IntKind.i64.wrap (t7 + 1)) h)
    · have h := Option.some.inj h
      refine hc.ret hfin (fn := Try.f53) (by kernel_rfl) (orc := [(3, [(0, { cv := some (.bool false) })])]) (m := 7) (d := .int .i64 t3) (by kernel_rfl) (.cons (Le.ff h0) .nil) ?_ ?_
      · rw [← h]; exact Le.of rfl
      · rw [← h]; rfl

theorem g_ip_Number_0 {c : Cx} (hc : Is c Try.prog ty 53 19) (N : Nat) {r : Int} (hfin : c.Fin [] (d_ip_Number r) []) (x0 : ByteArray) (h : L_ip_Number N x0 = some r) : c.Goes (items (bodyOf Try.f53) [.c 1]) ⟨[(0, .str x0)], []⟩ := by
  unfold L_ip_Number at h
  exact hc.jump (orc := []) (m := 9) (kt := [0, 3, 6, 7]) (kh := []) (by kernel_rfl) .nil (g_ip_Number_1 hc N hfin N x0 0 (x0.size : Int) 0 h)

theorem c_ip_Number (N : Nat) (x0 : ByteArray) {r : Int} (h : L_ip_Number N x0 = some r) : Con Try.prog 53 [.str x0] [] (d_ip_Number r) [] :=
  con_intro ok mix (fn := Try.f53) (body := bodyOf Try.f53) (by kernel_rfl) (by kernel_rfl) (by kernel_rfl) rfl (Nat.le_of_ble_eq_true (by kernel_rfl)) fun c h1 h2 h3 h4 hfin => g_ip_Number_0 ⟨h1, h2, h3, h4⟩ N hfin x0 h
/-! ### wharfage/addr.Whose -/
def L_addr_Whose_1 (N : Nat) (t8 : Int) (t23 : Bool) : Option (Int × Int × Int × Bool) :=
  bif t23 then
    some (2, (IntKind.i64.wrap (t8.tdiv 256)), (t8.tmod 256), true)
  else
    some (0, 0, 0, false)
def L_addr_Whose (N : Nat) (x0 : Int) : Option (Int × Int × Int × Bool) :=
  (L_addr_below N (IntKind.i64.wrap (x0 - 167837696)) 2).bind fun v1 =>
  bif v1 then
    some (0, 0, (IntKind.i64.wrap (x0 - 167837696)), true)
  else
    (L_addr_below N (IntKind.i64.wrap (x0 - 167903232)) 3).bind fun v2 =>
    bif v2 then
      some (1, (IntKind.i64.wrap (x0 - 167903232)), 0, true)
    else
      (L_addr_below N (IntKind.i64.wrap (x0 - 167968768)) 768).bind fun v3 =>
      bif v3 then
        via (((IntKind.i64.wrap (x0 - 167968768)).tmod 256) : Int) fun v4 =>
        L_addr_Whose_1 N (IntKind.i64.wrap (x0 - 167968768)) (decide (v4 < 4))
      else
        L_addr_Whose_1 N (IntKind.i64.wrap (x0 - 167968768)) false
def d_addr_Whose (r : Int × Int × Int × Bool) : D := .tup [.int .i64 r.1, .int .i64 r.2.1, .int .i64 r.2.2.1, .bool r.2.2.2]
theorem g_addr_Whose_1 {c : Cx} (hc : Is c Try.prog ty 85 35) (N : Nat) {r : Int × Int × Int × Bool} (hfin : c.Fin [] (d_addr_Whose r) []) (t8 : Int) (t23 : Bool) (h : L_addr_Whose_1 N t8 t23 = some r) : c.Goes (items (bodyOf Try.f85) [.c 1011, .b 0, .c 15]) ⟨[(8, .int .i64 t8), (23, .bool t23)], []⟩ := by
  unfold L_addr_Whose_1 at h
  rcases brk h with ⟨h0, k0⟩ | ⟨h0, k0⟩
  · subst h0
    replace h := k0
    have h := Option.some.inj h
    refine hc.ret hfin (fn := Try.f85) (by kernel_rfl) (orc := []) (m := 3) (d := .tup [.int .i64 2, .int .i64 (IntKind.i64.wrap (t8.tdiv 256)), .int .i64 (t8.tmod 256), .bool true]) (by kernel_rfl) (.cons ((by decide : (256:Int) ≠ 0)) (.cons ((by decide : (256:Int) ≠ 0)) .nil)) ?_ ?_
    · rw [← h]; exact Le.of rfl
    · rw [← h]; rfl
  · subst h0
    replace h := k0
    have h := Option.some.inj h
    refine hc.ret hfin (fn := Try.f85) (by kernel_rfl) (orc := []) (m := 5) (d := .tup [.int .i64 0, .int .i64 0, .int .i64 0, .bool false]) (by kernel_rfl) .nil ?_ ?_
    · rw [← h]; exact Le.of rfl
    · rw [← h]; rfl

theorem g_addr_Whose_0 {c : Cx} (hc : Is c Try.prog ty 85 35) (N : Nat) {r : Int × Int × Int × Bool} (hfin : c.Fin [] (d_addr_Whose r) []) (x0 : Int) (h : L_addr_Whose N x0 = some r) : c.Goes (items (bodyOf Try.f85) [.c 1]) ⟨[(0, .int .i64 x0)], []⟩ := by
  unfold L_addr_Whose at h
  obtain ⟨v1, h0, h⟩ := bind_of h
  rcases brk h with ⟨h1, h⟩ | ⟨h1, h⟩
  · have h := Option.some.inj h
    refine hc.ret hfin (fn := Try.f85) (by kernel_rfl) (orc := [(2, [(1, { r := d_addr_below v1 }), (2, { cv := some (.bool true) })])]) (m := 11) (d := .tup [.int .i64 0, .int .i64 0, .int .i64 (IntKind.i64.wrap (x0 - 167837696)), .bool true]) (by kernel_rfl) (.cons (c_addr_below N (IntKind.i64.wrap (x0 - 167837696)) 2 h0) (.cons (Le.tt h1) .nil)) ?_ ?_
    · rw [← h]; exact Le.of rfl
    · rw [← h]; rfl
  · obtain ⟨v2, h2, h⟩ := bind_of h
    rcases brk h with ⟨h3, h⟩ | ⟨h3, h⟩
    · have h := Option.some.inj h
      refine hc.ret hfin (fn := Try.f85) (by kernel_rfl) (orc := [(2, [(1, { r := d_addr_below v1 }), (2, { cv := some (.bool false) })]), (4, [(1, { r := d_addr_below v2 }), (2, { cv := some (.bool true) })])]) (m := 14) (d := .tup [.int .i64 1, .int .i64 (IntKind.i64.wrap (x0 - 167903232)), .int .i64 0, .bool true]) (by kernel_rfl) (.cons (c_addr_below N (IntKind.i64.wrap (x0 - 167837696)) 2 h0) (.cons (Le.ff h1) (.cons (c_addr_below N (IntKind.i64.wrap (x0 - 167903232)) 3 h2) (.cons (Le.tt h3) .nil)))) ?_ ?_
      · rw [← h]; exact Le.of rfl
      · rw [← h]; rfl
    · obtain ⟨v3, h4, h⟩ := bind_of h
      rcases brk h with ⟨h5, h⟩ | ⟨h5, h⟩
      · obtain ⟨v4, h6, h⟩ := via_some h
        exact hc.jump (orc := [(2, [(1, { r := d_addr_below v1 }), (2, { cv := some (.bool false) })]), (4, [(1, { r := d_addr_below v2 }), (2, { cv := some (.bool false) })]), (6, [(1, { r := d_addr_below v3 }), (2, { cv := some (.bool true) }), (4, { cv := some (.int .i64 v4) })])]) (m := 14) (kt := [8, 23]) (kh := []) (by kernel_rfl) (.cons (c_addr_below N (IntKind.i64.wrap (x0 - 167837696)) 2 h0) (.cons (Le.ff h1) (.cons (c_addr_below N (IntKind.i64.wrap (x0 - 167903232)) 3 h2) (.cons (Le.ff h3) (.cons (c_addr_below N (IntKind.i64.wrap (x0 - 167968768)) 768 h4) (.cons (Le.tt h5) (.cons ((by decide : (256:Int) ≠ 0)) (.cons (Le.int (k := .i64) h6) .nil)))))))) (g_addr_Whose_1 hc N hfin (IntKind.i64.wrap (x0 - 167968768)) (decide (v4 < 4)) h)
      · exact hc.jump (orc := [(2, [(1, { r := d_addr_below v1 }), (2, { cv := some (.bool false) })]), (4, [(1, { r := d_addr_below v2 }), (2, { cv := some (.bool false) })]), (6, [(1, { r := d_addr_below v3 }), (2, { cv := some (.bool false) })])]) (m := 14) (kt := [8, 23]) (kh := []) (by kernel_rfl) (.cons (c_addr_below N (IntKind.i64.wrap (x0 - 167837696)) 2 h0) (.cons (Le.ff h1) (.cons (c_addr_below N (IntKind.i64.wrap (x0 - 167903232)) 3 h2) (.cons (Le.ff h3) (.cons (c_addr_below N (IntKind.i64.wrap (x0 - 167968768)) 768 h4) (.cons (Le.ff h5) .nil)))))) (g_addr_Whose_1 hc N hfin (IntKind.i64.wrap (x0 - 167968768)) false h)

theorem c_addr_Whose (N : Nat) (x0 : Int) {r : Int × Int × Int × Bool} (h : L_addr_Whose N x0 = some r) : Con Try.prog 85 [.int .i64 x0] [] (d_addr_Whose r) [] :=
  con_intro ok mix (fn := Try.f85) (body := bodyOf Try.f85) (by kernel_rfl) (by kernel_rfl) (by kernel_rfl) rfl (Nat.le_of_ble_eq_true (by kernel_rfl)) fun c h1 h2 h3 h4 hfin => g_addr_Whose_0 ⟨h1, h2, h3, h4⟩ N hfin x0 h
/-! ### wharfage/gue.node -/
def L_gue_node (N : Nat) (x0 : Int) : Option (Bool) :=
  (L_addr_Whose N x0).bind fun v1 =>
  some v1.2.2.2
def d_gue_node (r : Bool) : D := .bool r
theorem g_gue_node_0 {c : Cx} (hc : Is c Try.prog ty 55 15) (N : Nat) {r : Bool} (hfin : c.Fin [] (d_gue_node r) []) (x0 : Int) (h : L_gue_node N x0 = some r) : c.Goes (items (bodyOf Try.f55) [.c 1]) ⟨[(0, .int .i64 x0)], []⟩ := by
  unfold L_gue_node at h
  obtain ⟨v1, h0, h⟩ := bind_of h
  have h := Option.some.inj h
  refine hc.ret hfin (fn := Try.f55) (by kernel_rfl) (orc := [(1, [(1, { r := d_addr_Whose v1 })])]) (m := 6) (d := .bool v1.2.2.2) (by kernel_rfl) (.cons (c_addr_Whose N x0 h0) .nil) ?_ ?_
  · rw [← h]; exact Le.of rfl
  · rw [← h]; rfl

theorem c_gue_node (N : Nat) (x0 : Int) {r : Bool} (h : L_gue_node N x0 = some r) : Con Try.prog 55 [.int .i64 x0] [] (d_gue_node r) [] :=
  con_intro ok mix (fn := Try.f55) (body := bodyOf Try.f55) (by kernel_rfl) (by kernel_rfl) (by kernel_rfl) rfl (Nat.le_of_ble_eq_true (by kernel_rfl)) fun c h1 h2 h3 h4 hfin => g_gue_node_0 ⟨h1, h2, h3, h4⟩ N hfin x0 h
/-! ### wharfage/ip.In -/
def L_ip_In_1 (N : Nat) (t4 : Bool) : Option (Bool) :=
  some t4
def L_ip_In (N : Nat) (x0 : Int) (x1 : Int) : Option (Bool) :=
  bif (decide (x0 ≥ 0)) then
    if 0 ≤ x1 then
    L_ip_In_1 N ((x0.fdiv (2 ^ (min x1.toNat 64))) == 0)
    else none
  else
    L_ip_In_1 N false
def d_ip_In (r : Bool) : D := .bool r
theorem g_ip_In_1 {c : Cx} (hc : Is c Try.prog ty 56 13) (N : Nat) {r : Bool} (hfin : c.Fin [] (d_ip_In r) []) (t4 : Bool) (h : L_ip_In_1 N t4 = some r) : c.Goes (items (bodyOf Try.f56) [.c 7]) ⟨[(4, .bool t4)], []⟩ := by
  unfold L_ip_In_1 at h
  have h := Option.some.inj h
  refine hc.ret hfin (fn := Try.f56) (by kernel_rfl) (orc := []) (m := 0) (d := .bool t4) (by kernel_rfl) .nil ?_ ?_
  · rw [← h]; exact Le.of rfl
  · rw [← h]; rfl

theorem g_ip_In_0 {c : Cx} (hc : Is c Try.prog ty 56 13) (N : Nat) {r : Bool} (hfin : c.Fin [] (d_ip_In r) []) (x0 : Int) (x1 : Int) (h : L_ip_In N x0 x1 = some r) : c.Goes (items (bodyOf Try.f56) [.c 1]) ⟨[(0, .int .i64 x0), (1, .int .i64 x1)], []⟩ := by
  unfold L_ip_In at h
  rcases brk h with ⟨h0, h⟩ | ⟨h0, h⟩
  · obtain ⟨h1, h⟩ := chk h
    exact hc.jump (orc := [(1, [(2, { cv := some (.bool true) })])]) (m := 4) (kt := [4]) (kh := []) (by kernel_rfl) (.cons (Le.tt h0) (.cons (h1) .nil)) (g_ip_In_1 hc N hfin ((x0.fdiv (2 ^ (min x1.toNat 64))) == 0) h)
  · exact hc.jump (orc := [(1, [(2, { cv := some (.bool false) })])]) (m := 4) (kt := [4]) (kh := []) (by kernel_rfl) (.cons (Le.ff h0) .nil) (g_ip_In_1 hc N hfin false h)

theorem c_ip_In (N : Nat) (x0 : Int) (x1 : Int) {r : Bool} (h : L_ip_In N x0 x1 = some r) : Con Try.prog 56 [.int .i64 x0, .int .i64 x1] [] (d_ip_In r) [] :=
  con_intro ok mix (fn := Try.f56) (body := bodyOf Try.f56) (by kernel_rfl) (by kernel_rfl) (by kernel_rfl) rfl (Nat.le_of_ble_eq_true (by kernel_rfl)) fun c h1 h2 h3 h4 hfin => g_ip_In_0 ⟨h1, h2, h3, h4⟩ N hfin x0 x1 h
/-! ### wharfage/gue.May -/
def L_gue_May_1 (N : Nat) (t2 : Bool) : Option (Bool) :=
  some t2
def L_gue_May (N : Nat) (x0 : GOuter) : Option (Bool) :=
  (L_gue_node N x0.Src).bind fun v1 =>
  bif v1 then
    (L_gue_node N x0.Dst).bind fun v2 =>
    bif v2 then
      bif (decide (x0.Tier ≥ 1)) then
        bif (decide (x0.Tier ≤ 4)) then
          (L_ip_In N x0.Marker 8).bind fun v3 =>
          bif v3 then
            (L_ip_In N x0.Origin 8).bind fun v4 =>
            bif v4 then
              L_gue_May_1 N (decide ((x0.Body.size : Int) ≤ 512))
            else
              L_gue_May_1 N false
          else
            L_gue_May_1 N false
        else
          L_gue_May_1 N false
      else
        L_gue_May_1 N false
    else
      L_gue_May_1 N false
  else
    L_gue_May_1 N false
def d_gue_May (r : Bool) : D := .bool r
theorem g_gue_May_1 {c : Cx} (hc : Is c Try.prog ty 26 37) (N : Nat) {r : Bool} (hfin : c.Fin [] (d_gue_May r) []) (t2 : Bool) (h : L_gue_May_1 N t2 = some r) : c.Goes (items (bodyOf Try.f26) [.c 7]) ⟨[(2, .bool t2)], []⟩ := by
  unfold L_gue_May_1 at h
  have h := Option.some.inj h
  refine hc.ret hfin (fn := Try.f26) (by kernel_rfl) (orc := []) (m := 0) (d := .bool t2) (by kernel_rfl) .nil ?_ ?_
  · rw [← h]; exact Le.of rfl
  · rw [← h]; rfl

theorem g_gue_May_0 {c : Cx} (hc : Is c Try.prog ty 26 37) (N : Nat) {r : Bool} (hfin : c.Fin [] (d_gue_May r) []) (x0 : GOuter) (h : L_gue_May N x0 = some r) : c.Goes (items (bodyOf Try.f26) [.c 1]) ⟨[(0, .agg [.int .i64 x0.Src, .int .i64 x0.Dst, .int .i64 x0.Tier, .int .i64 x0.Marker, .int .i64 x0.Origin, .str x0.Body])], []⟩ := by
  unfold L_gue_May at h
  obtain ⟨v1, h0, h⟩ := bind_of h
  rcases brk h with ⟨h1, h⟩ | ⟨h1, h⟩
  · obtain ⟨v2, h2, h⟩ := bind_of h
    rcases brk h with ⟨h3, h⟩ | ⟨h3, h⟩
    · rcases brk h with ⟨h4, h⟩ | ⟨h4, h⟩
      · rcases brk h with ⟨h5, h⟩ | ⟨h5, h⟩
        · obtain ⟨v3, h6, h⟩ := bind_of h
          rcases brk h with ⟨h7, h⟩ | ⟨h7, h⟩
          · obtain ⟨v4, h8, h⟩ := bind_of h
            rcases brk h with ⟨h9, h⟩ | ⟨h9, h⟩
            · exact hc.jump (orc := [(1, [(2, { r := d_gue_node v1 }), (3, { cv := some (.bool true) }), (6, { r := d_gue_node v2 }), (8, { cv := some (.bool true) }), (13, { cv := some (.bool true) }), (18, { cv := some (.bool true) }), (21, { r := d_ip_In v3 }), (23, { cv := some (.bool true) }), (26, { r := d_ip_In v4 }), (28, { cv := some (.bool true) })])]) (m := 4) (kt := [2]) (kh := []) (by kernel_rfl) (.cons (c_gue_node N x0.Src h0) (.cons (Le.tt h1) (.cons (c_gue_node N x0.Dst h2) (.cons (Le.tt h3) (.cons (Le.tt h4) (.cons (Le.tt h5) (.cons (c_ip_In N x0.Marker 8 h6) (.cons (Le.tt h7) (.cons (c_ip_In N x0.Origin 8 h8) (.cons (Le.tt h9) .nil)))))))))) (g_gue_May_1 hc N hfin (decide ((x0.Body.size : Int) ≤ 512)) h)
            · exact hc.jump (orc := [(1, [(2, { r := d_gue_node v1 }), (3, { cv := some (.bool true) }), (6, { r := d_gue_node v2 }), (8, { cv := some (.bool true) }), (13, { cv := some (.bool true) }), (18, { cv := some (.bool true) }), (21, { r := d_ip_In v3 }), (23, { cv := some (.bool true) }), (26, { r := d_ip_In v4 }), (28, { cv := some (.bool false) })])]) (m := 4) (kt := [2]) (kh := []) (by kernel_rfl) (.cons (c_gue_node N x0.Src h0) (.cons (Le.tt h1) (.cons (c_gue_node N x0.Dst h2) (.cons (Le.tt h3) (.cons (Le.tt h4) (.cons (Le.tt h5) (.cons (c_ip_In N x0.Marker 8 h6) (.cons (Le.tt h7) (.cons (c_ip_In N x0.Origin 8 h8) (.cons (Le.ff h9) .nil)))))))))) (g_gue_May_1 hc N hfin false h)
          · exact hc.jump (orc := [(1, [(2, { r := d_gue_node v1 }), (3, { cv := some (.bool true) }), (6, { r := d_gue_node v2 }), (8, { cv := some (.bool true) }), (13, { cv := some (.bool true) }), (18, { cv := some (.bool true) }), (21, { r := d_ip_In v3 }), (23, { cv := some (.bool false) })])]) (m := 4) (kt := [2]) (kh := []) (by kernel_rfl) (.cons (c_gue_node N x0.Src h0) (.cons (Le.tt h1) (.cons (c_gue_node N x0.Dst h2) (.cons (Le.tt h3) (.cons (Le.tt h4) (.cons (Le.tt h5) (.cons (c_ip_In N x0.Marker 8 h6) (.cons (Le.ff h7) .nil)))))))) (g_gue_May_1 hc N hfin false h)
        · exact hc.jump (orc := [(1, [(2, { r := d_gue_node v1 }), (3, { cv := some (.bool true) }), (6, { r := d_gue_node v2 }), (8, { cv := some (.bool true) }), (13, { cv := some (.bool true) }), (18, { cv := some (.bool false) })])]) (m := 4) (kt := [2]) (kh := []) (by kernel_rfl) (.cons (c_gue_node N x0.Src h0) (.cons (Le.tt h1) (.cons (c_gue_node N x0.Dst h2) (.cons (Le.tt h3) (.cons (Le.tt h4) (.cons (Le.ff h5) .nil)))))) (g_gue_May_1 hc N hfin false h)
      · exact hc.jump (orc := [(1, [(2, { r := d_gue_node v1 }), (3, { cv := some (.bool true) }), (6, { r := d_gue_node v2 }), (8, { cv := some (.bool true) }), (13, { cv := some (.bool false) })])]) (m := 4) (kt := [2]) (kh := []) (by kernel_rfl) (.cons (c_gue_node N x0.Src h0) (.cons (Le.tt h1) (.cons (c_gue_node N x0.Dst h2) (.cons (Le.tt h3) (.cons (Le.ff h4) .nil))))) (g_gue_May_1 hc N hfin false h)
    · exact hc.jump (orc := [(1, [(2, { r := d_gue_node v1 }), (3, { cv := some (.bool true) }), (6, { r := d_gue_node v2 }), (8, { cv := some (.bool false) })])]) (m := 4) (kt := [2]) (kh := []) (by kernel_rfl) (.cons (c_gue_node N x0.Src h0) (.cons (Le.tt h1) (.cons (c_gue_node N x0.Dst h2) (.cons (Le.ff h3) .nil)))) (g_gue_May_1 hc N hfin false h)
  · exact hc.jump (orc := [(1, [(2, { r := d_gue_node v1 }), (3, { cv := some (.bool false) })])]) (m := 4) (kt := [2]) (kh := []) (by kernel_rfl) (.cons (c_gue_node N x0.Src h0) (.cons (Le.ff h1) .nil)) (g_gue_May_1 hc N hfin false h)

theorem c_gue_May (N : Nat) (x0 : GOuter) {r : Bool} (h : L_gue_May N x0 = some r) : Con Try.prog 26 [.agg [.int .i64 x0.Src, .int .i64 x0.Dst, .int .i64 x0.Tier, .int .i64 x0.Marker, .int .i64 x0.Origin, .str x0.Body]] [] (d_gue_May r) [] :=
  con_intro ok mix (fn := Try.f26) (body := bodyOf Try.f26) (by kernel_rfl) (by kernel_rfl) (by kernel_rfl) rfl (Nat.le_of_ble_eq_true (by kernel_rfl)) fun c h1 h2 h3 h4 hfin => g_gue_May_0 ⟨h1, h2, h3, h4⟩ N hfin x0 h
/-! ### wharfage/ip.Bytes -/
def L_ip_Bytes_1 (N : Nat) : Nat → Int → (List Int) → Int → Option (ByteArray)
  | 0, _, _, _ => none
  | fuel + 1, t0, b164, t6 =>
    bif (decide (t6 ≥ 0)) then
      if 0 ≤ t6 ∧ t6 < ((b164.length : Nat) : Int) then
      L_ip_Bytes_1 N fuel (t0.fdiv (2 ^ 8)) (b164.set t6.toNat (IntKind.u8.wrap t0)) (IntKind.i64.wrap (t6 - 1))
      else none
    else
      some (mkS b164)
def L_ip_Bytes (N : Nat) (x0 : Int) (x1 : Int) : Option (ByteArray) :=
  if 0 ≤ x1 ∧ x1 ≤ x1 ∧ ((1 : Nat) : Int) * x1 ≤ 140737488355328 ∧ x1 ≤ 4611686018427387904 then
  L_ip_Bytes_1 N N x0 (List.replicate (Int.toNat x1) (0 : Int)) (IntKind.i64.wrap (x1 - 1))
  else none
def d_ip_Bytes (r : ByteArray) : D := .str r
theorem g_ip_Bytes_1 {c : Cx} (hc : Is c Try.prog ty 50 24) (N : Nat) {r : ByteArray} (hfin : c.Fin [] (d_ip_Bytes r) []) : ∀ (fuel : Nat) (t0 : Int) (b164 : (List Int)) (t6 : Int), L_ip_Bytes_1 N fuel t0 b164 t6 = some r → c.Goes (items (bodyOf Try.f50) [.c 75, .l 75, .b 0, .c 15]) ⟨[(0, .int .i64 t0), (5, .ref 164 0 b164.length b164.length), (6, .int .i64 t6)], [(164, some ⟨true, 1, (eL (eInt .u8) b164)⟩)]⟩ := by
  intro fuel
  induction fuel with
  | zero => intro t0 b164 t6 h; simp [L_ip_Bytes_1] at h
  | succ fuel ih =>
    intro t0 b164 t6 h
    unfold L_ip_Bytes_1 at h
    rcases brk h with ⟨h0, h⟩ | ⟨h0, h⟩
    · obtain ⟨h1, h⟩ := chk h
      exact hc.jumpL (orc := [(3, [(1, { cv := some (.bool true) })]), (5, [(4, { cv := some (.ptr 164 (t6.toNat * 1 + 0)) }), (5, { cb := [(164, eL (eInt .u8) (b164.set t6.toNat (IntKind.u8.wrap t0)))] })])]) (m := 13) (kt := [0, 5, 6]) (kh := [(164, 164)]) (by kernel_rfl) (.cons (Le.tt h0) (.cons (h1) (.cons (Le.pt (b := 164) (k := t6.toNat * 1)) (.cons (st_need (xs := b164) (eInt_len .u8) (ixl h1) (o := 0) (k := 1) (vs := [.int .u8 (IntKind.u8.wrap t0)]) (p := true) (by decide) rfl rfl) (.cons (st_set (xs := b164) (eInt_len .u8) (ixl h1) (o := 0) (vs := [.int .u8 (IntKind.u8.wrap t0)]) (y := (IntKind.u8.wrap t0)) (Nat.le_of_ble_eq_true rfl) rfl) (.cons ((by decide : (0:Int) ≤ 8)) .nil)))))) (.cons (Le.rfl) (.cons (Le.rfs (b := 164) (by first | rfl | omega | simp : b164.length = (b164.set t6.toNat (IntKind.u8.wrap t0)).length) (by first | rfl | omega | simp : b164.length = (b164.set t6.toNat (IntKind.u8.wrap t0)).length)) (.cons (Le.rfl) .nil))) (ih (t0.fdiv (2 ^ 8)) (b164.set t6.toNat (IntKind.u8.wrap t0)) (IntKind.i64.wrap (t6 - 1)) h)
    · have h := Option.some.inj h
      refine hc.ret hfin (fn := Try.f50) (by kernel_rfl) (orc := [(3, [(1, { cv := some (.bool false) })]), (7, [(1, { cv := some (.str (mkS b164)) })])]) (m := 7) (d := .str (mkS b164)) (by kernel_rfl) (.cons (Le.ff h0) (.cons (byte_ok b164) (.cons (Le.str (bytesD_eq b164)) .nil))) ?_ ?_
      · rw [← h]; exact Le.of rfl
      · rw [← h]; rfl

theorem g_ip_Bytes_0 {c : Cx} (hc : Is c Try.prog ty 50 24) (N : Nat) {r : ByteArray} (hfin : c.Fin [] (d_ip_Bytes r) []) (x0 : Int) (x1 : Int) (h : L_ip_Bytes N x0 x1 = some r) : c.Goes (items (bodyOf Try.f50) [.c 1]) ⟨[(0, .int .i64 x0), (1, .int .i64 x1)], []⟩ := by
  unfold L_ip_Bytes at h
  obtain ⟨h0, h⟩ := chk h
  exact hc.jump (orc := [(1, [(1, { cv := some (.ref 164 0 (List.replicate (Int.toNat x1) (0 : Int)).length (List.replicate (Int.toNat x1) (0 : Int)).length), cb := [(164, eL (eInt .u8) (List.replicate (Int.toNat x1) (0 : Int)))] })])]) (m := 9) (kt := [0, 5, 6]) (kh := [(164, 164)]) (by kernel_rfl) (.cons (h0) (.cons (Le.apr (b := 164) (by first | rfl | simp : (List.replicate (Int.toNat x1) (0 : Int)).length = (Int.toNat x1))) (.cons (repD_eq (e := (eInt .u8)) (z := 0) (cs := [.int .u8 0]) rfl (Int.toNat x1)) .nil))) (g_ip_Bytes_1 hc N hfin N x0 (List.replicate (Int.toNat x1) (0 : Int)) (IntKind.i64.wrap (x1 - 1)) h)

theorem c_ip_Bytes (N : Nat) (x0 : Int) (x1 : Int) {r : ByteArray} (h : L_ip_Bytes N x0 x1 = some r) : Con Try.prog 50 [.int .i64 x0, .int .i64 x1] [] (d_ip_Bytes r) [] :=
  con_intro ok mix (fn := Try.f50) (body := bodyOf Try.f50) (by kernel_rfl) (by kernel_rfl) (by kernel_rfl) rfl (Nat.le_of_ble_eq_true (by kernel_rfl)) fun c h1 h2 h3 h4 hfin => g_ip_Bytes_0 ⟨h1, h2, h3, h4⟩ N hfin x0 x1 h
/-! ### wharfage/ip.May -/
def L_ip_May_1 (N : Nat) (t2 : Bool) : Option (Bool) :=
  some t2
def L_ip_May (N : Nat) (x0 : GIp) : Option (Bool) :=
  (L_ip_In N x0.Src 32).bind fun v1 =>
  bif v1 then
    (L_ip_In N x0.Dst 32).bind fun v2 =>
    bif v2 then
      (L_ip_In N x0.Proto 8).bind fun v3 =>
      bif v3 then
        (L_ip_In N x0.Ttl 8).bind fun v4 =>
        bif v4 then
          (L_ip_In N x0.Id 16).bind fun v5 =>
          bif v5 then
            L_ip_May_1 N (decide ((x0.Body.size : Int) ≤ 492))
          else
            L_ip_May_1 N false
        else
          L_ip_May_1 N false
      else
        L_ip_May_1 N false
    else
      L_ip_May_1 N false
  else
    L_ip_May_1 N false
def d_ip_May (r : Bool) : D := .bool r
theorem g_ip_May_1 {c : Cx} (hc : Is c Try.prog ty 82 32) (N : Nat) {r : Bool} (hfin : c.Fin [] (d_ip_May r) []) (t2 : Bool) (h : L_ip_May_1 N t2 = some r) : c.Goes (items (bodyOf Try.f82) [.c 7]) ⟨[(2, .bool t2)], []⟩ := by
  unfold L_ip_May_1 at h
  have h := Option.some.inj h
  refine hc.ret hfin (fn := Try.f82) (by kernel_rfl) (orc := []) (m := 0) (d := .bool t2) (by kernel_rfl) .nil ?_ ?_
  · rw [← h]; exact Le.of rfl
  · rw [← h]; rfl

theorem g_ip_May_0 {c : Cx} (hc : Is c Try.prog ty 82 32) (N : Nat) {r : Bool} (hfin : c.Fin [] (d_ip_May r) []) (x0 : GIp) (h : L_ip_May N x0 = some r) : c.Goes (items (bodyOf Try.f82) [.c 1]) ⟨[(0, .agg [.int .i64 x0.Src, .int .i64 x0.Dst, .int .i64 x0.Proto, .int .i64 x0.Ttl, .int .i64 x0.Id, .str x0.Body])], []⟩ := by
  unfold L_ip_May at h
  obtain ⟨v1, h0, h⟩ := bind_of h
  rcases brk h with ⟨h1, h⟩ | ⟨h1, h⟩
  · obtain ⟨v2, h2, h⟩ := bind_of h
    rcases brk h with ⟨h3, h⟩ | ⟨h3, h⟩
    · obtain ⟨v3, h4, h⟩ := bind_of h
      rcases brk h with ⟨h5, h⟩ | ⟨h5, h⟩
      · obtain ⟨v4, h6, h⟩ := bind_of h
        rcases brk h with ⟨h7, h⟩ | ⟨h7, h⟩
        · obtain ⟨v5, h8, h⟩ := bind_of h
          rcases brk h with ⟨h9, h⟩ | ⟨h9, h⟩
          · exact hc.jump (orc := [(1, [(2, { r := d_ip_In v1 }), (3, { cv := some (.bool true) }), (6, { r := d_ip_In v2 }), (8, { cv := some (.bool true) }), (11, { r := d_ip_In v3 }), (13, { cv := some (.bool true) }), (16, { r := d_ip_In v4 }), (18, { cv := some (.bool true) }), (21, { r := d_ip_In v5 }), (23, { cv := some (.bool true) })])]) (m := 4) (kt := [2]) (kh := []) (by kernel_rfl) (.cons (c_ip_In N x0.Src 32 h0) (.cons (Le.tt h1) (.cons (c_ip_In N x0.Dst 32 h2) (.cons (Le.tt h3) (.cons (c_ip_In N x0.Proto 8 h4) (.cons (Le.tt h5) (.cons (c_ip_In N x0.Ttl 8 h6) (.cons (Le.tt h7) (.cons (c_ip_In N x0.Id 16 h8) (.cons (Le.tt h9) .nil)))))))))) (g_ip_May_1 hc N hfin (decide ((x0.Body.size : Int) ≤ 492)) h)
          · exact hc.jump (orc := [(1, [(2, { r := d_ip_In v1 }), (3, { cv := some (.bool true) }), (6, { r := d_ip_In v2 }), (8, { cv := some (.bool true) }), (11, { r := d_ip_In v3 }), (13, { cv := some (.bool true) }), (16, { r := d_ip_In v4 }), (18, { cv := some (.bool true) }), (21, { r := d_ip_In v5 }), (23, { cv := some (.bool false) })])]) (m := 4) (kt := [2]) (kh := []) (by kernel_rfl) (.cons (c_ip_In N x0.Src 32 h0) (.cons (Le.tt h1) (.cons (c_ip_In N x0.Dst 32 h2) (.cons (Le.tt h3) (.cons (c_ip_In N x0.Proto 8 h4) (.cons (Le.tt h5) (.cons (c_ip_In N x0.Ttl 8 h6) (.cons (Le.tt h7) (.cons (c_ip_In N x0.Id 16 h8) (.cons (Le.ff h9) .nil)))))))))) (g_ip_May_1 hc N hfin false h)
        · exact hc.jump (orc := [(1, [(2, { r := d_ip_In v1 }), (3, { cv := some (.bool true) }), (6, { r := d_ip_In v2 }), (8, { cv := some (.bool true) }), (11, { r := d_ip_In v3 }), (13, { cv := some (.bool true) }), (16, { r := d_ip_In v4 }), (18, { cv := some (.bool false) })])]) (m := 4) (kt := [2]) (kh := []) (by kernel_rfl) (.cons (c_ip_In N x0.Src 32 h0) (.cons (Le.tt h1) (.cons (c_ip_In N x0.Dst 32 h2) (.cons (Le.tt h3) (.cons (c_ip_In N x0.Proto 8 h4) (.cons (Le.tt h5) (.cons (c_ip_In N x0.Ttl 8 h6) (.cons (Le.ff h7) .nil)))))))) (g_ip_May_1 hc N hfin false h)
      · exact hc.jump (orc := [(1, [(2, { r := d_ip_In v1 }), (3, { cv := some (.bool true) }), (6, { r := d_ip_In v2 }), (8, { cv := some (.bool true) }), (11, { r := d_ip_In v3 }), (13, { cv := some (.bool false) })])]) (m := 4) (kt := [2]) (kh := []) (by kernel_rfl) (.cons (c_ip_In N x0.Src 32 h0) (.cons (Le.tt h1) (.cons (c_ip_In N x0.Dst 32 h2) (.cons (Le.tt h3) (.cons (c_ip_In N x0.Proto 8 h4) (.cons (Le.ff h5) .nil)))))) (g_ip_May_1 hc N hfin false h)
    · exact hc.jump (orc := [(1, [(2, { r := d_ip_In v1 }), (3, { cv := some (.bool true) }), (6, { r := d_ip_In v2 }), (8, { cv := some (.bool false) })])]) (m := 4) (kt := [2]) (kh := []) (by kernel_rfl) (.cons (c_ip_In N x0.Src 32 h0) (.cons (Le.tt h1) (.cons (c_ip_In N x0.Dst 32 h2) (.cons (Le.ff h3) .nil)))) (g_ip_May_1 hc N hfin false h)
  · exact hc.jump (orc := [(1, [(2, { r := d_ip_In v1 }), (3, { cv := some (.bool false) })])]) (m := 4) (kt := [2]) (kh := []) (by kernel_rfl) (.cons (c_ip_In N x0.Src 32 h0) (.cons (Le.ff h1) .nil)) (g_ip_May_1 hc N hfin false h)

theorem c_ip_May (N : Nat) (x0 : GIp) {r : Bool} (h : L_ip_May N x0 = some r) : Con Try.prog 82 [.agg [.int .i64 x0.Src, .int .i64 x0.Dst, .int .i64 x0.Proto, .int .i64 x0.Ttl, .int .i64 x0.Id, .str x0.Body]] [] (d_ip_May r) [] :=
  con_intro ok mix (fn := Try.f82) (body := bodyOf Try.f82) (by kernel_rfl) (by kernel_rfl) (by kernel_rfl) rfl (Nat.le_of_ble_eq_true (by kernel_rfl)) fun c h1 h2 h3 h4 hfin => g_ip_May_0 ⟨h1, h2, h3, h4⟩ N hfin x0 h
/-! ### wharfage/ip.head -/
def L_ip_head (N : Nat) (x0 : GIp) (x1 : Int) : Option (ByteArray) :=
  (L_ip_Bytes N 69 1).bind fun v1 =>
  (L_ip_Bytes N 0 1).bind fun v2 =>
  if ((v1.size + v2.size : Nat) : Int) ≤ 9223372036854775807 then
  via ((IntKind.i64.wrap ((20 : Int) + (x0.Body.size : Int))) : Int) fun v3 =>
  (L_ip_Bytes N v3 2).bind fun v4 =>
  if (((v1 ++ v2).size + v4.size : Nat) : Int) ≤ 9223372036854775807 then
  (L_ip_Bytes N x0.Id 2).bind fun v5 =>
  if ((((v1 ++ v2) ++ v4).size + v5.size : Nat) : Int) ≤ 9223372036854775807 then
  (L_ip_Bytes N 64 1).bind fun v6 =>
  if (((((v1 ++ v2) ++ v4) ++ v5).size + v6.size : Nat) : Int) ≤ 9223372036854775807 then
  (L_ip_Bytes N 0 1).bind fun v7 =>
  if ((((((v1 ++ v2) ++ v4) ++ v5) ++ v6).size + v7.size : Nat) : Int) ≤ 9223372036854775807 then
  (L_ip_Bytes N x0.Ttl 1).bind fun v8 =>
  if (((((((v1 ++ v2) ++ v4) ++ v5) ++ v6) ++ v7).size + v8.size : Nat) : Int) ≤ 9223372036854775807 then
  via (((((((v1 ++ v2) ++ v4) ++ v5) ++ v6) ++ v7) ++ v8) : ByteArray) fun v9 =>
  (L_ip_Bytes N x0.Proto 1).bind fun v10 =>
  if ((v9.size + v10.size : Nat) : Int) ≤ 9223372036854775807 then
  (L_ip_Bytes N x1 2).bind fun v11 =>
  if (((v9 ++ v10).size + v11.size : Nat) : Int) ≤ 9223372036854775807 then
  (L_ip_Bytes N x0.Src 4).bind fun v12 =>
  if ((((v9 ++ v10) ++ v11).size + v12.size : Nat) : Int) ≤ 9223372036854775807 then
  (L_ip_Bytes N x0.Dst 4).bind fun v13 =>
  if (((((v9 ++ v10) ++ v11) ++ v12).size + v13.size : Nat) : Int) ≤ 9223372036854775807 then
  some ((((v9 ++ v10) ++ v11) ++ v12) ++ v13)
  else none
  else none
  else none
  else none
  else none
  else none
  else none
  else none
  else none
  else none
def d_ip_head (r : ByteArray) : D := .str r
theorem g_ip_head_0 (gx0 : Bool) {c : Cx} (hc : Is c Try.prog ty 83 53) (N : Nat) {r : ByteArray} (hfin : c.Fin [] (d_ip_head r) []) (x0 : GIp) (x1 : Int) (h : L_ip_head N x0 x1 = some r) : c.Goes (items (bodyOf Try.f83) [.c 1]) ⟨[(0, .ip gx0 [.int .i64 x0.Src, .int .i64 x0.Dst, .int .i64 x0.Proto, .int .i64 x0.Ttl, .int .i64 x0.Id, .str x0.Body]), (1, .int .i64 x1)], []⟩ := by
  unfold L_ip_head at h
  obtain ⟨v1, h0, h⟩ := bind_of h
  obtain ⟨v2, h1, h⟩ := bind_of h
  obtain ⟨h2, h⟩ := chk h
  obtain ⟨v3, h3, h⟩ := via_some h
  obtain ⟨v4, h4, h⟩ := bind_of h
  obtain ⟨h5, h⟩ := chk h
  obtain ⟨v5, h6, h⟩ := bind_of h
  obtain ⟨h7, h⟩ := chk h
  obtain ⟨v6, h8, h⟩ := bind_of h
  obtain ⟨h9, h⟩ := chk h
  obtain ⟨v7, h10, h⟩ := bind_of h
  obtain ⟨h11, h⟩ := chk h
  obtain ⟨v8, h12, h⟩ := bind_of h
  obtain ⟨h13, h⟩ := chk h
  obtain ⟨v9, h14, h⟩ := via_some h
  obtain ⟨v10, h15, h⟩ := bind_of h
  obtain ⟨h16, h⟩ := chk h
  obtain ⟨v11, h17, h⟩ := bind_of h
  obtain ⟨h18, h⟩ := chk h
  obtain ⟨v12, h19, h⟩ := bind_of h
  obtain ⟨h20, h⟩ := chk h
  obtain ⟨v13, h21, h⟩ := bind_of h
  obtain ⟨h22, h⟩ := chk h
  have h := Option.some.inj h
  refine hc.ret hfin (fn := Try.f83) (by kernel_rfl) (orc := [(1, [(0, { r := d_ip_Bytes v1 }), (1, { r := d_ip_Bytes v2 }), (8, { cv := some (.int .i64 v3) }), (9, { r := d_ip_Bytes v4 }), (15, { r := d_ip_Bytes v5 }), (17, { r := d_ip_Bytes v6 }), (19, { r := d_ip_Bytes v7 }), (25, { r := d_ip_Bytes v8 }), (26, { cv := some (.str v9) }), (31, { r := d_ip_Bytes v10 }), (34, { r := d_ip_Bytes v11 }), (40, { r := d_ip_Bytes v12 }), (46, { r := d_ip_Bytes v13 })])]) (m := 4) (d := .str ((((v9 ++ v10) ++ v11) ++ v12) ++ v13)) (by kernel_rfl) (.cons (c_ip_Bytes N 69 1 h0) (.cons (c_ip_Bytes N 0 1 h1) (.cons (h2) (.cons (Le.int (k := .i64) h3) (.cons (c_ip_Bytes N v3 2 h4) (.cons (h5) (.cons (c_ip_Bytes N x0.Id 2 h6) (.cons (h7) (.cons (c_ip_Bytes N 64 1 h8) (.cons (h9) (.cons (c_ip_Bytes N 0 1 h10) (.cons (h11) (.cons (c_ip_Bytes N x0.Ttl 1 h12) (.cons (h13) (.cons (Le.str h14) (.cons (c_ip_Bytes N x0.Proto 1 h15) (.cons (h16) (.cons (c_ip_Bytes N x1 2 h17) (.cons (h18) (.cons (c_ip_Bytes N x0.Src 4 h19) (.cons (h20) (.cons (c_ip_Bytes N x0.Dst 4 h21) (.cons (h22) .nil))))))))))))))))))))))) ?_ ?_
  · rw [← h]; exact Le.of rfl
  · rw [← h]; rfl

theorem c_ip_head (N : Nat) (gx0 : Bool) (x0 : GIp) (x1 : Int) {r : ByteArray} (h : L_ip_head N x0 x1 = some r) : Con Try.prog 83 [.ip gx0 [.int .i64 x0.Src, .int .i64 x0.Dst, .int .i64 x0.Proto, .int .i64 x0.Ttl, .int .i64 x0.Id, .str x0.Body], .int .i64 x1] [] (d_ip_head r) [] :=
  con_intro ok mix (fn := Try.f83) (body := bodyOf Try.f83) (by kernel_rfl) (by kernel_rfl) (by kernel_rfl) rfl (Nat.le_of_ble_eq_true (by kernel_rfl)) fun c h1 h2 h3 h4 hfin => g_ip_head_0 gx0 ⟨h1, h2, h3, h4⟩ N hfin x0 x1 h
/-! ### wharfage/sum.fold[uint64] -/
def L_sum_fold_uint64_1 (N : Nat) : Nat → Int → Option (Int)
  | 0, _ => none
  | fuel + 1, t0 =>
    bif (decide (t0 ≥ 65536)) then
      via ((IntKind.u64.wrap ((t0.tmod 65536) + (IntKind.u64.wrap (t0.tdiv 65536)))) : Int) fun v1 =>
      L_sum_fold_uint64_1 N fuel v1
    else
      some (IntKind.i64.wrap t0)
def L_sum_fold_uint64 (N : Nat) (x0 : Int) : Option (Int) :=
  L_sum_fold_uint64_1 N N x0
def d_sum_fold_uint64 (r : Int) : D := .int .i64 r
theorem g_sum_fold_uint64_1 {c : Cx} (hc : Is c Try.prog ty 89 12) (N : Nat) {r : Int} (hfin : c.Fin [] (d_sum_fold_uint64 r) []) : ∀ (fuel : Nat) (t0 : Int), L_sum_fold_uint64_1 N fuel t0 = some r → c.Goes (items (bodyOf Try.f89) [.c 17, .l 17, .b 0, .c 7]) ⟨[(0, .int .u64 t0)], []⟩ := by
  intro fuel
  induction fuel with
  | zero => intro t0 h; simp [L_sum_fold_uint64_1] at h
  | succ fuel ih =>
    intro t0 h
    unfold L_sum_fold_uint64_1 at h
    rcases brk h with ⟨h0, h⟩ | ⟨h0, h⟩
    · obtain ⟨v1, h1, h⟩ := via_some h
      exact hc.jump (orc := [(1, [(1, { cv := some (.bool true) })]), (2, [(4, { cv := some (.int .u64 v1) })])]) (m := 9) (kt := [0]) (kh := []) (by kernel_rfl) (.cons (Le.tt h0) (.cons ((by decide : (65536:Int) ≠ 0)) (.cons ((by decide : (65536:Int) ≠ 0)) (.cons (Le.int (k := .u64) h1) .nil)))) (ih v1 h)
    · have h := Option.some.inj h
      refine hc.ret hfin (fn := Try.f89) (by kernel_rfl) (orc := [(1, [(1, { cv := some (.bool false) })])]) (m := 7) (d := .int .i64 (IntKind.i64.wrap t0)) (by kernel_rfl) (.cons (Le.ff h0) .nil) ?_ ?_
      · rw [← h]; exact Le.of rfl
      · rw [← h]; rfl

theorem g_sum_fold_uint64_0 {c : Cx} (hc : Is c Try.prog ty 89 12) (N : Nat) {r : Int} (hfin : c.Fin [] (d_sum_fold_uint64 r) []) (x0 : Int) (h : L_sum_fold_uint64 N x0 = some r) : c.Goes (items (bodyOf Try.f89) [.c 1]) ⟨[(0, .int .u64 x0)], []⟩ := by
  unfold L_sum_fold_uint64 at h
  exact hc.jump (orc := []) (m := 5) (kt := [0]) (kh := []) (by kernel_rfl) .nil (g_sum_fold_uint64_1 hc N hfin N x0 h)

theorem c_sum_fold_uint64 (N : Nat) (x0 : Int) {r : Int} (h : L_sum_fold_uint64 N x0 = some r) : Con Try.prog 89 [.int .u64 x0] [] (d_sum_fold_uint64 r) [] :=
  con_intro ok mix (fn := Try.f89) (body := bodyOf Try.f89) (by kernel_rfl) (by kernel_rfl) (by kernel_rfl) rfl (Nat.le_of_ble_eq_true (by kernel_rfl)) fun c h1 h2 h3 h4 hfin => g_sum_fold_uint64_0 ⟨h1, h2, h3, h4⟩ N hfin x0 h
/-! ### wharfage/sum.Sum -/
def L_sum_Sum_2 (N : Nat) (r1 : ByteArray → Int → Int → Option (Int)) (t0 : ByteArray) (t3 : Int) (t4 : Int) : Option (Int) :=
  r1 t0 t3 (IntKind.i64.wrap (t4 + 2))
def L_sum_Sum_1 (N : Nat) : Nat → ByteArray → Int → Int → Option (Int)
  | 0, _, _, _ => none
  | fuel + 1, t0, t3, t4 =>
    bif (decide (t4 < (t0.size : Int))) then
      if 0 ≤ t4 ∧ t4 < (t0.size : Int) then
      via ((IntKind.u64.wrap ((IntKind.u64.wrap (bt t0 t4)) * 2 ^ 8)) : Int) fun v1 =>
      bif (decide ((IntKind.i64.wrap (t4 + 1)) < (t0.size : Int))) then
        if 0 ≤ (IntKind.i64.wrap (t4 + 1)) ∧ (IntKind.i64.wrap (t4 + 1)) < (t0.size : Int) then
        via ((IntKind.u64.wrap (bt t0 (IntKind.i64.wrap (t4 + 1)))) : Int) fun v2 =>
        via ((IntKind.u64.wrap ((IntKind.u64.wrap (t3 + v1)) + v2)) : Int) fun v3 =>
        L_sum_Sum_2 N (L_sum_Sum_1 N fuel) t0 v3 t4
        else none
      else
        L_sum_Sum_2 N (L_sum_Sum_1 N fuel) t0 (IntKind.u64.wrap (t3 + v1)) t4
      else none
    else
      (L_sum_fold_uint64 N t3).bind fun v1 =>
      some v1
def L_sum_Sum (N : Nat) (x0 : ByteArray) : Option (Int) :=
  L_sum_Sum_1 N N x0 0 0
def d_sum_Sum (r : Int) : D := .int .i64 r
theorem g_sum_Sum_2 {c : Cx} (hc : Is c Try.prog ty 84 32) (N : Nat) {r : Int} (hfin : c.Fin [] (d_sum_Sum r) []) (r1 : ByteArray → Int → Int → Option (Int)) (hr1 : ∀ (t0 : ByteArray) (t3 : Int) (t4 : Int), r1 t0 t3 t4 = some r → c.Goes (items (bodyOf Try.f84) [.c 75, .l 75, .b 0, .c 15]) ⟨[(0, .str t0), (3, .int .u64 t3), (4, .int .i64 t4)], []⟩) (t0 : ByteArray) (t3 : Int) (t4 : Int) (h : L_sum_Sum_2 N r1 t0 t3 t4 = some r) : c.Goes (items (bodyOf Try.f84) [.b 1, .c 459, .l 75, .b 0, .c 15]) ⟨[(0, .str t0), (3, .int .u64 t3), (4, .int .i64 t4)], []⟩ := by
  unfold L_sum_Sum_2 at h
  exact hc.jump (orc := []) (m := 3) (kt := [0, 3, 4]) (kh := []) (by kernel_rfl) .nil (hr1 t0 t3 (IntKind.i64.wrap (t4 + 2)) h)

theorem g_sum_Sum_1 {c : Cx} (hc : Is c Try.prog ty 84 32) (N : Nat) {r : Int} (hfin : c.Fin [] (d_sum_Sum r) []) : ∀ (fuel : Nat) (t0 : ByteArray) (t3 : Int) (t4 : Int), L_sum_Sum_1 N fuel t0 t3 t4 = some r → c.Goes (items (bodyOf Try.f84) [.c 75, .l 75, .b 0, .c 15]) ⟨[(0, .str t0), (3, .int .u64 t3), (4, .int .i64 t4)], []⟩ := by
  intro fuel
  induction fuel with
  | zero => intro t0 t3 t4 h; simp [L_sum_Sum_1] at h
  | succ fuel ih =>
    intro t0 t3 t4 h
    unfold L_sum_Sum_1 at h
    rcases brk h with ⟨h0, h⟩ | ⟨h0, h⟩
    · obtain ⟨h1, h⟩ := chk h
      obtain ⟨v1, h2, h⟩ := via_some h
      rcases brk h with ⟨h3, h⟩ | ⟨h3, h⟩
      · obtain ⟨h4, h⟩ := chk h
        obtain ⟨v2, h5, h⟩ := via_some h
        obtain ⟨v3, h6, h⟩ := via_some h
        exact hc.jump (orc := [(3, [(3, { cv := some (.bool true) })]), (5, [(5, { cv := some (.int .u64 v1) })]), (6, [(4, { cv := some (.bool true) })]), (7, [(5, { cv := some (.int .u64 v2) }), (6, { cv := some (.int .u64 v3) })])]) (m := 13) (kt := [0, 3, 4]) (kh := []) (by kernel_rfl) (.cons (Le.tt h0) (.cons (h1) (.cons ((by decide : (0:Int) ≤ 8)) (.cons (Le.int (k := .u64) h2) (.cons (Le.tt h3) (.cons (h4) (.cons (Le.int (k := .u64) h5) (.cons (Le.int (k := .u64) h6) .nil)))))))) (g_sum_Sum_2 hc N hfin (L_sum_Sum_1 N fuel) ih t0 v3 t4 h)
      · exact hc.jump (orc := [(3, [(3, { cv := some (.bool true) })]), (5, [(5, { cv := some (.int .u64 v1) })]), (6, [(4, { cv := some (.bool false) })])]) (m := 13) (kt := [0, 3, 4]) (kh := []) (by kernel_rfl) (.cons (Le.tt h0) (.cons (h1) (.cons ((by decide : (0:Int) ≤ 8)) (.cons (Le.int (k := .u64) h2) (.cons (Le.ff h3) .nil))))) (g_sum_Sum_2 hc N hfin (L_sum_Sum_1 N fuel) ih t0 (IntKind.u64.wrap (t3 + v1)) t4 h)
    · obtain ⟨v1, h1, h⟩ := bind_of h
      have h := Option.some.inj h
      refine hc.ret hfin (fn := Try.f84) (by kernel_rfl) (orc := [(3, [(3, { cv := some (.bool false) })]), (8, [(1, { r := d_sum_fold_uint64 v1 })])]) (m := 7) (d := .int .i64 v1) (by kernel_rfl) (.cons (Le.ff h0) (.cons (c_sum_fold_uint64 N t3 h1) .nil)) ?_ ?_
      · rw [← h]; exact Le.of rfl
      · rw [← h]; rfl

theorem g_sum_Sum_0 {c : Cx} (hc : Is c Try.prog ty 84 32) (N : Nat) {r : Int} (hfin : c.Fin [] (d_sum_Sum r) []) (x0 : ByteArray) (h : L_sum_Sum N x0 = some r) : c.Goes (items (bodyOf Try.f84) [.c 1]) ⟨[(0, .str x0)], []⟩ := by
  unfold L_sum_Sum at h
  exact hc.jump (orc := []) (m := 9) (kt := [0, 3, 4]) (kh := []) (by kernel_rfl) .nil (g_sum_Sum_1 hc N hfin N x0 0 0 h)

theorem c_sum_Sum (N : Nat) (x0 : ByteArray) {r : Int} (h : L_sum_Sum N x0 = some r) : Con Try.prog 84 [.str x0] [] (d_sum_Sum r) [] :=
  con_intro ok mix (fn := Try.f84) (body := bodyOf Try.f84) (by kernel_rfl) (by kernel_rfl) (by kernel_rfl) rfl (Nat.le_of_ble_eq_true (by kernel_rfl)) fun c h1 h2 h3 h4 hfin => g_sum_Sum_0 ⟨h1, h2, h3, h4⟩ N hfin x0 h
/-! ### wharfage/ip.Put -/
def L_ip_Put (N : Nat) (x0 : GIp) : Option (ByteArray × Int) :=
  (L_ip_May N x0).bind fun v1 =>
  bif (!v1) then
    some (ByteArray.empty, 200)
  else
    (L_ip_head N x0 0).bind fun v2 =>
    (L_sum_Sum N v2).bind fun v3 =>
    (L_ip_head N x0 (IntKind.i64.wrap ((65535 : Int) - v3))).bind fun v4 =>
    if ((v4.size + x0.Body.size : Nat) : Int) ≤ 9223372036854775807 then
    some ((v4 ++ x0.Body), 0)
    else none
def d_ip_Put (r : ByteArray × Int) : D := .tup [.str r.1, .int .i64 r.2]
theorem g_ip_Put_0 {c : Cx} (hc : Is c Try.prog ty 51 14) (N : Nat) {r : ByteArray × Int} (hfin : c.Fin [] (d_ip_Put r) []) (x0 : GIp) (h : L_ip_Put N x0 = some r) : c.Goes (items (bodyOf Try.f51) [.c 1]) ⟨[(0, .agg [.int .i64 x0.Src, .int .i64 x0.Dst, .int .i64 x0.Proto, .int .i64 x0.Ttl, .int .i64 x0.Id, .str x0.Body])], []⟩ := by
  unfold L_ip_Put at h
  obtain ⟨v1, h0, h⟩ := bind_of h
  rcases brk h with ⟨h1, h⟩ | ⟨h1, h⟩
  · have h := Option.some.inj h
    refine hc.ret hfin (fn := Try.f51) (by kernel_rfl) (orc := [(1, [(1, { r := d_ip_May v1 }), (2, { cv := some (.bool true) })])]) (m := 8) (d := .tup [.str ByteArray.empty, .int .i64 200]) (by kernel_rfl) (.cons (c_ip_May N x0 h0) (.cons (Le.tt h1) .nil)) ?_ ?_
    · rw [← h]; exact Le.of rfl
    · rw [← h]; rfl
  · obtain ⟨v2, h2, h⟩ := bind_of h
    obtain ⟨v3, h3, h⟩ := bind_of h
    obtain ⟨v4, h4, h⟩ := bind_of h
    obtain ⟨h5, h⟩ := chk h
    have h := Option.some.inj h
    refine hc.ret hfin (fn := Try.f51) (by kernel_rfl) (orc := [(1, [(1, { r := d_ip_May v1 }), (2, { cv := some (.bool false) })]), (3, [(0, { r := d_ip_head v2 }), (1, { r := d_sum_Sum v3 }), (3, { r := d_ip_head v4 })])]) (m := 9) (d := .tup [.str (v4 ++ x0.Body), .int .i64 0]) (by kernel_rfl) (.cons (c_ip_May N x0 h0) (.cons (Le.ff h1) (.cons (c_ip_head N false x0 0 h2) (.cons (c_sum_Sum N v2 h3) (.cons (c_ip_head N false x0 (IntKind.i64.wrap ((65535 : Int) - v3)) h4) (.cons (h5) .nil)))))) ?_ ?_
    · rw [← h]; exact Le.of rfl
    · rw [← h]; rfl

theorem c_ip_Put (N : Nat) (x0 : GIp) {r : ByteArray × Int} (h : L_ip_Put N x0 = some r) : Con Try.prog 51 [.agg [.int .i64 x0.Src, .int .i64 x0.Dst, .int .i64 x0.Proto, .int .i64 x0.Ttl, .int .i64 x0.Id, .str x0.Body]] [] (d_ip_Put r) [] :=
  con_intro ok mix (fn := Try.f51) (body := bodyOf Try.f51) (by kernel_rfl) (by kernel_rfl) (by kernel_rfl) rfl (Nat.le_of_ble_eq_true (by kernel_rfl)) fun c h1 h2 h3 h4 hfin => g_ip_Put_0 ⟨h1, h2, h3, h4⟩ N hfin x0 h
/-! ### wharfage/gue.Push -/
def L_gue_Push (N : Nat) (x0 : GOuter) : Option (ByteArray × Int) :=
  (L_gue_May N x0).bind fun v1 =>
  bif (!v1) then
    some (ByteArray.empty, 600)
  else
    via ((IntKind.i64.wrap ((36 : Int) + (x0.Body.size : Int))) : Int) fun v2 =>
    bif (decide (v2 > 360)) then
      some (ByteArray.empty, 601)
    else
      (L_ip_Bytes N 0 1).bind fun v3 =>
      (L_ip_Bytes N x0.Tier 1).bind fun v4 =>
      if ((v3.size + v4.size : Nat) : Int) ≤ 9223372036854775807 then
      (L_ip_Bytes N x0.Marker 1).bind fun v5 =>
      if (((v3 ++ v4).size + v5.size : Nat) : Int) ≤ 9223372036854775807 then
      (L_ip_Bytes N x0.Origin 1).bind fun v6 =>
      if ((((v3 ++ v4) ++ v5).size + v6.size : Nat) : Int) ≤ 9223372036854775807 then
      (L_ip_Bytes N (x0.Body.size : Int) 2).bind fun v7 =>
      if (((((v3 ++ v4) ++ v5) ++ v6).size + v7.size : Nat) : Int) ≤ 9223372036854775807 then
      (L_ip_Bytes N 0 2).bind fun v8 =>
      if ((((((v3 ++ v4) ++ v5) ++ v6) ++ v7).size + v8.size : Nat) : Int) ≤ 9223372036854775807 then
      if (((((((v3 ++ v4) ++ v5) ++ v6) ++ v7) ++ v8).size + x0.Body.size : Nat) : Int) ≤ 9223372036854775807 then
      via (((((((v3 ++ v4) ++ v5) ++ v6) ++ v7) ++ v8) ++ x0.Body) : ByteArray) fun v9 =>
      (L_ip_Bytes N 61440 2).bind fun v10 =>
      (L_ip_Bytes N 6080 2).bind fun v11 =>
      if ((v10.size + v11.size : Nat) : Int) ≤ 9223372036854775807 then
      via ((IntKind.i64.wrap ((8 : Int) + (v9.size : Int))) : Int) fun v12 =>
      (L_ip_Bytes N v12 2).bind fun v13 =>
      if (((v10 ++ v11).size + v13.size : Nat) : Int) ≤ 9223372036854775807 then
      (L_ip_Bytes N 0 2).bind fun v14 =>
      if ((((v10 ++ v11) ++ v13).size + v14.size : Nat) : Int) ≤ 9223372036854775807 then
      if (((((v10 ++ v11) ++ v13) ++ v14).size + v9.size : Nat) : Int) ≤ 9223372036854775807 then
      (L_ip_Put N (GIp.mk x0.Src x0.Dst 17 64 0 ((((v10 ++ v11) ++ v13) ++ v14) ++ v9))).bind fun v15 =>
      some (v15.1, v15.2)
      else none
      else none
      else none
      else none
      else none
      else none
      else none
      else none
      else none
      else none
def d_gue_Push (r : ByteArray × Int) : D := .tup [.str r.1, .int .i64 r.2]
theorem g_gue_Push_0 {c : Cx} (hc : Is c Try.prog ty 21 60) (N : Nat) {r : ByteArray × Int} (hfin : c.Fin [] (d_gue_Push r) []) (x0 : GOuter) (h : L_gue_Push N x0 = some r) : c.Goes (items (bodyOf Try.f21) [.c 1]) ⟨[(0, .agg [.int .i64 x0.Src, .int .i64 x0.Dst, .int .i64 x0.Tier, .int .i64 x0.Marker, .int .i64 x0.Origin, .str x0.Body])], []⟩ := by
  unfold L_gue_Push at h
  obtain ⟨v1, h0, h⟩ := bind_of h
  rcases brk h with ⟨h1, h⟩ | ⟨h1, h⟩
  · have h := Option.some.inj h
    refine hc.ret hfin (fn := Try.f21) (by kernel_rfl) (orc := [(1, [(1, { r := d_gue_May v1 }), (3, { cv := some (.bool true) })])]) (m := 9) (d := .tup [.str ByteArray.empty, .int .i64 600]) (by kernel_rfl) (.cons (c_gue_May N x0 h0) (.cons (Le.tt h1) .nil)) ?_ ?_
    · rw [← h]; exact Le.of rfl
    · rw [← h]; rfl
  · obtain ⟨v2, h2, h⟩ := via_some h
    rcases brk h with ⟨h3, h⟩ | ⟨h3, h⟩
    · have h := Option.some.inj h
      refine hc.ret hfin (fn := Try.f21) (by kernel_rfl) (orc := [(1, [(1, { r := d_gue_May v1 }), (3, { cv := some (.bool false) })]), (3, [(3, { cv := some (.int .i64 v2) }), (5, { cv := some (.bool true) })])]) (m := 12) (d := .tup [.str ByteArray.empty, .int .i64 601]) (by kernel_rfl) (.cons (c_gue_May N x0 h0) (.cons (Le.ff h1) (.cons (Le.int (k := .i64) h2) (.cons (Le.tt h3) .nil)))) ?_ ?_
      · rw [← h]; exact Le.of rfl
      · rw [← h]; rfl
    · obtain ⟨v3, h4, h⟩ := bind_of h
      obtain ⟨v4, h5, h⟩ := bind_of h
      obtain ⟨h6, h⟩ := chk h
      obtain ⟨v5, h7, h⟩ := bind_of h
      obtain ⟨h8, h⟩ := chk h
      obtain ⟨v6, h9, h⟩ := bind_of h
      obtain ⟨h10, h⟩ := chk h
      obtain ⟨v7, h11, h⟩ := bind_of h
      obtain ⟨h12, h⟩ := chk h
      obtain ⟨v8, h13, h⟩ := bind_of h
      obtain ⟨h14, h⟩ := chk h
      obtain ⟨h15, h⟩ := chk h
      obtain ⟨v9, h16, h⟩ := via_some h
      obtain ⟨v10, h17, h⟩ := bind_of h
      obtain ⟨v11, h18, h⟩ := bind_of h
      obtain ⟨h19, h⟩ := chk h
      obtain ⟨v12, h20, h⟩ := via_some h
      obtain ⟨v13, h21, h⟩ := bind_of h
      obtain ⟨h22, h⟩ := chk h
      obtain ⟨v14, h23, h⟩ := bind_of h
      obtain ⟨h24, h⟩ := chk h
      obtain ⟨h25, h⟩ := chk h
      obtain ⟨v15, h26, h⟩ := bind_of h
      have h := Option.some.inj h
      refine hc.ret hfin (fn := Try.f21) (by kernel_rfl) (orc := [(1, [(1, { r := d_gue_May v1 }), (3, { cv := some (.bool false) })]), (3, [(3, { cv := some (.int .i64 v2) }), (5, { cv := some (.bool false) })]), (5, [(0, { r := d_ip_Bytes v3 }), (3, { r := d_ip_Bytes v4 }), (7, { r := d_ip_Bytes v5 }), (11, { r := d_ip_Bytes v6 }), (16, { r := d_ip_Bytes v7 }), (18, { r := d_ip_Bytes v8 }), (22, { cv := some (.str v9) })]), (6, [(0, { r := d_ip_Bytes v10 }), (1, { r := d_ip_Bytes v11 }), (5, { cv := some (.int .i64 v12) }), (6, { r := d_ip_Bytes v13 }), (8, { r := d_ip_Bytes v14 })]), (7, [(8, { r := d_ip_Put v15 })])]) (m := 18) (d := .tup [.str v15.1, .int .i64 v15.2]) (by kernel_rfl) (.cons (c_gue_May N x0 h0) (.cons (Le.ff h1) (.cons (Le.int (k := .i64) h2) (.cons (Le.ff h3) (.cons (c_ip_Bytes N 0 1 h4) (.cons (c_ip_Bytes N x0.Tier 1 h5) (.cons (h6) (.cons (c_ip_Bytes N x0.Marker 1 h7) (.cons (h8) (.cons (c_ip_Bytes N x0.Origin 1 h9) (.cons (h10) (.cons (c_ip_Bytes N (x0.Body.size : Int) 2 h11) (.cons (h12) (.cons (c_ip_Bytes N 0 2 h13) (.cons (h14) (.cons (h15) (.cons (Le.str h16) (.cons (c_ip_Bytes N 61440 2 h17) (.cons (c_ip_Bytes N 6080 2 h18) (.cons (h19) (.cons (Le.int (k := .i64) h20) (.cons (c_ip_Bytes N v12 2 h21) (.cons (h22) (.cons (c_ip_Bytes N 0 2 h23) (.cons (h24) (.cons (h25) (.cons (c_ip_Put N (GIp.mk x0.Src x0.Dst 17 64 0 ((((v10 ++ v11) ++ v13) ++ v14) ++ v9)) h26) .nil))))))))))))))))))))))))))) ?_ ?_
      · rw [← h]; exact Le.of rfl
      · rw [← h]; rfl

theorem c_gue_Push (N : Nat) (x0 : GOuter) {r : ByteArray × Int} (h : L_gue_Push N x0 = some r) : Con Try.prog 21 [.agg [.int .i64 x0.Src, .int .i64 x0.Dst, .int .i64 x0.Tier, .int .i64 x0.Marker, .int .i64 x0.Origin, .str x0.Body]] [] (d_gue_Push r) [] :=
  con_intro ok mix (fn := Try.f21) (body := bodyOf Try.f21) (by kernel_rfl) (by kernel_rfl) (by kernel_rfl) rfl (Nat.le_of_ble_eq_true (by kernel_rfl)) fun c h1 h2 h3 h4 hfin => g_gue_Push_0 ⟨h1, h2, h3, h4⟩ N hfin x0 h
/-! ### wharfage/gue.Pop -/
def L_gue_Pop_1 (N : Nat) (b116_0 : Int) (b116_1 : Int) (b116_2 : Int) (b116_3 : Int) (b116_4 : Int) (b116_5 : ByteArray) (b140_0 : Int) (b140_1 : Int) (b140_2 : Int) (b140_3 : Int) (b140_4 : Int) (b140_5 : ByteArray) (t43 : Bool) : Option (GOuter × Int) :=
  bif t43 then
    some ((GOuter.mk 0 0 0 0 0 ByteArray.empty), 600)
  else
    some ((GOuter.mk b140_0 b140_1 b140_2 b140_3 b140_4 b140_5), 0)
def L_gue_Pop (N : Nat) (x0 : ByteArray) : Option (GOuter × Int) :=
  bif (decide ((x0.size : Int) < 36)) then
    some ((GOuter.mk 0 0 0 0 0 ByteArray.empty), 600)
  else
    if 0 ≤ (x0.size : Int) ∧ (x0.size : Int) ≤ (x0.size : Int) ∧ 0 ≤ (28 : Int) ∧ (28 : Int) ≤ (x0.size : Int) then
    if 0 ≤ (16 : Int) ∧ (16 : Int) ≤ (x0.size : Int) ∧ 0 ≤ (12 : Int) ∧ (12 : Int) ≤ (16 : Int) then
    (L_ip_Number N (x0.extract 12 16)).bind fun v1 =>
    if 0 ≤ (20 : Int) ∧ (20 : Int) ≤ (x0.size : Int) ∧ 0 ≤ (16 : Int) ∧ (16 : Int) ≤ (20 : Int) then
    (L_ip_Number N (x0.extract 16 20)).bind fun v2 =>
    if 0 ≤ (1 : Int) ∧ (1 : Int) < ((x0.extract 28 x0.size).size : Int) then
    via ((IntKind.i64.wrap (bt (x0.extract 28 x0.size) 1)) : Int) fun v3 =>
    if 0 ≤ (2 : Int) ∧ (2 : Int) < ((x0.extract 28 x0.size).size : Int) then
    via ((IntKind.i64.wrap (bt (x0.extract 28 x0.size) 2)) : Int) fun v4 =>
    if 0 ≤ (3 : Int) ∧ (3 : Int) < ((x0.extract 28 x0.size).size : Int) then
    via ((IntKind.i64.wrap (bt (x0.extract 28 x0.size) 3)) : Int) fun v5 =>
    if 0 ≤ ((x0.extract 28 x0.size).size : Int) ∧ ((x0.extract 28 x0.size).size : Int) ≤ ((x0.extract 28 x0.size).size : Int) ∧ 0 ≤ (8 : Int) ∧ (8 : Int) ≤ ((x0.extract 28 x0.size).size : Int) then
    via (((x0.extract 28 x0.size).extract 8 (x0.extract 28 x0.size).size) : ByteArray) fun v6 =>
    (L_gue_Push N (GOuter.mk v1 v2 v3 v4 v5 v6)).bind fun v7 =>
    bif (v7.2 != 0) then
      L_gue_Pop_1 N 0 0 0 0 0 ByteArray.empty v1 v2 v3 v4 v5 v6 true
    else
      L_gue_Pop_1 N 0 0 0 0 0 ByteArray.empty v1 v2 v3 v4 v5 v6 (!(v7.1.toList == x0.toList))
    else none
    else none
    else none
    else none
    else none
    else none
    else none
def d_gue_Pop (r : GOuter × Int) : D := .tup [.agg [.int .i64 r.1.Src, .int .i64 r.1.Dst, .int .i64 r.1.Tier, .int .i64 r.1.Marker, .int .i64 r.1.Origin, .str r.1.Body], .int .i64 r.2]
theorem g_gue_Pop_1 {c : Cx} (hc : Is c Try.prog ty 23 46) (N : Nat) {r : GOuter × Int} (hfin : c.Fin [] (d_gue_Pop r) []) (b116_0 : Int) (b116_1 : Int) (b116_2 : Int) (b116_3 : Int) (b116_4 : Int) (b116_5 : ByteArray) (b140_0 : Int) (b140_1 : Int) (b140_2 : Int) (b140_3 : Int) (b140_4 : Int) (b140_5 : ByteArray) (t43 : Bool) (h : L_gue_Pop_1 N b116_0 b116_1 b116_2 b116_3 b116_4 b116_5 b140_0 b140_1 b140_2 b140_3 b140_4 b140_5 t43 = some r) : c.Goes (items (bodyOf Try.f23) [.c 239, .c 63]) ⟨[(2, .ptr 116 0), (5, .ptr 140 0), (43, .bool t43)], [(116, some ⟨false, 0, [.int .i64 b116_0, .int .i64 b116_1, .int .i64 b116_2, .int .i64 b116_3, .int .i64 b116_4, .str b116_5]⟩), (140, some ⟨false, 0, [.int .i64 b140_0, .int .i64 b140_1, .int .i64 b140_2, .int .i64 b140_3, .int .i64 b140_4, .str b140_5]⟩)]⟩ := by
  unfold L_gue_Pop_1 at h
  rcases brk h with ⟨h0, k0⟩ | ⟨h0, k0⟩
  · subst h0
    replace h := k0
    have h := Option.some.inj h
    refine hc.ret hfin (fn := Try.f23) (by kernel_rfl) (orc := []) (m := 3) (d := .tup [.agg [.int .i64 0, .int .i64 0, .int .i64 0, .int .i64 0, .int .i64 0, .str ByteArray.empty], .int .i64 600]) (by kernel_rfl) .nil ?_ ?_
    · rw [← h]; exact Le.of rfl
    · rw [← h]; rfl
  · subst h0
    replace h := k0
    have h := Option.some.inj h
    refine hc.ret hfin (fn := Try.f23) (by kernel_rfl) (orc := []) (m := 4) (d := .tup [.agg [.int .i64 b140_0, .int .i64 b140_1, .int .i64 b140_2, .int .i64 b140_3, .int .i64 b140_4, .str b140_5], .int .i64 0]) (by kernel_rfl) .nil ?_ ?_
    · rw [← h]; exact Le.of rfl
    · rw [← h]; rfl

theorem g_gue_Pop_0 {c : Cx} (hc : Is c Try.prog ty 23 46) (N : Nat) {r : GOuter × Int} (hfin : c.Fin [] (d_gue_Pop r) []) (x0 : ByteArray) (h : L_gue_Pop N x0 = some r) : c.Goes (items (bodyOf Try.f23) [.c 1]) ⟨[(0, .str x0)], []⟩ := by
  unfold L_gue_Pop at h
  rcases brk h with ⟨h0, h⟩ | ⟨h0, h⟩
  · have h := Option.some.inj h
    refine hc.ret hfin (fn := Try.f23) (by kernel_rfl) (orc := [(1, [(2, { cv := some (.bool true) })])]) (m := 8) (d := .tup [.agg [.int .i64 0, .int .i64 0, .int .i64 0, .int .i64 0, .int .i64 0, .str ByteArray.empty], .int .i64 600]) (by kernel_rfl) (.cons (Le.tt h0) .nil) ?_ ?_
    · rw [← h]; exact Le.of rfl
    · rw [← h]; rfl
  · obtain ⟨h1, h⟩ := chk h
    obtain ⟨h2, h⟩ := chk h
    obtain ⟨v1, h3, h⟩ := bind_of h
    obtain ⟨h4, h⟩ := chk h
    obtain ⟨v2, h5, h⟩ := bind_of h
    obtain ⟨h6, h⟩ := chk h
    obtain ⟨v3, h7, h⟩ := via_some h
    obtain ⟨h8, h⟩ := chk h
    obtain ⟨v4, h9, h⟩ := via_some h
    obtain ⟨h10, h⟩ := chk h
    obtain ⟨v5, h11, h⟩ := via_some h
    obtain ⟨h12, h⟩ := chk h
    obtain ⟨v6, h13, h⟩ := via_some h
    obtain ⟨v7, h14, h⟩ := bind_of h
    rcases brk h with ⟨h15, h⟩ | ⟨h15, h⟩
    · exact hc.jump (orc := [(1, [(2, { cv := some (.bool false) })]), (4, [(2, { r := d_ip_Number v1 }), (5, { r := d_ip_Number v2 }), (8, { cv := some (.int .i64 v3) }), (11, { cv := some (.int .i64 v4) }), (14, { cv := some (.int .i64 v5) }), (16, { cv := some (.str v6) })]), (5, [(1, { r := d_gue_Push v7 })]), (6, [(2, { cv := some (.bool true) })])]) (m := 16) (kt := [2, 5, 43]) (kh := [(116, 116), (140, 140)]) (by kernel_rfl) (.cons (Le.ff h0) (.cons (h1) (.cons (h2) (.cons (c_ip_Number N (x0.extract 12 16) h3) (.cons (h4) (.cons (c_ip_Number N (x0.extract 16 20) h5) (.cons (h6) (.cons (Le.int (k := .i64) h7) (.cons (h8) (.cons (Le.int (k := .i64) h9) (.cons (h10) (.cons (Le.int (k := .i64) h11) (.cons (h12) (.cons (Le.str h13) (.cons (c_gue_Push N (GOuter.mk v1 v2 v3 v4 v5 v6) h14) (.cons (Le.tt h15) .nil)))))))))))))))) (g_gue_Pop_1 hc N hfin 0 0 0 0 0 ByteArray.empty v1 v2 v3 v4 v5 v6 true h)
    · exact hc.jump (orc := [(1, [(2, { cv := some (.bool false) })]), (4, [(2, { r := d_ip_Number v1 }), (5, { r := d_ip_Number v2 }), (8, { cv := some (.int .i64 v3) }), (11, { cv := some (.int .i64 v4) }), (14, { cv := some (.int .i64 v5) }), (16, { cv := some (.str v6) })]), (5, [(1, { r := d_gue_Push v7 })]), (6, [(2, { cv := some (.bool false) })])]) (m := 16) (kt := [2, 5, 43]) (kh := [(116, 116), (140, 140)]) (by kernel_rfl) (.cons (Le.ff h0) (.cons (h1) (.cons (h2) (.cons (c_ip_Number N (x0.extract 12 16) h3) (.cons (h4) (.cons (c_ip_Number N (x0.extract 16 20) h5) (.cons (h6) (.cons (Le.int (k := .i64) h7) (.cons (h8) (.cons (Le.int (k := .i64) h9) (.cons (h10) (.cons (Le.int (k := .i64) h11) (.cons (h12) (.cons (Le.str h13) (.cons (c_gue_Push N (GOuter.mk v1 v2 v3 v4 v5 v6) h14) (.cons (Le.ff h15) .nil)))))))))))))))) (g_gue_Pop_1 hc N hfin 0 0 0 0 0 ByteArray.empty v1 v2 v3 v4 v5 v6 (!(v7.1.toList == x0.toList)) h)

theorem c_gue_Pop (N : Nat) (x0 : ByteArray) {r : GOuter × Int} (h : L_gue_Pop N x0 = some r) : Con Try.prog 23 [.str x0] [] (d_gue_Pop r) [] :=
  con_intro ok mix (fn := Try.f23) (body := bodyOf Try.f23) (by kernel_rfl) (by kernel_rfl) (by kernel_rfl) rfl (Nat.le_of_ble_eq_true (by kernel_rfl)) fun c h1 h2 h3 h4 hfin => g_gue_Pop_0 ⟨h1, h2, h3, h4⟩ N hfin x0 h
/-! ### (wharfage/event.Teller).Tell -/
def L_event_Teller_Tell (N : Nat) (x0 : Gevent_Teller) (x1 : Int) (x2 : Int) (x3 : GFlow) : Option (GEvent) :=
  some (GEvent.mk x1 x0.Role x0.Site x0.Node x2 x3)
def d_event_Teller_Tell (r : GEvent) : D := .agg [.int .i64 r.Kind, .int .i64 r.Role, .int .i64 r.Site, .int .i64 r.Node, .int .i64 r.To, .int .i64 r.Flow.Src, .int .i64 r.Flow.Dst, .int .i64 r.Flow.Proto, .int .i64 r.Flow.Sport, .int .i64 r.Flow.Dport]
theorem g_event_Teller_Tell_0 {c : Cx} (hc : Is c Try.prog ty 73 19) (N : Nat) {r : GEvent} (hfin : c.Fin [] (d_event_Teller_Tell r) []) (x0 : Gevent_Teller) (x1 : Int) (x2 : Int) (x3 : GFlow) (h : L_event_Teller_Tell N x0 x1 x2 x3 = some r) : c.Goes (items (bodyOf Try.f73) [.c 1]) ⟨[(0, .agg [.int .i64 x0.Role, .int .i64 x0.Site, .int .i64 x0.Node]), (1, .int .i64 x1), (2, .int .i64 x2), (3, .agg [.int .i64 x3.Src, .int .i64 x3.Dst, .int .i64 x3.Proto, .int .i64 x3.Sport, .int .i64 x3.Dport])], []⟩ := by
  unfold L_event_Teller_Tell at h
  have h := Option.some.inj h
  refine hc.ret hfin (fn := Try.f73) (by kernel_rfl) (orc := []) (m := 4) (d := .agg [.int .i64 x1, .int .i64 x0.Role, .int .i64 x0.Site, .int .i64 x0.Node, .int .i64 x2, .int .i64 x3.Src, .int .i64 x3.Dst, .int .i64 x3.Proto, .int .i64 x3.Sport, .int .i64 x3.Dport]) (by kernel_rfl) .nil ?_ ?_
  · rw [← h]; exact Le.of rfl
  · rw [← h]; rfl

theorem c_event_Teller_Tell (N : Nat) (x0 : Gevent_Teller) (x1 : Int) (x2 : Int) (x3 : GFlow) {r : GEvent} (h : L_event_Teller_Tell N x0 x1 x2 x3 = some r) : Con Try.prog 73 [.agg [.int .i64 x0.Role, .int .i64 x0.Site, .int .i64 x0.Node], .int .i64 x1, .int .i64 x2, .agg [.int .i64 x3.Src, .int .i64 x3.Dst, .int .i64 x3.Proto, .int .i64 x3.Sport, .int .i64 x3.Dport]] [] (d_event_Teller_Tell r) [] :=
  con_intro ok mix (fn := Try.f73) (body := bodyOf Try.f73) (by kernel_rfl) (by kernel_rfl) (by kernel_rfl) rfl (Nat.le_of_ble_eq_true (by kernel_rfl)) fun c h1 h2 h3 h4 hfin => g_event_Teller_Tell_0 ⟨h1, h2, h3, h4⟩ N hfin x0 x1 x2 x3 h
/-! ### (wharfage/event.Teller).Alone -/
def L_event_Teller_Alone (N : Nat) (x0 : Gevent_Teller) (x1 : Int) (x2 : GFlow) : Option (GOut) :=
  (L_event_Teller_Tell N x0 x1 0 x2).bind fun v1 =>
  some (GOut.mk ([]) ([v1]))
def d_event_Teller_Alone (r : GOut) : D := .agg [.sl true (eL eStr r.Sent) r.Sent.length r.Sent.length, .sl true (eL eEvent r.Events) r.Events.length r.Events.length]
theorem g_event_Teller_Alone_0 {c : Cx} (hc : Is c Try.prog ty 71 13) (N : Nat) {r : GOut} (hfin : c.Fin [] (d_event_Teller_Alone r) []) (x0 : Gevent_Teller) (x1 : Int) (x2 : GFlow) (h : L_event_Teller_Alone N x0 x1 x2 = some r) : c.Goes (items (bodyOf Try.f71) [.c 1]) ⟨[(0, .agg [.int .i64 x0.Role, .int .i64 x0.Site, .int .i64 x0.Node]), (1, .int .i64 x1), (2, .agg [.int .i64 x2.Src, .int .i64 x2.Dst, .int .i64 x2.Proto, .int .i64 x2.Sport, .int .i64 x2.Dport])], []⟩ := by
  unfold L_event_Teller_Alone at h
  obtain ⟨v1, h0, h⟩ := bind_of h
  have h := Option.some.inj h
  refine hc.ret hfin (fn := Try.f71) (by kernel_rfl) (orc := [(1, [(3, { r := d_event_Teller_Tell v1 }), (5, { frz := true })])]) (m := 4) (d := .agg [.nils, .sl true (eL eEvent ([v1])) 1 1]) (by kernel_rfl) (.cons (c_event_Teller_Tell N x0 x1 0 x2 h0) .nil) ?_ ?_
  · rw [← h]; exact Le.agg ((.cons (Le.nils) (.cons (Le.of rfl) .nil)))
  · rw [← h]; rfl

theorem c_event_Teller_Alone (N : Nat) (x0 : Gevent_Teller) (x1 : Int) (x2 : GFlow) {r : GOut} (h : L_event_Teller_Alone N x0 x1 x2 = some r) : Con Try.prog 71 [.agg [.int .i64 x0.Role, .int .i64 x0.Site, .int .i64 x0.Node], .int .i64 x1, .agg [.int .i64 x2.Src, .int .i64 x2.Dst, .int .i64 x2.Proto, .int .i64 x2.Sport, .int .i64 x2.Dport]] [] (d_event_Teller_Alone r) [] :=
  con_intro ok mix (fn := Try.f71) (body := bodyOf Try.f71) (by kernel_rfl) (by kernel_rfl) (by kernel_rfl) rfl (Nat.le_of_ble_eq_true (by kernel_rfl)) fun c h1 h2 h3 h4 hfin => g_event_Teller_Alone_0 ⟨h1, h2, h3, h4⟩ N hfin x0 x1 x2 h
/-! ### wharfage/ip.words -/
def L_ip_words_3 (N : Nat) (t2 : Int) (t3 : Bool) : Option (Int × Bool) :=
  some (t2, t3)
def L_ip_words_2 (N : Nat) (t0 : ByteArray) (t4 : Int) (t31 : Bool) : Option (Int × Bool) :=
  bif t31 then
    some (0, false)
  else
    if 0 ≤ (4 : Int) ∧ (4 : Int) ≤ (t0.size : Int) ∧ 0 ≤ (2 : Int) ∧ (2 : Int) ≤ (4 : Int) then
    (L_ip_Number N (t0.extract 2 4)).bind fun v1 =>
    bif (v1 == (t0.size : Int)) then
      if 0 ≤ (IntKind.i64.wrap ((4 : Int) * t4)) ∧ (IntKind.i64.wrap ((4 : Int) * t4)) ≤ (t0.size : Int) ∧ 0 ≤ (0 : Int) ∧ (0 : Int) ≤ (IntKind.i64.wrap ((4 : Int) * t4)) then
      via ((t0.extract 0 (IntKind.i64.wrap ((4 : Int) * t4)).toNat) : ByteArray) fun v2 =>
      (L_sum_Sum N v2).bind fun v3 =>
      L_ip_words_3 N t4 (v3 == 65535)
      else none
    else
      L_ip_words_3 N t4 false
    else none
def L_ip_words_1 (N : Nat) (t0 : ByteArray) (t12 : Bool) : Option (Int × Bool) :=
  bif t12 then
    some (0, false)
  else
    if 0 ≤ (0 : Int) ∧ (0 : Int) < (t0.size : Int) then
    if 0 ≤ (0 : Int) ∧ (0 : Int) < (t0.size : Int) then
    bif (((bt t0 0).fdiv (2 ^ 4)) != 4) then
      L_ip_words_2 N t0 (IntKind.i64.wrap (bAnd .u8 (bt t0 0) 15)) true
    else
      bif (decide ((IntKind.i64.wrap (bAnd .u8 (bt t0 0) 15)) < 5)) then
        L_ip_words_2 N t0 (IntKind.i64.wrap (bAnd .u8 (bt t0 0) 15)) true
      else
        via ((IntKind.i64.wrap ((4 : Int) * (IntKind.i64.wrap (bAnd .u8 (bt t0 0) 15)))) : Int) fun v1 =>
        L_ip_words_2 N t0 (IntKind.i64.wrap (bAnd .u8 (bt t0 0) 15)) (decide (v1 > (t0.size : Int)))
    else none
    else none
def L_ip_words (N : Nat) (x0 : ByteArray) : Option (Int × Bool) :=
  bif (decide ((x0.size : Int) < 20)) then
    L_ip_words_1 N x0 true
  else
    L_ip_words_1 N x0 (decide ((x0.size : Int) > 512))
def d_ip_words (r : Int × Bool) : D := .tup [.int .i64 r.1, .bool r.2]
theorem g_ip_words_3 {c : Cx} (hc : Is c Try.prog ty 86 47) (N : Nat) {r : Int × Bool} (hfin : c.Fin [] (d_ip_words r) []) (t2 : Int) (t3 : Bool) (h : L_ip_words_3 N t2 t3 = some r) : c.Goes (items (bodyOf Try.f86) [.c 63]) ⟨[(2, .int .i64 t2), (3, .bool t3)], []⟩ := by
  unfold L_ip_words_3 at h
  have h := Option.some.inj h
  refine hc.ret hfin (fn := Try.f86) (by kernel_rfl) (orc := []) (m := 0) (d := .tup [.int .i64 t2, .bool t3]) (by kernel_rfl) .nil ?_ ?_
  · rw [← h]; exact Le.of rfl
  · rw [← h]; rfl

theorem g_ip_words_2 {c : Cx} (hc : Is c Try.prog ty 86 47) (N : Nat) {r : Int × Bool} (hfin : c.Fin [] (d_ip_words r) []) (t0 : ByteArray) (t4 : Int) (t31 : Bool) (h : L_ip_words_2 N t0 t4 t31 = some r) : c.Goes (items (bodyOf Try.f86) [.c 55, .c 31]) ⟨[(0, .str t0), (4, .int .i64 t4), (31, .bool t31)], []⟩ := by
  unfold L_ip_words_2 at h
  rcases brk h with ⟨h0, k0⟩ | ⟨h0, k0⟩
  · subst h0
    replace h := k0
    have h := Option.some.inj h
    refine hc.ret hfin (fn := Try.f86) (by kernel_rfl) (orc := []) (m := 3) (d := .tup [.int .i64 0, .bool false]) (by kernel_rfl) .nil ?_ ?_
    · rw [← h]; exact Le.of rfl
    · rw [← h]; rfl
  · subst h0
    replace h := k0
    obtain ⟨h1, h⟩ := chk h
    obtain ⟨v1, h2, h⟩ := bind_of h
    rcases brk h with ⟨h3, h⟩ | ⟨h3, h⟩
    · obtain ⟨h4, h⟩ := chk h
      obtain ⟨v2, h5, h⟩ := via_some h
      obtain ⟨v3, h6, h⟩ := bind_of h
      exact hc.jump (orc := [(6, [(3, { r := d_ip_Number v1 }), (7, { cv := some (.bool true) }), (11, { cv := some (.str v2) }), (12, { r := d_sum_Sum v3 })])]) (m := 4) (kt := [2, 3]) (kh := []) (by kernel_rfl) (.cons (h1) (.cons (c_ip_Number N (t0.extract 2 4) h2) (.cons (Le.tt h3) (.cons (h4) (.cons (Le.str h5) (.cons (c_sum_Sum N v2 h6) .nil)))))) (g_ip_words_3 hc N hfin t4 (v3 == 65535) h)
    · exact hc.jump (orc := [(6, [(3, { r := d_ip_Number v1 }), (7, { cv := some (.bool false) })])]) (m := 4) (kt := [2, 3]) (kh := []) (by kernel_rfl) (.cons (h1) (.cons (c_ip_Number N (t0.extract 2 4) h2) (.cons (Le.ff h3) .nil))) (g_ip_words_3 hc N hfin t4 false h)

theorem g_ip_words_1 {c : Cx} (hc : Is c Try.prog ty 86 47) (N : Nat) {r : Int × Bool} (hfin : c.Fin [] (d_ip_words r) []) (t0 : ByteArray) (t12 : Bool) (h : L_ip_words_1 N t0 t12 = some r) : c.Goes (items (bodyOf Try.f86) [.c 13, .c 7]) ⟨[(0, .str t0), (12, .bool t12)], []⟩ := by
  unfold L_ip_words_1 at h
  rcases brk h with ⟨h0, k0⟩ | ⟨h0, k0⟩
  · subst h0
    replace h := k0
    have h := Option.some.inj h
    refine hc.ret hfin (fn := Try.f86) (by kernel_rfl) (orc := []) (m := 3) (d := .tup [.int .i64 0, .bool false]) (by kernel_rfl) .nil ?_ ?_
    · rw [← h]; exact Le.of rfl
    · rw [← h]; rfl
  · subst h0
    replace h := k0
    obtain ⟨h1, h⟩ := chk h
    obtain ⟨h2, h⟩ := chk h
    rcases brk h with ⟨h3, h⟩ | ⟨h3, h⟩
    · exact hc.jump (orc := [(4, [(4, { cv := some (.bool true) })])]) (m := 7) (kt := [0, 4, 31]) (kh := []) (by kernel_rfl) (.cons (h1) (.cons (h2) (.cons ((by decide : (0:Int) ≤ 4)) (.cons (Le.tt h3) .nil)))) (g_ip_words_2 hc N hfin t0 (IntKind.i64.wrap (bAnd .u8 (bt t0 0) 15)) true h)
    · rcases brk h with ⟨h4, h⟩ | ⟨h4, h⟩
      · exact hc.jump (orc := [(4, [(4, { cv := some (.bool false) }), (8, { cv := some (.bool true) })])]) (m := 7) (kt := [0, 4, 31]) (kh := []) (by kernel_rfl) (.cons (h1) (.cons (h2) (.cons ((by decide : (0:Int) ≤ 4)) (.cons (Le.ff h3) (.cons (Le.tt h4) .nil))))) (g_ip_words_2 hc N hfin t0 (IntKind.i64.wrap (bAnd .u8 (bt t0 0) 15)) true h)
      · obtain ⟨v1, h5, h⟩ := via_some h
        exact hc.jump (orc := [(4, [(4, { cv := some (.bool false) }), (8, { cv := some (.bool false) }), (10, { cv := some (.int .i64 v1) })])]) (m := 7) (kt := [0, 4, 31]) (kh := []) (by kernel_rfl) (.cons (h1) (.cons (h2) (.cons ((by decide : (0:Int) ≤ 4)) (.cons (Le.ff h3) (.cons (Le.ff h4) (.cons (Le.int (k := .i64) h5) .nil)))))) (g_ip_words_2 hc N hfin t0 (IntKind.i64.wrap (bAnd .u8 (bt t0 0) 15)) (decide (v1 > (t0.size : Int))) h)

theorem g_ip_words_0 {c : Cx} (hc : Is c Try.prog ty 86 47) (N : Nat) {r : Int × Bool} (hfin : c.Fin [] (d_ip_words r) []) (x0 : ByteArray) (h : L_ip_words N x0 = some r) : c.Goes (items (bodyOf Try.f86) [.c 1]) ⟨[(0, .str x0)], []⟩ := by
  unfold L_ip_words at h
  rcases brk h with ⟨h0, h⟩ | ⟨h0, h⟩
  · exact hc.jump (orc := [(1, [(3, { cv := some (.bool true) })])]) (m := 5) (kt := [0, 12]) (kh := []) (by kernel_rfl) (.cons (Le.tt h0) .nil) (g_ip_words_1 hc N hfin x0 true h)
  · exact hc.jump (orc := [(1, [(3, { cv := some (.bool false) })])]) (m := 5) (kt := [0, 12]) (kh := []) (by kernel_rfl) (.cons (Le.ff h0) .nil) (g_ip_words_1 hc N hfin x0 (decide ((x0.size : Int) > 512)) h)

theorem c_ip_words (N : Nat) (x0 : ByteArray) {r : Int × Bool} (h : L_ip_words N x0 = some r) : Con Try.prog 86 [.str x0] [] (d_ip_words r) [] :=
  con_intro ok mix (fn := Try.f86) (body := bodyOf Try.f86) (by kernel_rfl) (by kernel_rfl) (by kernel_rfl) rfl (Nat.le_of_ble_eq_true (by kernel_rfl)) fun c h1 h2 h3 h4 hfin => g_ip_words_0 ⟨h1, h2, h3, h4⟩ N hfin x0 h
/-! ### wharfage/ip.Get -/
def L_ip_Get (N : Nat) (x0 : ByteArray) : Option (GIp × Int × Int) :=
  (L_ip_words N x0).bind fun v1 =>
  bif (!v1.2) then
    some ((GIp.mk 0 0 0 0 0 ByteArray.empty), 1, 200)
  else
    bif (decide (v1.1 > 5)) then
      some ((GIp.mk 0 0 0 0 0 ByteArray.empty), 3, 0)
    else
      if 0 ≤ (8 : Int) ∧ (8 : Int) ≤ (x0.size : Int) ∧ 0 ≤ (6 : Int) ∧ (6 : Int) ≤ (8 : Int) then
      (L_ip_Number N (x0.extract 6 8)).bind fun v2 =>
      bif ((bAndNot .i64 v2 16384) != 0) then
        some ((GIp.mk 0 0 0 0 0 ByteArray.empty), 2, 0)
      else
        if 0 ≤ (16 : Int) ∧ (16 : Int) ≤ (x0.size : Int) ∧ 0 ≤ (12 : Int) ∧ (12 : Int) ≤ (16 : Int) then
        (L_ip_Number N (x0.extract 12 16)).bind fun v3 =>
        if 0 ≤ (20 : Int) ∧ (20 : Int) ≤ (x0.size : Int) ∧ 0 ≤ (16 : Int) ∧ (16 : Int) ≤ (20 : Int) then
        (L_ip_Number N (x0.extract 16 20)).bind fun v4 =>
        if 0 ≤ (9 : Int) ∧ (9 : Int) < (x0.size : Int) then
        if 0 ≤ (8 : Int) ∧ (8 : Int) < (x0.size : Int) then
        if 0 ≤ (6 : Int) ∧ (6 : Int) ≤ (x0.size : Int) ∧ 0 ≤ (4 : Int) ∧ (4 : Int) ≤ (6 : Int) then
        (L_ip_Number N (x0.extract 4 6)).bind fun v5 =>
        if 0 ≤ (x0.size : Int) ∧ (x0.size : Int) ≤ (x0.size : Int) ∧ 0 ≤ (20 : Int) ∧ (20 : Int) ≤ (x0.size : Int) then
        some ((GIp.mk v3 v4 (IntKind.i64.wrap (bt x0 9)) (IntKind.i64.wrap (bt x0 8)) v5 (x0.extract 20 x0.size)), 0, 0)
        else none
        else none
        else none
        else none
        else none
        else none
      else none
def d_ip_Get (r : GIp × Int × Int) : D := .tup [.agg [.int .i64 r.1.Src, .int .i64 r.1.Dst, .int .i64 r.1.Proto, .int .i64 r.1.Ttl, .int .i64 r.1.Id, .str r.1.Body], .int .i64 r.2.1, .int .i64 r.2.2]
theorem g_ip_Get_0 {c : Cx} (hc : Is c Try.prog ty 66 45) (N : Nat) {r : GIp × Int × Int} (hfin : c.Fin [] (d_ip_Get r) []) (x0 : ByteArray) (h : L_ip_Get N x0 = some r) : c.Goes (items (bodyOf Try.f66) [.c 1]) ⟨[(0, .str x0)], []⟩ := by
  unfold L_ip_Get at h
  obtain ⟨v1, h0, h⟩ := bind_of h
  rcases brk h with ⟨h1, h⟩ | ⟨h1, h⟩
  · have h := Option.some.inj h
    refine hc.ret hfin (fn := Try.f66) (by kernel_rfl) (orc := [(1, [(1, { r := d_ip_words v1 })]), (2, [(2, { cv := some (.bool true) })])]) (m := 11) (d := .tup [.agg [.int .i64 0, .int .i64 0, .int .i64 0, .int .i64 0, .int .i64 0, .str ByteArray.empty], .int .i64 1, .int .i64 200]) (by kernel_rfl) (.cons (c_ip_words N x0 h0) (.cons (Le.tt h1) .nil)) ?_ ?_
    · rw [← h]; exact Le.of rfl
    · rw [← h]; rfl
  · rcases brk h with ⟨h2, h⟩ | ⟨h2, h⟩
    · have h := Option.some.inj h
      refine hc.ret hfin (fn := Try.f66) (by kernel_rfl) (orc := [(1, [(1, { r := d_ip_words v1 })]), (2, [(2, { cv := some (.bool false) })]), (4, [(2, { cv := some (.bool true) })])]) (m := 14) (d := .tup [.agg [.int .i64 0, .int .i64 0, .int .i64 0, .int .i64 0, .int .i64 0, .str ByteArray.empty], .int .i64 3, .int .i64 0]) (by kernel_rfl) (.cons (c_ip_words N x0 h0) (.cons (Le.ff h1) (.cons (Le.tt h2) .nil))) ?_ ?_
      · rw [← h]; exact Le.of rfl
      · rw [← h]; rfl
    · obtain ⟨h3, h⟩ := chk h
      obtain ⟨v2, h4, h⟩ := bind_of h
      rcases brk h with ⟨h5, h⟩ | ⟨h5, h⟩
      · have h := Option.some.inj h
        refine hc.ret hfin (fn := Try.f66) (by kernel_rfl) (orc := [(1, [(1, { r := d_ip_words v1 })]), (2, [(2, { cv := some (.bool false) })]), (4, [(2, { cv := some (.bool false) })]), (6, [(2, { r := d_ip_Number v2 }), (5, { cv := some (.bool true) })])]) (m := 17) (d := .tup [.agg [.int .i64 0, .int .i64 0, .int .i64 0, .int .i64 0, .int .i64 0, .str ByteArray.empty], .int .i64 2, .int .i64 0]) (by kernel_rfl) (.cons (c_ip_words N x0 h0) (.cons (Le.ff h1) (.cons (Le.ff h2) (.cons (h3) (.cons (c_ip_Number N (x0.extract 6 8) h4) (.cons (Le.tt h5) .nil)))))) ?_ ?_
        · rw [← h]; exact Le.of rfl
        · rw [← h]; rfl
      · obtain ⟨h6, h⟩ := chk h
        obtain ⟨v3, h7, h⟩ := bind_of h
        obtain ⟨h8, h⟩ := chk h
        obtain ⟨v4, h9, h⟩ := bind_of h
        obtain ⟨h10, h⟩ := chk h
        obtain ⟨h11, h⟩ := chk h
        obtain ⟨h12, h⟩ := chk h
        obtain ⟨v5, h13, h⟩ := bind_of h
        obtain ⟨h14, h⟩ := chk h
        have h := Option.some.inj h
        refine hc.ret hfin (fn := Try.f66) (by kernel_rfl) (orc := [(1, [(1, { r := d_ip_words v1 })]), (2, [(2, { cv := some (.bool false) })]), (4, [(2, { cv := some (.bool false) })]), (6, [(2, { r := d_ip_Number v2 }), (5, { cv := some (.bool false) })]), (8, [(2, { r := d_ip_Number v3 }), (5, { r := d_ip_Number v4 }), (14, { r := d_ip_Number v5 })])]) (m := 19) (d := .tup [.agg [.int .i64 v3, .int .i64 v4, .int .i64 (IntKind.i64.wrap (bt x0 9)), .int .i64 (IntKind.i64.wrap (bt x0 8)), .int .i64 v5, .str (x0.extract 20 x0.size)], .int .i64 0, .int .i64 0]) (by kernel_rfl) (.cons (c_ip_words N x0 h0) (.cons (Le.ff h1) (.cons (Le.ff h2) (.cons (h3) (.cons (c_ip_Number N (x0.extract 6 8) h4) (.cons (Le.ff h5) (.cons (h6) (.cons (c_ip_Number N (x0.extract 12 16) h7) (.cons (h8) (.cons (c_ip_Number N (x0.extract 16 20) h9) (.cons (h10) (.cons (h11) (.cons (h12) (.cons (c_ip_Number N (x0.extract 4 6) h13) (.cons (h14) .nil))))))))))))))) ?_ ?_
        · rw [← h]; exact Le.of rfl
        · rw [← h]; rfl

theorem c_ip_Get (N : Nat) (x0 : ByteArray) {r : GIp × Int × Int} (h : L_ip_Get N x0 = some r) : Con Try.prog 66 [.str x0] [] (d_ip_Get r) [] :=
  con_intro ok mix (fn := Try.f66) (body := bodyOf Try.f66) (by kernel_rfl) (by kernel_rfl) (by kernel_rfl) rfl (Nat.le_of_ble_eq_true (by kernel_rfl)) fun c h1 h2 h3 h4 hfin => g_ip_Get_0 ⟨h1, h2, h3, h4⟩ N hfin x0 h
/-! ### wharfage/flow.handled -/
def L_flow_handled_1 (N : Nat) (t2 : Bool) : Option (Bool) :=
  some t2
def L_flow_handled (N : Nat) (x0 : Int) : Option (Bool) :=
  bif (x0 == 6) then
    L_flow_handled_1 N true
  else
    L_flow_handled_1 N (x0 == 17)
def d_flow_handled (r : Bool) : D := .bool r
theorem g_flow_handled_1 {c : Cx} (hc : Is c Try.prog ty 67 9) (N : Nat) {r : Bool} (hfin : c.Fin [] (d_flow_handled r) []) (t2 : Bool) (h : L_flow_handled_1 N t2 = some r) : c.Goes (items (bodyOf Try.f67) [.c 7]) ⟨[(2, .bool t2)], []⟩ := by
  unfold L_flow_handled_1 at h
  have h := Option.some.inj h
  refine hc.ret hfin (fn := Try.f67) (by kernel_rfl) (orc := []) (m := 0) (d := .bool t2) (by kernel_rfl) .nil ?_ ?_
  · rw [← h]; exact Le.of rfl
  · rw [← h]; rfl

theorem g_flow_handled_0 {c : Cx} (hc : Is c Try.prog ty 67 9) (N : Nat) {r : Bool} (hfin : c.Fin [] (d_flow_handled r) []) (x0 : Int) (h : L_flow_handled N x0 = some r) : c.Goes (items (bodyOf Try.f67) [.c 1]) ⟨[(0, .int .i64 x0)], []⟩ := by
  unfold L_flow_handled at h
  rcases brk h with ⟨h0, h⟩ | ⟨h0, h⟩
  · exact hc.jump (orc := [(1, [(2, { cv := some (.bool true) })])]) (m := 4) (kt := [2]) (kh := []) (by kernel_rfl) (.cons (Le.tt h0) .nil) (g_flow_handled_1 hc N hfin true h)
  · exact hc.jump (orc := [(1, [(2, { cv := some (.bool false) })])]) (m := 4) (kt := [2]) (kh := []) (by kernel_rfl) (.cons (Le.ff h0) .nil) (g_flow_handled_1 hc N hfin (x0 == 17) h)

theorem c_flow_handled (N : Nat) (x0 : Int) {r : Bool} (h : L_flow_handled N x0 = some r) : Con Try.prog 67 [.int .i64 x0] [] (d_flow_handled r) [] :=
  con_intro ok mix (fn := Try.f67) (body := bodyOf Try.f67) (by kernel_rfl) (by kernel_rfl) (by kernel_rfl) rfl (Nat.le_of_ble_eq_true (by kernel_rfl)) fun c h1 h2 h3 h4 hfin => g_flow_handled_0 ⟨h1, h2, h3, h4⟩ N hfin x0 h
/-! ### wharfage/seg.tcp -/
def L_seg_tcp_1 (N : Nat) (t0 : ByteArray) (b116_0 : Int) (b116_1 : Int) (b116_2 : Int) (b116_3 : Int) (b116_4 : Int) (b116_5 : Int) (b116_6 : ByteArray) (t11 : Bool) : Option (GSeg × Bool) :=
  bif t11 then
    some ((GSeg.mk 0 0 0 0 0 0 ByteArray.empty), false)
  else
    if 0 ≤ (2 : Int) ∧ (2 : Int) ≤ (t0.size : Int) ∧ 0 ≤ (0 : Int) ∧ (0 : Int) ≤ (2 : Int) then
    (L_ip_Number N (t0.extract 0 2)).bind fun v1 =>
    if 0 ≤ (4 : Int) ∧ (4 : Int) ≤ (t0.size : Int) ∧ 0 ≤ (2 : Int) ∧ (2 : Int) ≤ (4 : Int) then
    (L_ip_Number N (t0.extract 2 4)).bind fun v2 =>
    if 0 ≤ (8 : Int) ∧ (8 : Int) ≤ (t0.size : Int) ∧ 0 ≤ (4 : Int) ∧ (4 : Int) ≤ (8 : Int) then
    (L_ip_Number N (t0.extract 4 8)).bind fun v3 =>
    if 0 ≤ (12 : Int) ∧ (12 : Int) ≤ (t0.size : Int) ∧ 0 ≤ (8 : Int) ∧ (8 : Int) ≤ (12 : Int) then
    (L_ip_Number N (t0.extract 8 12)).bind fun v4 =>
    if 0 ≤ (13 : Int) ∧ (13 : Int) < (t0.size : Int) then
    if 0 ≤ (t0.size : Int) ∧ (t0.size : Int) ≤ (t0.size : Int) ∧ 0 ≤ (20 : Int) ∧ (20 : Int) ≤ (t0.size : Int) then
    some ((GSeg.mk 6 v1 v2 v3 v4 (IntKind.i64.wrap (bt t0 13)) (t0.extract 20 t0.size)), true)
    else none
    else none
    else none
    else none
    else none
    else none
def L_seg_tcp (N : Nat) (x0 : ByteArray) : Option (GSeg × Bool) :=
  bif (decide ((x0.size : Int) < 20)) then
    L_seg_tcp_1 N x0 0 0 0 0 0 0 ByteArray.empty true
  else
    if 0 ≤ (12 : Int) ∧ (12 : Int) < (x0.size : Int) then
    L_seg_tcp_1 N x0 0 0 0 0 0 0 ByteArray.empty ((bt x0 12) != 80)
    else none
def d_seg_tcp (r : GSeg × Bool) : D := .tup [.agg [.int .i64 r.1.Proto, .int .i64 r.1.Sport, .int .i64 r.1.Dport, .int .i64 r.1.Seq, .int .i64 r.1.Ack, .int .i64 r.1.Flags, .str r.1.Body], .bool r.2]
theorem g_seg_tcp_1 {c : Cx} (hc : Is c Try.prog ty 63 31) (N : Nat) {r : GSeg × Bool} (hfin : c.Fin [] (d_seg_tcp r) []) (t0 : ByteArray) (b116_0 : Int) (b116_1 : Int) (b116_2 : Int) (b116_3 : Int) (b116_4 : Int) (b116_5 : Int) (b116_6 : ByteArray) (t11 : Bool) (h : L_seg_tcp_1 N t0 b116_0 b116_1 b116_2 b116_3 b116_4 b116_5 b116_6 t11 = some r) : c.Goes (items (bodyOf Try.f63) [.c 13, .c 7]) ⟨[(0, .str t0), (2, .ptr 116 0), (11, .bool t11)], [(116, some ⟨false, 0, [.int .i64 b116_0, .int .i64 b116_1, .int .i64 b116_2, .int .i64 b116_3, .int .i64 b116_4, .int .i64 b116_5, .str b116_6]⟩)]⟩ := by
  unfold L_seg_tcp_1 at h
  rcases brk h with ⟨h0, k0⟩ | ⟨h0, k0⟩
  · subst h0
    replace h := k0
    have h := Option.some.inj h
    refine hc.ret hfin (fn := Try.f63) (by kernel_rfl) (orc := []) (m := 3) (d := .tup [.agg [.int .i64 0, .int .i64 0, .int .i64 0, .int .i64 0, .int .i64 0, .int .i64 0, .str ByteArray.empty], .bool false]) (by kernel_rfl) .nil ?_ ?_
    · rw [← h]; exact Le.of rfl
    · rw [← h]; rfl
  · subst h0
    replace h := k0
    obtain ⟨h1, h⟩ := chk h
    obtain ⟨v1, h2, h⟩ := bind_of h
    obtain ⟨h3, h⟩ := chk h
    obtain ⟨v2, h4, h⟩ := bind_of h
    obtain ⟨h5, h⟩ := chk h
    obtain ⟨v3, h6, h⟩ := bind_of h
    obtain ⟨h7, h⟩ := chk h
    obtain ⟨v4, h8, h⟩ := bind_of h
    obtain ⟨h9, h⟩ := chk h
    obtain ⟨h10, h⟩ := chk h
    have h := Option.some.inj h
    refine hc.ret hfin (fn := Try.f63) (by kernel_rfl) (orc := [(3, [(2, { r := d_ip_Number v1 }), (5, { r := d_ip_Number v2 }), (8, { r := d_ip_Number v3 }), (11, { r := d_ip_Number v4 })])]) (m := 4) (d := .tup [.agg [.int .i64 6, .int .i64 v1, .int .i64 v2, .int .i64 v3, .int .i64 v4, .int .i64 (IntKind.i64.wrap (bt t0 13)), .str (t0.extract 20 t0.size)], .bool true]) (by kernel_rfl) (.cons (h1) (.cons (c_ip_Number N (t0.extract 0 2) h2) (.cons (h3) (.cons (c_ip_Number N (t0.extract 2 4) h4) (.cons (h5) (.cons (c_ip_Number N (t0.extract 4 8) h6) (.cons (h7) (.cons (c_ip_Number N (t0.extract 8 12) h8) (.cons (h9) (.cons (h10) .nil)))))))))) ?_ ?_
    · rw [← h]; exact Le.of rfl
    · rw [← h]; rfl

theorem g_seg_tcp_0 {c : Cx} (hc : Is c Try.prog ty 63 31) (N : Nat) {r : GSeg × Bool} (hfin : c.Fin [] (d_seg_tcp r) []) (x0 : ByteArray) (h : L_seg_tcp N x0 = some r) : c.Goes (items (bodyOf Try.f63) [.c 1]) ⟨[(0, .str x0)], []⟩ := by
  unfold L_seg_tcp at h
  rcases brk h with ⟨h0, h⟩ | ⟨h0, h⟩
  · exact hc.jump (orc := [(1, [(3, { cv := some (.bool true) })])]) (m := 5) (kt := [0, 2, 11]) (kh := [(116, 116)]) (by kernel_rfl) (.cons (Le.tt h0) .nil) (g_seg_tcp_1 hc N hfin x0 0 0 0 0 0 0 ByteArray.empty true h)
  · obtain ⟨h1, h⟩ := chk h
    exact hc.jump (orc := [(1, [(3, { cv := some (.bool false) })])]) (m := 5) (kt := [0, 2, 11]) (kh := [(116, 116)]) (by kernel_rfl) (.cons (Le.ff h0) (.cons (h1) .nil)) (g_seg_tcp_1 hc N hfin x0 0 0 0 0 0 0 ByteArray.empty ((bt x0 12) != 80) h)

theorem c_seg_tcp (N : Nat) (x0 : ByteArray) {r : GSeg × Bool} (h : L_seg_tcp N x0 = some r) : Con Try.prog 63 [.str x0] [] (d_seg_tcp r) [] :=
  con_intro ok mix (fn := Try.f63) (body := bodyOf Try.f63) (by kernel_rfl) (by kernel_rfl) (by kernel_rfl) rfl (Nat.le_of_ble_eq_true (by kernel_rfl)) fun c h1 h2 h3 h4 hfin => g_seg_tcp_0 ⟨h1, h2, h3, h4⟩ N hfin x0 h
/-! ### wharfage/seg.udp -/
def L_seg_udp_1 (N : Nat) (t0 : ByteArray) (b116_0 : Int) (b116_1 : Int) (b116_2 : Int) (b116_3 : Int) (b116_4 : Int) (b116_5 : Int) (b116_6 : ByteArray) (t14 : Bool) : Option (GSeg × Bool) :=
  bif t14 then
    some ((GSeg.mk 0 0 0 0 0 0 ByteArray.empty), false)
  else
    if 0 ≤ (2 : Int) ∧ (2 : Int) ≤ (t0.size : Int) ∧ 0 ≤ (0 : Int) ∧ (0 : Int) ≤ (2 : Int) then
    (L_ip_Number N (t0.extract 0 2)).bind fun v1 =>
    if 0 ≤ (4 : Int) ∧ (4 : Int) ≤ (t0.size : Int) ∧ 0 ≤ (2 : Int) ∧ (2 : Int) ≤ (4 : Int) then
    (L_ip_Number N (t0.extract 2 4)).bind fun v2 =>
    if 0 ≤ (t0.size : Int) ∧ (t0.size : Int) ≤ (t0.size : Int) ∧ 0 ≤ (8 : Int) ∧ (8 : Int) ≤ (t0.size : Int) then
    some ((GSeg.mk 17 v1 v2 0 0 0 (t0.extract 8 t0.size)), true)
    else none
    else none
    else none
def L_seg_udp (N : Nat) (x0 : ByteArray) : Option (GSeg × Bool) :=
  bif (decide ((x0.size : Int) < 8)) then
    L_seg_udp_1 N x0 0 0 0 0 0 0 ByteArray.empty true
  else
    if 0 ≤ (6 : Int) ∧ (6 : Int) ≤ (x0.size : Int) ∧ 0 ≤ (4 : Int) ∧ (4 : Int) ≤ (6 : Int) then
    (L_ip_Number N (x0.extract 4 6)).bind fun v1 =>
    L_seg_udp_1 N x0 0 0 0 0 0 0 ByteArray.empty (v1 != (x0.size : Int))
    else none
def d_seg_udp (r : GSeg × Bool) : D := .tup [.agg [.int .i64 r.1.Proto, .int .i64 r.1.Sport, .int .i64 r.1.Dport, .int .i64 r.1.Seq, .int .i64 r.1.Ack, .int .i64 r.1.Flags, .str r.1.Body], .bool r.2]
theorem g_seg_udp_1 {c : Cx} (hc : Is c Try.prog ty 64 25) (N : Nat) {r : GSeg × Bool} (hfin : c.Fin [] (d_seg_udp r) []) (t0 : ByteArray) (b116_0 : Int) (b116_1 : Int) (b116_2 : Int) (b116_3 : Int) (b116_4 : Int) (b116_5 : Int) (b116_6 : ByteArray) (t14 : Bool) (h : L_seg_udp_1 N t0 b116_0 b116_1 b116_2 b116_3 b116_4 b116_5 b116_6 t14 = some r) : c.Goes (items (bodyOf Try.f64) [.c 13, .c 7]) ⟨[(0, .str t0), (2, .ptr 116 0), (14, .bool t14)], [(116, some ⟨false, 0, [.int .i64 b116_0, .int .i64 b116_1, .int .i64 b116_2, .int .i64 b116_3, .int .i64 b116_4, .int .i64 b116_5, .str b116_6]⟩)]⟩ := by
  unfold L_seg_udp_1 at h
  rcases brk h with ⟨h0, k0⟩ | ⟨h0, k0⟩
  · subst h0
    replace h := k0
    have h := Option.some.inj h
    refine hc.ret hfin (fn := Try.f64) (by kernel_rfl) (orc := []) (m := 3) (d := .tup [.agg [.int .i64 0, .int .i64 0, .int .i64 0, .int .i64 0, .int .i64 0, .int .i64 0, .str ByteArray.empty], .bool false]) (by kernel_rfl) .nil ?_ ?_
    · rw [← h]; exact Le.of rfl
    · rw [← h]; rfl
  · subst h0
    replace h := k0
    obtain ⟨h1, h⟩ := chk h
    obtain ⟨v1, h2, h⟩ := bind_of h
    obtain ⟨h3, h⟩ := chk h
    obtain ⟨v2, h4, h⟩ := bind_of h
    obtain ⟨h5, h⟩ := chk h
    have h := Option.some.inj h
    refine hc.ret hfin (fn := Try.f64) (by kernel_rfl) (orc := [(3, [(2, { r := d_ip_Number v1 }), (5, { r := d_ip_Number v2 })])]) (m := 4) (d := .tup [.agg [.int .i64 17, .int .i64 v1, .int .i64 v2, .int .i64 0, .int .i64 0, .int .i64 0, .str (t0.extract 8 t0.size)], .bool true]) (by kernel_rfl) (.cons (h1) (.cons (c_ip_Number N (t0.extract 0 2) h2) (.cons (h3) (.cons (c_ip_Number N (t0.extract 2 4) h4) (.cons (h5) .nil))))) ?_ ?_
    · rw [← h]; exact Le.of rfl
    · rw [← h]; rfl

theorem g_seg_udp_0 {c : Cx} (hc : Is c Try.prog ty 64 25) (N : Nat) {r : GSeg × Bool} (hfin : c.Fin [] (d_seg_udp r) []) (x0 : ByteArray) (h : L_seg_udp N x0 = some r) : c.Goes (items (bodyOf Try.f64) [.c 1]) ⟨[(0, .str x0)], []⟩ := by
  unfold L_seg_udp at h
  rcases brk h with ⟨h0, h⟩ | ⟨h0, h⟩
  · exact hc.jump (orc := [(1, [(3, { cv := some (.bool true) })])]) (m := 5) (kt := [0, 2, 14]) (kh := [(116, 116)]) (by kernel_rfl) (.cons (Le.tt h0) .nil) (g_seg_udp_1 hc N hfin x0 0 0 0 0 0 0 ByteArray.empty true h)
  · obtain ⟨h1, h⟩ := chk h
    obtain ⟨v1, h2, h⟩ := bind_of h
    exact hc.jump (orc := [(1, [(3, { cv := some (.bool false) }), (6, { r := d_ip_Number v1 })])]) (m := 5) (kt := [0, 2, 14]) (kh := [(116, 116)]) (by kernel_rfl) (.cons (Le.ff h0) (.cons (h1) (.cons (c_ip_Number N (x0.extract 4 6) h2) .nil))) (g_seg_udp_1 hc N hfin x0 0 0 0 0 0 0 ByteArray.empty (v1 != (x0.size : Int)) h)

theorem c_seg_udp (N : Nat) (x0 : ByteArray) {r : GSeg × Bool} (h : L_seg_udp N x0 = some r) : Con Try.prog 64 [.str x0] [] (d_seg_udp r) [] :=
  con_intro ok mix (fn := Try.f64) (body := bodyOf Try.f64) (by kernel_rfl) (by kernel_rfl) (by kernel_rfl) rfl (Nat.le_of_ble_eq_true (by kernel_rfl)) fun c h1 h2 h3 h4 hfin => g_seg_udp_0 ⟨h1, h2, h3, h4⟩ N hfin x0 h
/-! ### wharfage/seg.May -/
def L_seg_May_2 (N : Nat) (t2 : Bool) : Option (Bool) :=
  some t2
def L_seg_May_3 (N : Nat) (t2 : Bool) : Option (Bool) :=
  some t2
def L_seg_May_1 (N : Nat) (b108_0 : Int) (b108_1 : Int) (b108_2 : Int) (b108_3 : Int) (b108_4 : Int) (b108_5 : Int) (b108_6 : ByteArray) (t3 : Bool) : Option (Bool) :=
  bif (b108_0 == 6) then
    bif t3 then
      (L_ip_In N b108_3 32).bind fun v1 =>
      bif v1 then
        (L_ip_In N b108_4 32).bind fun v2 =>
        bif v2 then
          (L_ip_In N b108_5 6).bind fun v3 =>
          L_seg_May_2 N v3
        else
          L_seg_May_2 N false
      else
        L_seg_May_2 N false
    else
      L_seg_May_2 N false
  else
    bif (b108_0 == 17) then
      bif t3 then
        bif (b108_3 == 0) then
          bif (b108_4 == 0) then
            L_seg_May_3 N (b108_5 == 0)
          else
            L_seg_May_3 N false
        else
          L_seg_May_3 N false
      else
        L_seg_May_3 N false
    else
      some false
def L_seg_May (N : Nat) (x0 : GSeg) : Option (Bool) :=
  (L_ip_In N x0.Sport 16).bind fun v1 =>
  bif v1 then
    (L_ip_In N x0.Dport 16).bind fun v2 =>
    bif v2 then
      L_seg_May_1 N x0.Proto x0.Sport x0.Dport x0.Seq x0.Ack x0.Flags x0.Body (decide ((x0.Body.size : Int) ≤ 256))
    else
      L_seg_May_1 N x0.Proto x0.Sport x0.Dport x0.Seq x0.Ack x0.Flags x0.Body false
  else
    L_seg_May_1 N x0.Proto x0.Sport x0.Dport x0.Seq x0.Ack x0.Flags x0.Body false
def d_seg_May (r : Bool) : D := .bool r
theorem g_seg_May_2 {c : Cx} (hc : Is c Try.prog ty 33 56) (N : Nat) {r : Bool} (hfin : c.Fin [] (d_seg_May r) []) (t2 : Bool) (h : L_seg_May_2 N t2 = some r) : c.Goes (items (bodyOf Try.f33) [.c 427, .b 0, .c 15]) ⟨[(2, .bool t2)], []⟩ := by
  unfold L_seg_May_2 at h
  have h := Option.some.inj h
  refine hc.ret hfin (fn := Try.f33) (by kernel_rfl) (orc := []) (m := 0) (d := .bool t2) (by kernel_rfl) .nil ?_ ?_
  · rw [← h]; exact Le.of rfl
  · rw [← h]; rfl

theorem g_seg_May_3 {c : Cx} (hc : Is c Try.prog ty 33 56) (N : Nat) {r : Bool} (hfin : c.Fin [] (d_seg_May r) []) (t2 : Bool) (h : L_seg_May_3 N t2 = some r) : c.Goes (items (bodyOf Try.f33) [.c 1771, .b 0, .c 15]) ⟨[(2, .bool t2)], []⟩ := by
  unfold L_seg_May_3 at h
  have h := Option.some.inj h
  refine hc.ret hfin (fn := Try.f33) (by kernel_rfl) (orc := []) (m := 0) (d := .bool t2) (by kernel_rfl) .nil ?_ ?_
  · rw [← h]; exact Le.of rfl
  · rw [← h]; rfl

theorem g_seg_May_1 {c : Cx} (hc : Is c Try.prog ty 33 56) (N : Nat) {r : Bool} (hfin : c.Fin [] (d_seg_May r) []) (b108_0 : Int) (b108_1 : Int) (b108_2 : Int) (b108_3 : Int) (b108_4 : Int) (b108_5 : Int) (b108_6 : ByteArray) (t3 : Bool) (h : L_seg_May_1 N b108_0 b108_1 b108_2 b108_3 b108_4 b108_5 b108_6 t3 = some r) : c.Goes (items (bodyOf Try.f33) [.c 7]) ⟨[(1, .ptr 108 0), (3, .bool t3)], [(108, some ⟨false, 0, [.int .i64 b108_0, .int .i64 b108_1, .int .i64 b108_2, .int .i64 b108_3, .int .i64 b108_4, .int .i64 b108_5, .str b108_6]⟩)]⟩ := by
  unfold L_seg_May_1 at h
  rcases brk h with ⟨h0, h⟩ | ⟨h0, h⟩
  · rcases brk h with ⟨h1, h⟩ | ⟨h1, h⟩
    · obtain ⟨v1, h2, h⟩ := bind_of h
      rcases brk h with ⟨h3, h⟩ | ⟨h3, h⟩
      · obtain ⟨v2, h4, h⟩ := bind_of h
        rcases brk h with ⟨h5, h⟩ | ⟨h5, h⟩
        · obtain ⟨v3, h6, h⟩ := bind_of h
          exact hc.jump (orc := [(3, [(1, { cv := some (.bool true) })]), (4, [(1, { cv := some (.bool true) }), (4, { r := d_ip_In v1 }), (6, { cv := some (.bool true) }), (9, { r := d_ip_In v2 }), (11, { cv := some (.bool true) }), (14, { r := d_ip_In v3 })])]) (m := 9) (kt := [2]) (kh := []) (by kernel_rfl) (.cons (Le.tt h0) (.cons (Le.tt h1) (.cons (c_ip_In N b108_3 32 h2) (.cons (Le.tt h3) (.cons (c_ip_In N b108_4 32 h4) (.cons (Le.tt h5) (.cons (c_ip_In N b108_5 6 h6) .nil))))))) (g_seg_May_2 hc N hfin v3 h)
        · exact hc.jump (orc := [(3, [(1, { cv := some (.bool true) })]), (4, [(1, { cv := some (.bool true) }), (4, { r := d_ip_In v1 }), (6, { cv := some (.bool true) }), (9, { r := d_ip_In v2 }), (11, { cv := some (.bool false) })])]) (m := 9) (kt := [2]) (kh := []) (by kernel_rfl) (.cons (Le.tt h0) (.cons (Le.tt h1) (.cons (c_ip_In N b108_3 32 h2) (.cons (Le.tt h3) (.cons (c_ip_In N b108_4 32 h4) (.cons (Le.ff h5) .nil)))))) (g_seg_May_2 hc N hfin false h)
      · exact hc.jump (orc := [(3, [(1, { cv := some (.bool true) })]), (4, [(1, { cv := some (.bool true) }), (4, { r := d_ip_In v1 }), (6, { cv := some (.bool false) })])]) (m := 9) (kt := [2]) (kh := []) (by kernel_rfl) (.cons (Le.tt h0) (.cons (Le.tt h1) (.cons (c_ip_In N b108_3 32 h2) (.cons (Le.ff h3) .nil)))) (g_seg_May_2 hc N hfin false h)
    · exact hc.jump (orc := [(3, [(1, { cv := some (.bool true) })]), (4, [(1, { cv := some (.bool false) })])]) (m := 9) (kt := [2]) (kh := []) (by kernel_rfl) (.cons (Le.tt h0) (.cons (Le.ff h1) .nil)) (g_seg_May_2 hc N hfin false h)
  · rcases brk h with ⟨h1, h⟩ | ⟨h1, h⟩
    · rcases brk h with ⟨h2, h⟩ | ⟨h2, h⟩
      · rcases brk h with ⟨h3, h⟩ | ⟨h3, h⟩
        · rcases brk h with ⟨h4, h⟩ | ⟨h4, h⟩
          · exact hc.jump (orc := [(3, [(1, { cv := some (.bool false) })]), (5, [(1, { cv := some (.bool true) })]), (6, [(1, { cv := some (.bool true) }), (6, { cv := some (.bool true) }), (11, { cv := some (.bool true) })])]) (m := 12) (kt := [2]) (kh := []) (by kernel_rfl) (.cons (Le.ff h0) (.cons (Le.tt h1) (.cons (Le.tt h2) (.cons (Le.tt h3) (.cons (Le.tt h4) .nil))))) (g_seg_May_3 hc N hfin (b108_5 == 0) h)
          · exact hc.jump (orc := [(3, [(1, { cv := some (.bool false) })]), (5, [(1, { cv := some (.bool true) })]), (6, [(1, { cv := some (.bool true) }), (6, { cv := some (.bool true) }), (11, { cv := some (.bool false) })])]) (m := 12) (kt := [2]) (kh := []) (by kernel_rfl) (.cons (Le.ff h0) (.cons (Le.tt h1) (.cons (Le.tt h2) (.cons (Le.tt h3) (.cons (Le.ff h4) .nil))))) (g_seg_May_3 hc N hfin false h)
        · exact hc.jump (orc := [(3, [(1, { cv := some (.bool false) })]), (5, [(1, { cv := some (.bool true) })]), (6, [(1, { cv := some (.bool true) }), (6, { cv := some (.bool false) })])]) (m := 12) (kt := [2]) (kh := []) (by kernel_rfl) (.cons (Le.ff h0) (.cons (Le.tt h1) (.cons (Le.tt h2) (.cons (Le.ff h3) .nil)))) (g_seg_May_3 hc N hfin false h)
      · exact hc.jump (orc := [(3, [(1, { cv := some (.bool false) })]), (5, [(1, { cv := some (.bool true) })]), (6, [(1, { cv := some (.bool false) })])]) (m := 12) (kt := [2]) (kh := []) (by kernel_rfl) (.cons (Le.ff h0) (.cons (Le.tt h1) (.cons (Le.ff h2) .nil))) (g_seg_May_3 hc N hfin false h)
    · have h := Option.some.inj h
      refine hc.ret hfin (fn := Try.f33) (by kernel_rfl) (orc := [(3, [(1, { cv := some (.bool false) })]), (5, [(1, { cv := some (.bool false) })])]) (m := 14) (d := .bool false) (by kernel_rfl) (.cons (Le.ff h0) (.cons (Le.ff h1) .nil)) ?_ ?_
      · rw [← h]; exact Le.of rfl
      · rw [← h]; rfl

theorem g_seg_May_0 {c : Cx} (hc : Is c Try.prog ty 33 56) (N : Nat) {r : Bool} (hfin : c.Fin [] (d_seg_May r) []) (x0 : GSeg) (h : L_seg_May N x0 = some r) : c.Goes (items (bodyOf Try.f33) [.c 1]) ⟨[(0, .agg [.int .i64 x0.Proto, .int .i64 x0.Sport, .int .i64 x0.Dport, .int .i64 x0.Seq, .int .i64 x0.Ack, .int .i64 x0.Flags, .str x0.Body])], []⟩ := by
  unfold L_seg_May at h
  obtain ⟨v1, h0, h⟩ := bind_of h
  rcases brk h with ⟨h1, h⟩ | ⟨h1, h⟩
  · obtain ⟨v2, h2, h⟩ := bind_of h
    rcases brk h with ⟨h3, h⟩ | ⟨h3, h⟩
    · exact hc.jump (orc := [(1, [(2, { r := d_ip_In v1 }), (3, { cv := some (.bool true) }), (6, { r := d_ip_In v2 }), (8, { cv := some (.bool true) })])]) (m := 4) (kt := [1, 3]) (kh := [(108, 108)]) (by kernel_rfl) (.cons (c_ip_In N x0.Sport 16 h0) (.cons (Le.tt h1) (.cons (c_ip_In N x0.Dport 16 h2) (.cons (Le.tt h3) .nil)))) (g_seg_May_1 hc N hfin x0.Proto x0.Sport x0.Dport x0.Seq x0.Ack x0.Flags x0.Body (decide ((x0.Body.size : Int) ≤ 256)) h)
    · exact hc.jump (orc := [(1, [(2, { r := d_ip_In v1 }), (3, { cv := some (.bool true) }), (6, { r := d_ip_In v2 }), (8, { cv := some (.bool false) })])]) (m := 4) (kt := [1, 3]) (kh := [(108, 108)]) (by kernel_rfl) (.cons (c_ip_In N x0.Sport 16 h0) (.cons (Le.tt h1) (.cons (c_ip_In N x0.Dport 16 h2) (.cons (Le.ff h3) .nil)))) (g_seg_May_1 hc N hfin x0.Proto x0.Sport x0.Dport x0.Seq x0.Ack x0.Flags x0.Body false h)
  · exact hc.jump (orc := [(1, [(2, { r := d_ip_In v1 }), (3, { cv := some (.bool false) })])]) (m := 4) (kt := [1, 3]) (kh := [(108, 108)]) (by kernel_rfl) (.cons (c_ip_In N x0.Sport 16 h0) (.cons (Le.ff h1) .nil)) (g_seg_May_1 hc N hfin x0.Proto x0.Sport x0.Dport x0.Seq x0.Ack x0.Flags x0.Body false h)

theorem c_seg_May (N : Nat) (x0 : GSeg) {r : Bool} (h : L_seg_May N x0 = some r) : Con Try.prog 33 [.agg [.int .i64 x0.Proto, .int .i64 x0.Sport, .int .i64 x0.Dport, .int .i64 x0.Seq, .int .i64 x0.Ack, .int .i64 x0.Flags, .str x0.Body]] [] (d_seg_May r) [] :=
  con_intro ok mix (fn := Try.f33) (body := bodyOf Try.f33) (by kernel_rfl) (by kernel_rfl) (by kernel_rfl) rfl (Nat.le_of_ble_eq_true (by kernel_rfl)) fun c h1 h2 h3 h4 hfin => g_seg_May_0 ⟨h1, h2, h3, h4⟩ N hfin x0 h
/-! ### (wharfage/seg.ends).may -/
def L_seg_ends_may_1 (N : Nat) (t2 : Bool) : Option (Bool) :=
  some t2
def L_seg_ends_may (N : Nat) (x0 : Gseg_ends) : Option (Bool) :=
  (L_ip_In N x0.src_ 32).bind fun v1 =>
  bif v1 then
    (L_ip_In N x0.dst_ 32).bind fun v2 =>
    L_seg_ends_may_1 N v2
  else
    L_seg_ends_may_1 N false
def d_seg_ends_may (r : Bool) : D := .bool r
theorem g_seg_ends_may_1 {c : Cx} (hc : Is c Try.prog ty 59 11) (N : Nat) {r : Bool} (hfin : c.Fin [] (d_seg_ends_may r) []) (t2 : Bool) (h : L_seg_ends_may_1 N t2 = some r) : c.Goes (items (bodyOf Try.f59) [.c 7]) ⟨[(2, .bool t2)], []⟩ := by
  unfold L_seg_ends_may_1 at h
  have h := Option.some.inj h
  refine hc.ret hfin (fn := Try.f59) (by kernel_rfl) (orc := []) (m := 0) (d := .bool t2) (by kernel_rfl) .nil ?_ ?_
  · rw [← h]; exact Le.of rfl
  · rw [← h]; rfl

theorem g_seg_ends_may_0 {c : Cx} (hc : Is c Try.prog ty 59 11) (N : Nat) {r : Bool} (hfin : c.Fin [] (d_seg_ends_may r) []) (x0 : Gseg_ends) (h : L_seg_ends_may N x0 = some r) : c.Goes (items (bodyOf Try.f59) [.c 1]) ⟨[(0, .agg [.int .i64 x0.src_, .int .i64 x0.dst_])], []⟩ := by
  unfold L_seg_ends_may at h
  obtain ⟨v1, h0, h⟩ := bind_of h
  rcases brk h with ⟨h1, h⟩ | ⟨h1, h⟩
  · obtain ⟨v2, h2, h⟩ := bind_of h
    exact hc.jump (orc := [(1, [(2, { r := d_ip_In v1 }), (3, { cv := some (.bool true) }), (6, { r := d_ip_In v2 })])]) (m := 4) (kt := [2]) (kh := []) (by kernel_rfl) (.cons (c_ip_In N x0.src_ 32 h0) (.cons (Le.tt h1) (.cons (c_ip_In N x0.dst_ 32 h2) .nil))) (g_seg_ends_may_1 hc N hfin v2 h)
  · exact hc.jump (orc := [(1, [(2, { r := d_ip_In v1 }), (3, { cv := some (.bool false) })])]) (m := 4) (kt := [2]) (kh := []) (by kernel_rfl) (.cons (c_ip_In N x0.src_ 32 h0) (.cons (Le.ff h1) .nil)) (g_seg_ends_may_1 hc N hfin false h)

theorem c_seg_ends_may (N : Nat) (x0 : Gseg_ends) {r : Bool} (h : L_seg_ends_may N x0 = some r) : Con Try.prog 59 [.agg [.int .i64 x0.src_, .int .i64 x0.dst_]] [] (d_seg_ends_may r) [] :=
  con_intro ok mix (fn := Try.f59) (body := bodyOf Try.f59) (by kernel_rfl) (by kernel_rfl) (by kernel_rfl) rfl (Nat.le_of_ble_eq_true (by kernel_rfl)) fun c h1 h2 h3 h4 hfin => g_seg_ends_may_0 ⟨h1, h2, h3, h4⟩ N hfin x0 h
/-! ### (wharfage/seg.ends).sum -/
def L_seg_ends_sum (N : Nat) (x0 : Gseg_ends) (x1 : Int) (x2 : ByteArray) : Option (Int) :=
  (L_ip_Bytes N x0.src_ 4).bind fun v1 =>
  (L_ip_Bytes N x0.dst_ 4).bind fun v2 =>
  if ((v1.size + v2.size : Nat) : Int) ≤ 9223372036854775807 then
  (L_ip_Bytes N x1 2).bind fun v3 =>
  if (((v1 ++ v2).size + v3.size : Nat) : Int) ≤ 9223372036854775807 then
  (L_ip_Bytes N (x2.size : Int) 2).bind fun v4 =>
  if ((((v1 ++ v2) ++ v3).size + v4.size : Nat) : Int) ≤ 9223372036854775807 then
  if (((((v1 ++ v2) ++ v3) ++ v4).size + x2.size : Nat) : Int) ≤ 9223372036854775807 then
  (L_sum_Sum N ((((v1 ++ v2) ++ v3) ++ v4) ++ x2)).bind fun v5 =>
  some v5
  else none
  else none
  else none
  else none
def d_seg_ends_sum (r : Int) : D := .int .i64 r
theorem g_seg_ends_sum_0 {c : Cx} (hc : Is c Try.prog ty 60 24) (N : Nat) {r : Int} (hfin : c.Fin [] (d_seg_ends_sum r) []) (x0 : Gseg_ends) (x1 : Int) (x2 : ByteArray) (h : L_seg_ends_sum N x0 x1 x2 = some r) : c.Goes (items (bodyOf Try.f60) [.c 1]) ⟨[(0, .agg [.int .i64 x0.src_, .int .i64 x0.dst_]), (1, .int .i64 x1), (2, .str x2)], []⟩ := by
  unfold L_seg_ends_sum at h
  obtain ⟨v1, h0, h⟩ := bind_of h
  obtain ⟨v2, h1, h⟩ := bind_of h
  obtain ⟨h2, h⟩ := chk h
  obtain ⟨v3, h3, h⟩ := bind_of h
  obtain ⟨h4, h⟩ := chk h
  obtain ⟨v4, h5, h⟩ := bind_of h
  obtain ⟨h6, h⟩ := chk h
  obtain ⟨h7, h⟩ := chk h
  obtain ⟨v5, h8, h⟩ := bind_of h
  have h := Option.some.inj h
  refine hc.ret hfin (fn := Try.f60) (by kernel_rfl) (orc := [(1, [(2, { r := d_ip_Bytes v1 }), (5, { r := d_ip_Bytes v2 }), (8, { r := d_ip_Bytes v3 }), (12, { r := d_ip_Bytes v4 }), (16, { r := d_sum_Sum v5 })])]) (m := 4) (d := .int .i64 v5) (by kernel_rfl) (.cons (c_ip_Bytes N x0.src_ 4 h0) (.cons (c_ip_Bytes N x0.dst_ 4 h1) (.cons (h2) (.cons (c_ip_Bytes N x1 2 h3) (.cons (h4) (.cons (c_ip_Bytes N (x2.size : Int) 2 h5) (.cons (h6) (.cons (h7) (.cons (c_sum_Sum N ((((v1 ++ v2) ++ v3) ++ v4) ++ x2) h8) .nil))))))))) ?_ ?_
  · rw [← h]; exact Le.of rfl
  · rw [← h]; rfl

theorem c_seg_ends_sum (N : Nat) (x0 : Gseg_ends) (x1 : Int) (x2 : ByteArray) {r : Int} (h : L_seg_ends_sum N x0 x1 x2 = some r) : Con Try.prog 60 [.agg [.int .i64 x0.src_, .int .i64 x0.dst_], .int .i64 x1, .str x2] [] (d_seg_ends_sum r) [] :=
  con_intro ok mix (fn := Try.f60) (body := bodyOf Try.f60) (by kernel_rfl) (by kernel_rfl) (by kernel_rfl) rfl (Nat.le_of_ble_eq_true (by kernel_rfl)) fun c h1 h2 h3 h4 hfin => g_seg_ends_sum_0 ⟨h1, h2, h3, h4⟩ N hfin x0 x1 x2 h
/-! ### wharfage/seg.Get -/
def L_seg_Get_2 (N : Nat) (b164_0 : Int) (b164_1 : Int) (b164_2 : Int) (b164_3 : Int) (b164_4 : Int) (b164_5 : Int) (b164_6 : ByteArray) (b188_0 : Int) (b188_1 : Int) (b188_2 : Int) (b188_3 : Int) (b188_4 : Int) (b188_5 : Int) (b188_6 : ByteArray) (t58 : Bool) : Option (GSeg × Int) :=
  bif t58 then
    some ((GSeg.mk 0 0 0 0 0 0 ByteArray.empty), 300)
  else
    some ((GSeg.mk b188_0 b188_1 b188_2 b188_3 b188_4 b188_5 b188_6), 0)
def L_seg_Get_1 (N : Nat) (t0 : Int) (t1 : ByteArray) (b164_0 : Int) (b164_1 : Int) (b164_2 : Int) (b164_3 : Int) (b164_4 : Int) (b164_5 : Int) (b164_6 : ByteArray) (b180_0 : Int) (b180_1 : Int) (b188_0 : Int) (b188_1 : Int) (b188_2 : Int) (b188_3 : Int) (b188_4 : Int) (b188_5 : Int) (b188_6 : ByteArray) (t12 : Bool) (t13 : Bool) : Option (GSeg × Int) :=
  bif (!t12) then
    L_seg_Get_2 N b164_0 b164_1 b164_2 b164_3 b164_4 b164_5 b164_6 b188_0 b188_1 b188_2 b188_3 b188_4 b188_5 b188_6 true
  else
    (L_seg_May N (GSeg.mk b188_0 b188_1 b188_2 b188_3 b188_4 b188_5 b188_6)).bind fun v1 =>
    bif (!v1) then
      L_seg_Get_2 N b164_0 b164_1 b164_2 b164_3 b164_4 b164_5 b164_6 b188_0 b188_1 b188_2 b188_3 b188_4 b188_5 b188_6 true
    else
      (L_seg_ends_may N (Gseg_ends.mk b180_0 b180_1)).bind fun v2 =>
      bif (!v2) then
        L_seg_Get_2 N b164_0 b164_1 b164_2 b164_3 b164_4 b164_5 b164_6 b188_0 b188_1 b188_2 b188_3 b188_4 b188_5 b188_6 true
      else
        bif (!t13) then
          (L_seg_ends_sum N (Gseg_ends.mk b180_0 b180_1) t0 t1).bind fun v3 =>
          L_seg_Get_2 N b164_0 b164_1 b164_2 b164_3 b164_4 b164_5 b164_6 b188_0 b188_1 b188_2 b188_3 b188_4 b188_5 b188_6 (v3 != 65535)
        else
          L_seg_Get_2 N b164_0 b164_1 b164_2 b164_3 b164_4 b164_5 b164_6 b188_0 b188_1 b188_2 b188_3 b188_4 b188_5 b188_6 false
def L_seg_Get (N : Nat) (x0 : Int) (x1 : ByteArray) (x2 : Int) (x3 : Int) : Option (GSeg × Int) :=
  bif (x0 == 6) then
    (L_seg_tcp N x1).bind fun v1 =>
    L_seg_Get_1 N x0 x1 0 0 0 0 0 0 ByteArray.empty x2 x3 v1.1.Proto v1.1.Sport v1.1.Dport v1.1.Seq v1.1.Ack v1.1.Flags v1.1.Body v1.2 false
  else
    bif (x0 == 17) then
      (L_seg_udp N x1).bind fun v1 =>
      bif v1.2 then
        if 0 ≤ (8 : Int) ∧ (8 : Int) ≤ (x1.size : Int) ∧ 0 ≤ (6 : Int) ∧ (6 : Int) ≤ (8 : Int) then
        L_seg_Get_1 N x0 x1 0 0 0 0 0 0 ByteArray.empty x2 x3 v1.1.Proto v1.1.Sport v1.1.Dport v1.1.Seq v1.1.Ack v1.1.Flags v1.1.Body v1.2 ((x1.extract 6 8).toList == (ByteArray.mk #[0, 0]).toList)
        else none
      else
        L_seg_Get_1 N x0 x1 0 0 0 0 0 0 ByteArray.empty x2 x3 v1.1.Proto v1.1.Sport v1.1.Dport v1.1.Seq v1.1.Ack v1.1.Flags v1.1.Body v1.2 false
    else
      L_seg_Get_1 N x0 x1 0 0 0 0 0 0 ByteArray.empty x2 x3 0 0 0 0 0 0 ByteArray.empty false false
def d_seg_Get (r : GSeg × Int) : D := .tup [.agg [.int .i64 r.1.Proto, .int .i64 r.1.Sport, .int .i64 r.1.Dport, .int .i64 r.1.Seq, .int .i64 r.1.Ack, .int .i64 r.1.Flags, .str r.1.Body], .int .i64 r.2]
theorem g_seg_Get_2 {c : Cx} (hc : Is c Try.prog ty 31 61) (N : Nat) {r : GSeg × Int} (hfin : c.Fin [] (d_seg_Get r) []) (b164_0 : Int) (b164_1 : Int) (b164_2 : Int) (b164_3 : Int) (b164_4 : Int) (b164_5 : Int) (b164_6 : ByteArray) (b188_0 : Int) (b188_1 : Int) (b188_2 : Int) (b188_3 : Int) (b188_4 : Int) (b188_5 : Int) (b188_6 : ByteArray) (t58 : Bool) (h : L_seg_Get_2 N b164_0 b164_1 b164_2 b164_3 b164_4 b164_5 b164_6 b188_0 b188_1 b188_2 b188_3 b188_4 b188_5 b188_6 t58 = some r) : c.Goes (items (bodyOf Try.f31) [.c 223, .c 127]) ⟨[(8, .ptr 164 0), (11, .ptr 188 0), (58, .bool t58)], [(164, some ⟨false, 0, [.int .i64 b164_0, .int .i64 b164_1, .int .i64 b164_2, .int .i64 b164_3, .int .i64 b164_4, .int .i64 b164_5, .str b164_6]⟩), (188, some ⟨false, 0, [.int .i64 b188_0, .int .i64 b188_1, .int .i64 b188_2, .int .i64 b188_3, .int .i64 b188_4, .int .i64 b188_5, .str b188_6]⟩)]⟩ := by
  unfold L_seg_Get_2 at h
  rcases brk h with ⟨h0, k0⟩ | ⟨h0, k0⟩
  · subst h0
    replace h := k0
    have h := Option.some.inj h
    refine hc.ret hfin (fn := Try.f31) (by kernel_rfl) (orc := []) (m := 3) (d := .tup [.agg [.int .i64 0, .int .i64 0, .int .i64 0, .int .i64 0, .int .i64 0, .int .i64 0, .str ByteArray.empty], .int .i64 300]) (by kernel_rfl) .nil ?_ ?_
    · rw [← h]; exact Le.of rfl
    · rw [← h]; rfl
  · subst h0
    replace h := k0
    have h := Option.some.inj h
    refine hc.ret hfin (fn := Try.f31) (by kernel_rfl) (orc := []) (m := 4) (d := .tup [.agg [.int .i64 b188_0, .int .i64 b188_1, .int .i64 b188_2, .int .i64 b188_3, .int .i64 b188_4, .int .i64 b188_5, .str b188_6], .int .i64 0]) (by kernel_rfl) .nil ?_ ?_
    · rw [← h]; exact Le.of rfl
    · rw [← h]; rfl

theorem g_seg_Get_1 {c : Cx} (hc : Is c Try.prog ty 31 61) (N : Nat) {r : GSeg × Int} (hfin : c.Fin [] (d_seg_Get r) []) (t0 : Int) (t1 : ByteArray) (b164_0 : Int) (b164_1 : Int) (b164_2 : Int) (b164_3 : Int) (b164_4 : Int) (b164_5 : Int) (b164_6 : ByteArray) (b180_0 : Int) (b180_1 : Int) (b188_0 : Int) (b188_1 : Int) (b188_2 : Int) (b188_3 : Int) (b188_4 : Int) (b188_5 : Int) (b188_6 : ByteArray) (t12 : Bool) (t13 : Bool) (h : L_seg_Get_1 N t0 t1 b164_0 b164_1 b164_2 b164_3 b164_4 b164_5 b164_6 b180_0 b180_1 b188_0 b188_1 b188_2 b188_3 b188_4 b188_5 b188_6 t12 t13 = some r) : c.Goes (items (bodyOf Try.f31) [.b 0, .c 63]) ⟨[(0, .int .i64 t0), (1, .str t1), (8, .ptr 164 0), (10, .ptr 180 0), (11, .ptr 188 0), (12, .bool t12), (13, .bool t13)], [(164, some ⟨false, 0, [.int .i64 b164_0, .int .i64 b164_1, .int .i64 b164_2, .int .i64 b164_3, .int .i64 b164_4, .int .i64 b164_5, .str b164_6]⟩), (180, some ⟨false, 0, [.int .i64 b180_0, .int .i64 b180_1]⟩), (188, some ⟨false, 0, [.int .i64 b188_0, .int .i64 b188_1, .int .i64 b188_2, .int .i64 b188_3, .int .i64 b188_4, .int .i64 b188_5, .str b188_6]⟩)]⟩ := by
  unfold L_seg_Get_1 at h
  rcases brk h with ⟨h0, h⟩ | ⟨h0, h⟩
  · exact hc.jump (orc := [(11, [(2, { cv := some (.bool true) })])]) (m := 4) (kt := [8, 11, 58]) (kh := [(164, 164), (188, 188)]) (by kernel_rfl) (.cons (Le.tt h0) .nil) (g_seg_Get_2 hc N hfin b164_0 b164_1 b164_2 b164_3 b164_4 b164_5 b164_6 b188_0 b188_1 b188_2 b188_3 b188_4 b188_5 b188_6 true h)
  · obtain ⟨v1, h1, h⟩ := bind_of h
    rcases brk h with ⟨h2, h⟩ | ⟨h2, h⟩
    · exact hc.jump (orc := [(11, [(2, { cv := some (.bool false) }), (4, { r := d_seg_May v1 }), (7, { cv := some (.bool true) })])]) (m := 4) (kt := [8, 11, 58]) (kh := [(164, 164), (188, 188)]) (by kernel_rfl) (.cons (Le.ff h0) (.cons (c_seg_May N (GSeg.mk b188_0 b188_1 b188_2 b188_3 b188_4 b188_5 b188_6) h1) (.cons (Le.tt h2) .nil))) (g_seg_Get_2 hc N hfin b164_0 b164_1 b164_2 b164_3 b164_4 b164_5 b164_6 b188_0 b188_1 b188_2 b188_3 b188_4 b188_5 b188_6 true h)
    · obtain ⟨v2, h3, h⟩ := bind_of h
      rcases brk h with ⟨h4, h⟩ | ⟨h4, h⟩
      · exact hc.jump (orc := [(11, [(2, { cv := some (.bool false) }), (4, { r := d_seg_May v1 }), (7, { cv := some (.bool false) }), (9, { r := d_seg_ends_may v2 }), (12, { cv := some (.bool true) })])]) (m := 4) (kt := [8, 11, 58]) (kh := [(164, 164), (188, 188)]) (by kernel_rfl) (.cons (Le.ff h0) (.cons (c_seg_May N (GSeg.mk b188_0 b188_1 b188_2 b188_3 b188_4 b188_5 b188_6) h1) (.cons (Le.ff h2) (.cons (c_seg_ends_may N (Gseg_ends.mk b180_0 b180_1) h3) (.cons (Le.tt h4) .nil))))) (g_seg_Get_2 hc N hfin b164_0 b164_1 b164_2 b164_3 b164_4 b164_5 b164_6 b188_0 b188_1 b188_2 b188_3 b188_4 b188_5 b188_6 true h)
      · rcases brk h with ⟨h5, h⟩ | ⟨h5, h⟩
        · obtain ⟨v3, h6, h⟩ := bind_of h
          exact hc.jump (orc := [(11, [(2, { cv := some (.bool false) }), (4, { r := d_seg_May v1 }), (7, { cv := some (.bool false) }), (9, { r := d_seg_ends_may v2 }), (12, { cv := some (.bool false) }), (15, { cv := some (.bool true) }), (19, { r := d_seg_ends_sum v3 })])]) (m := 4) (kt := [8, 11, 58]) (kh := [(164, 164), (188, 188)]) (by kernel_rfl) (.cons (Le.ff h0) (.cons (c_seg_May N (GSeg.mk b188_0 b188_1 b188_2 b188_3 b188_4 b188_5 b188_6) h1) (.cons (Le.ff h2) (.cons (c_seg_ends_may N (Gseg_ends.mk b180_0 b180_1) h3) (.cons (Le.ff h4) (.cons (Le.tt h5) (.cons (c_seg_ends_sum N (Gseg_ends.mk b180_0 b180_1) t0 t1 h6) .nil))))))) (g_seg_Get_2 hc N hfin b164_0 b164_1 b164_2 b164_3 b164_4 b164_5 b164_6 b188_0 b188_1 b188_2 b188_3 b188_4 b188_5 b188_6 (v3 != 65535) h)
        · exact hc.jump (orc := [(11, [(2, { cv := some (.bool false) }), (4, { r := d_seg_May v1 }), (7, { cv := some (.bool false) }), (9, { r := d_seg_ends_may v2 }), (12, { cv := some (.bool false) }), (15, { cv := some (.bool false) })])]) (m := 4) (kt := [8, 11, 58]) (kh := [(164, 164), (188, 188)]) (by kernel_rfl) (.cons (Le.ff h0) (.cons (c_seg_May N (GSeg.mk b188_0 b188_1 b188_2 b188_3 b188_4 b188_5 b188_6) h1) (.cons (Le.ff h2) (.cons (c_seg_ends_may N (Gseg_ends.mk b180_0 b180_1) h3) (.cons (Le.ff h4) (.cons (Le.ff h5) .nil)))))) (g_seg_Get_2 hc N hfin b164_0 b164_1 b164_2 b164_3 b164_4 b164_5 b164_6 b188_0 b188_1 b188_2 b188_3 b188_4 b188_5 b188_6 false h)

theorem g_seg_Get_0 {c : Cx} (hc : Is c Try.prog ty 31 61) (N : Nat) {r : GSeg × Int} (hfin : c.Fin [] (d_seg_Get r) []) (x0 : Int) (x1 : ByteArray) (x2 : Int) (x3 : Int) (h : L_seg_Get N x0 x1 x2 x3 = some r) : c.Goes (items (bodyOf Try.f31) [.c 1]) ⟨[(0, .int .i64 x0), (1, .str x1), (2, .int .i64 x2), (3, .int .i64 x3)], []⟩ := by
  unfold L_seg_Get at h
  rcases brk h with ⟨h0, h⟩ | ⟨h0, h⟩
  · obtain ⟨v1, h1, h⟩ := bind_of h
    exact hc.jump (orc := [(5, [(1, { cv := some (.bool true) })]), (6, [(1, { r := d_seg_tcp v1 })])]) (m := 16) (kt := [0, 1, 8, 10, 11, 12, 13]) (kh := [(164, 164), (180, 180), (188, 188)]) (by kernel_rfl) (.cons (Le.tt h0) (.cons (c_seg_tcp N x1 h1) .nil)) (g_seg_Get_1 hc N hfin x0 x1 0 0 0 0 0 0 ByteArray.empty x2 x3 v1.1.Proto v1.1.Sport v1.1.Dport v1.1.Seq v1.1.Ack v1.1.Flags v1.1.Body v1.2 false h)
  · rcases brk h with ⟨h1, h⟩ | ⟨h1, h⟩
    · obtain ⟨v1, h2, h⟩ := bind_of h
      rcases brk h with ⟨h3, h⟩ | ⟨h3, h⟩
      · obtain ⟨h4, h⟩ := chk h
        exact hc.jump (orc := [(5, [(1, { cv := some (.bool false) })]), (7, [(1, { cv := some (.bool true) })]), (8, [(1, { r := d_seg_udp v1 })]), (9, [(0, { cv := some (.bool true) })])]) (m := 24) (kt := [0, 1, 8, 10, 11, 12, 13]) (kh := [(164, 164), (180, 180), (188, 188)]) (by kernel_rfl) (.cons (Le.ff h0) (.cons (Le.tt h1) (.cons (c_seg_udp N x1 h2) (.cons (Le.tt h3) (.cons (h4) .nil))))) (g_seg_Get_1 hc N hfin x0 x1 0 0 0 0 0 0 ByteArray.empty x2 x3 v1.1.Proto v1.1.Sport v1.1.Dport v1.1.Seq v1.1.Ack v1.1.Flags v1.1.Body v1.2 ((x1.extract 6 8).toList == (ByteArray.mk #[0, 0]).toList) h)
      · exact hc.jump (orc := [(5, [(1, { cv := some (.bool false) })]), (7, [(1, { cv := some (.bool true) })]), (8, [(1, { r := d_seg_udp v1 })]), (9, [(0, { cv := some (.bool false) })])]) (m := 24) (kt := [0, 1, 8, 10, 11, 12, 13]) (kh := [(164, 164), (180, 180), (188, 188)]) (by kernel_rfl) (.cons (Le.ff h0) (.cons (Le.tt h1) (.cons (c_seg_udp N x1 h2) (.cons (Le.ff h3) .nil)))) (g_seg_Get_1 hc N hfin x0 x1 0 0 0 0 0 0 ByteArray.empty x2 x3 v1.1.Proto v1.1.Sport v1.1.Dport v1.1.Seq v1.1.Ack v1.1.Flags v1.1.Body v1.2 false h)
    · exact hc.jump (orc := [(5, [(1, { cv := some (.bool false) })]), (7, [(1, { cv := some (.bool false) })])]) (m := 19) (kt := [0, 1, 8, 10, 11, 12, 13]) (kh := [(164, 164), (180, 180), (188, 188)]) (by kernel_rfl) (.cons (Le.ff h0) (.cons (Le.ff h1) .nil)) (g_seg_Get_1 hc N hfin x0 x1 0 0 0 0 0 0 ByteArray.empty x2 x3 0 0 0 0 0 0 ByteArray.empty false false h)

theorem c_seg_Get (N : Nat) (x0 : Int) (x1 : ByteArray) (x2 : Int) (x3 : Int) {r : GSeg × Int} (h : L_seg_Get N x0 x1 x2 x3 = some r) : Con Try.prog 31 [.int .i64 x0, .str x1, .int .i64 x2, .int .i64 x3] [] (d_seg_Get r) [] :=
  con_intro ok mix (fn := Try.f31) (body := bodyOf Try.f31) (by kernel_rfl) (by kernel_rfl) (by kernel_rfl) rfl (Nat.le_of_ble_eq_true (by kernel_rfl)) fun c h1 h2 h3 h4 hfin => g_seg_Get_0 ⟨h1, h2, h3, h4⟩ N hfin x0 x1 x2 x3 h
/-! ### wharfage/flow.Of -/
def L_flow_Of_1 (N : Nat) (b116_0 : Int) (b116_1 : Int) (b116_2 : Int) (b116_3 : Int) (b116_4 : Int) (b124_0 : Int) (b124_1 : Int) (b124_2 : Int) (b124_3 : Int) (b124_4 : Int) (b124_5 : Int) (b124_6 : ByteArray) (b140_0 : Int) (b140_1 : Int) (b140_2 : Int) (b140_3 : Int) (b140_4 : Int) (b140_5 : ByteArray) (t22 : Bool) : Option (GFlow × GSeg × Int) :=
  bif t22 then
    some ((GFlow.mk 0 0 0 0 0), (GSeg.mk 0 0 0 0 0 0 ByteArray.empty), 3)
  else
    (L_seg_Get N b140_2 b140_5 b140_0 b140_1).bind fun v1 =>
    bif (v1.2 != 0) then
      some ((GFlow.mk 0 0 0 0 0), (GSeg.mk 0 0 0 0 0 0 ByteArray.empty), 1)
    else
      some ((GFlow.mk b140_0 b140_1 b140_2 v1.1.Sport v1.1.Dport), v1.1, 0)
def L_flow_Of (N : Nat) (x0 : ByteArray) : Option (GFlow × GSeg × Int) :=
  (L_ip_Get N x0).bind fun v1 =>
  bif (v1.2.1 != 0) then
    some ((GFlow.mk 0 0 0 0 0), (GSeg.mk 0 0 0 0 0 0 ByteArray.empty), v1.2.1)
  else
    (L_flow_handled N v1.1.Proto).bind fun v2 =>
    bif (!v2) then
      L_flow_Of_1 N 0 0 0 0 0 0 0 0 0 0 0 ByteArray.empty v1.1.Src v1.1.Dst v1.1.Proto v1.1.Ttl v1.1.Id v1.1.Body true
    else
      L_flow_Of_1 N 0 0 0 0 0 0 0 0 0 0 0 ByteArray.empty v1.1.Src v1.1.Dst v1.1.Proto v1.1.Ttl v1.1.Id v1.1.Body (v1.1.Dst != 167772161)
def d_flow_Of (r : GFlow × GSeg × Int) : D := .tup [.agg [.int .i64 r.1.Src, .int .i64 r.1.Dst, .int .i64 r.1.Proto, .int .i64 r.1.Sport, .int .i64 r.1.Dport], .agg [.int .i64 r.2.1.Proto, .int .i64 r.2.1.Sport, .int .i64 r.2.1.Dport, .int .i64 r.2.1.Seq, .int .i64 r.2.1.Ack, .int .i64 r.2.1.Flags, .str r.2.1.Body], .int .i64 r.2.2]
theorem g_flow_Of_1 {c : Cx} (hc : Is c Try.prog ty 38 62) (N : Nat) {r : GFlow × GSeg × Int} (hfin : c.Fin [] (d_flow_Of r) []) (b116_0 : Int) (b116_1 : Int) (b116_2 : Int) (b116_3 : Int) (b116_4 : Int) (b124_0 : Int) (b124_1 : Int) (b124_2 : Int) (b124_3 : Int) (b124_4 : Int) (b124_5 : Int) (b124_6 : ByteArray) (b140_0 : Int) (b140_1 : Int) (b140_2 : Int) (b140_3 : Int) (b140_4 : Int) (b140_5 : ByteArray) (t22 : Bool) (h : L_flow_Of_1 N b116_0 b116_1 b116_2 b116_3 b116_4 b124_0 b124_1 b124_2 b124_3 b124_4 b124_5 b124_6 b140_0 b140_1 b140_2 b140_3 b140_4 b140_5 t22 = some r) : c.Goes (items (bodyOf Try.f38) [.c 243, .b 0, .c 15]) ⟨[(2, .ptr 116 0), (3, .ptr 124 0), (5, .ptr 140 0), (22, .bool t22)], [(116, some ⟨false, 0, [.int .i64 b116_0, .int .i64 b116_1, .int .i64 b116_2, .int .i64 b116_3, .int .i64 b116_4]⟩), (124, some ⟨false, 0, [.int .i64 b124_0, .int .i64 b124_1, .int .i64 b124_2, .int .i64 b124_3, .int .i64 b124_4, .int .i64 b124_5, .str b124_6]⟩), (140, some ⟨false, 0, [.int .i64 b140_0, .int .i64 b140_1, .int .i64 b140_2, .int .i64 b140_3, .int .i64 b140_4, .str b140_5]⟩)]⟩ := by
  unfold L_flow_Of_1 at h
  rcases brk h with ⟨h0, k0⟩ | ⟨h0, k0⟩
  · subst h0
    replace h := k0
    have h := Option.some.inj h
    refine hc.ret hfin (fn := Try.f38) (by kernel_rfl) (orc := []) (m := 3) (d := .tup [.agg [.int .i64 0, .int .i64 0, .int .i64 0, .int .i64 0, .int .i64 0], .agg [.int .i64 0, .int .i64 0, .int .i64 0, .int .i64 0, .int .i64 0, .int .i64 0, .str ByteArray.empty], .int .i64 3]) (by kernel_rfl) .nil ?_ ?_
    · rw [← h]; exact Le.of rfl
    · rw [← h]; rfl
  · subst h0
    replace h := k0
    obtain ⟨v1, h1, h⟩ := bind_of h
    rcases brk h with ⟨h2, h⟩ | ⟨h2, h⟩
    · have h := Option.some.inj h
      refine hc.ret hfin (fn := Try.f38) (by kernel_rfl) (orc := [(6, [(8, { r := d_seg_Get v1 })]), (7, [(1, { cv := some (.bool true) })])]) (m := 11) (d := .tup [.agg [.int .i64 0, .int .i64 0, .int .i64 0, .int .i64 0, .int .i64 0], .agg [.int .i64 0, .int .i64 0, .int .i64 0, .int .i64 0, .int .i64 0, .int .i64 0, .str ByteArray.empty], .int .i64 1]) (by kernel_rfl) (.cons (c_seg_Get N b140_2 b140_5 b140_0 b140_1 h1) (.cons (Le.tt h2) .nil)) ?_ ?_
      · rw [← h]; exact Le.of rfl
      · rw [← h]; rfl
    · have h := Option.some.inj h
      refine hc.ret hfin (fn := Try.f38) (by kernel_rfl) (orc := [(6, [(8, { r := d_seg_Get v1 })]), (7, [(1, { cv := some (.bool false) })])]) (m := 12) (d := .tup [.agg [.int .i64 b140_0, .int .i64 b140_1, .int .i64 b140_2, .int .i64 v1.1.Sport, .int .i64 v1.1.Dport], .agg [.int .i64 v1.1.Proto, .int .i64 v1.1.Sport, .int .i64 v1.1.Dport, .int .i64 v1.1.Seq, .int .i64 v1.1.Ack, .int .i64 v1.1.Flags, .str v1.1.Body], .int .i64 0]) (by kernel_rfl) (.cons (c_seg_Get N b140_2 b140_5 b140_0 b140_1 h1) (.cons (Le.ff h2) .nil)) ?_ ?_
      · rw [← h]; exact Le.of rfl
      · rw [← h]; rfl

theorem g_flow_Of_0 {c : Cx} (hc : Is c Try.prog ty 38 62) (N : Nat) {r : GFlow × GSeg × Int} (hfin : c.Fin [] (d_flow_Of r) []) (x0 : ByteArray) (h : L_flow_Of N x0 = some r) : c.Goes (items (bodyOf Try.f38) [.c 1]) ⟨[(0, .str x0)], []⟩ := by
  unfold L_flow_Of at h
  obtain ⟨v1, h0, h⟩ := bind_of h
  rcases brk h with ⟨h1, h⟩ | ⟨h1, h⟩
  · have h := Option.some.inj h
    refine hc.ret hfin (fn := Try.f38) (by kernel_rfl) (orc := [(1, [(1, { r := d_ip_Get v1 })]), (2, [(2, { cv := some (.bool true) })])]) (m := 11) (d := .tup [.agg [.int .i64 0, .int .i64 0, .int .i64 0, .int .i64 0, .int .i64 0], .agg [.int .i64 0, .int .i64 0, .int .i64 0, .int .i64 0, .int .i64 0, .int .i64 0, .str ByteArray.empty], .int .i64 v1.2.1]) (by kernel_rfl) (.cons (c_ip_Get N x0 h0) (.cons (Le.tt h1) .nil)) ?_ ?_
    · rw [← h]; exact Le.of rfl
    · rw [← h]; rfl
  · obtain ⟨v2, h2, h⟩ := bind_of h
    rcases brk h with ⟨h3, h⟩ | ⟨h3, h⟩
    · exact hc.jump (orc := [(1, [(1, { r := d_ip_Get v1 })]), (2, [(2, { cv := some (.bool false) })]), (4, [(2, { r := d_flow_handled v2 }), (4, { cv := some (.bool true) })])]) (m := 11) (kt := [2, 3, 5, 22]) (kh := [(116, 116), (124, 124), (140, 140)]) (by kernel_rfl) (.cons (c_ip_Get N x0 h0) (.cons (Le.ff h1) (.cons (c_flow_handled N v1.1.Proto h2) (.cons (Le.tt h3) .nil)))) (g_flow_Of_1 hc N hfin 0 0 0 0 0 0 0 0 0 0 0 ByteArray.empty v1.1.Src v1.1.Dst v1.1.Proto v1.1.Ttl v1.1.Id v1.1.Body true h)
    · exact hc.jump (orc := [(1, [(1, { r := d_ip_Get v1 })]), (2, [(2, { cv := some (.bool false) })]), (4, [(2, { r := d_flow_handled v2 }), (4, { cv := some (.bool false) })])]) (m := 11) (kt := [2, 3, 5, 22]) (kh := [(116, 116), (124, 124), (140, 140)]) (by kernel_rfl) (.cons (c_ip_Get N x0 h0) (.cons (Le.ff h1) (.cons (c_flow_handled N v1.1.Proto h2) (.cons (Le.ff h3) .nil)))) (g_flow_Of_1 hc N hfin 0 0 0 0 0 0 0 0 0 0 0 ByteArray.empty v1.1.Src v1.1.Dst v1.1.Proto v1.1.Ttl v1.1.Id v1.1.Body (v1.1.Dst != 167772161) h)

theorem c_flow_Of (N : Nat) (x0 : ByteArray) {r : GFlow × GSeg × Int} (h : L_flow_Of N x0 = some r) : Con Try.prog 38 [.str x0] [] (d_flow_Of r) [] :=
  con_intro ok mix (fn := Try.f38) (body := bodyOf Try.f38) (by kernel_rfl) (by kernel_rfl) (by kernel_rfl) rfl (Nat.le_of_ble_eq_true (by kernel_rfl)) fun c h1 h2 h3 h4 hfin => g_flow_Of_0 ⟨h1, h2, h3, h4⟩ N hfin x0 h
/-! ### wharfage/event.Of -/
def L_event_Of (N : Nat) (x0 : Int) : Option (Int) :=
  bif (x0 == 1) then
    some 2
  else
    bif (x0 == 2) then
      some 3
    else
      some 4
def d_event_Of (r : Int) : D := .int .i64 r
theorem g_event_Of_0 {c : Cx} (hc : Is c Try.prog ty 72 8) (N : Nat) {r : Int} (hfin : c.Fin [] (d_event_Of r) []) (x0 : Int) (h : L_event_Of N x0 = some r) : c.Goes (items (bodyOf Try.f72) [.c 1]) ⟨[(0, .int .i64 x0)], []⟩ := by
  unfold L_event_Of at h
  rcases brk h with ⟨h0, h⟩ | ⟨h0, h⟩
  · have h := Option.some.inj h
    refine hc.ret hfin (fn := Try.f72) (by kernel_rfl) (orc := [(2, [(1, { cv := some (.bool true) })])]) (m := 11) (d := .int .i64 2) (by kernel_rfl) (.cons (Le.tt h0) .nil) ?_ ?_
    · rw [← h]; exact Le.of rfl
    · rw [← h]; rfl
  · rcases brk h with ⟨h1, h⟩ | ⟨h1, h⟩
    · have h := Option.some.inj h
      refine hc.ret hfin (fn := Try.f72) (by kernel_rfl) (orc := [(2, [(1, { cv := some (.bool false) })]), (4, [(1, { cv := some (.bool true) })])]) (m := 14) (d := .int .i64 3) (by kernel_rfl) (.cons (Le.ff h0) (.cons (Le.tt h1) .nil)) ?_ ?_
      · rw [← h]; exact Le.of rfl
      · rw [← h]; rfl
    · have h := Option.some.inj h
      refine hc.ret hfin (fn := Try.f72) (by kernel_rfl) (orc := [(2, [(1, { cv := some (.bool false) })]), (4, [(1, { cv := some (.bool false) })])]) (m := 16) (d := .int .i64 4) (by kernel_rfl) (.cons (Le.ff h0) (.cons (Le.ff h1) .nil)) ?_ ?_
      · rw [← h]; exact Le.of rfl
      · rw [← h]; rfl

theorem c_event_Of (N : Nat) (x0 : Int) {r : Int} (h : L_event_Of N x0 = some r) : Con Try.prog 72 [.int .i64 x0] [] (d_event_Of r) [] :=
  con_intro ok mix (fn := Try.f72) (body := bodyOf Try.f72) (by kernel_rfl) (by kernel_rfl) (by kernel_rfl) rfl (Nat.le_of_ble_eq_true (by kernel_rfl)) fun c h1 h2 h3 h4 hfin => g_event_Of_0 ⟨h1, h2, h3, h4⟩ N hfin x0 h
/-! ### wharfage/backend.Take -/
def L_backend_Take_1 (N : Nat) (t1 : Int) (b188_0 : Int) (b188_1 : Int) (b188_2 : Int) (b212_0 : Int) (b212_1 : Int) (b212_2 : Int) (b212_3 : Int) (b212_4 : Int) (b212_5 : ByteArray) (t68 : Bool) : Option (ByteArray × GOut × Int) :=
  bif t68 then
    (L_event_Teller_Alone N (Gevent_Teller.mk b188_0 b188_1 b188_2) 8 (GFlow.mk 0 0 0 0 0)).bind fun v1 =>
    some (ByteArray.empty, v1, 0)
  else
    (L_flow_Of N b212_5).bind fun v1 =>
    bif (v1.2.2 != 0) then
      (L_event_Of N v1.2.2).bind fun v2 =>
      (L_event_Teller_Alone N (Gevent_Teller.mk b188_0 b188_1 b188_2) v2 v1.1).bind fun v3 =>
      some (ByteArray.empty, v3, 0)
    else
      (L_event_Teller_Tell N (Gevent_Teller.mk b188_0 b188_1 b188_2) 1 t1 v1.1).bind fun v2 =>
      some (b212_5, (GOut.mk ([]) ([v2])), 0)
def L_backend_Take (N : Nat) (x0 : Int) (x1 : Int) (x2 : ByteArray) : Option (ByteArray × GOut × Int) :=
  (L_addr_Address N 2 x0 x1).bind fun v1 =>
  bif (v1.2 != 0) then
    some (ByteArray.empty, (GOut.mk ([]) ([])), 2100)
  else
    (L_addr_Address N 1 x0 0).bind fun v2 =>
    (L_gue_Pop N x2).bind fun v3 =>
    bif (v3.2 != 0) then
      L_backend_Take_1 N x1 2 x0 x1 v3.1.Src v3.1.Dst v3.1.Tier v3.1.Marker v3.1.Origin v3.1.Body true
    else
      bif (v3.1.Dst != v1.1) then
        L_backend_Take_1 N x1 2 x0 x1 v3.1.Src v3.1.Dst v3.1.Tier v3.1.Marker v3.1.Origin v3.1.Body true
      else
        bif (v3.1.Src != v2.1) then
          L_backend_Take_1 N x1 2 x0 x1 v3.1.Src v3.1.Dst v3.1.Tier v3.1.Marker v3.1.Origin v3.1.Body true
        else
          bif (v3.1.Tier != 3) then
            L_backend_Take_1 N x1 2 x0 x1 v3.1.Src v3.1.Dst v3.1.Tier v3.1.Marker v3.1.Origin v3.1.Body true
          else
            bif (v3.1.Marker != 0) then
              L_backend_Take_1 N x1 2 x0 x1 v3.1.Src v3.1.Dst v3.1.Tier v3.1.Marker v3.1.Origin v3.1.Body true
            else
              L_backend_Take_1 N x1 2 x0 x1 v3.1.Src v3.1.Dst v3.1.Tier v3.1.Marker v3.1.Origin v3.1.Body (v3.1.Origin != 0)
def d_backend_Take (r : ByteArray × GOut × Int) : D := .tup [.str r.1, .agg [.sl true (eL eStr r.2.1.Sent) r.2.1.Sent.length r.2.1.Sent.length, .sl true (eL eEvent r.2.1.Events) r.2.1.Events.length r.2.1.Events.length], .int .i64 r.2.2]
theorem g_backend_Take_1 {c : Cx} (hc : Is c Try.prog ty 44 94) (N : Nat) {r : ByteArray × GOut × Int} (hfin : c.Fin [] (d_backend_Take r) []) (t1 : Int) (b188_0 : Int) (b188_1 : Int) (b188_2 : Int) (b212_0 : Int) (b212_1 : Int) (b212_2 : Int) (b212_3 : Int) (b212_4 : Int) (b212_5 : ByteArray) (t68 : Bool) (h : L_backend_Take_1 N t1 b188_0 b188_1 b188_2 b212_0 b212_1 b212_2 b212_3 b212_4 b212_5 t68 = some r) : c.Goes (items (bodyOf Try.f44) [.c 447, .c 255]) ⟨[(1, .int .i64 t1), (7, .ptr 156 0), (11, .ptr 188 0), (14, .ptr 212 0), (68, .bool t68)], [(156, some ⟨false, 0, [.nils, .nils]⟩), (188, some ⟨false, 0, [.int .i64 b188_0, .int .i64 b188_1, .int .i64 b188_2]⟩), (212, some ⟨false, 0, [.int .i64 b212_0, .int .i64 b212_1, .int .i64 b212_2, .int .i64 b212_3, .int .i64 b212_4, .str b212_5]⟩)]⟩ := by
  unfold L_backend_Take_1 at h
  rcases brk h with ⟨h0, k0⟩ | ⟨h0, k0⟩
  · subst h0
    replace h := k0
    obtain ⟨v1, h1, h⟩ := bind_of h
    have h := Option.some.inj h
    refine hc.ret hfin (fn := Try.f44) (by kernel_rfl) (orc := [(8, [(2, { r := d_event_Teller_Alone v1 })])]) (m := 3) (d := .tup [.str ByteArray.empty, .agg [.sl true (eL eStr v1.Sent) v1.Sent.length v1.Sent.length, .sl true (eL eEvent v1.Events) v1.Events.length v1.Events.length], .int .i64 0]) (by kernel_rfl) (.cons (c_event_Teller_Alone N (Gevent_Teller.mk b188_0 b188_1 b188_2) 8 (GFlow.mk 0 0 0 0 0) h1) .nil) ?_ ?_
    · rw [← h]; exact Le.of rfl
    · rw [← h]; rfl
  · subst h0
    replace h := k0
    obtain ⟨v1, h1, h⟩ := bind_of h
    rcases brk h with ⟨h2, h⟩ | ⟨h2, h⟩
    · obtain ⟨v2, h3, h⟩ := bind_of h
      obtain ⟨v3, h4, h⟩ := bind_of h
      have h := Option.some.inj h
      refine hc.ret hfin (fn := Try.f44) (by kernel_rfl) (orc := [(9, [(2, { r := d_flow_Of v1 })]), (10, [(1, { cv := some (.bool true) })]), (11, [(2, { r := d_event_Of v2 }), (4, { r := d_event_Teller_Alone v3 })])]) (m := 10) (d := .tup [.str ByteArray.empty, .agg [.sl true (eL eStr v3.Sent) v3.Sent.length v3.Sent.length, .sl true (eL eEvent v3.Events) v3.Events.length v3.Events.length], .int .i64 0]) (by kernel_rfl) (.cons (c_flow_Of N b212_5 h1) (.cons (Le.tt h2) (.cons (c_event_Of N v1.2.2 h3) (.cons (c_event_Teller_Alone N (Gevent_Teller.mk b188_0 b188_1 b188_2) v2 v1.1 h4) .nil)))) ?_ ?_
      · rw [← h]; exact Le.of rfl
      · rw [← h]; rfl
    · obtain ⟨v2, h3, h⟩ := bind_of h
      have h := Option.some.inj h
      refine hc.ret hfin (fn := Try.f44) (by kernel_rfl) (orc := [(9, [(2, { r := d_flow_Of v1 })]), (10, [(1, { cv := some (.bool false) })]), (12, [(5, { r := d_event_Teller_Tell v2 }), (7, { frz := true })])]) (m := 11) (d := .tup [.str b212_5, .agg [.nils, .sl true (eL eEvent ([v2])) 1 1], .int .i64 0]) (by kernel_rfl) (.cons (c_flow_Of N b212_5 h1) (.cons (Le.ff h2) (.cons (c_event_Teller_Tell N (Gevent_Teller.mk b188_0 b188_1 b188_2) 1 t1 v1.1 h3) .nil))) ?_ ?_
      · rw [← h]; exact Le.tup ((.cons (Le.of rfl) (.cons (Le.agg ((.cons (Le.nils) (.cons (Le.of rfl) .nil)))) (.cons (Le.of rfl) .nil))))
      · rw [← h]; rfl

theorem g_backend_Take_0 {c : Cx} (hc : Is c Try.prog ty 44 94) (N : Nat) {r : ByteArray × GOut × Int} (hfin : c.Fin [] (d_backend_Take r) []) (x0 : Int) (x1 : Int) (x2 : ByteArray) (h : L_backend_Take N x0 x1 x2 = some r) : c.Goes (items (bodyOf Try.f44) [.c 1]) ⟨[(0, .int .i64 x0), (1, .int .i64 x1), (2, .str x2)], []⟩ := by
  unfold L_backend_Take at h
  obtain ⟨v1, h0, h⟩ := bind_of h
  rcases brk h with ⟨h1, h⟩ | ⟨h1, h⟩
  · have h := Option.some.inj h
    refine hc.ret hfin (fn := Try.f44) (by kernel_rfl) (orc := [(1, [(2, { r := d_addr_Address v1 })]), (2, [(1, { cv := some (.bool true) })])]) (m := 10) (d := .tup [.str ByteArray.empty, .agg [.nils, .nils], .int .i64 2100]) (by kernel_rfl) (.cons (c_addr_Address N 2 x0 x1 h0) (.cons (Le.tt h1) .nil)) ?_ ?_
    · rw [← h]; exact Le.tup ((.cons (Le.of rfl) (.cons (Le.agg ((.cons (Le.nils) (.cons (Le.nils) .nil)))) (.cons (Le.of rfl) .nil))))
    · rw [← h]; rfl
  · obtain ⟨v2, h2, h⟩ := bind_of h
    obtain ⟨v3, h3, h⟩ := bind_of h
    rcases brk h with ⟨h4, h⟩ | ⟨h4, h⟩
    · exact hc.jump (orc := [(1, [(2, { r := d_addr_Address v1 })]), (2, [(1, { cv := some (.bool false) })]), (5, [(1, { r := d_addr_Address v2 })]), (6, [(1, { r := d_gue_Pop v3 })]), (7, [(2, { cv := some (.bool true) })])]) (m := 18) (kt := [1, 7, 11, 14, 68]) (kh := [(156, 156), (188, 188), (212, 212)]) (by kernel_rfl) (.cons (c_addr_Address N 2 x0 x1 h0) (.cons (Le.ff h1) (.cons (c_addr_Address N 1 x0 0 h2) (.cons (c_gue_Pop N x2 h3) (.cons (Le.tt h4) .nil))))) (g_backend_Take_1 hc N hfin x1 2 x0 x1 v3.1.Src v3.1.Dst v3.1.Tier v3.1.Marker v3.1.Origin v3.1.Body true h)
    · rcases brk h with ⟨h5, h⟩ | ⟨h5, h⟩
      · exact hc.jump (orc := [(1, [(2, { r := d_addr_Address v1 })]), (2, [(1, { cv := some (.bool false) })]), (5, [(1, { r := d_addr_Address v2 })]), (6, [(1, { r := d_gue_Pop v3 })]), (7, [(2, { cv := some (.bool false) }), (8, { cv := some (.bool true) })])]) (m := 18) (kt := [1, 7, 11, 14, 68]) (kh := [(156, 156), (188, 188), (212, 212)]) (by kernel_rfl) (.cons (c_addr_Address N 2 x0 x1 h0) (.cons (Le.ff h1) (.cons (c_addr_Address N 1 x0 0 h2) (.cons (c_gue_Pop N x2 h3) (.cons (Le.ff h4) (.cons (Le.tt h5) .nil)))))) (g_backend_Take_1 hc N hfin x1 2 x0 x1 v3.1.Src v3.1.Dst v3.1.Tier v3.1.Marker v3.1.Origin v3.1.Body true h)
      · rcases brk h with ⟨h6, h⟩ | ⟨h6, h⟩
        · exact hc.jump (orc := [(1, [(2, { r := d_addr_Address v1 })]), (2, [(1, { cv := some (.bool false) })]), (5, [(1, { r := d_addr_Address v2 })]), (6, [(1, { r := d_gue_Pop v3 })]), (7, [(2, { cv := some (.bool false) }), (8, { cv := some (.bool false) }), (14, { cv := some (.bool true) })])]) (m := 18) (kt := [1, 7, 11, 14, 68]) (kh := [(156, 156), (188, 188), (212, 212)]) (by kernel_rfl) (.cons (c_addr_Address N 2 x0 x1 h0) (.cons (Le.ff h1) (.cons (c_addr_Address N 1 x0 0 h2) (.cons (c_gue_Pop N x2 h3) (.cons (Le.ff h4) (.cons (Le.ff h5) (.cons (Le.tt h6) .nil))))))) (g_backend_Take_1 hc N hfin x1 2 x0 x1 v3.1.Src v3.1.Dst v3.1.Tier v3.1.Marker v3.1.Origin v3.1.Body true h)
        · rcases brk h with ⟨h7, h⟩ | ⟨h7, h⟩
          · exact hc.jump (orc := [(1, [(2, { r := d_addr_Address v1 })]), (2, [(1, { cv := some (.bool false) })]), (5, [(1, { r := d_addr_Address v2 })]), (6, [(1, { r := d_gue_Pop v3 })]), (7, [(2, { cv := some (.bool false) }), (8, { cv := some (.bool false) }), (14, { cv := some (.bool false) }), (19, { cv := some (.bool true) })])]) (m := 18) (kt := [1, 7, 11, 14, 68]) (kh := [(156, 156), (188, 188), (212, 212)]) (by kernel_rfl) (.cons (c_addr_Address N 2 x0 x1 h0) (.cons (Le.ff h1) (.cons (c_addr_Address N 1 x0 0 h2) (.cons (c_gue_Pop N x2 h3) (.cons (Le.ff h4) (.cons (Le.ff h5) (.cons (Le.ff h6) (.cons (Le.tt h7) .nil)))))))) (g_backend_Take_1 hc N hfin x1 2 x0 x1 v3.1.Src v3.1.Dst v3.1.Tier v3.1.Marker v3.1.Origin v3.1.Body true h)
          · rcases brk h with ⟨h8, h⟩ | ⟨h8, h⟩
            · exact hc.jump (orc := [(1, [(2, { r := d_addr_Address v1 })]), (2, [(1, { cv := some (.bool false) })]), (5, [(1, { r := d_addr_Address v2 })]), (6, [(1, { r := d_gue_Pop v3 })]), (7, [(2, { cv := some (.bool false) }), (8, { cv := some (.bool false) }), (14, { cv := some (.bool false) }), (19, { cv := some (.bool false) }), (24, { cv := some (.bool true) })])]) (m := 18) (kt := [1, 7, 11, 14, 68]) (kh := [(156, 156), (188, 188), (212, 212)]) (by kernel_rfl) (.cons (c_addr_Address N 2 x0 x1 h0) (.cons (Le.ff h1) (.cons (c_addr_Address N 1 x0 0 h2) (.cons (c_gue_Pop N x2 h3) (.cons (Le.ff h4) (.cons (Le.ff h5) (.cons (Le.ff h6) (.cons (Le.ff h7) (.cons (Le.tt h8) .nil))))))))) (g_backend_Take_1 hc N hfin x1 2 x0 x1 v3.1.Src v3.1.Dst v3.1.Tier v3.1.Marker v3.1.Origin v3.1.Body true h)
            · exact hc.jump (orc := [(1, [(2, { r := d_addr_Address v1 })]), (2, [(1, { cv := some (.bool false) })]), (5, [(1, { r := d_addr_Address v2 })]), (6, [(1, { r := d_gue_Pop v3 })]), (7, [(2, { cv := some (.bool false) }), (8, { cv := some (.bool false) }), (14, { cv := some (.bool false) }), (19, { cv := some (.bool false) }), (24, { cv := some (.bool false) })])]) (m := 18) (kt := [1, 7, 11, 14, 68]) (kh := [(156, 156), (188, 188), (212, 212)]) (by kernel_rfl) (.cons (c_addr_Address N 2 x0 x1 h0) (.cons (Le.ff h1) (.cons (c_addr_Address N 1 x0 0 h2) (.cons (c_gue_Pop N x2 h3) (.cons (Le.ff h4) (.cons (Le.ff h5) (.cons (Le.ff h6) (.cons (Le.ff h7) (.cons (Le.ff h8) .nil))))))))) (g_backend_Take_1 hc N hfin x1 2 x0 x1 v3.1.Src v3.1.Dst v3.1.Tier v3.1.Marker v3.1.Origin v3.1.Body (v3.1.Origin != 0) h)

theorem c_backend_Take (N : Nat) (x0 : Int) (x1 : Int) (x2 : ByteArray) {r : ByteArray × GOut × Int} (h : L_backend_Take N x0 x1 x2 = some r) : Con Try.prog 44 [.int .i64 x0, .int .i64 x1, .str x2] [] (d_backend_Take r) [] :=
  con_intro ok mix (fn := Try.f44) (body := bodyOf Try.f44) (by kernel_rfl) (by kernel_rfl) (by kernel_rfl) rfl (Nat.le_of_ble_eq_true (by kernel_rfl)) fun c h1 h2 h3 h4 hfin => g_backend_Take_0 ⟨h1, h2, h3, h4⟩ N hfin x0 x1 x2 h
/-! ### wharfage/wharfageref1.Address -/
def L_ref1_Address_3 (N : Nat) (t1 : Int) (t2 : Int) (t42 : Bool) : Option (Int × Int) :=
  bif t42 then
    via ((IntKind.i64.wrap ((167968768 : Int) + (IntKind.i64.wrap ((256 : Int) * t1)))) : Int) fun v1 =>
    some ((IntKind.i64.wrap (v1 + t2)), 0)
  else
    some (0, 500)
def L_ref1_Address_2 (N : Nat) (t0 : Int) (t1 : Int) (t2 : Int) (t25 : Bool) : Option (Int × Int) :=
  bif t25 then
    some ((IntKind.i64.wrap ((167903232 : Int) + t1)), 0)
  else
    bif (t0 == 2) then
      bif (decide (t1 ≥ 0)) then
        bif (decide (t1 < 3)) then
          bif (decide (t2 ≥ 0)) then
            L_ref1_Address_3 N t1 t2 (decide (t2 < 4))
          else
            L_ref1_Address_3 N t1 t2 false
        else
          L_ref1_Address_3 N t1 t2 false
      else
        L_ref1_Address_3 N t1 t2 false
    else
      L_ref1_Address_3 N t1 t2 false
def L_ref1_Address_1 (N : Nat) (t0 : Int) (t1 : Int) (t2 : Int) (t8 : Bool) : Option (Int × Int) :=
  bif t8 then
    some ((IntKind.i64.wrap ((167837696 : Int) + t2)), 0)
  else
    bif (t0 == 1) then
      bif (t2 == 0) then
        bif (decide (t1 ≥ 0)) then
          L_ref1_Address_2 N t0 t1 t2 (decide (t1 < 3))
        else
          L_ref1_Address_2 N t0 t1 t2 false
      else
        L_ref1_Address_2 N t0 t1 t2 false
    else
      L_ref1_Address_2 N t0 t1 t2 false
def L_ref1_Address (N : Nat) (x0 : Int) (x1 : Int) (x2 : Int) : Option (Int × Int) :=
  bif (x0 == 0) then
    bif (x1 == 0) then
      bif (decide (x2 ≥ 0)) then
        L_ref1_Address_1 N x0 x1 x2 (decide (x2 < 2))
      else
        L_ref1_Address_1 N x0 x1 x2 false
    else
      L_ref1_Address_1 N x0 x1 x2 false
  else
    L_ref1_Address_1 N x0 x1 x2 false
def d_ref1_Address (r : Int × Int) : D := .tup [.int .i64 r.1, .int .i64 r.2]
theorem g_ref1_Address_3 {c : Cx} (hc : Is c Try.prog ty 74 66) (N : Nat) {r : Int × Int} (hfin : c.Fin [] (d_ref1_Address r) []) (t1 : Int) (t2 : Int) (t42 : Bool) (h : L_ref1_Address_3 N t1 t2 t42 = some r) : c.Goes (items (bodyOf Try.f74) [.c 505, .b 0, .c 7]) ⟨[(1, .int .i64 t1), (2, .int .i64 t2), (42, .bool t42)], []⟩ := by
  unfold L_ref1_Address_3 at h
  rcases brk h with ⟨h0, k0⟩ | ⟨h0, k0⟩
  · subst h0
    replace h := k0
    obtain ⟨v1, h1, h⟩ := via_some h
    have h := Option.some.inj h
    refine hc.ret hfin (fn := Try.f74) (by kernel_rfl) (orc := [(6, [(2, { cv := some (.int .i64 v1) })])]) (m := 3) (d := .tup [.int .i64 (IntKind.i64.wrap (v1 + t2)), .int .i64 0]) (by kernel_rfl) (.cons (Le.int (k := .i64) h1) .nil) ?_ ?_
    · rw [← h]; exact Le.of rfl
    · rw [← h]; rfl
  · subst h0
    replace h := k0
    have h := Option.some.inj h
    refine hc.ret hfin (fn := Try.f74) (by kernel_rfl) (orc := []) (m := 5) (d := .tup [.int .i64 0, .int .i64 500]) (by kernel_rfl) .nil ?_ ?_
    · rw [← h]; exact Le.of rfl
    · rw [← h]; rfl

theorem g_ref1_Address_2 {c : Cx} (hc : Is c Try.prog ty 74 66) (N : Nat) {r : Int × Int} (hfin : c.Fin [] (d_ref1_Address r) []) (t0 : Int) (t1 : Int) (t2 : Int) (t25 : Bool) (h : L_ref1_Address_2 N t0 t1 t2 t25 = some r) : c.Goes (items (bodyOf Try.f74) [.c 121, .b 0, .c 7]) ⟨[(0, .int .i64 t0), (1, .int .i64 t1), (2, .int .i64 t2), (25, .bool t25)], []⟩ := by
  unfold L_ref1_Address_2 at h
  rcases brk h with ⟨h0, k0⟩ | ⟨h0, k0⟩
  · subst h0
    replace h := k0
    have h := Option.some.inj h
    refine hc.ret hfin (fn := Try.f74) (by kernel_rfl) (orc := []) (m := 3) (d := .tup [.int .i64 (IntKind.i64.wrap ((167903232 : Int) + t1)), .int .i64 0]) (by kernel_rfl) .nil ?_ ?_
    · rw [← h]; exact Le.of rfl
    · rw [← h]; rfl
  · subst h0
    replace h := k0
    rcases brk h with ⟨h1, h⟩ | ⟨h1, h⟩
    · rcases brk h with ⟨h2, h⟩ | ⟨h2, h⟩
      · rcases brk h with ⟨h3, h⟩ | ⟨h3, h⟩
        · rcases brk h with ⟨h4, h⟩ | ⟨h4, h⟩
          · exact hc.jump (orc := [(5, [(2, { cv := some (.bool true) }), (6, { cv := some (.bool true) }), (10, { cv := some (.bool true) }), (14, { cv := some (.bool true) })])]) (m := 3) (kt := [1, 2, 42]) (kh := []) (by kernel_rfl) (.cons (Le.tt h1) (.cons (Le.tt h2) (.cons (Le.tt h3) (.cons (Le.tt h4) .nil)))) (g_ref1_Address_3 hc N hfin t1 t2 (decide (t2 < 4)) h)
          · exact hc.jump (orc := [(5, [(2, { cv := some (.bool true) }), (6, { cv := some (.bool true) }), (10, { cv := some (.bool true) }), (14, { cv := some (.bool false) })])]) (m := 3) (kt := [1, 2, 42]) (kh := []) (by kernel_rfl) (.cons (Le.tt h1) (.cons (Le.tt h2) (.cons (Le.tt h3) (.cons (Le.ff h4) .nil)))) (g_ref1_Address_3 hc N hfin t1 t2 false h)
        · exact hc.jump (orc := [(5, [(2, { cv := some (.bool true) }), (6, { cv := some (.bool true) }), (10, { cv := some (.bool false) })])]) (m := 3) (kt := [1, 2, 42]) (kh := []) (by kernel_rfl) (.cons (Le.tt h1) (.cons (Le.tt h2) (.cons (Le.ff h3) .nil))) (g_ref1_Address_3 hc N hfin t1 t2 false h)
      · exact hc.jump (orc := [(5, [(2, { cv := some (.bool true) }), (6, { cv := some (.bool false) })])]) (m := 3) (kt := [1, 2, 42]) (kh := []) (by kernel_rfl) (.cons (Le.tt h1) (.cons (Le.ff h2) .nil)) (g_ref1_Address_3 hc N hfin t1 t2 false h)
    · exact hc.jump (orc := [(5, [(2, { cv := some (.bool false) })])]) (m := 3) (kt := [1, 2, 42]) (kh := []) (by kernel_rfl) (.cons (Le.ff h1) .nil) (g_ref1_Address_3 hc N hfin t1 t2 false h)

theorem g_ref1_Address_1 {c : Cx} (hc : Is c Try.prog ty 74 66) (N : Nat) {r : Int × Int} (hfin : c.Fin [] (d_ref1_Address r) []) (t0 : Int) (t1 : Int) (t2 : Int) (t8 : Bool) (h : L_ref1_Address_1 N t0 t1 t2 t8 = some r) : c.Goes (items (bodyOf Try.f74) [.c 25, .b 0, .c 7]) ⟨[(0, .int .i64 t0), (1, .int .i64 t1), (2, .int .i64 t2), (8, .bool t8)], []⟩ := by
  unfold L_ref1_Address_1 at h
  rcases brk h with ⟨h0, k0⟩ | ⟨h0, k0⟩
  · subst h0
    replace h := k0
    have h := Option.some.inj h
    refine hc.ret hfin (fn := Try.f74) (by kernel_rfl) (orc := []) (m := 3) (d := .tup [.int .i64 (IntKind.i64.wrap ((167837696 : Int) + t2)), .int .i64 0]) (by kernel_rfl) .nil ?_ ?_
    · rw [← h]; exact Le.of rfl
    · rw [← h]; rfl
  · subst h0
    replace h := k0
    rcases brk h with ⟨h1, h⟩ | ⟨h1, h⟩
    · rcases brk h with ⟨h2, h⟩ | ⟨h2, h⟩
      · rcases brk h with ⟨h3, h⟩ | ⟨h3, h⟩
        · exact hc.jump (orc := [(3, [(2, { cv := some (.bool true) }), (6, { cv := some (.bool true) }), (10, { cv := some (.bool true) })])]) (m := 3) (kt := [0, 1, 2, 25]) (kh := []) (by kernel_rfl) (.cons (Le.tt h1) (.cons (Le.tt h2) (.cons (Le.tt h3) .nil))) (g_ref1_Address_2 hc N hfin t0 t1 t2 (decide (t1 < 3)) h)
        · exact hc.jump (orc := [(3, [(2, { cv := some (.bool true) }), (6, { cv := some (.bool true) }), (10, { cv := some (.bool false) })])]) (m := 3) (kt := [0, 1, 2, 25]) (kh := []) (by kernel_rfl) (.cons (Le.tt h1) (.cons (Le.tt h2) (.cons (Le.ff h3) .nil))) (g_ref1_Address_2 hc N hfin t0 t1 t2 false h)
      · exact hc.jump (orc := [(3, [(2, { cv := some (.bool true) }), (6, { cv := some (.bool false) })])]) (m := 3) (kt := [0, 1, 2, 25]) (kh := []) (by kernel_rfl) (.cons (Le.tt h1) (.cons (Le.ff h2) .nil)) (g_ref1_Address_2 hc N hfin t0 t1 t2 false h)
    · exact hc.jump (orc := [(3, [(2, { cv := some (.bool false) })])]) (m := 3) (kt := [0, 1, 2, 25]) (kh := []) (by kernel_rfl) (.cons (Le.ff h1) .nil) (g_ref1_Address_2 hc N hfin t0 t1 t2 false h)

theorem g_ref1_Address_0 {c : Cx} (hc : Is c Try.prog ty 74 66) (N : Nat) {r : Int × Int} (hfin : c.Fin [] (d_ref1_Address r) []) (x0 : Int) (x1 : Int) (x2 : Int) (h : L_ref1_Address N x0 x1 x2 = some r) : c.Goes (items (bodyOf Try.f74) [.c 1]) ⟨[(0, .int .i64 x0), (1, .int .i64 x1), (2, .int .i64 x2)], []⟩ := by
  unfold L_ref1_Address at h
  rcases brk h with ⟨h0, h⟩ | ⟨h0, h⟩
  · rcases brk h with ⟨h1, h⟩ | ⟨h1, h⟩
    · rcases brk h with ⟨h2, h⟩ | ⟨h2, h⟩
      · exact hc.jump (orc := [(1, [(2, { cv := some (.bool true) }), (6, { cv := some (.bool true) }), (10, { cv := some (.bool true) })])]) (m := 6) (kt := [0, 1, 2, 8]) (kh := []) (by kernel_rfl) (.cons (Le.tt h0) (.cons (Le.tt h1) (.cons (Le.tt h2) .nil))) (g_ref1_Address_1 hc N hfin x0 x1 x2 (decide (x2 < 2)) h)
      · exact hc.jump (orc := [(1, [(2, { cv := some (.bool true) }), (6, { cv := some (.bool true) }), (10, { cv := some (.bool false) })])]) (m := 6) (kt := [0, 1, 2, 8]) (kh := []) (by kernel_rfl) (.cons (Le.tt h0) (.cons (Le.tt h1) (.cons (Le.ff h2) .nil))) (g_ref1_Address_1 hc N hfin x0 x1 x2 false h)
    · exact hc.jump (orc := [(1, [(2, { cv := some (.bool true) }), (6, { cv := some (.bool false) })])]) (m := 6) (kt := [0, 1, 2, 8]) (kh := []) (by kernel_rfl) (.cons (Le.tt h0) (.cons (Le.ff h1) .nil)) (g_ref1_Address_1 hc N hfin x0 x1 x2 false h)
  · exact hc.jump (orc := [(1, [(2, { cv := some (.bool false) })])]) (m := 6) (kt := [0, 1, 2, 8]) (kh := []) (by kernel_rfl) (.cons (Le.ff h0) .nil) (g_ref1_Address_1 hc N hfin x0 x1 x2 false h)

theorem c_ref1_Address (N : Nat) (x0 : Int) (x1 : Int) (x2 : Int) {r : Int × Int} (h : L_ref1_Address N x0 x1 x2 = some r) : Con Try.prog 74 [.int .i64 x0, .int .i64 x1, .int .i64 x2] [] (d_ref1_Address r) [] :=
  con_intro ok mix (fn := Try.f74) (body := bodyOf Try.f74) (by kernel_rfl) (by kernel_rfl) (by kernel_rfl) rfl (Nat.le_of_ble_eq_true (by kernel_rfl)) fun c h1 h2 h3 h4 hfin => g_ref1_Address_0 ⟨h1, h2, h3, h4⟩ N hfin x0 x1 x2 h
/-! ### wharfage/wharfageref1.Of -/
def L_ref1_Of_1 (N : Nat) : Nat → ByteArray → Int → Int → Option (Int)
  | 0, _, _, _ => none
  | fuel + 1, t0, t3, t4 =>
    bif (decide (t4 < (t0.size : Int))) then
      if 0 ≤ t4 ∧ t4 < (t0.size : Int) then
      via ((bOr .i64 (IntKind.i64.wrap (t3 * 2 ^ 8)) (IntKind.i64.wrap (bt t0 t4))) : Int) fun v1 =>
      L_ref1_Of_1 N fuel t0 v1 (IntKind.i64.wrap (t4 + 1))
      else none
    else
      some t3
def L_ref1_Of (N : Nat) (x0 : ByteArray) : Option (Int) :=
  L_ref1_Of_1 N N x0 0 0
def d_ref1_Of (r : Int) : D := .int .i64 r
theorem g_ref1_Of_1 {c : Cx} (hc : Is c Try.prog ty 65 19) (N : Nat) {r : Int} (hfin : c.Fin [] (d_ref1_Of r) []) : ∀ (fuel : Nat) (t0 : ByteArray) (t3 : Int) (t4 : Int), L_ref1_Of_1 N fuel t0 t3 t4 = some r → c.Goes (items (bodyOf Try.f65) [.c 75, .l 75, .b 0, .c 15]) ⟨[(0, .str t0), (3, .int .i64 t3), (4, .int .i64 t4)], []⟩ := by
  intro fuel
  induction fuel with
  | zero => intro t0 t3 t4 h; simp [L_ref1_Of_1] at h
  | succ fuel ih =>
    intro t0 t3 t4 h
    unfold L_ref1_Of_1 at h
    rcases brk h with ⟨h0, h⟩ | ⟨h0, h⟩
    · obtain ⟨h1, h⟩ := chk h
      obtain ⟨v1, h2, h⟩ := via_some h
      exact hc.jump (orc := [(3, [(3, { cv := some (.bool true) })]), (5, [(6, { cv := some (.int .i64 v1) })])]) (m := 11) (kt := [0, 3, 4]) (kh := []) (by kernel_rfl) (.cons (Le.tt h0) (.cons ((by decide : (0:Int) ≤ 8)) (.cons (h1) (.cons (Le.int (k := .i64) h2) .nil)))) (ih t0 v1 (IntKind.i64.wrap (t4 + 1)) h)
    · have h := Option.some.inj h
      refine hc.ret hfin (fn := Try.f65) (by kernel_rfl) (orc := [(3, [(3, { cv := some (.bool false) })])]) (m := 7) (d := .int .i64 t3) (by kernel_rfl) (.cons (Le.ff h0) .nil) ?_ ?_
      · rw [← h]; exact Le.of rfl
      · rw [← h]; rfl

theorem g_ref1_Of_0 {c : Cx} (hc : Is c Try.prog ty 65 19) (N : Nat) {r : Int} (hfin : c.Fin [] (d_ref1_Of r) []) (x0 : ByteArray) (h : L_ref1_Of N x0 = some r) : c.Goes (items (bodyOf Try.f65) [.c 1]) ⟨[(0, .str x0)], []⟩ := by
  unfold L_ref1_Of at h
  exact hc.jump (orc := []) (m := 9) (kt := [0, 3, 4]) (kh := []) (by kernel_rfl) .nil (g_ref1_Of_1 hc N hfin N x0 0 0 h)

theorem c_ref1_Of (N : Nat) (x0 : ByteArray) {r : Int} (h : L_ref1_Of N x0 = some r) : Con Try.prog 65 [.str x0] [] (d_ref1_Of r) [] :=
  con_intro ok mix (fn := Try.f65) (body := bodyOf Try.f65) (by kernel_rfl) (by kernel_rfl) (by kernel_rfl) rfl (Nat.le_of_ble_eq_true (by kernel_rfl)) fun c h1 h2 h3 h4 hfin => g_ref1_Of_0 ⟨h1, h2, h3, h4⟩ N hfin x0 h
/-! ### wharfage/wharfageref1.fold -/
def L_ref1_fold_1 (N : Nat) : Nat → Int → Option (Int)
  | 0, _ => none
  | fuel + 1, t0 =>
    bif (decide (t0 > 65535)) then
      via ((IntKind.i64.wrap ((bAnd .i64 t0 65535) + (t0.fdiv (2 ^ 16)))) : Int) fun v1 =>
      L_ref1_fold_1 N fuel v1
    else
      some t0
def L_ref1_fold (N : Nat) (x0 : Int) : Option (Int) :=
  L_ref1_fold_1 N N x0
def d_ref1_fold (r : Int) : D := .int .i64 r
theorem g_ref1_fold_1 {c : Cx} (hc : Is c Try.prog ty 87 11) (N : Nat) {r : Int} (hfin : c.Fin [] (d_ref1_fold r) []) : ∀ (fuel : Nat) (t0 : Int), L_ref1_fold_1 N fuel t0 = some r → c.Goes (items (bodyOf Try.f87) [.c 17, .l 17, .b 0, .c 7]) ⟨[(0, .int .i64 t0)], []⟩ := by
  intro fuel
  induction fuel with
  | zero => intro t0 h; simp [L_ref1_fold_1] at h
  | succ fuel ih =>
    intro t0 h
    unfold L_ref1_fold_1 at h
    rcases brk h with ⟨h0, h⟩ | ⟨h0, h⟩
    · obtain ⟨v1, h1, h⟩ := via_some h
      exact hc.jump (orc := [(1, [(1, { cv := some (.bool true) })]), (2, [(4, { cv := some (.int .i64 v1) })])]) (m := 9) (kt := [0]) (kh := []) (by kernel_rfl) (.cons (Le.tt h0) (.cons ((by decide : (0:Int) ≤ 16)) (.cons (Le.int (k := .i64) h1) .nil))) (ih v1 h)
    · have h := Option.some.inj h
      refine hc.ret hfin (fn := Try.f87) (by kernel_rfl) (orc := [(1, [(1, { cv := some (.bool false) })])]) (m := 7) (d := .int .i64 t0) (by kernel_rfl) (.cons (Le.ff h0) .nil) ?_ ?_
      · rw [← h]; exact Le.of rfl
      · rw [← h]; rfl

theorem g_ref1_fold_0 {c : Cx} (hc : Is c Try.prog ty 87 11) (N : Nat) {r : Int} (hfin : c.Fin [] (d_ref1_fold r) []) (x0 : Int) (h : L_ref1_fold N x0 = some r) : c.Goes (items (bodyOf Try.f87) [.c 1]) ⟨[(0, .int .i64 x0)], []⟩ := by
  unfold L_ref1_fold at h
  exact hc.jump (orc := []) (m := 5) (kt := [0]) (kh := []) (by kernel_rfl) .nil (g_ref1_fold_1 hc N hfin N x0 h)

theorem c_ref1_fold (N : Nat) (x0 : Int) {r : Int} (h : L_ref1_fold N x0 = some r) : Con Try.prog 87 [.int .i64 x0] [] (d_ref1_fold r) [] :=
  con_intro ok mix (fn := Try.f87) (body := bodyOf Try.f87) (by kernel_rfl) (by kernel_rfl) (by kernel_rfl) rfl (Nat.le_of_ble_eq_true (by kernel_rfl)) fun c h1 h2 h3 h4 hfin => g_ref1_fold_0 ⟨h1, h2, h3, h4⟩ N hfin x0 h
/-! ### wharfage/wharfageref1.Sum -/
def L_ref1_Sum_2 (N : Nat) (r1 : ByteArray → Int → Int → Option (Int)) (t0 : ByteArray) (t3 : Int) (t4 : Int) : Option (Int) :=
  (L_ref1_fold N t3).bind fun v1 =>
  r1 t0 v1 (IntKind.i64.wrap (t4 + 2))
def L_ref1_Sum_1 (N : Nat) : Nat → ByteArray → Int → Int → Option (Int)
  | 0, _, _, _ => none
  | fuel + 1, t0, t3, t4 =>
    bif (decide (t4 < (t0.size : Int))) then
      if 0 ≤ t4 ∧ t4 < (t0.size : Int) then
      via ((IntKind.i64.wrap ((IntKind.i64.wrap (bt t0 t4)) * 2 ^ 8)) : Int) fun v1 =>
      bif (decide ((IntKind.i64.wrap (t4 + 1)) < (t0.size : Int))) then
        if 0 ≤ (IntKind.i64.wrap (t4 + 1)) ∧ (IntKind.i64.wrap (t4 + 1)) < (t0.size : Int) then
        via ((IntKind.i64.wrap (bt t0 (IntKind.i64.wrap (t4 + 1)))) : Int) fun v2 =>
        via ((IntKind.i64.wrap ((IntKind.i64.wrap (t3 + v1)) + v2)) : Int) fun v3 =>
        L_ref1_Sum_2 N (L_ref1_Sum_1 N fuel) t0 v3 t4
        else none
      else
        L_ref1_Sum_2 N (L_ref1_Sum_1 N fuel) t0 (IntKind.i64.wrap (t3 + v1)) t4
      else none
    else
      some t3
def L_ref1_Sum (N : Nat) (x0 : ByteArray) : Option (Int) :=
  L_ref1_Sum_1 N N x0 0 0
def d_ref1_Sum (r : Int) : D := .int .i64 r
theorem g_ref1_Sum_2 {c : Cx} (hc : Is c Try.prog ty 69 33) (N : Nat) {r : Int} (hfin : c.Fin [] (d_ref1_Sum r) []) (r1 : ByteArray → Int → Int → Option (Int)) (hr1 : ∀ (t0 : ByteArray) (t3 : Int) (t4 : Int), r1 t0 t3 t4 = some r → c.Goes (items (bodyOf Try.f69) [.c 75, .l 75, .b 0, .c 15]) ⟨[(0, .str t0), (3, .int .i64 t3), (4, .int .i64 t4)], []⟩) (t0 : ByteArray) (t3 : Int) (t4 : Int) (h : L_ref1_Sum_2 N r1 t0 t3 t4 = some r) : c.Goes (items (bodyOf Try.f69) [.c 3659, .b 1, .c 459, .l 75, .b 0, .c 15]) ⟨[(0, .str t0), (3, .int .i64 t3), (4, .int .i64 t4)], []⟩ := by
  unfold L_ref1_Sum_2 at h
  obtain ⟨v1, h0, h⟩ := bind_of h
  exact hc.jump (orc := [(8, [(1, { r := d_ref1_fold v1 })])]) (m := 4) (kt := [0, 3, 4]) (kh := []) (by kernel_rfl) (.cons (c_ref1_fold N t3 h0) .nil) (hr1 t0 v1 (IntKind.i64.wrap (t4 + 2)) h)

theorem g_ref1_Sum_1 {c : Cx} (hc : Is c Try.prog ty 69 33) (N : Nat) {r : Int} (hfin : c.Fin [] (d_ref1_Sum r) []) : ∀ (fuel : Nat) (t0 : ByteArray) (t3 : Int) (t4 : Int), L_ref1_Sum_1 N fuel t0 t3 t4 = some r → c.Goes (items (bodyOf Try.f69) [.c 75, .l 75, .b 0, .c 15]) ⟨[(0, .str t0), (3, .int .i64 t3), (4, .int .i64 t4)], []⟩ := by
  intro fuel
  induction fuel with
  | zero => intro t0 t3 t4 h; simp [L_ref1_Sum_1] at h
  | succ fuel ih =>
    intro t0 t3 t4 h
    unfold L_ref1_Sum_1 at h
    rcases brk h with ⟨h0, h⟩ | ⟨h0, h⟩
    · obtain ⟨h1, h⟩ := chk h
      obtain ⟨v1, h2, h⟩ := via_some h
      rcases brk h with ⟨h3, h⟩ | ⟨h3, h⟩
      · obtain ⟨h4, h⟩ := chk h
        obtain ⟨v2, h5, h⟩ := via_some h
        obtain ⟨v3, h6, h⟩ := via_some h
        exact hc.jump (orc := [(3, [(3, { cv := some (.bool true) })]), (5, [(5, { cv := some (.int .i64 v1) })]), (6, [(4, { cv := some (.bool true) })]), (7, [(5, { cv := some (.int .i64 v2) }), (6, { cv := some (.int .i64 v3) })])]) (m := 14) (kt := [0, 3, 4]) (kh := []) (by kernel_rfl) (.cons (Le.tt h0) (.cons (h1) (.cons ((by decide : (0:Int) ≤ 8)) (.cons (Le.int (k := .i64) h2) (.cons (Le.tt h3) (.cons (h4) (.cons (Le.int (k := .i64) h5) (.cons (Le.int (k := .i64) h6) .nil)))))))) (g_ref1_Sum_2 hc N hfin (L_ref1_Sum_1 N fuel) ih t0 v3 t4 h)
      · exact hc.jump (orc := [(3, [(3, { cv := some (.bool true) })]), (5, [(5, { cv := some (.int .i64 v1) })]), (6, [(4, { cv := some (.bool false) })])]) (m := 14) (kt := [0, 3, 4]) (kh := []) (by kernel_rfl) (.cons (Le.tt h0) (.cons (h1) (.cons ((by decide : (0:Int) ≤ 8)) (.cons (Le.int (k := .i64) h2) (.cons (Le.ff h3) .nil))))) (g_ref1_Sum_2 hc N hfin (L_ref1_Sum_1 N fuel) ih t0 (IntKind.i64.wrap (t3 + v1)) t4 h)
    · have h := Option.some.inj h
      refine hc.ret hfin (fn := Try.f69) (by kernel_rfl) (orc := [(3, [(3, { cv := some (.bool false) })])]) (m := 7) (d := .int .i64 t3) (by kernel_rfl) (.cons (Le.ff h0) .nil) ?_ ?_
      · rw [← h]; exact Le.of rfl
      · rw [← h]; rfl

theorem g_ref1_Sum_0 {c : Cx} (hc : Is c Try.prog ty 69 33) (N : Nat) {r : Int} (hfin : c.Fin [] (d_ref1_Sum r) []) (x0 : ByteArray) (h : L_ref1_Sum N x0 = some r) : c.Goes (items (bodyOf Try.f69) [.c 1]) ⟨[(0, .str x0)], []⟩ := by
  unfold L_ref1_Sum at h
  exact hc.jump (orc := []) (m := 9) (kt := [0, 3, 4]) (kh := []) (by kernel_rfl) .nil (g_ref1_Sum_1 hc N hfin N x0 0 0 h)

theorem c_ref1_Sum (N : Nat) (x0 : ByteArray) {r : Int} (h : L_ref1_Sum N x0 = some r) : Con Try.prog 69 [.str x0] [] (d_ref1_Sum r) [] :=
  con_intro ok mix (fn := Try.f69) (body := bodyOf Try.f69) (by kernel_rfl) (by kernel_rfl) (by kernel_rfl) rfl (Nat.le_of_ble_eq_true (by kernel_rfl)) fun c h1 h2 h3 h4 hfin => g_ref1_Sum_0 ⟨h1, h2, h3, h4⟩ N hfin x0 h
/-! ### wharfage/wharfageref1.GetIp -/
def L_ref1_GetIp_2 (N : Nat) (t0 : ByteArray) (b116_0 : Int) (b116_1 : Int) (b116_2 : Int) (b116_3 : Int) (b116_4 : Int) (b116_5 : ByteArray) (t5 : Int) (t48 : Bool) : Option (GIp × Int × Int) :=
  bif t48 then
    some ((GIp.mk 0 0 0 0 0 ByteArray.empty), 1, 200)
  else
    bif (decide (t5 > 20)) then
      some ((GIp.mk 0 0 0 0 0 ByteArray.empty), 3, 0)
    else
      if 0 ≤ (8 : Int) ∧ (8 : Int) ≤ (t0.size : Int) ∧ 0 ≤ (6 : Int) ∧ (6 : Int) ≤ (8 : Int) then
      (L_ref1_Of N (t0.extract 6 8)).bind fun v1 =>
      bif ((bAnd .i64 v1 49151) != 0) then
        some ((GIp.mk 0 0 0 0 0 ByteArray.empty), 2, 0)
      else
        if 0 ≤ (16 : Int) ∧ (16 : Int) ≤ (t0.size : Int) ∧ 0 ≤ (12 : Int) ∧ (12 : Int) ≤ (16 : Int) then
        (L_ref1_Of N (t0.extract 12 16)).bind fun v2 =>
        if 0 ≤ (20 : Int) ∧ (20 : Int) ≤ (t0.size : Int) ∧ 0 ≤ (16 : Int) ∧ (16 : Int) ≤ (20 : Int) then
        (L_ref1_Of N (t0.extract 16 20)).bind fun v3 =>
        if 0 ≤ (9 : Int) ∧ (9 : Int) < (t0.size : Int) then
        if 0 ≤ (8 : Int) ∧ (8 : Int) < (t0.size : Int) then
        if 0 ≤ (6 : Int) ∧ (6 : Int) ≤ (t0.size : Int) ∧ 0 ≤ (4 : Int) ∧ (4 : Int) ≤ (6 : Int) then
        (L_ref1_Of N (t0.extract 4 6)).bind fun v4 =>
        if 0 ≤ (t0.size : Int) ∧ (t0.size : Int) ≤ (t0.size : Int) ∧ 0 ≤ (20 : Int) ∧ (20 : Int) ≤ (t0.size : Int) then
        some ((GIp.mk v2 v3 (IntKind.i64.wrap (bt t0 9)) (IntKind.i64.wrap (bt t0 8)) v4 (t0.extract 20 t0.size)), 0, 0)
        else none
        else none
        else none
        else none
        else none
        else none
      else none
def L_ref1_GetIp_1 (N : Nat) (t0 : ByteArray) (b116_0 : Int) (b116_1 : Int) (b116_2 : Int) (b116_3 : Int) (b116_4 : Int) (b116_5 : ByteArray) (t19 : Bool) : Option (GIp × Int × Int) :=
  bif t19 then
    some ((GIp.mk 0 0 0 0 0 ByteArray.empty), 1, 200)
  else
    if 0 ≤ (0 : Int) ∧ (0 : Int) < (t0.size : Int) then
    via ((IntKind.i64.wrap ((4 : Int) * (IntKind.i64.wrap (bAnd .u8 (bt t0 0) 15)))) : Int) fun v1 =>
    bif (decide (v1 < 20)) then
      L_ref1_GetIp_2 N t0 b116_0 b116_1 b116_2 b116_3 b116_4 b116_5 v1 true
    else
      bif (decide (v1 > (t0.size : Int))) then
        L_ref1_GetIp_2 N t0 b116_0 b116_1 b116_2 b116_3 b116_4 b116_5 v1 true
      else
        if 0 ≤ (4 : Int) ∧ (4 : Int) ≤ (t0.size : Int) ∧ 0 ≤ (2 : Int) ∧ (2 : Int) ≤ (4 : Int) then
        (L_ref1_Of N (t0.extract 2 4)).bind fun v2 =>
        bif (v2 != (t0.size : Int)) then
          L_ref1_GetIp_2 N t0 b116_0 b116_1 b116_2 b116_3 b116_4 b116_5 v1 true
        else
          if 0 ≤ v1 ∧ v1 ≤ (t0.size : Int) ∧ 0 ≤ (0 : Int) ∧ (0 : Int) ≤ v1 then
          (L_ref1_Sum N (t0.extract 0 v1.toNat)).bind fun v3 =>
          L_ref1_GetIp_2 N t0 b116_0 b116_1 b116_2 b116_3 b116_4 b116_5 v1 (v3 != 65535)
          else none
        else none
    else none
def L_ref1_GetIp (N : Nat) (x0 : ByteArray) : Option (GIp × Int × Int) :=
  bif (decide ((x0.size : Int) < 20)) then
    L_ref1_GetIp_1 N x0 0 0 0 0 0 ByteArray.empty true
  else
    bif (decide ((x0.size : Int) > 512)) then
      L_ref1_GetIp_1 N x0 0 0 0 0 0 ByteArray.empty true
    else
      if 0 ≤ (0 : Int) ∧ (0 : Int) < (x0.size : Int) then
      L_ref1_GetIp_1 N x0 0 0 0 0 0 ByteArray.empty (((bt x0 0).fdiv (2 ^ 4)) != 4)
      else none
def d_ref1_GetIp (r : GIp × Int × Int) : D := .tup [.agg [.int .i64 r.1.Src, .int .i64 r.1.Dst, .int .i64 r.1.Proto, .int .i64 r.1.Ttl, .int .i64 r.1.Id, .str r.1.Body], .int .i64 r.2.1, .int .i64 r.2.2]
theorem g_ref1_GetIp_2 {c : Cx} (hc : Is c Try.prog ty 54 77) (N : Nat) {r : GIp × Int × Int} (hfin : c.Fin [] (d_ref1_GetIp r) []) (t0 : ByteArray) (b116_0 : Int) (b116_1 : Int) (b116_2 : Int) (b116_3 : Int) (b116_4 : Int) (b116_5 : ByteArray) (t5 : Int) (t48 : Bool) (h : L_ref1_GetIp_2 N t0 b116_0 b116_1 b116_2 b116_3 b116_4 b116_5 t5 t48 = some r) : c.Goes (items (bodyOf Try.f54) [.c 55, .c 31]) ⟨[(0, .str t0), (2, .ptr 116 0), (5, .int .i64 t5), (48, .bool t48)], [(116, some ⟨false, 0, [.int .i64 b116_0, .int .i64 b116_1, .int .i64 b116_2, .int .i64 b116_3, .int .i64 b116_4, .str b116_5]⟩)]⟩ := by
  unfold L_ref1_GetIp_2 at h
  rcases brk h with ⟨h0, k0⟩ | ⟨h0, k0⟩
  · subst h0
    replace h := k0
    have h := Option.some.inj h
    refine hc.ret hfin (fn := Try.f54) (by kernel_rfl) (orc := []) (m := 3) (d := .tup [.agg [.int .i64 0, .int .i64 0, .int .i64 0, .int .i64 0, .int .i64 0, .str ByteArray.empty], .int .i64 1, .int .i64 200]) (by kernel_rfl) .nil ?_ ?_
    · rw [← h]; exact Le.of rfl
    · rw [← h]; rfl
  · subst h0
    replace h := k0
    rcases brk h with ⟨h1, h⟩ | ⟨h1, h⟩
    · have h := Option.some.inj h
      refine hc.ret hfin (fn := Try.f54) (by kernel_rfl) (orc := [(6, [(1, { cv := some (.bool true) })])]) (m := 8) (d := .tup [.agg [.int .i64 0, .int .i64 0, .int .i64 0, .int .i64 0, .int .i64 0, .str ByteArray.empty], .int .i64 3, .int .i64 0]) (by kernel_rfl) (.cons (Le.tt h1) .nil) ?_ ?_
      · rw [← h]; exact Le.of rfl
      · rw [← h]; rfl
    · obtain ⟨h2, h⟩ := chk h
      obtain ⟨v1, h3, h⟩ := bind_of h
      rcases brk h with ⟨h4, h⟩ | ⟨h4, h⟩
      · have h := Option.some.inj h
        refine hc.ret hfin (fn := Try.f54) (by kernel_rfl) (orc := [(6, [(1, { cv := some (.bool false) })]), (8, [(2, { r := d_ref1_Of v1 }), (4, { cv := some (.bool true) })])]) (m := 13) (d := .tup [.agg [.int .i64 0, .int .i64 0, .int .i64 0, .int .i64 0, .int .i64 0, .str ByteArray.empty], .int .i64 2, .int .i64 0]) (by kernel_rfl) (.cons (Le.ff h1) (.cons (h2) (.cons (c_ref1_Of N (t0.extract 6 8) h3) (.cons (Le.tt h4) .nil)))) ?_ ?_
        · rw [← h]; exact Le.of rfl
        · rw [← h]; rfl
      · obtain ⟨h5, h⟩ := chk h
        obtain ⟨v2, h6, h⟩ := bind_of h
        obtain ⟨h7, h⟩ := chk h
        obtain ⟨v3, h8, h⟩ := bind_of h
        obtain ⟨h9, h⟩ := chk h
        obtain ⟨h10, h⟩ := chk h
        obtain ⟨h11, h⟩ := chk h
        obtain ⟨v4, h12, h⟩ := bind_of h
        obtain ⟨h13, h⟩ := chk h
        have h := Option.some.inj h
        refine hc.ret hfin (fn := Try.f54) (by kernel_rfl) (orc := [(6, [(1, { cv := some (.bool false) })]), (8, [(2, { r := d_ref1_Of v1 }), (4, { cv := some (.bool false) })]), (10, [(2, { r := d_ref1_Of v2 }), (5, { r := d_ref1_Of v3 }), (14, { r := d_ref1_Of v4 })])]) (m := 14) (d := .tup [.agg [.int .i64 v2, .int .i64 v3, .int .i64 (IntKind.i64.wrap (bt t0 9)), .int .i64 (IntKind.i64.wrap (bt t0 8)), .int .i64 v4, .str (t0.extract 20 t0.size)], .int .i64 0, .int .i64 0]) (by kernel_rfl) (.cons (Le.ff h1) (.cons (h2) (.cons (c_ref1_Of N (t0.extract 6 8) h3) (.cons (Le.ff h4) (.cons (h5) (.cons (c_ref1_Of N (t0.extract 12 16) h6) (.cons (h7) (.cons (c_ref1_Of N (t0.extract 16 20) h8) (.cons (h9) (.cons (h10) (.cons (h11) (.cons (c_ref1_Of N (t0.extract 4 6) h12) (.cons (h13) .nil))))))))))))) ?_ ?_
        · rw [← h]; exact Le.of rfl
        · rw [← h]; rfl

theorem g_ref1_GetIp_1 {c : Cx} (hc : Is c Try.prog ty 54 77) (N : Nat) {r : GIp × Int × Int} (hfin : c.Fin [] (d_ref1_GetIp r) []) (t0 : ByteArray) (b116_0 : Int) (b116_1 : Int) (b116_2 : Int) (b116_3 : Int) (b116_4 : Int) (b116_5 : ByteArray) (t19 : Bool) (h : L_ref1_GetIp_1 N t0 b116_0 b116_1 b116_2 b116_3 b116_4 b116_5 t19 = some r) : c.Goes (items (bodyOf Try.f54) [.c 13, .c 7]) ⟨[(0, .str t0), (2, .ptr 116 0), (19, .bool t19)], [(116, some ⟨false, 0, [.int .i64 b116_0, .int .i64 b116_1, .int .i64 b116_2, .int .i64 b116_3, .int .i64 b116_4, .str b116_5]⟩)]⟩ := by
  unfold L_ref1_GetIp_1 at h
  rcases brk h with ⟨h0, k0⟩ | ⟨h0, k0⟩
  · subst h0
    replace h := k0
    have h := Option.some.inj h
    refine hc.ret hfin (fn := Try.f54) (by kernel_rfl) (orc := []) (m := 3) (d := .tup [.agg [.int .i64 0, .int .i64 0, .int .i64 0, .int .i64 0, .int .i64 0, .str ByteArray.empty], .int .i64 1, .int .i64 200]) (by kernel_rfl) .nil ?_ ?_
    · rw [← h]; exact Le.of rfl
    · rw [← h]; rfl
  · subst h0
    replace h := k0
    obtain ⟨h1, h⟩ := chk h
    obtain ⟨v1, h2, h⟩ := via_some h
    rcases brk h with ⟨h3, h⟩ | ⟨h3, h⟩
    · exact hc.jump (orc := [(3, [(4, { cv := some (.int .i64 v1) })]), (4, [(2, { cv := some (.bool true) })])]) (m := 7) (kt := [0, 2, 5, 48]) (kh := [(116, 116)]) (by kernel_rfl) (.cons (h1) (.cons (Le.int (k := .i64) h2) (.cons (Le.tt h3) .nil))) (g_ref1_GetIp_2 hc N hfin t0 b116_0 b116_1 b116_2 b116_3 b116_4 b116_5 v1 true h)
    · rcases brk h with ⟨h4, h⟩ | ⟨h4, h⟩
      · exact hc.jump (orc := [(3, [(4, { cv := some (.int .i64 v1) })]), (4, [(2, { cv := some (.bool false) }), (8, { cv := some (.bool true) })])]) (m := 7) (kt := [0, 2, 5, 48]) (kh := [(116, 116)]) (by kernel_rfl) (.cons (h1) (.cons (Le.int (k := .i64) h2) (.cons (Le.ff h3) (.cons (Le.tt h4) .nil)))) (g_ref1_GetIp_2 hc N hfin t0 b116_0 b116_1 b116_2 b116_3 b116_4 b116_5 v1 true h)
      · obtain ⟨h5, h⟩ := chk h
        obtain ⟨v2, h6, h⟩ := bind_of h
        rcases brk h with ⟨h7, h⟩ | ⟨h7, h⟩
        · exact hc.jump (orc := [(3, [(4, { cv := some (.int .i64 v1) })]), (4, [(2, { cv := some (.bool false) }), (8, { cv := some (.bool false) }), (11, { r := d_ref1_Of v2 }), (16, { cv := some (.bool true) })])]) (m := 7) (kt := [0, 2, 5, 48]) (kh := [(116, 116)]) (by kernel_rfl) (.cons (h1) (.cons (Le.int (k := .i64) h2) (.cons (Le.ff h3) (.cons (Le.ff h4) (.cons (h5) (.cons (c_ref1_Of N (t0.extract 2 4) h6) (.cons (Le.tt h7) .nil))))))) (g_ref1_GetIp_2 hc N hfin t0 b116_0 b116_1 b116_2 b116_3 b116_4 b116_5 v1 true h)
        · obtain ⟨h8, h⟩ := chk h
          obtain ⟨v3, h9, h⟩ := bind_of h
          exact hc.jump (orc := [(3, [(4, { cv := some (.int .i64 v1) })]), (4, [(2, { cv := some (.bool false) }), (8, { cv := some (.bool false) }), (11, { r := d_ref1_Of v2 }), (16, { cv := some (.bool false) }), (20, { r := d_ref1_Sum v3 })])]) (m := 7) (kt := [0, 2, 5, 48]) (kh := [(116, 116)]) (by kernel_rfl) (.cons (h1) (.cons (Le.int (k := .i64) h2) (.cons (Le.ff h3) (.cons (Le.ff h4) (.cons (h5) (.cons (c_ref1_Of N (t0.extract 2 4) h6) (.cons (Le.ff h7) (.cons (h8) (.cons (c_ref1_Sum N (t0.extract 0 v1.toNat) h9) .nil))))))))) (g_ref1_GetIp_2 hc N hfin t0 b116_0 b116_1 b116_2 b116_3 b116_4 b116_5 v1 (v3 != 65535) h)

theorem g_ref1_GetIp_0 {c : Cx} (hc : Is c Try.prog ty 54 77) (N : Nat) {r : GIp × Int × Int} (hfin : c.Fin [] (d_ref1_GetIp r) []) (x0 : ByteArray) (h : L_ref1_GetIp N x0 = some r) : c.Goes (items (bodyOf Try.f54) [.c 1]) ⟨[(0, .str x0)], []⟩ := by
  unfold L_ref1_GetIp at h
  rcases brk h with ⟨h0, h⟩ | ⟨h0, h⟩
  · exact hc.jump (orc := [(1, [(3, { cv := some (.bool true) })])]) (m := 5) (kt := [0, 2, 19]) (kh := [(116, 116)]) (by kernel_rfl) (.cons (Le.tt h0) .nil) (g_ref1_GetIp_1 hc N hfin x0 0 0 0 0 0 ByteArray.empty true h)
  · rcases brk h with ⟨h1, h⟩ | ⟨h1, h⟩
    · exact hc.jump (orc := [(1, [(3, { cv := some (.bool false) }), (8, { cv := some (.bool true) })])]) (m := 5) (kt := [0, 2, 19]) (kh := [(116, 116)]) (by kernel_rfl) (.cons (Le.ff h0) (.cons (Le.tt h1) .nil)) (g_ref1_GetIp_1 hc N hfin x0 0 0 0 0 0 ByteArray.empty true h)
    · obtain ⟨h2, h⟩ := chk h
      exact hc.jump (orc := [(1, [(3, { cv := some (.bool false) }), (8, { cv := some (.bool false) })])]) (m := 5) (kt := [0, 2, 19]) (kh := [(116, 116)]) (by kernel_rfl) (.cons (Le.ff h0) (.cons (Le.ff h1) (.cons (h2) (.cons ((by decide : (0:Int) ≤ 4)) .nil)))) (g_ref1_GetIp_1 hc N hfin x0 0 0 0 0 0 ByteArray.empty (((bt x0 0).fdiv (2 ^ 4)) != 4) h)

theorem c_ref1_GetIp (N : Nat) (x0 : ByteArray) {r : GIp × Int × Int} (h : L_ref1_GetIp N x0 = some r) : Con Try.prog 54 [.str x0] [] (d_ref1_GetIp r) [] :=
  con_intro ok mix (fn := Try.f54) (body := bodyOf Try.f54) (by kernel_rfl) (by kernel_rfl) (by kernel_rfl) rfl (Nat.le_of_ble_eq_true (by kernel_rfl)) fun c h1 h2 h3 h4 hfin => g_ref1_GetIp_0 ⟨h1, h2, h3, h4⟩ N hfin x0 h
/-! ### wharfage/wharfageref1.Whose -/
def L_ref1_Whose_3 (N : Nat) (r2 : Int → Int → Option (Int × Int × Int × Bool)) : Nat → Int → Int → Int → Option (Int × Int × Int × Bool)
  | 0, _, _, _ => none
  | fuel + 1, t0, t7, t8 =>
    bif (decide (t8 < 4)) then
      via ((IntKind.i64.wrap ((167968768 : Int) + (IntKind.i64.wrap ((256 : Int) * t7)))) : Int) fun v1 =>
      bif (t0 == (IntKind.i64.wrap (v1 + t8))) then
        some (2, t7, t8, true)
      else
        L_ref1_Whose_3 N r2 fuel t0 t7 (IntKind.i64.wrap (t8 + 1))
    else
      r2 t0 (IntKind.i64.wrap (t7 + 1))
def L_ref1_Whose_2 (N : Nat) : Nat → Int → Int → Option (Int × Int × Int × Bool)
  | 0, _, _ => none
  | fuel + 1, t0, t7 =>
    bif (decide (t7 < 3)) then
      bif (t0 == (IntKind.i64.wrap ((167903232 : Int) + t7))) then
        some (1, t7, 0, true)
      else
        L_ref1_Whose_3 N (L_ref1_Whose_2 N fuel) N t0 t7 0
    else
      some (0, 0, 0, false)
def L_ref1_Whose_1 (N : Nat) : Nat → Int → Int → Option (Int × Int × Int × Bool)
  | 0, _, _ => none
  | fuel + 1, t0, t6 =>
    bif (decide (t6 < 2)) then
      bif (t0 == (IntKind.i64.wrap ((167837696 : Int) + t6))) then
        some (0, 0, t6, true)
      else
        L_ref1_Whose_1 N fuel t0 (IntKind.i64.wrap (t6 + 1))
    else
      L_ref1_Whose_2 N N t0 0
def L_ref1_Whose (N : Nat) (x0 : Int) : Option (Int × Int × Int × Bool) :=
  L_ref1_Whose_1 N N x0 0
def d_ref1_Whose (r : Int × Int × Int × Bool) : D := .tup [.int .i64 r.1, .int .i64 r.2.1, .int .i64 r.2.2.1, .bool r.2.2.2]
theorem g_ref1_Whose_3 {c : Cx} (hc : Is c Try.prog ty 57 40) (N : Nat) {r : Int × Int × Int × Bool} (hfin : c.Fin [] (d_ref1_Whose r) []) (r2 : Int → Int → Option (Int × Int × Int × Bool)) (hr2 : ∀ (t0 : Int) (t7 : Int), r2 t0 t7 = some r → c.Goes (items (bodyOf Try.f57) [.c 75, .l 75, .b 2, .c 15]) ⟨[(0, .int .i64 t0), (7, .int .i64 t7)], []⟩) : ∀ (fuel : Nat) (t0 : Int) (t7 : Int) (t8 : Int), L_ref1_Whose_3 N r2 fuel t0 t7 t8 = some r → c.Goes (items (bodyOf Try.f57) [.c 9803, .l 9803, .b 4, .b 3, .c 459, .l 75, .b 2, .c 15]) ⟨[(0, .int .i64 t0), (7, .int .i64 t7), (8, .int .i64 t8)], []⟩ := by
  intro fuel
  induction fuel with
  | zero => intro t0 t7 t8 h; simp [L_ref1_Whose_3] at h
  | succ fuel ih =>
    intro t0 t7 t8 h
    unfold L_ref1_Whose_3 at h
    rcases brk h with ⟨h0, h⟩ | ⟨h0, h⟩
    · obtain ⟨v1, h1, h⟩ := via_some h
      rcases brk h with ⟨h2, h⟩ | ⟨h2, h⟩
      · have h := Option.some.inj h
        refine hc.ret hfin (fn := Try.f57) (by kernel_rfl) (orc := [(12, [(1, { cv := some (.bool true) })]), (14, [(3, { cv := some (.int .i64 v1) }), (6, { cv := some (.bool true) })])]) (m := 12) (d := .tup [.int .i64 2, .int .i64 t7, .int .i64 t8, .bool true]) (by kernel_rfl) (.cons (Le.tt h0) (.cons (Le.int (k := .i64) h1) (.cons (Le.tt h2) .nil))) ?_ ?_
        · rw [← h]; exact Le.of rfl
        · rw [← h]; rfl
      · exact hc.jump (orc := [(12, [(1, { cv := some (.bool true) })]), (14, [(3, { cv := some (.int .i64 v1) }), (6, { cv := some (.bool false) })])]) (m := 14) (kt := [0, 7, 8]) (kh := []) (by kernel_rfl) (.cons (Le.tt h0) (.cons (Le.int (k := .i64) h1) (.cons (Le.ff h2) .nil))) (ih t0 t7 (IntKind.i64.wrap (t8 + 1)) h)
    · exact hc.jump (orc := [(12, [(1, { cv := some (.bool false) })])]) (m := 8) (kt := [0, 7]) (kh := []) (by kernel_rfl) (.cons (Le.ff h0) .nil) (hr2 t0 (IntKind.i64.wrap (t7 + 1)) h)

theorem g_ref1_Whose_2 {c : Cx} (hc : Is c Try.prog ty 57 40) (N : Nat) {r : Int × Int × Int × Bool} (hfin : c.Fin [] (d_ref1_Whose r) []) : ∀ (fuel : Nat) (t0 : Int) (t7 : Int), L_ref1_Whose_2 N fuel t0 t7 = some r → c.Goes (items (bodyOf Try.f57) [.c 75, .l 75, .b 2, .c 15]) ⟨[(0, .int .i64 t0), (7, .int .i64 t7)], []⟩ := by
  intro fuel
  induction fuel with
  | zero => intro t0 t7 h; simp [L_ref1_Whose_2] at h
  | succ fuel ih =>
    intro t0 t7 h
    unfold L_ref1_Whose_2 at h
    rcases brk h with ⟨h0, h⟩ | ⟨h0, h⟩
    · rcases brk h with ⟨h1, h⟩ | ⟨h1, h⟩
      · have h := Option.some.inj h
        refine hc.ret hfin (fn := Try.f57) (by kernel_rfl) (orc := [(7, [(1, { cv := some (.bool true) })]), (9, [(3, { cv := some (.bool true) })])]) (m := 13) (d := .tup [.int .i64 1, .int .i64 t7, .int .i64 0, .bool true]) (by kernel_rfl) (.cons (Le.tt h0) (.cons (Le.tt h1) .nil)) ?_ ?_
        · rw [← h]; exact Le.of rfl
        · rw [← h]; rfl
      · exact hc.jump (orc := [(7, [(1, { cv := some (.bool true) })]), (9, [(3, { cv := some (.bool false) })])]) (m := 16) (kt := [0, 7, 8]) (kh := []) (by kernel_rfl) (.cons (Le.tt h0) (.cons (Le.ff h1) .nil)) (g_ref1_Whose_3 hc N hfin (L_ref1_Whose_2 N fuel) ih N t0 t7 0 h)
    · have h := Option.some.inj h
      refine hc.ret hfin (fn := Try.f57) (by kernel_rfl) (orc := [(7, [(1, { cv := some (.bool false) })])]) (m := 7) (d := .tup [.int .i64 0, .int .i64 0, .int .i64 0, .bool false]) (by kernel_rfl) (.cons (Le.ff h0) .nil) ?_ ?_
      · rw [← h]; exact Le.of rfl
      · rw [← h]; rfl

theorem g_ref1_Whose_1 {c : Cx} (hc : Is c Try.prog ty 57 40) (N : Nat) {r : Int × Int × Int × Bool} (hfin : c.Fin [] (d_ref1_Whose r) []) : ∀ (fuel : Nat) (t0 : Int) (t6 : Int), L_ref1_Whose_1 N fuel t0 t6 = some r → c.Goes (items (bodyOf Try.f57) [.c 37, .l 37, .b 0, .c 7]) ⟨[(0, .int .i64 t0), (6, .int .i64 t6)], []⟩ := by
  intro fuel
  induction fuel with
  | zero => intro t0 t6 h; simp [L_ref1_Whose_1] at h
  | succ fuel ih =>
    intro t0 t6 h
    unfold L_ref1_Whose_1 at h
    rcases brk h with ⟨h0, h⟩ | ⟨h0, h⟩
    · rcases brk h with ⟨h1, h⟩ | ⟨h1, h⟩
      · have h := Option.some.inj h
        refine hc.ret hfin (fn := Try.f57) (by kernel_rfl) (orc := [(2, [(1, { cv := some (.bool true) })]), (4, [(3, { cv := some (.bool true) })])]) (m := 12) (d := .tup [.int .i64 0, .int .i64 0, .int .i64 t6, .bool true]) (by kernel_rfl) (.cons (Le.tt h0) (.cons (Le.tt h1) .nil)) ?_ ?_
        · rw [← h]; exact Le.of rfl
        · rw [← h]; rfl
      · exact hc.jump (orc := [(2, [(1, { cv := some (.bool true) })]), (4, [(3, { cv := some (.bool false) })])]) (m := 14) (kt := [0, 6]) (kh := []) (by kernel_rfl) (.cons (Le.tt h0) (.cons (Le.ff h1) .nil)) (ih t0 (IntKind.i64.wrap (t6 + 1)) h)
    · exact hc.jump (orc := [(2, [(1, { cv := some (.bool false) })])]) (m := 10) (kt := [0, 7]) (kh := []) (by kernel_rfl) (.cons (Le.ff h0) .nil) (g_ref1_Whose_2 hc N hfin N t0 0 h)

theorem g_ref1_Whose_0 {c : Cx} (hc : Is c Try.prog ty 57 40) (N : Nat) {r : Int × Int × Int × Bool} (hfin : c.Fin [] (d_ref1_Whose r) []) (x0 : Int) (h : L_ref1_Whose N x0 = some r) : c.Goes (items (bodyOf Try.f57) [.c 1]) ⟨[(0, .int .i64 x0)], []⟩ := by
  unfold L_ref1_Whose at h
  exact hc.jump (orc := []) (m := 7) (kt := [0, 6]) (kh := []) (by kernel_rfl) .nil (g_ref1_Whose_1 hc N hfin N x0 0 h)

theorem c_ref1_Whose (N : Nat) (x0 : Int) {r : Int × Int × Int × Bool} (h : L_ref1_Whose N x0 = some r) : Con Try.prog 57 [.int .i64 x0] [] (d_ref1_Whose r) [] :=
  con_intro ok mix (fn := Try.f57) (body := bodyOf Try.f57) (by kernel_rfl) (by kernel_rfl) (by kernel_rfl) rfl (Nat.le_of_ble_eq_true (by kernel_rfl)) fun c h1 h2 h3 h4 hfin => g_ref1_Whose_0 ⟨h1, h2, h3, h4⟩ N hfin x0 h
/-! ### wharfage/wharfageref1.within -/
def L_ref1_within_1 (N : Nat) (t4 : Bool) : Option (Bool) :=
  some t4
def L_ref1_within (N : Nat) (x0 : Int) (x1 : Int) : Option (Bool) :=
  bif (decide (x0 ≥ 0)) then
    if 0 ≤ x1 then
    via ((IntKind.i64.wrap (1 * 2 ^ (min x1.toNat 64))) : Int) fun v1 =>
    L_ref1_within_1 N (decide (x0 < v1))
    else none
  else
    L_ref1_within_1 N false
def d_ref1_within (r : Bool) : D := .bool r
theorem g_ref1_within_1 {c : Cx} (hc : Is c Try.prog ty 58 13) (N : Nat) {r : Bool} (hfin : c.Fin [] (d_ref1_within r) []) (t4 : Bool) (h : L_ref1_within_1 N t4 = some r) : c.Goes (items (bodyOf Try.f58) [.c 7]) ⟨[(4, .bool t4)], []⟩ := by
  unfold L_ref1_within_1 at h
  have h := Option.some.inj h
  refine hc.ret hfin (fn := Try.f58) (by kernel_rfl) (orc := []) (m := 0) (d := .bool t4) (by kernel_rfl) .nil ?_ ?_
  · rw [← h]; exact Le.of rfl
  · rw [← h]; rfl

theorem g_ref1_within_0 {c : Cx} (hc : Is c Try.prog ty 58 13) (N : Nat) {r : Bool} (hfin : c.Fin [] (d_ref1_within r) []) (x0 : Int) (x1 : Int) (h : L_ref1_within N x0 x1 = some r) : c.Goes (items (bodyOf Try.f58) [.c 1]) ⟨[(0, .int .i64 x0), (1, .int .i64 x1)], []⟩ := by
  unfold L_ref1_within at h
  rcases brk h with ⟨h0, h⟩ | ⟨h0, h⟩
  · obtain ⟨h1, h⟩ := chk h
    obtain ⟨v1, h2, h⟩ := via_some h
    exact hc.jump (orc := [(1, [(2, { cv := some (.bool true) }), (5, { cv := some (.int .i64 v1) })])]) (m := 4) (kt := [4]) (kh := []) (by kernel_rfl) (.cons (Le.tt h0) (.cons (h1) (.cons (Le.int (k := .i64) h2) .nil))) (g_ref1_within_1 hc N hfin (decide (x0 < v1)) h)
  · exact hc.jump (orc := [(1, [(2, { cv := some (.bool false) })])]) (m := 4) (kt := [4]) (kh := []) (by kernel_rfl) (.cons (Le.ff h0) .nil) (g_ref1_within_1 hc N hfin false h)

theorem c_ref1_within (N : Nat) (x0 : Int) (x1 : Int) {r : Bool} (h : L_ref1_within N x0 x1 = some r) : Con Try.prog 58 [.int .i64 x0, .int .i64 x1] [] (d_ref1_within r) [] :=
  con_intro ok mix (fn := Try.f58) (body := bodyOf Try.f58) (by kernel_rfl) (by kernel_rfl) (by kernel_rfl) rfl (Nat.le_of_ble_eq_true (by kernel_rfl)) fun c h1 h2 h3 h4 hfin => g_ref1_within_0 ⟨h1, h2, h3, h4⟩ N hfin x0 x1 h
/-! ### wharfage/wharfageref1.OuterMay -/
def L_ref1_OuterMay_1 (N : Nat) (t2 : Bool) : Option (Bool) :=
  some t2
def L_ref1_OuterMay (N : Nat) (x0 : GOuter) : Option (Bool) :=
  (L_ref1_Whose N x0.Src).bind fun v1 =>
  (L_ref1_Whose N x0.Dst).bind fun v2 =>
  bif v1.2.2.2 then
    bif v2.2.2.2 then
      bif (decide (x0.Tier ≥ 1)) then
        bif (decide (x0.Tier ≤ 4)) then
          (L_ref1_within N x0.Marker 8).bind fun v3 =>
          bif v3 then
            (L_ref1_within N x0.Origin 8).bind fun v4 =>
            bif v4 then
              L_ref1_OuterMay_1 N (decide ((x0.Body.size : Int) ≤ 512))
            else
              L_ref1_OuterMay_1 N false
          else
            L_ref1_OuterMay_1 N false
        else
          L_ref1_OuterMay_1 N false
      else
        L_ref1_OuterMay_1 N false
    else
      L_ref1_OuterMay_1 N false
  else
    L_ref1_OuterMay_1 N false
def d_ref1_OuterMay (r : Bool) : D := .bool r
theorem g_ref1_OuterMay_1 {c : Cx} (hc : Is c Try.prog ty 27 57) (N : Nat) {r : Bool} (hfin : c.Fin [] (d_ref1_OuterMay r) []) (t2 : Bool) (h : L_ref1_OuterMay_1 N t2 = some r) : c.Goes (items (bodyOf Try.f27) [.c 31]) ⟨[(2, .bool t2)], []⟩ := by
  unfold L_ref1_OuterMay_1 at h
  have h := Option.some.inj h
  refine hc.ret hfin (fn := Try.f27) (by kernel_rfl) (orc := []) (m := 0) (d := .bool t2) (by kernel_rfl) .nil ?_ ?_
  · rw [← h]; exact Le.of rfl
  · rw [← h]; rfl

theorem g_ref1_OuterMay_0 {c : Cx} (hc : Is c Try.prog ty 27 57) (N : Nat) {r : Bool} (hfin : c.Fin [] (d_ref1_OuterMay r) []) (x0 : GOuter) (h : L_ref1_OuterMay N x0 = some r) : c.Goes (items (bodyOf Try.f27) [.c 1]) ⟨[(0, .agg [.int .i64 x0.Src, .int .i64 x0.Dst, .int .i64 x0.Tier, .int .i64 x0.Marker, .int .i64 x0.Origin, .str x0.Body])], []⟩ := by
  unfold L_ref1_OuterMay at h
  obtain ⟨v1, h0, h⟩ := bind_of h
  obtain ⟨v2, h1, h⟩ := bind_of h
  rcases brk h with ⟨h2, h⟩ | ⟨h2, h⟩
  · rcases brk h with ⟨h3, h⟩ | ⟨h3, h⟩
    · rcases brk h with ⟨h4, h⟩ | ⟨h4, h⟩
      · rcases brk h with ⟨h5, h⟩ | ⟨h5, h⟩
        · obtain ⟨v3, h6, h⟩ := bind_of h
          rcases brk h with ⟨h7, h⟩ | ⟨h7, h⟩
          · obtain ⟨v4, h8, h⟩ := bind_of h
            rcases brk h with ⟨h9, h⟩ | ⟨h9, h⟩
            · exact hc.jump (orc := [(1, [(2, { r := d_ref1_Whose v1 })]), (2, [(2, { r := d_ref1_Whose v2 })]), (3, [(1, { cv := some (.bool true) }), (4, { cv := some (.bool true) }), (9, { cv := some (.bool true) }), (14, { cv := some (.bool true) }), (17, { r := d_ref1_within v3 }), (19, { cv := some (.bool true) }), (22, { r := d_ref1_within v4 }), (24, { cv := some (.bool true) })])]) (m := 8) (kt := [2]) (kh := []) (by kernel_rfl) (.cons (c_ref1_Whose N x0.Src h0) (.cons (c_ref1_Whose N x0.Dst h1) (.cons (Le.tt h2) (.cons (Le.tt h3) (.cons (Le.tt h4) (.cons (Le.tt h5) (.cons (c_ref1_within N x0.Marker 8 h6) (.cons (Le.tt h7) (.cons (c_ref1_within N x0.Origin 8 h8) (.cons (Le.tt h9) .nil)))))))))) (g_ref1_OuterMay_1 hc N hfin (decide ((x0.Body.size : Int) ≤ 512)) h)
            · exact hc.jump (orc := [(1, [(2, { r := d_ref1_Whose v1 })]), (2, [(2, { r := d_ref1_Whose v2 })]), (3, [(1, { cv := some (.bool true) }), (4, { cv := some (.bool true) }), (9, { cv := some (.bool true) }), (14, { cv := some (.bool true) }), (17, { r := d_ref1_within v3 }), (19, { cv := some (.bool true) }), (22, { r := d_ref1_within v4 }), (24, { cv := some (.bool false) })])]) (m := 8) (kt := [2]) (kh := []) (by kernel_rfl) (.cons (c_ref1_Whose N x0.Src h0) (.cons (c_ref1_Whose N x0.Dst h1) (.cons (Le.tt h2) (.cons (Le.tt h3) (.cons (Le.tt h4) (.cons (Le.tt h5) (.cons (c_ref1_within N x0.Marker 8 h6) (.cons (Le.tt h7) (.cons (c_ref1_within N x0.Origin 8 h8) (.cons (Le.ff h9) .nil)))))))))) (g_ref1_OuterMay_1 hc N hfin false h)
          · exact hc.jump (orc := [(1, [(2, { r := d_ref1_Whose v1 })]), (2, [(2, { r := d_ref1_Whose v2 })]), (3, [(1, { cv := some (.bool true) }), (4, { cv := some (.bool true) }), (9, { cv := some (.bool true) }), (14, { cv := some (.bool true) }), (17, { r := d_ref1_within v3 }), (19, { cv := some (.bool false) })])]) (m := 8) (kt := [2]) (kh := []) (by kernel_rfl) (.cons (c_ref1_Whose N x0.Src h0) (.cons (c_ref1_Whose N x0.Dst h1) (.cons (Le.tt h2) (.cons (Le.tt h3) (.cons (Le.tt h4) (.cons (Le.tt h5) (.cons (c_ref1_within N x0.Marker 8 h6) (.cons (Le.ff h7) .nil)))))))) (g_ref1_OuterMay_1 hc N hfin false h)
        · exact hc.jump (orc := [(1, [(2, { r := d_ref1_Whose v1 })]), (2, [(2, { r := d_ref1_Whose v2 })]), (3, [(1, { cv := some (.bool true) }), (4, { cv := some (.bool true) }), (9, { cv := some (.bool true) }), (14, { cv := some (.bool false) })])]) (m := 8) (kt := [2]) (kh := []) (by kernel_rfl) (.cons (c_ref1_Whose N x0.Src h0) (.cons (c_ref1_Whose N x0.Dst h1) (.cons (Le.tt h2) (.cons (Le.tt h3) (.cons (Le.tt h4) (.cons (Le.ff h5) .nil)))))) (g_ref1_OuterMay_1 hc N hfin false h)
      · exact hc.jump (orc := [(1, [(2, { r := d_ref1_Whose v1 })]), (2, [(2, { r := d_ref1_Whose v2 })]), (3, [(1, { cv := some (.bool true) }), (4, { cv := some (.bool true) }), (9, { cv := some (.bool false) })])]) (m := 8) (kt := [2]) (kh := []) (by kernel_rfl) (.cons (c_ref1_Whose N x0.Src h0) (.cons (c_ref1_Whose N x0.Dst h1) (.cons (Le.tt h2) (.cons (Le.tt h3) (.cons (Le.ff h4) .nil))))) (g_ref1_OuterMay_1 hc N hfin false h)
    · exact hc.jump (orc := [(1, [(2, { r := d_ref1_Whose v1 })]), (2, [(2, { r := d_ref1_Whose v2 })]), (3, [(1, { cv := some (.bool true) }), (4, { cv := some (.bool false) })])]) (m := 8) (kt := [2]) (kh := []) (by kernel_rfl) (.cons (c_ref1_Whose N x0.Src h0) (.cons (c_ref1_Whose N x0.Dst h1) (.cons (Le.tt h2) (.cons (Le.ff h3) .nil)))) (g_ref1_OuterMay_1 hc N hfin false h)
  · exact hc.jump (orc := [(1, [(2, { r := d_ref1_Whose v1 })]), (2, [(2, { r := d_ref1_Whose v2 })]), (3, [(1, { cv := some (.bool false) })])]) (m := 8) (kt := [2]) (kh := []) (by kernel_rfl) (.cons (c_ref1_Whose N x0.Src h0) (.cons (c_ref1_Whose N x0.Dst h1) (.cons (Le.ff h2) .nil))) (g_ref1_OuterMay_1 hc N hfin false h)

theorem c_ref1_OuterMay (N : Nat) (x0 : GOuter) {r : Bool} (h : L_ref1_OuterMay N x0 = some r) : Con Try.prog 27 [.agg [.int .i64 x0.Src, .int .i64 x0.Dst, .int .i64 x0.Tier, .int .i64 x0.Marker, .int .i64 x0.Origin, .str x0.Body]] [] (d_ref1_OuterMay r) [] :=
  con_intro ok mix (fn := Try.f27) (body := bodyOf Try.f27) (by kernel_rfl) (by kernel_rfl) (by kernel_rfl) rfl (Nat.le_of_ble_eq_true (by kernel_rfl)) fun c h1 h2 h3 h4 hfin => g_ref1_OuterMay_0 ⟨h1, h2, h3, h4⟩ N hfin x0 h
/-! ### wharfage/wharfageref1.Num -/
def L_ref1_Num_1 (N : Nat) : Nat → Int → (List Int) → Int → Option (ByteArray)
  | 0, _, _, _ => none
  | fuel + 1, t0, b140, t6 =>
    bif (decide (t6 ≥ 0)) then
      if 0 ≤ (IntKind.i64.wrap ((8 : Int) * t6)) then
      via ((t0.fdiv (2 ^ (min (IntKind.i64.wrap ((8 : Int) * t6)).toNat 64))) : Int) fun v1 =>
      if growOk 1 (b140.length + 1) then
      L_ref1_Num_1 N fuel t0 (b140 ++ [(IntKind.u8.wrap v1)]) (IntKind.i64.wrap (t6 - 1))
      else none
      else none
    else
      some (mkS b140)
def L_ref1_Num (N : Nat) (x0 : Int) (x1 : Int) : Option (ByteArray) :=
  L_ref1_Num_1 N N x0 ([]) (IntKind.i64.wrap (x1 - 1))
def d_ref1_Num (r : ByteArray) : D := .str r
theorem g_ref1_Num_1 {c : Cx} (hc : Is c Try.prog ty 52 23) (N : Nat) {r : ByteArray} (hfin : c.Fin [] (d_ref1_Num r) []) : ∀ (fuel : Nat) (t0 : Int) (b140 : (List Int)) (t6 : Int), L_ref1_Num_1 N fuel t0 b140 t6 = some r → c.Goes (items (bodyOf Try.f52) [.c 75, .l 75, .b 0, .c 15]) ⟨[(0, .int .i64 t0), (5, .ref 140 0 b140.length b140.length), (6, .int .i64 t6)], [(140, some ⟨true, 1, (eL (eInt .u8) b140)⟩)]⟩ := by
  intro fuel
  induction fuel with
  | zero => intro t0 b140 t6 h; simp [L_ref1_Num_1] at h
  | succ fuel ih =>
    intro t0 b140 t6 h
    unfold L_ref1_Num_1 at h
    rcases brk h with ⟨h0, h⟩ | ⟨h0, h⟩
    · obtain ⟨h1, h⟩ := chk h
      obtain ⟨v1, h2, h⟩ := via_some h
      obtain ⟨h3, h⟩ := chk h
      exact hc.jump (orc := [(3, [(1, { cv := some (.bool true) })]), (5, [(4, { cv := some (.int .i64 v1) }), (7, { cv := some (.ref 260 0 (b140 ++ [(IntKind.u8.wrap v1)]).length (b140 ++ [(IntKind.u8.wrap v1)]).length), cb := [(260, eL (eInt .u8) (b140 ++ [(IntKind.u8.wrap v1)]))] })])]) (m := 11) (kt := [0, 5, 6]) (kh := [(260, 140)]) (by kernel_rfl) (.cons (Le.tt h0) (.cons (h1) (.cons (Le.int (k := .i64) h2) (.cons ((by decide : 1 * 1 ≤ 1)) (.cons (ap_len (xs := b140) (eInt_len .u8)) (.cons (h3) (.cons (Le.apr (b := 260) (by first | rfl | simp : (b140 ++ [(IntKind.u8.wrap v1)]).length = b140.length + 1)) (.cons (ap_one (xs := b140) (eInt_len .u8) (y := (IntKind.u8.wrap v1)) (cs := [.int .u8 (IntKind.u8.wrap v1)]) rfl) .nil)))))))) (ih t0 (b140 ++ [(IntKind.u8.wrap v1)]) (IntKind.i64.wrap (t6 - 1)) h)
    · have h := Option.some.inj h
      refine hc.ret hfin (fn := Try.f52) (by kernel_rfl) (orc := [(3, [(1, { cv := some (.bool false) })]), (6, [(1, { cv := some (.str (mkS b140)) })])]) (m := 7) (d := .str (mkS b140)) (by kernel_rfl) (.cons (Le.ff h0) (.cons (byte_ok b140) (.cons (Le.str (bytesD_eq b140)) .nil))) ?_ ?_
      · rw [← h]; exact Le.of rfl
      · rw [← h]; rfl

theorem g_ref1_Num_0 {c : Cx} (hc : Is c Try.prog ty 52 23) (N : Nat) {r : ByteArray} (hfin : c.Fin [] (d_ref1_Num r) []) (x0 : Int) (x1 : Int) (h : L_ref1_Num N x0 x1 = some r) : c.Goes (items (bodyOf Try.f52) [.c 1]) ⟨[(0, .int .i64 x0), (1, .int .i64 x1)], []⟩ := by
  unfold L_ref1_Num at h
  exact hc.jump (orc := [(1, [(0, { own := some (1) })])]) (m := 9) (kt := [0, 5, 6]) (kh := [(140, 140)]) (by kernel_rfl) .nil (g_ref1_Num_1 hc N hfin N x0 ([]) (IntKind.i64.wrap (x1 - 1)) h)

theorem c_ref1_Num (N : Nat) (x0 : Int) (x1 : Int) {r : ByteArray} (h : L_ref1_Num N x0 x1 = some r) : Con Try.prog 52 [.int .i64 x0, .int .i64 x1] [] (d_ref1_Num r) [] :=
  con_intro ok mix (fn := Try.f52) (body := bodyOf Try.f52) (by kernel_rfl) (by kernel_rfl) (by kernel_rfl) rfl (Nat.le_of_ble_eq_true (by kernel_rfl)) fun c h1 h2 h3 h4 hfin => g_ref1_Num_0 ⟨h1, h2, h3, h4⟩ N hfin x0 x1 h
/-! ### wharfage/wharfageref1.IpMay -/
def L_ref1_IpMay_1 (N : Nat) (t2 : Bool) : Option (Bool) :=
  some t2
def L_ref1_IpMay (N : Nat) (x0 : GIp) : Option (Bool) :=
  (L_ref1_within N x0.Src 32).bind fun v1 =>
  bif v1 then
    (L_ref1_within N x0.Dst 32).bind fun v2 =>
    bif v2 then
      (L_ref1_within N x0.Proto 8).bind fun v3 =>
      bif v3 then
        (L_ref1_within N x0.Ttl 8).bind fun v4 =>
        bif v4 then
          (L_ref1_within N x0.Id 16).bind fun v5 =>
          bif v5 then
            L_ref1_IpMay_1 N (decide ((x0.Body.size : Int) ≤ 492))
          else
            L_ref1_IpMay_1 N false
        else
          L_ref1_IpMay_1 N false
      else
        L_ref1_IpMay_1 N false
    else
      L_ref1_IpMay_1 N false
  else
    L_ref1_IpMay_1 N false
def d_ref1_IpMay (r : Bool) : D := .bool r
theorem g_ref1_IpMay_1 {c : Cx} (hc : Is c Try.prog ty 68 32) (N : Nat) {r : Bool} (hfin : c.Fin [] (d_ref1_IpMay r) []) (t2 : Bool) (h : L_ref1_IpMay_1 N t2 = some r) : c.Goes (items (bodyOf Try.f68) [.c 7]) ⟨[(2, .bool t2)], []⟩ := by
  unfold L_ref1_IpMay_1 at h
  have h := Option.some.inj h
  refine hc.ret hfin (fn := Try.f68) (by kernel_rfl) (orc := []) (m := 0) (d := .bool t2) (by kernel_rfl) .nil ?_ ?_
  · rw [← h]; exact Le.of rfl
  · rw [← h]; rfl

theorem g_ref1_IpMay_0 {c : Cx} (hc : Is c Try.prog ty 68 32) (N : Nat) {r : Bool} (hfin : c.Fin [] (d_ref1_IpMay r) []) (x0 : GIp) (h : L_ref1_IpMay N x0 = some r) : c.Goes (items (bodyOf Try.f68) [.c 1]) ⟨[(0, .agg [.int .i64 x0.Src, .int .i64 x0.Dst, .int .i64 x0.Proto, .int .i64 x0.Ttl, .int .i64 x0.Id, .str x0.Body])], []⟩ := by
  unfold L_ref1_IpMay at h
  obtain ⟨v1, h0, h⟩ := bind_of h
  rcases brk h with ⟨h1, h⟩ | ⟨h1, h⟩
  · obtain ⟨v2, h2, h⟩ := bind_of h
    rcases brk h with ⟨h3, h⟩ | ⟨h3, h⟩
    · obtain ⟨v3, h4, h⟩ := bind_of h
      rcases brk h with ⟨h5, h⟩ | ⟨h5, h⟩
      · obtain ⟨v4, h6, h⟩ := bind_of h
        rcases brk h with ⟨h7, h⟩ | ⟨h7, h⟩
        · obtain ⟨v5, h8, h⟩ := bind_of h
          rcases brk h with ⟨h9, h⟩ | ⟨h9, h⟩
          · exact hc.jump (orc := [(1, [(2, { r := d_ref1_within v1 }), (3, { cv := some (.bool true) }), (6, { r := d_ref1_within v2 }), (8, { cv := some (.bool true) }), (11, { r := d_ref1_within v3 }), (13, { cv := some (.bool true) }), (16, { r := d_ref1_within v4 }), (18, { cv := some (.bool true) }), (21, { r := d_ref1_within v5 }), (23, { cv := some (.bool true) })])]) (m := 4) (kt := [2]) (kh := []) (by kernel_rfl) (.cons (c_ref1_within N x0.Src 32 h0) (.cons (Le.tt h1) (.cons (c_ref1_within N x0.Dst 32 h2) (.cons (Le.tt h3) (.cons (c_ref1_within N x0.Proto 8 h4) (.cons (Le.tt h5) (.cons (c_ref1_within N x0.Ttl 8 h6) (.cons (Le.tt h7) (.cons (c_ref1_within N x0.Id 16 h8) (.cons (Le.tt h9) .nil)))))))))) (g_ref1_IpMay_1 hc N hfin (decide ((x0.Body.size : Int) ≤ 492)) h)
          · exact hc.jump (orc := [(1, [(2, { r := d_ref1_within v1 }), (3, { cv := some (.bool true) }), (6, { r := d_ref1_within v2 }), (8, { cv := some (.bool true) }), (11, { r := d_ref1_within v3 }), (13, { cv := some (.bool true) }), (16, { r := d_ref1_within v4 }), (18, { cv := some (.bool true) }), (21, { r := d_ref1_within v5 }), (23, { cv := some (.bool false) })])]) (m := 4) (kt := [2]) (kh := []) (by kernel_rfl) (.cons (c_ref1_within N x0.Src 32 h0) (.cons (Le.tt h1) (.cons (c_ref1_within N x0.Dst 32 h2) (.cons (Le.tt h3) (.cons (c_ref1_within N x0.Proto 8 h4) (.cons (Le.tt h5) (.cons (c_ref1_within N x0.Ttl 8 h6) (.cons (Le.tt h7) (.cons (c_ref1_within N x0.Id 16 h8) (.cons (Le.ff h9) .nil)))))))))) (g_ref1_IpMay_1 hc N hfin false h)
        · exact hc.jump (orc := [(1, [(2, { r := d_ref1_within v1 }), (3, { cv := some (.bool true) }), (6, { r := d_ref1_within v2 }), (8, { cv := some (.bool true) }), (11, { r := d_ref1_within v3 }), (13, { cv := some (.bool true) }), (16, { r := d_ref1_within v4 }), (18, { cv := some (.bool false) })])]) (m := 4) (kt := [2]) (kh := []) (by kernel_rfl) (.cons (c_ref1_within N x0.Src 32 h0) (.cons (Le.tt h1) (.cons (c_ref1_within N x0.Dst 32 h2) (.cons (Le.tt h3) (.cons (c_ref1_within N x0.Proto 8 h4) (.cons (Le.tt h5) (.cons (c_ref1_within N x0.Ttl 8 h6) (.cons (Le.ff h7) .nil)))))))) (g_ref1_IpMay_1 hc N hfin false h)
      · exact hc.jump (orc := [(1, [(2, { r := d_ref1_within v1 }), (3, { cv := some (.bool true) }), (6, { r := d_ref1_within v2 }), (8, { cv := some (.bool true) }), (11, { r := d_ref1_within v3 }), (13, { cv := some (.bool false) })])]) (m := 4) (kt := [2]) (kh := []) (by kernel_rfl) (.cons (c_ref1_within N x0.Src 32 h0) (.cons (Le.tt h1) (.cons (c_ref1_within N x0.Dst 32 h2) (.cons (Le.tt h3) (.cons (c_ref1_within N x0.Proto 8 h4) (.cons (Le.ff h5) .nil)))))) (g_ref1_IpMay_1 hc N hfin false h)
    · exact hc.jump (orc := [(1, [(2, { r := d_ref1_within v1 }), (3, { cv := some (.bool true) }), (6, { r := d_ref1_within v2 }), (8, { cv := some (.bool false) })])]) (m := 4) (kt := [2]) (kh := []) (by kernel_rfl) (.cons (c_ref1_within N x0.Src 32 h0) (.cons (Le.tt h1) (.cons (c_ref1_within N x0.Dst 32 h2) (.cons (Le.ff h3) .nil)))) (g_ref1_IpMay_1 hc N hfin false h)
  · exact hc.jump (orc := [(1, [(2, { r := d_ref1_within v1 }), (3, { cv := some (.bool false) })])]) (m := 4) (kt := [2]) (kh := []) (by kernel_rfl) (.cons (c_ref1_within N x0.Src 32 h0) (.cons (Le.ff h1) .nil)) (g_ref1_IpMay_1 hc N hfin false h)

theorem c_ref1_IpMay (N : Nat) (x0 : GIp) {r : Bool} (h : L_ref1_IpMay N x0 = some r) : Con Try.prog 68 [.agg [.int .i64 x0.Src, .int .i64 x0.Dst, .int .i64 x0.Proto, .int .i64 x0.Ttl, .int .i64 x0.Id, .str x0.Body]] [] (d_ref1_IpMay r) [] :=
  con_intro ok mix (fn := Try.f68) (body := bodyOf Try.f68) (by kernel_rfl) (by kernel_rfl) (by kernel_rfl) rfl (Nat.le_of_ble_eq_true (by kernel_rfl)) fun c h1 h2 h3 h4 hfin => g_ref1_IpMay_0 ⟨h1, h2, h3, h4⟩ N hfin x0 h
/-! ### wharfage/wharfageref1.PutIp -/
def L_ref1_PutIp (N : Nat) (x0 : GIp) : Option (ByteArray × Int) :=
  (L_ref1_IpMay N x0).bind fun v1 =>
  bif (!v1) then
    some (ByteArray.empty, 200)
  else
    via ((IntKind.i64.wrap ((20 : Int) + (x0.Body.size : Int))) : Int) fun v2 =>
    (L_ref1_Num N v2 2).bind fun v3 =>
    if (((ByteArray.mk #[69, 0]).size + v3.size : Nat) : Int) ≤ 9223372036854775807 then
    (L_ref1_Num N x0.Id 2).bind fun v4 =>
    if ((((ByteArray.mk #[69, 0]) ++ v3).size + v4.size : Nat) : Int) ≤ 9223372036854775807 then
    if (((((ByteArray.mk #[69, 0]) ++ v3) ++ v4).size + (ByteArray.mk #[64, 0]).size : Nat) : Int) ≤ 9223372036854775807 then
    via (((((ByteArray.mk #[69, 0]) ++ v3) ++ v4) ++ (ByteArray.mk #[64, 0])) : ByteArray) fun v5 =>
    (L_ref1_Num N x0.Ttl 1).bind fun v6 =>
    if ((v5.size + v6.size : Nat) : Int) ≤ 9223372036854775807 then
    (L_ref1_Num N x0.Proto 1).bind fun v7 =>
    if (((v5 ++ v6).size + v7.size : Nat) : Int) ≤ 9223372036854775807 then
    (L_ref1_Num N x0.Src 4).bind fun v8 =>
    (L_ref1_Num N x0.Dst 4).bind fun v9 =>
    if ((v8.size + v9.size : Nat) : Int) ≤ 9223372036854775807 then
    if ((((v5 ++ v6) ++ v7).size + (ByteArray.mk #[0, 0]).size : Nat) : Int) ≤ 9223372036854775807 then
    via ((((v5 ++ v6) ++ v7) ++ (ByteArray.mk #[0, 0])) : ByteArray) fun v10 =>
    if ((v10.size + (v8 ++ v9).size : Nat) : Int) ≤ 9223372036854775807 then
    (L_ref1_Sum N (v10 ++ (v8 ++ v9))).bind fun v11 =>
    (L_ref1_Num N (IntKind.i64.wrap ((65535 : Int) - v11)) 2).bind fun v12 =>
    if ((((v5 ++ v6) ++ v7).size + v12.size : Nat) : Int) ≤ 9223372036854775807 then
    if (((((v5 ++ v6) ++ v7) ++ v12).size + (v8 ++ v9).size : Nat) : Int) ≤ 9223372036854775807 then
    if ((((((v5 ++ v6) ++ v7) ++ v12) ++ (v8 ++ v9)).size + x0.Body.size : Nat) : Int) ≤ 9223372036854775807 then
    via ((((((v5 ++ v6) ++ v7) ++ v12) ++ (v8 ++ v9)) ++ x0.Body) : ByteArray) fun v13 =>
    some (v13, 0)
    else none
    else none
    else none
    else none
    else none
    else none
    else none
    else none
    else none
    else none
    else none
def d_ref1_PutIp (r : ByteArray × Int) : D := .tup [.str r.1, .int .i64 r.2]
theorem g_ref1_PutIp_0 {c : Cx} (hc : Is c Try.prog ty 43 49) (N : Nat) {r : ByteArray × Int} (hfin : c.Fin [] (d_ref1_PutIp r) []) (x0 : GIp) (h : L_ref1_PutIp N x0 = some r) : c.Goes (items (bodyOf Try.f43) [.c 1]) ⟨[(0, .agg [.int .i64 x0.Src, .int .i64 x0.Dst, .int .i64 x0.Proto, .int .i64 x0.Ttl, .int .i64 x0.Id, .str x0.Body])], []⟩ := by
  unfold L_ref1_PutIp at h
  obtain ⟨v1, h0, h⟩ := bind_of h
  rcases brk h with ⟨h1, h⟩ | ⟨h1, h⟩
  · have h := Option.some.inj h
    refine hc.ret hfin (fn := Try.f43) (by kernel_rfl) (orc := [(1, [(1, { r := d_ref1_IpMay v1 }), (2, { cv := some (.bool true) })])]) (m := 8) (d := .tup [.str ByteArray.empty, .int .i64 200]) (by kernel_rfl) (.cons (c_ref1_IpMay N x0 h0) (.cons (Le.tt h1) .nil)) ?_ ?_
    · rw [← h]; exact Le.of rfl
    · rw [← h]; rfl
  · obtain ⟨v2, h2, h⟩ := via_some h
    obtain ⟨v3, h3, h⟩ := bind_of h
    obtain ⟨h4, h⟩ := chk h
    obtain ⟨v4, h5, h⟩ := bind_of h
    obtain ⟨h6, h⟩ := chk h
    obtain ⟨h7, h⟩ := chk h
    obtain ⟨v5, h8, h⟩ := via_some h
    obtain ⟨v6, h9, h⟩ := bind_of h
    obtain ⟨h10, h⟩ := chk h
    obtain ⟨v7, h11, h⟩ := bind_of h
    obtain ⟨h12, h⟩ := chk h
    obtain ⟨v8, h13, h⟩ := bind_of h
    obtain ⟨v9, h14, h⟩ := bind_of h
    obtain ⟨h15, h⟩ := chk h
    obtain ⟨h16, h⟩ := chk h
    obtain ⟨v10, h17, h⟩ := via_some h
    obtain ⟨h18, h⟩ := chk h
    obtain ⟨v11, h19, h⟩ := bind_of h
    obtain ⟨v12, h20, h⟩ := bind_of h
    obtain ⟨h21, h⟩ := chk h
    obtain ⟨h22, h⟩ := chk h
    obtain ⟨h23, h⟩ := chk h
    obtain ⟨v13, h24, h⟩ := via_some h
    have h := Option.some.inj h
    refine hc.ret hfin (fn := Try.f43) (by kernel_rfl) (orc := [(1, [(1, { r := d_ref1_IpMay v1 }), (2, { cv := some (.bool false) })]), (3, [(3, { cv := some (.int .i64 v2) }), (4, { r := d_ref1_Num v3 }), (8, { r := d_ref1_Num v4 }), (10, { cv := some (.str v5) }), (13, { r := d_ref1_Num v6 }), (17, { r := d_ref1_Num v7 })]), (4, [(2, { r := d_ref1_Num v8 }), (5, { r := d_ref1_Num v9 })]), (5, [(2, { cv := some (.str v10) }), (5, { r := d_ref1_Sum v11 }), (7, { r := d_ref1_Num v12 }), (13, { cv := some (.str v13) })])]) (m := 13) (d := .tup [.str v13, .int .i64 0]) (by kernel_rfl) (.cons (c_ref1_IpMay N x0 h0) (.cons (Le.ff h1) (.cons (Le.int (k := .i64) h2) (.cons (c_ref1_Num N v2 2 h3) (.cons (h4) (.cons (c_ref1_Num N x0.Id 2 h5) (.cons (h6) (.cons (h7) (.cons (Le.str h8) (.cons (c_ref1_Num N x0.Ttl 1 h9) (.cons (h10) (.cons (c_ref1_Num N x0.Proto 1 h11) (.cons (h12) (.cons (c_ref1_Num N x0.Src 4 h13) (.cons (c_ref1_Num N x0.Dst 4 h14) (.cons (h15) (.cons (h16) (.cons (Le.str h17) (.cons (h18) (.cons (c_ref1_Sum N (v10 ++ (v8 ++ v9)) h19) (.cons (c_ref1_Num N (IntKind.i64.wrap ((65535 : Int) - v11)) 2 h20) (.cons (h21) (.cons (h22) (.cons (h23) (.cons (Le.str h24) .nil))))))))))))))))))))))))) ?_ ?_
    · rw [← h]; exact Le.of rfl
    · rw [← h]; rfl

theorem c_ref1_PutIp (N : Nat) (x0 : GIp) {r : ByteArray × Int} (h : L_ref1_PutIp N x0 = some r) : Con Try.prog 43 [.agg [.int .i64 x0.Src, .int .i64 x0.Dst, .int .i64 x0.Proto, .int .i64 x0.Ttl, .int .i64 x0.Id, .str x0.Body]] [] (d_ref1_PutIp r) [] :=
  con_intro ok mix (fn := Try.f43) (body := bodyOf Try.f43) (by kernel_rfl) (by kernel_rfl) (by kernel_rfl) rfl (Nat.le_of_ble_eq_true (by kernel_rfl)) fun c h1 h2 h3 h4 hfin => g_ref1_PutIp_0 ⟨h1, h2, h3, h4⟩ N hfin x0 h
/-! ### wharfage/wharfageref1.Push -/
def L_ref1_Push (N : Nat) (x0 : GOuter) : Option (ByteArray × Int) :=
  (L_ref1_OuterMay N x0).bind fun v1 =>
  bif (!v1) then
    some (ByteArray.empty, 600)
  else
    via ((IntKind.i64.wrap ((16 : Int) + (x0.Body.size : Int))) : Int) fun v2 =>
    bif (decide ((IntKind.i64.wrap ((20 : Int) + v2)) > 360)) then
      some (ByteArray.empty, 601)
    else
      (L_ref1_Num N 61440 2).bind fun v3 =>
      (L_ref1_Num N 6080 2).bind fun v4 =>
      if ((v3.size + v4.size : Nat) : Int) ≤ 9223372036854775807 then
      (L_ref1_Num N v2 2).bind fun v5 =>
      if (((v3 ++ v4).size + v5.size : Nat) : Int) ≤ 9223372036854775807 then
      (L_ref1_Num N 0 2).bind fun v6 =>
      if ((((v3 ++ v4) ++ v5).size + v6.size : Nat) : Int) ≤ 9223372036854775807 then
      (L_ref1_Num N 0 1).bind fun v7 =>
      if (((((v3 ++ v4) ++ v5) ++ v6).size + v7.size : Nat) : Int) ≤ 9223372036854775807 then
      (L_ref1_Num N x0.Tier 1).bind fun v8 =>
      if ((((((v3 ++ v4) ++ v5) ++ v6) ++ v7).size + v8.size : Nat) : Int) ≤ 9223372036854775807 then
      (L_ref1_Num N x0.Marker 1).bind fun v9 =>
      if (((((((v3 ++ v4) ++ v5) ++ v6) ++ v7) ++ v8).size + v9.size : Nat) : Int) ≤ 9223372036854775807 then
      via (((((((v3 ++ v4) ++ v5) ++ v6) ++ v7) ++ v8) ++ v9) : ByteArray) fun v10 =>
      (L_ref1_Num N x0.Origin 1).bind fun v11 =>
      if ((v10.size + v11.size : Nat) : Int) ≤ 9223372036854775807 then
      (L_ref1_Num N (x0.Body.size : Int) 2).bind fun v12 =>
      if (((v10 ++ v11).size + v12.size : Nat) : Int) ≤ 9223372036854775807 then
      (L_ref1_Num N 0 2).bind fun v13 =>
      if ((((v10 ++ v11) ++ v12).size + v13.size : Nat) : Int) ≤ 9223372036854775807 then
      if (((((v10 ++ v11) ++ v12) ++ v13).size + x0.Body.size : Nat) : Int) ≤ 9223372036854775807 then
      (L_ref1_PutIp N (GIp.mk x0.Src x0.Dst 17 64 0 ((((v10 ++ v11) ++ v12) ++ v13) ++ x0.Body))).bind fun v14 =>
      some (v14.1, 0)
      else none
      else none
      else none
      else none
      else none
      else none
      else none
      else none
      else none
      else none
def d_ref1_Push (r : ByteArray × Int) : D := .tup [.str r.1, .int .i64 r.2]
theorem g_ref1_Push_0 {c : Cx} (hc : Is c Try.prog ty 22 61) (N : Nat) {r : ByteArray × Int} (hfin : c.Fin [] (d_ref1_Push r) []) (x0 : GOuter) (h : L_ref1_Push N x0 = some r) : c.Goes (items (bodyOf Try.f22) [.c 1]) ⟨[(0, .agg [.int .i64 x0.Src, .int .i64 x0.Dst, .int .i64 x0.Tier, .int .i64 x0.Marker, .int .i64 x0.Origin, .str x0.Body])], []⟩ := by
  unfold L_ref1_Push at h
  obtain ⟨v1, h0, h⟩ := bind_of h
  rcases brk h with ⟨h1, h⟩ | ⟨h1, h⟩
  · have h := Option.some.inj h
    refine hc.ret hfin (fn := Try.f22) (by kernel_rfl) (orc := [(1, [(1, { r := d_ref1_OuterMay v1 }), (2, { cv := some (.bool true) })])]) (m := 8) (d := .tup [.str ByteArray.empty, .int .i64 600]) (by kernel_rfl) (.cons (c_ref1_OuterMay N x0 h0) (.cons (Le.tt h1) .nil)) ?_ ?_
    · rw [← h]; exact Le.of rfl
    · rw [← h]; rfl
  · obtain ⟨v2, h2, h⟩ := via_some h
    rcases brk h with ⟨h3, h⟩ | ⟨h3, h⟩
    · have h := Option.some.inj h
      refine hc.ret hfin (fn := Try.f22) (by kernel_rfl) (orc := [(1, [(1, { r := d_ref1_OuterMay v1 }), (2, { cv := some (.bool false) })]), (3, [(3, { cv := some (.int .i64 v2) })]), (4, [(2, { cv := some (.bool true) })])]) (m := 15) (d := .tup [.str ByteArray.empty, .int .i64 601]) (by kernel_rfl) (.cons (c_ref1_OuterMay N x0 h0) (.cons (Le.ff h1) (.cons (Le.int (k := .i64) h2) (.cons (Le.tt h3) .nil)))) ?_ ?_
      · rw [← h]; exact Le.of rfl
      · rw [← h]; rfl
    · obtain ⟨v3, h4, h⟩ := bind_of h
      obtain ⟨v4, h5, h⟩ := bind_of h
      obtain ⟨h6, h⟩ := chk h
      obtain ⟨v5, h7, h⟩ := bind_of h
      obtain ⟨h8, h⟩ := chk h
      obtain ⟨v6, h9, h⟩ := bind_of h
      obtain ⟨h10, h⟩ := chk h
      obtain ⟨v7, h11, h⟩ := bind_of h
      obtain ⟨h12, h⟩ := chk h
      obtain ⟨v8, h13, h⟩ := bind_of h
      obtain ⟨h14, h⟩ := chk h
      obtain ⟨v9, h15, h⟩ := bind_of h
      obtain ⟨h16, h⟩ := chk h
      obtain ⟨v10, h17, h⟩ := via_some h
      obtain ⟨v11, h18, h⟩ := bind_of h
      obtain ⟨h19, h⟩ := chk h
      obtain ⟨v12, h20, h⟩ := bind_of h
      obtain ⟨h21, h⟩ := chk h
      obtain ⟨v13, h22, h⟩ := bind_of h
      obtain ⟨h23, h⟩ := chk h
      obtain ⟨h24, h⟩ := chk h
      obtain ⟨v14, h25, h⟩ := bind_of h
      have h := Option.some.inj h
      refine hc.ret hfin (fn := Try.f22) (by kernel_rfl) (orc := [(1, [(1, { r := d_ref1_OuterMay v1 }), (2, { cv := some (.bool false) })]), (3, [(3, { cv := some (.int .i64 v2) })]), (4, [(2, { cv := some (.bool false) })]), (6, [(0, { r := d_ref1_Num v3 }), (1, { r := d_ref1_Num v4 }), (4, { r := d_ref1_Num v5 }), (6, { r := d_ref1_Num v6 }), (8, { r := d_ref1_Num v7 }), (12, { r := d_ref1_Num v8 }), (16, { r := d_ref1_Num v9 }), (17, { cv := some (.str v10) }), (20, { r := d_ref1_Num v11 }), (25, { r := d_ref1_Num v12 }), (27, { r := d_ref1_Num v13 })]), (7, [(6, { r := d_ref1_PutIp v14 })])]) (m := 20) (d := .tup [.str v14.1, .int .i64 0]) (by kernel_rfl) (.cons (c_ref1_OuterMay N x0 h0) (.cons (Le.ff h1) (.cons (Le.int (k := .i64) h2) (.cons (Le.ff h3) (.cons (c_ref1_Num N 61440 2 h4) (.cons (c_ref1_Num N 6080 2 h5) (.cons (h6) (.cons (c_ref1_Num N v2 2 h7) (.cons (h8) (.cons (c_ref1_Num N 0 2 h9) (.cons (h10) (.cons (c_ref1_Num N 0 1 h11) (.cons (h12) (.cons (c_ref1_Num N x0.Tier 1 h13) (.cons (h14) (.cons (c_ref1_Num N x0.Marker 1 h15) (.cons (h16) (.cons (Le.str h17) (.cons (c_ref1_Num N x0.Origin 1 h18) (.cons (h19) (.cons (c_ref1_Num N (x0.Body.size : Int) 2 h20) (.cons (h21) (.cons (c_ref1_Num N 0 2 h22) (.cons (h23) (.cons (h24) (.cons (c_ref1_PutIp N (GIp.mk x0.Src x0.Dst 17 64 0 ((((v10 ++ v11) ++ v12) ++ v13) ++ x0.Body)) h25) .nil)))))))))))))))))))))))))) ?_ ?_
      · rw [← h]; exact Le.of rfl
      · rw [← h]; rfl

theorem c_ref1_Push (N : Nat) (x0 : GOuter) {r : ByteArray × Int} (h : L_ref1_Push N x0 = some r) : Con Try.prog 22 [.agg [.int .i64 x0.Src, .int .i64 x0.Dst, .int .i64 x0.Tier, .int .i64 x0.Marker, .int .i64 x0.Origin, .str x0.Body]] [] (d_ref1_Push r) [] :=
  con_intro ok mix (fn := Try.f22) (body := bodyOf Try.f22) (by kernel_rfl) (by kernel_rfl) (by kernel_rfl) rfl (Nat.le_of_ble_eq_true (by kernel_rfl)) fun c h1 h2 h3 h4 hfin => g_ref1_Push_0 ⟨h1, h2, h3, h4⟩ N hfin x0 h
/-! ### wharfage/wharfageref1.Pop -/
def L_ref1_Pop_2 (N : Nat) (b116_0 : Int) (b116_1 : Int) (b116_2 : Int) (b116_3 : Int) (b116_4 : Int) (b116_5 : ByteArray) (b164_0 : Int) (b164_1 : Int) (b164_2 : Int) (b164_3 : Int) (b164_4 : Int) (b164_5 : ByteArray) (t59 : Bool) : Option (GOuter × Int) :=
  bif t59 then
    some ((GOuter.mk 0 0 0 0 0 ByteArray.empty), 600)
  else
    some ((GOuter.mk b164_0 b164_1 b164_2 b164_3 b164_4 b164_5), 0)
def L_ref1_Pop_1 (N : Nat) (t0 : ByteArray) (b116_0 : Int) (b116_1 : Int) (b116_2 : Int) (b116_3 : Int) (b116_4 : Int) (b116_5 : ByteArray) (b132_0 : Int) (b132_1 : Int) (b132_2 : Int) (b132_3 : Int) (b132_4 : Int) (b132_5 : ByteArray) (t28 : Bool) : Option (GOuter × Int) :=
  bif t28 then
    some ((GOuter.mk 0 0 0 0 0 ByteArray.empty), 600)
  else
    if 0 ≤ (9 : Int) ∧ (9 : Int) < (b132_5.size : Int) then
    if 0 ≤ (10 : Int) ∧ (10 : Int) < (b132_5.size : Int) then
    if 0 ≤ (11 : Int) ∧ (11 : Int) < (b132_5.size : Int) then
    if 0 ≤ (b132_5.size : Int) ∧ (b132_5.size : Int) ≤ (b132_5.size : Int) ∧ 0 ≤ (16 : Int) ∧ (16 : Int) ≤ (b132_5.size : Int) then
    (L_ref1_Push N (GOuter.mk b132_0 b132_1 (IntKind.i64.wrap (bt b132_5 9)) (IntKind.i64.wrap (bt b132_5 10)) (IntKind.i64.wrap (bt b132_5 11)) (b132_5.extract 16 b132_5.size))).bind fun v1 =>
    bif (v1.2 != 0) then
      L_ref1_Pop_2 N b116_0 b116_1 b116_2 b116_3 b116_4 b116_5 b132_0 b132_1 (IntKind.i64.wrap (bt b132_5 9)) (IntKind.i64.wrap (bt b132_5 10)) (IntKind.i64.wrap (bt b132_5 11)) (b132_5.extract 16 b132_5.size) true
    else
      L_ref1_Pop_2 N b116_0 b116_1 b116_2 b116_3 b116_4 b116_5 b132_0 b132_1 (IntKind.i64.wrap (bt b132_5 9)) (IntKind.i64.wrap (bt b132_5 10)) (IntKind.i64.wrap (bt b132_5 11)) (b132_5.extract 16 b132_5.size) (!(v1.1.toList == t0.toList))
    else none
    else none
    else none
    else none
def L_ref1_Pop (N : Nat) (x0 : ByteArray) : Option (GOuter × Int) :=
  (L_ref1_GetIp N x0).bind fun v1 =>
  bif (v1.2.2 != 0) then
    L_ref1_Pop_1 N x0 0 0 0 0 0 ByteArray.empty v1.1.Src v1.1.Dst v1.1.Proto v1.1.Ttl v1.1.Id v1.1.Body true
  else
    bif (v1.2.1 != 0) then
      L_ref1_Pop_1 N x0 0 0 0 0 0 ByteArray.empty v1.1.Src v1.1.Dst v1.1.Proto v1.1.Ttl v1.1.Id v1.1.Body true
    else
      L_ref1_Pop_1 N x0 0 0 0 0 0 ByteArray.empty v1.1.Src v1.1.Dst v1.1.Proto v1.1.Ttl v1.1.Id v1.1.Body (decide ((v1.1.Body.size : Int) < 16))
def d_ref1_Pop (r : GOuter × Int) : D := .tup [.agg [.int .i64 r.1.Src, .int .i64 r.1.Dst, .int .i64 r.1.Tier, .int .i64 r.1.Marker, .int .i64 r.1.Origin, .str r.1.Body], .int .i64 r.2]
theorem g_ref1_Pop_2 {c : Cx} (hc : Is c Try.prog ty 24 62) (N : Nat) {r : GOuter × Int} (hfin : c.Fin [] (d_ref1_Pop r) []) (b116_0 : Int) (b116_1 : Int) (b116_2 : Int) (b116_3 : Int) (b116_4 : Int) (b116_5 : ByteArray) (b164_0 : Int) (b164_1 : Int) (b164_2 : Int) (b164_3 : Int) (b164_4 : Int) (b164_5 : ByteArray) (t59 : Bool) (h : L_ref1_Pop_2 N b116_0 b116_1 b116_2 b116_3 b116_4 b116_5 b164_0 b164_1 b164_2 b164_3 b164_4 b164_5 t59 = some r) : c.Goes (items (bodyOf Try.f24) [.c 447, .c 255]) ⟨[(2, .ptr 116 0), (8, .ptr 164 0), (59, .bool t59)], [(116, some ⟨false, 0, [.int .i64 b116_0, .int .i64 b116_1, .int .i64 b116_2, .int .i64 b116_3, .int .i64 b116_4, .str b116_5]⟩), (164, some ⟨false, 0, [.int .i64 b164_0, .int .i64 b164_1, .int .i64 b164_2, .int .i64 b164_3, .int .i64 b164_4, .str b164_5]⟩)]⟩ := by
  unfold L_ref1_Pop_2 at h
  rcases brk h with ⟨h0, k0⟩ | ⟨h0, k0⟩
  · subst h0
    replace h := k0
    have h := Option.some.inj h
    refine hc.ret hfin (fn := Try.f24) (by kernel_rfl) (orc := []) (m := 3) (d := .tup [.agg [.int .i64 0, .int .i64 0, .int .i64 0, .int .i64 0, .int .i64 0, .str ByteArray.empty], .int .i64 600]) (by kernel_rfl) .nil ?_ ?_
    · rw [← h]; exact Le.of rfl
    · rw [← h]; rfl
  · subst h0
    replace h := k0
    have h := Option.some.inj h
    refine hc.ret hfin (fn := Try.f24) (by kernel_rfl) (orc := []) (m := 4) (d := .tup [.agg [.int .i64 b164_0, .int .i64 b164_1, .int .i64 b164_2, .int .i64 b164_3, .int .i64 b164_4, .str b164_5], .int .i64 0]) (by kernel_rfl) .nil ?_ ?_
    · rw [← h]; exact Le.of rfl
    · rw [← h]; rfl

theorem g_ref1_Pop_1 {c : Cx} (hc : Is c Try.prog ty 24 62) (N : Nat) {r : GOuter × Int} (hfin : c.Fin [] (d_ref1_Pop r) []) (t0 : ByteArray) (b116_0 : Int) (b116_1 : Int) (b116_2 : Int) (b116_3 : Int) (b116_4 : Int) (b116_5 : ByteArray) (b132_0 : Int) (b132_1 : Int) (b132_2 : Int) (b132_3 : Int) (b132_4 : Int) (b132_5 : ByteArray) (t28 : Bool) (h : L_ref1_Pop_1 N t0 b116_0 b116_1 b116_2 b116_3 b116_4 b116_5 b132_0 b132_1 b132_2 b132_3 b132_4 b132_5 t28 = some r) : c.Goes (items (bodyOf Try.f24) [.c 27, .c 15]) ⟨[(0, .str t0), (2, .ptr 116 0), (4, .ptr 132 0), (28, .bool t28)], [(116, some ⟨false, 0, [.int .i64 b116_0, .int .i64 b116_1, .int .i64 b116_2, .int .i64 b116_3, .int .i64 b116_4, .str b116_5]⟩), (132, some ⟨false, 0, [.int .i64 b132_0, .int .i64 b132_1, .int .i64 b132_2, .int .i64 b132_3, .int .i64 b132_4, .str b132_5]⟩)]⟩ := by
  unfold L_ref1_Pop_1 at h
  rcases brk h with ⟨h0, k0⟩ | ⟨h0, k0⟩
  · subst h0
    replace h := k0
    have h := Option.some.inj h
    refine hc.ret hfin (fn := Try.f24) (by kernel_rfl) (orc := []) (m := 3) (d := .tup [.agg [.int .i64 0, .int .i64 0, .int .i64 0, .int .i64 0, .int .i64 0, .str ByteArray.empty], .int .i64 600]) (by kernel_rfl) .nil ?_ ?_
    · rw [← h]; exact Le.of rfl
    · rw [← h]; rfl
  · subst h0
    replace h := k0
    obtain ⟨h1, h⟩ := chk h
    obtain ⟨h2, h⟩ := chk h
    obtain ⟨h3, h⟩ := chk h
    obtain ⟨h4, h⟩ := chk h
    obtain ⟨v1, h5, h⟩ := bind_of h
    rcases brk h with ⟨h6, h⟩ | ⟨h6, h⟩
    · exact hc.jump (orc := [(6, [(1, { r := d_ref1_Push v1 })]), (7, [(2, { cv := some (.bool true) })])]) (m := 11) (kt := [2, 8, 59]) (kh := [(116, 116), (164, 164)]) (by kernel_rfl) (.cons (h1) (.cons (h2) (.cons (h3) (.cons (h4) (.cons (c_ref1_Push N (GOuter.mk b132_0 b132_1 (IntKind.i64.wrap (bt b132_5 9)) (IntKind.i64.wrap (bt b132_5 10)) (IntKind.i64.wrap (bt b132_5 11)) (b132_5.extract 16 b132_5.size)) h5) (.cons (Le.tt h6) .nil)))))) (g_ref1_Pop_2 hc N hfin b116_0 b116_1 b116_2 b116_3 b116_4 b116_5 b132_0 b132_1 (IntKind.i64.wrap (bt b132_5 9)) (IntKind.i64.wrap (bt b132_5 10)) (IntKind.i64.wrap (bt b132_5 11)) (b132_5.extract 16 b132_5.size) true h)
    · exact hc.jump (orc := [(6, [(1, { r := d_ref1_Push v1 })]), (7, [(2, { cv := some (.bool false) })])]) (m := 11) (kt := [2, 8, 59]) (kh := [(116, 116), (164, 164)]) (by kernel_rfl) (.cons (h1) (.cons (h2) (.cons (h3) (.cons (h4) (.cons (c_ref1_Push N (GOuter.mk b132_0 b132_1 (IntKind.i64.wrap (bt b132_5 9)) (IntKind.i64.wrap (bt b132_5 10)) (IntKind.i64.wrap (bt b132_5 11)) (b132_5.extract 16 b132_5.size)) h5) (.cons (Le.ff h6) .nil)))))) (g_ref1_Pop_2 hc N hfin b116_0 b116_1 b116_2 b116_3 b116_4 b116_5 b132_0 b132_1 (IntKind.i64.wrap (bt b132_5 9)) (IntKind.i64.wrap (bt b132_5 10)) (IntKind.i64.wrap (bt b132_5 11)) (b132_5.extract 16 b132_5.size) (!(v1.1.toList == t0.toList)) h)

theorem g_ref1_Pop_0 {c : Cx} (hc : Is c Try.prog ty 24 62) (N : Nat) {r : GOuter × Int} (hfin : c.Fin [] (d_ref1_Pop r) []) (x0 : ByteArray) (h : L_ref1_Pop N x0 = some r) : c.Goes (items (bodyOf Try.f24) [.c 1]) ⟨[(0, .str x0)], []⟩ := by
  unfold L_ref1_Pop at h
  obtain ⟨v1, h0, h⟩ := bind_of h
  rcases brk h with ⟨h1, h⟩ | ⟨h1, h⟩
  · exact hc.jump (orc := [(1, [(1, { r := d_ref1_GetIp v1 })]), (2, [(2, { cv := some (.bool true) })])]) (m := 7) (kt := [0, 2, 4, 28]) (kh := [(116, 116), (132, 132)]) (by kernel_rfl) (.cons (c_ref1_GetIp N x0 h0) (.cons (Le.tt h1) .nil)) (g_ref1_Pop_1 hc N hfin x0 0 0 0 0 0 ByteArray.empty v1.1.Src v1.1.Dst v1.1.Proto v1.1.Ttl v1.1.Id v1.1.Body true h)
  · rcases brk h with ⟨h2, h⟩ | ⟨h2, h⟩
    · exact hc.jump (orc := [(1, [(1, { r := d_ref1_GetIp v1 })]), (2, [(2, { cv := some (.bool false) }), (6, { cv := some (.bool true) })])]) (m := 7) (kt := [0, 2, 4, 28]) (kh := [(116, 116), (132, 132)]) (by kernel_rfl) (.cons (c_ref1_GetIp N x0 h0) (.cons (Le.ff h1) (.cons (Le.tt h2) .nil))) (g_ref1_Pop_1 hc N hfin x0 0 0 0 0 0 ByteArray.empty v1.1.Src v1.1.Dst v1.1.Proto v1.1.Ttl v1.1.Id v1.1.Body true h)
    · exact hc.jump (orc := [(1, [(1, { r := d_ref1_GetIp v1 })]), (2, [(2, { cv := some (.bool false) }), (6, { cv := some (.bool false) })])]) (m := 7) (kt := [0, 2, 4, 28]) (kh := [(116, 116), (132, 132)]) (by kernel_rfl) (.cons (c_ref1_GetIp N x0 h0) (.cons (Le.ff h1) (.cons (Le.ff h2) .nil))) (g_ref1_Pop_1 hc N hfin x0 0 0 0 0 0 ByteArray.empty v1.1.Src v1.1.Dst v1.1.Proto v1.1.Ttl v1.1.Id v1.1.Body (decide ((v1.1.Body.size : Int) < 16)) h)

theorem c_ref1_Pop (N : Nat) (x0 : ByteArray) {r : GOuter × Int} (h : L_ref1_Pop N x0 = some r) : Con Try.prog 24 [.str x0] [] (d_ref1_Pop r) [] :=
  con_intro ok mix (fn := Try.f24) (body := bodyOf Try.f24) (by kernel_rfl) (by kernel_rfl) (by kernel_rfl) rfl (Nat.le_of_ble_eq_true (by kernel_rfl)) fun c h1 h2 h3 h4 hfin => g_ref1_Pop_0 ⟨h1, h2, h3, h4⟩ N hfin x0 h
/-! ### wharfage/wharfageref19.told -/
def L_ref19_told (N : Nat) (x0 : GEvent) (x1 : Int) : Option (GOut) :=
  some (GOut.mk ([]) ([(GEvent.mk x1 x0.Role x0.Site x0.Node x0.To x0.Flow)]))
def d_ref19_told (r : GOut) : D := .agg [.sl true (eL eStr r.Sent) r.Sent.length r.Sent.length, .sl true (eL eEvent r.Events) r.Events.length r.Events.length]
theorem g_ref19_told_0 {c : Cx} (hc : Is c Try.prog ty 75 10) (N : Nat) {r : GOut} (hfin : c.Fin [] (d_ref19_told r) []) (x0 : GEvent) (x1 : Int) (h : L_ref19_told N x0 x1 = some r) : c.Goes (items (bodyOf Try.f75) [.c 1]) ⟨[(0, .agg [.int .i64 x0.Kind, .int .i64 x0.Role, .int .i64 x0.Site, .int .i64 x0.Node, .int .i64 x0.To, .int .i64 x0.Flow.Src, .int .i64 x0.Flow.Dst, .int .i64 x0.Flow.Proto, .int .i64 x0.Flow.Sport, .int .i64 x0.Flow.Dport]), (1, .int .i64 x1)], []⟩ := by
  unfold L_ref19_told at h
  have h := Option.some.inj h
  refine hc.ret hfin (fn := Try.f75) (by kernel_rfl) (orc := [(2, [(2, { frz := true })])]) (m := 6) (d := .agg [.nils, .sl true (eL eEvent ([(GEvent.mk x1 x0.Role x0.Site x0.Node x0.To x0.Flow)])) 1 1]) (by kernel_rfl) .nil ?_ ?_
  · rw [← h]; exact Le.agg ((.cons (Le.nils) (.cons (Le.of rfl) .nil)))
  · rw [← h]; rfl

theorem c_ref19_told (N : Nat) (x0 : GEvent) (x1 : Int) {r : GOut} (h : L_ref19_told N x0 x1 = some r) : Con Try.prog 75 [.agg [.int .i64 x0.Kind, .int .i64 x0.Role, .int .i64 x0.Site, .int .i64 x0.Node, .int .i64 x0.To, .int .i64 x0.Flow.Src, .int .i64 x0.Flow.Dst, .int .i64 x0.Flow.Proto, .int .i64 x0.Flow.Sport, .int .i64 x0.Flow.Dport], .int .i64 x1] [] (d_ref19_told r) [] :=
  con_intro ok mix (fn := Try.f75) (body := bodyOf Try.f75) (by kernel_rfl) (by kernel_rfl) (by kernel_rfl) rfl (Nat.le_of_ble_eq_true (by kernel_rfl)) fun c h1 h2 h3 h4 hfin => g_ref19_told_0 ⟨h1, h2, h3, h4⟩ N hfin x0 x1 h
/-! ### wharfage/wharfageref1.pseudo -/
def L_ref1_pseudo (N : Nat) (x0 : Int) (x1 : ByteArray) (x2 : Int) (x3 : Int) : Option (Int) :=
  (L_ref1_Num N x2 4).bind fun v1 =>
  (L_ref1_Num N x3 4).bind fun v2 =>
  if ((v1.size + v2.size : Nat) : Int) ≤ 9223372036854775807 then
  (L_ref1_Num N x0 2).bind fun v3 =>
  if (((v1 ++ v2).size + v3.size : Nat) : Int) ≤ 9223372036854775807 then
  (L_ref1_Num N (x1.size : Int) 2).bind fun v4 =>
  if ((((v1 ++ v2) ++ v3).size + v4.size : Nat) : Int) ≤ 9223372036854775807 then
  if (((((v1 ++ v2) ++ v3) ++ v4).size + x1.size : Nat) : Int) ≤ 9223372036854775807 then
  (L_ref1_Sum N ((((v1 ++ v2) ++ v3) ++ v4) ++ x1)).bind fun v5 =>
  some v5
  else none
  else none
  else none
  else none
def d_ref1_pseudo (r : Int) : D := .int .i64 r
theorem g_ref1_pseudo_0 {c : Cx} (hc : Is c Try.prog ty 62 24) (N : Nat) {r : Int} (hfin : c.Fin [] (d_ref1_pseudo r) []) (x0 : Int) (x1 : ByteArray) (x2 : Int) (x3 : Int) (h : L_ref1_pseudo N x0 x1 x2 x3 = some r) : c.Goes (items (bodyOf Try.f62) [.c 1]) ⟨[(0, .int .i64 x0), (1, .str x1), (2, .int .i64 x2), (3, .int .i64 x3)], []⟩ := by
  unfold L_ref1_pseudo at h
  obtain ⟨v1, h0, h⟩ := bind_of h
  obtain ⟨v2, h1, h⟩ := bind_of h
  obtain ⟨h2, h⟩ := chk h
  obtain ⟨v3, h3, h⟩ := bind_of h
  obtain ⟨h4, h⟩ := chk h
  obtain ⟨v4, h5, h⟩ := bind_of h
  obtain ⟨h6, h⟩ := chk h
  obtain ⟨h7, h⟩ := chk h
  obtain ⟨v5, h8, h⟩ := bind_of h
  have h := Option.some.inj h
  refine hc.ret hfin (fn := Try.f62) (by kernel_rfl) (orc := [(1, [(1, { r := d_ref1_Num v1 }), (3, { r := d_ref1_Num v2 }), (6, { r := d_ref1_Num v3 }), (10, { r := d_ref1_Num v4 }), (14, { r := d_ref1_Sum v5 })])]) (m := 4) (d := .int .i64 v5) (by kernel_rfl) (.cons (c_ref1_Num N x2 4 h0) (.cons (c_ref1_Num N x3 4 h1) (.cons (h2) (.cons (c_ref1_Num N x0 2 h3) (.cons (h4) (.cons (c_ref1_Num N (x1.size : Int) 2 h5) (.cons (h6) (.cons (h7) (.cons (c_ref1_Sum N ((((v1 ++ v2) ++ v3) ++ v4) ++ x1) h8) .nil))))))))) ?_ ?_
  · rw [← h]; exact Le.of rfl
  · rw [← h]; rfl

theorem c_ref1_pseudo (N : Nat) (x0 : Int) (x1 : ByteArray) (x2 : Int) (x3 : Int) {r : Int} (h : L_ref1_pseudo N x0 x1 x2 x3 = some r) : Con Try.prog 62 [.int .i64 x0, .str x1, .int .i64 x2, .int .i64 x3] [] (d_ref1_pseudo r) [] :=
  con_intro ok mix (fn := Try.f62) (body := bodyOf Try.f62) (by kernel_rfl) (by kernel_rfl) (by kernel_rfl) rfl (Nat.le_of_ble_eq_true (by kernel_rfl)) fun c h1 h2 h3 h4 hfin => g_ref1_pseudo_0 ⟨h1, h2, h3, h4⟩ N hfin x0 x1 x2 x3 h
/-! ### wharfage/wharfageref1.SegMay -/
def L_ref1_SegMay_2 (N : Nat) (t2 : Bool) : Option (Bool) :=
  some t2
def L_ref1_SegMay_3 (N : Nat) (t2 : Bool) : Option (Bool) :=
  some t2
def L_ref1_SegMay_1 (N : Nat) (b108_0 : Int) (b108_1 : Int) (b108_2 : Int) (b108_3 : Int) (b108_4 : Int) (b108_5 : Int) (b108_6 : ByteArray) (t18 : Bool) : Option (Bool) :=
  bif t18 then
    some false
  else
    bif (b108_0 == 17) then
      bif (b108_3 == 0) then
        bif (b108_4 == 0) then
          L_ref1_SegMay_2 N (b108_5 == 0)
        else
          L_ref1_SegMay_2 N false
      else
        L_ref1_SegMay_2 N false
    else
      bif (b108_0 == 6) then
        (L_ref1_within N b108_3 32).bind fun v1 =>
        bif v1 then
          (L_ref1_within N b108_4 32).bind fun v2 =>
          bif v2 then
            (L_ref1_within N b108_5 6).bind fun v3 =>
            L_ref1_SegMay_3 N v3
          else
            L_ref1_SegMay_3 N false
        else
          L_ref1_SegMay_3 N false
      else
        L_ref1_SegMay_3 N false
def L_ref1_SegMay (N : Nat) (x0 : GSeg) : Option (Bool) :=
  (L_ref1_within N x0.Sport 16).bind fun v1 =>
  bif (!v1) then
    L_ref1_SegMay_1 N x0.Proto x0.Sport x0.Dport x0.Seq x0.Ack x0.Flags x0.Body true
  else
    (L_ref1_within N x0.Dport 16).bind fun v2 =>
    bif (!v2) then
      L_ref1_SegMay_1 N x0.Proto x0.Sport x0.Dport x0.Seq x0.Ack x0.Flags x0.Body true
    else
      L_ref1_SegMay_1 N x0.Proto x0.Sport x0.Dport x0.Seq x0.Ack x0.Flags x0.Body (decide ((x0.Body.size : Int) > 256))
def d_ref1_SegMay (r : Bool) : D := .bool r
theorem g_ref1_SegMay_2 {c : Cx} (hc : Is c Try.prog ty 34 53) (N : Nat) {r : Bool} (hfin : c.Fin [] (d_ref1_SegMay r) []) (t2 : Bool) (h : L_ref1_SegMay_2 N t2 = some r) : c.Goes (items (bodyOf Try.f34) [.c 107, .c 15]) ⟨[(2, .bool t2)], []⟩ := by
  unfold L_ref1_SegMay_2 at h
  have h := Option.some.inj h
  refine hc.ret hfin (fn := Try.f34) (by kernel_rfl) (orc := []) (m := 0) (d := .bool t2) (by kernel_rfl) .nil ?_ ?_
  · rw [← h]; exact Le.of rfl
  · rw [← h]; rfl

theorem g_ref1_SegMay_3 {c : Cx} (hc : Is c Try.prog ty 34 53) (N : Nat) {r : Bool} (hfin : c.Fin [] (d_ref1_SegMay r) []) (t2 : Bool) (h : L_ref1_SegMay_3 N t2 = some r) : c.Goes (items (bodyOf Try.f34) [.c 31]) ⟨[(2, .bool t2)], []⟩ := by
  unfold L_ref1_SegMay_3 at h
  have h := Option.some.inj h
  refine hc.ret hfin (fn := Try.f34) (by kernel_rfl) (orc := []) (m := 0) (d := .bool t2) (by kernel_rfl) .nil ?_ ?_
  · rw [← h]; exact Le.of rfl
  · rw [← h]; rfl

theorem g_ref1_SegMay_1 {c : Cx} (hc : Is c Try.prog ty 34 53) (N : Nat) {r : Bool} (hfin : c.Fin [] (d_ref1_SegMay r) []) (b108_0 : Int) (b108_1 : Int) (b108_2 : Int) (b108_3 : Int) (b108_4 : Int) (b108_5 : Int) (b108_6 : ByteArray) (t18 : Bool) (h : L_ref1_SegMay_1 N b108_0 b108_1 b108_2 b108_3 b108_4 b108_5 b108_6 t18 = some r) : c.Goes (items (bodyOf Try.f34) [.c 13, .c 7]) ⟨[(1, .ptr 108 0), (18, .bool t18)], [(108, some ⟨false, 0, [.int .i64 b108_0, .int .i64 b108_1, .int .i64 b108_2, .int .i64 b108_3, .int .i64 b108_4, .int .i64 b108_5, .str b108_6]⟩)]⟩ := by
  unfold L_ref1_SegMay_1 at h
  rcases brk h with ⟨h0, k0⟩ | ⟨h0, k0⟩
  · subst h0
    replace h := k0
    have h := Option.some.inj h
    refine hc.ret hfin (fn := Try.f34) (by kernel_rfl) (orc := []) (m := 3) (d := .bool false) (by kernel_rfl) .nil ?_ ?_
    · rw [← h]; exact Le.of rfl
    · rw [← h]; rfl
  · subst h0
    replace h := k0
    rcases brk h with ⟨h1, h⟩ | ⟨h1, h⟩
    · rcases brk h with ⟨h2, h⟩ | ⟨h2, h⟩
      · rcases brk h with ⟨h3, h⟩ | ⟨h3, h⟩
        · exact hc.jump (orc := [(3, [(2, { cv := some (.bool true) })]), (4, [(3, { cv := some (.bool true) }), (8, { cv := some (.bool true) })])]) (m := 8) (kt := [2]) (kh := []) (by kernel_rfl) (.cons (Le.tt h1) (.cons (Le.tt h2) (.cons (Le.tt h3) .nil))) (g_ref1_SegMay_2 hc N hfin (b108_5 == 0) h)
        · exact hc.jump (orc := [(3, [(2, { cv := some (.bool true) })]), (4, [(3, { cv := some (.bool true) }), (8, { cv := some (.bool false) })])]) (m := 8) (kt := [2]) (kh := []) (by kernel_rfl) (.cons (Le.tt h1) (.cons (Le.tt h2) (.cons (Le.ff h3) .nil))) (g_ref1_SegMay_2 hc N hfin false h)
      · exact hc.jump (orc := [(3, [(2, { cv := some (.bool true) })]), (4, [(3, { cv := some (.bool false) })])]) (m := 8) (kt := [2]) (kh := []) (by kernel_rfl) (.cons (Le.tt h1) (.cons (Le.ff h2) .nil)) (g_ref1_SegMay_2 hc N hfin false h)
    · rcases brk h with ⟨h2, h⟩ | ⟨h2, h⟩
      · obtain ⟨v1, h3, h⟩ := bind_of h
        rcases brk h with ⟨h4, h⟩ | ⟨h4, h⟩
        · obtain ⟨v2, h5, h⟩ := bind_of h
          rcases brk h with ⟨h6, h⟩ | ⟨h6, h⟩
          · obtain ⟨v3, h7, h⟩ := bind_of h
            exact hc.jump (orc := [(3, [(2, { cv := some (.bool false) })]), (5, [(3, { cv := some (.bool true) }), (6, { r := d_ref1_within v1 }), (8, { cv := some (.bool true) }), (11, { r := d_ref1_within v2 }), (13, { cv := some (.bool true) }), (16, { r := d_ref1_within v3 })])]) (m := 9) (kt := [2]) (kh := []) (by kernel_rfl) (.cons (Le.ff h1) (.cons (Le.tt h2) (.cons (c_ref1_within N b108_3 32 h3) (.cons (Le.tt h4) (.cons (c_ref1_within N b108_4 32 h5) (.cons (Le.tt h6) (.cons (c_ref1_within N b108_5 6 h7) .nil))))))) (g_ref1_SegMay_3 hc N hfin v3 h)
          · exact hc.jump (orc := [(3, [(2, { cv := some (.bool false) })]), (5, [(3, { cv := some (.bool true) }), (6, { r := d_ref1_within v1 }), (8, { cv := some (.bool true) }), (11, { r := d_ref1_within v2 }), (13, { cv := some (.bool false) })])]) (m := 9) (kt := [2]) (kh := []) (by kernel_rfl) (.cons (Le.ff h1) (.cons (Le.tt h2) (.cons (c_ref1_within N b108_3 32 h3) (.cons (Le.tt h4) (.cons (c_ref1_within N b108_4 32 h5) (.cons (Le.ff h6) .nil)))))) (g_ref1_SegMay_3 hc N hfin false h)
        · exact hc.jump (orc := [(3, [(2, { cv := some (.bool false) })]), (5, [(3, { cv := some (.bool true) }), (6, { r := d_ref1_within v1 }), (8, { cv := some (.bool false) })])]) (m := 9) (kt := [2]) (kh := []) (by kernel_rfl) (.cons (Le.ff h1) (.cons (Le.tt h2) (.cons (c_ref1_within N b108_3 32 h3) (.cons (Le.ff h4) .nil)))) (g_ref1_SegMay_3 hc N hfin false h)
      · exact hc.jump (orc := [(3, [(2, { cv := some (.bool false) })]), (5, [(3, { cv := some (.bool false) })])]) (m := 9) (kt := [2]) (kh := []) (by kernel_rfl) (.cons (Le.ff h1) (.cons (Le.ff h2) .nil)) (g_ref1_SegMay_3 hc N hfin false h)

theorem g_ref1_SegMay_0 {c : Cx} (hc : Is c Try.prog ty 34 53) (N : Nat) {r : Bool} (hfin : c.Fin [] (d_ref1_SegMay r) []) (x0 : GSeg) (h : L_ref1_SegMay N x0 = some r) : c.Goes (items (bodyOf Try.f34) [.c 1]) ⟨[(0, .agg [.int .i64 x0.Proto, .int .i64 x0.Sport, .int .i64 x0.Dport, .int .i64 x0.Seq, .int .i64 x0.Ack, .int .i64 x0.Flags, .str x0.Body])], []⟩ := by
  unfold L_ref1_SegMay at h
  obtain ⟨v1, h0, h⟩ := bind_of h
  rcases brk h with ⟨h1, h⟩ | ⟨h1, h⟩
  · exact hc.jump (orc := [(1, [(2, { r := d_ref1_within v1 }), (4, { cv := some (.bool true) })])]) (m := 5) (kt := [1, 18]) (kh := [(108, 108)]) (by kernel_rfl) (.cons (c_ref1_within N x0.Sport 16 h0) (.cons (Le.tt h1) .nil)) (g_ref1_SegMay_1 hc N hfin x0.Proto x0.Sport x0.Dport x0.Seq x0.Ack x0.Flags x0.Body true h)
  · obtain ⟨v2, h2, h⟩ := bind_of h
    rcases brk h with ⟨h3, h⟩ | ⟨h3, h⟩
    · exact hc.jump (orc := [(1, [(2, { r := d_ref1_within v1 }), (4, { cv := some (.bool false) }), (7, { r := d_ref1_within v2 }), (10, { cv := some (.bool true) })])]) (m := 5) (kt := [1, 18]) (kh := [(108, 108)]) (by kernel_rfl) (.cons (c_ref1_within N x0.Sport 16 h0) (.cons (Le.ff h1) (.cons (c_ref1_within N x0.Dport 16 h2) (.cons (Le.tt h3) .nil)))) (g_ref1_SegMay_1 hc N hfin x0.Proto x0.Sport x0.Dport x0.Seq x0.Ack x0.Flags x0.Body true h)
    · exact hc.jump (orc := [(1, [(2, { r := d_ref1_within v1 }), (4, { cv := some (.bool false) }), (7, { r := d_ref1_within v2 }), (10, { cv := some (.bool false) })])]) (m := 5) (kt := [1, 18]) (kh := [(108, 108)]) (by kernel_rfl) (.cons (c_ref1_within N x0.Sport 16 h0) (.cons (Le.ff h1) (.cons (c_ref1_within N x0.Dport 16 h2) (.cons (Le.ff h3) .nil)))) (g_ref1_SegMay_1 hc N hfin x0.Proto x0.Sport x0.Dport x0.Seq x0.Ack x0.Flags x0.Body (decide ((x0.Body.size : Int) > 256)) h)

theorem c_ref1_SegMay (N : Nat) (x0 : GSeg) {r : Bool} (h : L_ref1_SegMay N x0 = some r) : Con Try.prog 34 [.agg [.int .i64 x0.Proto, .int .i64 x0.Sport, .int .i64 x0.Dport, .int .i64 x0.Seq, .int .i64 x0.Ack, .int .i64 x0.Flags, .str x0.Body]] [] (d_ref1_SegMay r) [] :=
  con_intro ok mix (fn := Try.f34) (body := bodyOf Try.f34) (by kernel_rfl) (by kernel_rfl) (by kernel_rfl) rfl (Nat.le_of_ble_eq_true (by kernel_rfl)) fun c h1 h2 h3 h4 hfin => g_ref1_SegMay_0 ⟨h1, h2, h3, h4⟩ N hfin x0 h
/-! ### wharfage/wharfageref1.GetSeg -/
def L_ref1_GetSeg_4 (N : Nat) (b164_0 : Int) (b164_1 : Int) (b164_2 : Int) (b164_3 : Int) (b164_4 : Int) (b164_5 : Int) (b164_6 : ByteArray) (b180_0 : Int) (b180_1 : Int) (b180_2 : Int) (b180_3 : Int) (b180_4 : Int) (b180_5 : Int) (b180_6 : ByteArray) (t100 : Bool) : Option (GSeg × Int) :=
  bif t100 then
    some ((GSeg.mk 0 0 0 0 0 0 ByteArray.empty), 300)
  else
    some ((GSeg.mk b180_0 b180_1 b180_2 b180_3 b180_4 b180_5 b180_6), 0)
def L_ref1_GetSeg_3 (N : Nat) (b164_0 : Int) (b164_1 : Int) (b164_2 : Int) (b164_3 : Int) (b164_4 : Int) (b164_5 : Int) (b164_6 : ByteArray) (b180_0 : Int) (b180_1 : Int) (b180_2 : Int) (b180_3 : Int) (b180_4 : Int) (b180_5 : Int) (b180_6 : ByteArray) (t11 : Bool) : Option (GSeg × Int) :=
  bif (!t11) then
    L_ref1_GetSeg_4 N b164_0 b164_1 b164_2 b164_3 b164_4 b164_5 b164_6 b180_0 b180_1 b180_2 b180_3 b180_4 b180_5 b180_6 true
  else
    (L_ref1_SegMay N (GSeg.mk b180_0 b180_1 b180_2 b180_3 b180_4 b180_5 b180_6)).bind fun v1 =>
    L_ref1_GetSeg_4 N b164_0 b164_1 b164_2 b164_3 b164_4 b164_5 b164_6 b180_0 b180_1 b180_2 b180_3 b180_4 b180_5 b180_6 (!v1)
def L_ref1_GetSeg_2 (N : Nat) (t0 : Int) (t1 : ByteArray) (t2 : Int) (t3 : Int) (b164_0 : Int) (b164_1 : Int) (b164_2 : Int) (b164_3 : Int) (b164_4 : Int) (b164_5 : Int) (b164_6 : ByteArray) (b180_0 : Int) (b180_1 : Int) (b180_2 : Int) (b180_3 : Int) (b180_4 : Int) (b180_5 : Int) (b180_6 : ByteArray) (t11 : Bool) (t34 : Bool) : Option (GSeg × Int) :=
  bif t34 then
    if 0 ≤ (8 : Int) ∧ (8 : Int) ≤ (t1.size : Int) ∧ 0 ≤ (4 : Int) ∧ (4 : Int) ≤ (8 : Int) then
    (L_ref1_Of N (t1.extract 4 8)).bind fun v1 =>
    if 0 ≤ (12 : Int) ∧ (12 : Int) ≤ (t1.size : Int) ∧ 0 ≤ (8 : Int) ∧ (8 : Int) ≤ (12 : Int) then
    (L_ref1_Of N (t1.extract 8 12)).bind fun v2 =>
    if 0 ≤ (13 : Int) ∧ (13 : Int) < (t1.size : Int) then
    if 0 ≤ (t1.size : Int) ∧ (t1.size : Int) ≤ (t1.size : Int) ∧ 0 ≤ (20 : Int) ∧ (20 : Int) ≤ (t1.size : Int) then
    if 0 ≤ (12 : Int) ∧ (12 : Int) < (t1.size : Int) then
    bif ((bt t1 12) == 80) then
      (L_ref1_pseudo N t0 t1 t2 t3).bind fun v3 =>
      L_ref1_GetSeg_3 N b164_0 b164_1 b164_2 b164_3 b164_4 b164_5 b164_6 b180_0 b180_1 b180_2 v1 v2 (IntKind.i64.wrap (bt t1 13)) (t1.extract 20 t1.size) (v3 == 65535)
    else
      L_ref1_GetSeg_3 N b164_0 b164_1 b164_2 b164_3 b164_4 b164_5 b164_6 b180_0 b180_1 b180_2 v1 v2 (IntKind.i64.wrap (bt t1 13)) (t1.extract 20 t1.size) false
    else none
    else none
    else none
    else none
    else none
  else
    bif (t0 == 17) then
      if 0 ≤ (t1.size : Int) ∧ (t1.size : Int) ≤ (t1.size : Int) ∧ 0 ≤ (8 : Int) ∧ (8 : Int) ≤ (t1.size : Int) then
      if 0 ≤ (6 : Int) ∧ (6 : Int) ≤ (t1.size : Int) ∧ 0 ≤ (4 : Int) ∧ (4 : Int) ≤ (6 : Int) then
      (L_ref1_Of N (t1.extract 4 6)).bind fun v1 =>
      bif (v1 == (t1.size : Int)) then
        if 0 ≤ (8 : Int) ∧ (8 : Int) ≤ (t1.size : Int) ∧ 0 ≤ (6 : Int) ∧ (6 : Int) ≤ (8 : Int) then
        (L_ref1_Of N (t1.extract 6 8)).bind fun v2 =>
        bif (v2 == 0) then
          L_ref1_GetSeg_3 N b164_0 b164_1 b164_2 b164_3 b164_4 b164_5 b164_6 b180_0 b180_1 b180_2 b180_3 b180_4 b180_5 (t1.extract 8 t1.size) true
        else
          (L_ref1_pseudo N t0 t1 t2 t3).bind fun v3 =>
          L_ref1_GetSeg_3 N b164_0 b164_1 b164_2 b164_3 b164_4 b164_5 b164_6 b180_0 b180_1 b180_2 b180_3 b180_4 b180_5 (t1.extract 8 t1.size) (v3 == 65535)
        else none
      else
        L_ref1_GetSeg_3 N b164_0 b164_1 b164_2 b164_3 b164_4 b164_5 b164_6 b180_0 b180_1 b180_2 b180_3 b180_4 b180_5 (t1.extract 8 t1.size) false
      else none
      else none
    else
      L_ref1_GetSeg_3 N b164_0 b164_1 b164_2 b164_3 b164_4 b164_5 b164_6 b180_0 b180_1 b180_2 b180_3 b180_4 b180_5 b180_6 t11
def L_ref1_GetSeg_1 (N : Nat) (t0 : Int) (t1 : ByteArray) (t2 : Int) (t3 : Int) (b164_0 : Int) (b164_1 : Int) (b164_2 : Int) (b164_3 : Int) (b164_4 : Int) (b164_5 : Int) (b164_6 : ByteArray) (t24 : Bool) : Option (GSeg × Int) :=
  bif t24 then
    some ((GSeg.mk 0 0 0 0 0 0 ByteArray.empty), 300)
  else
    if 0 ≤ (2 : Int) ∧ (2 : Int) ≤ (t1.size : Int) ∧ 0 ≤ (0 : Int) ∧ (0 : Int) ≤ (2 : Int) then
    (L_ref1_Of N (t1.extract 0 2)).bind fun v1 =>
    if 0 ≤ (4 : Int) ∧ (4 : Int) ≤ (t1.size : Int) ∧ 0 ≤ (2 : Int) ∧ (2 : Int) ≤ (4 : Int) then
    (L_ref1_Of N (t1.extract 2 4)).bind fun v2 =>
    bif (t0 == 6) then
      L_ref1_GetSeg_2 N t0 t1 t2 t3 b164_0 b164_1 b164_2 b164_3 b164_4 b164_5 b164_6 t0 v1 v2 0 0 0 ByteArray.empty false (decide ((t1.size : Int) ≥ 20))
    else
      L_ref1_GetSeg_2 N t0 t1 t2 t3 b164_0 b164_1 b164_2 b164_3 b164_4 b164_5 b164_6 t0 v1 v2 0 0 0 ByteArray.empty false false
    else none
    else none
def L_ref1_GetSeg (N : Nat) (x0 : Int) (x1 : ByteArray) (x2 : Int) (x3 : Int) : Option (GSeg × Int) :=
  (L_ref1_within N x2 32).bind fun v1 =>
  bif (!v1) then
    L_ref1_GetSeg_1 N x0 x1 x2 x3 0 0 0 0 0 0 ByteArray.empty true
  else
    (L_ref1_within N x3 32).bind fun v2 =>
    bif (!v2) then
      L_ref1_GetSeg_1 N x0 x1 x2 x3 0 0 0 0 0 0 ByteArray.empty true
    else
      L_ref1_GetSeg_1 N x0 x1 x2 x3 0 0 0 0 0 0 ByteArray.empty (decide ((x1.size : Int) < 8))
def d_ref1_GetSeg (r : GSeg × Int) : D := .tup [.agg [.int .i64 r.1.Proto, .int .i64 r.1.Sport, .int .i64 r.1.Dport, .int .i64 r.1.Seq, .int .i64 r.1.Ack, .int .i64 r.1.Flags, .str r.1.Body], .int .i64 r.2]
theorem g_ref1_GetSeg_4 {c : Cx} (hc : Is c Try.prog ty 32 103) (N : Nat) {r : GSeg × Int} (hfin : c.Fin [] (d_ref1_GetSeg r) []) (b164_0 : Int) (b164_1 : Int) (b164_2 : Int) (b164_3 : Int) (b164_4 : Int) (b164_5 : Int) (b164_6 : ByteArray) (b180_0 : Int) (b180_1 : Int) (b180_2 : Int) (b180_3 : Int) (b180_4 : Int) (b180_5 : Int) (b180_6 : ByteArray) (t100 : Bool) (h : L_ref1_GetSeg_4 N b164_0 b164_1 b164_2 b164_3 b164_4 b164_5 b164_6 b180_0 b180_1 b180_2 b180_3 b180_4 b180_5 b180_6 t100 = some r) : c.Goes (items (bodyOf Try.f32) [.c 223, .c 127]) ⟨[(8, .ptr 164 0), (10, .ptr 180 0), (100, .bool t100)], [(164, some ⟨false, 0, [.int .i64 b164_0, .int .i64 b164_1, .int .i64 b164_2, .int .i64 b164_3, .int .i64 b164_4, .int .i64 b164_5, .str b164_6]⟩), (180, some ⟨false, 0, [.int .i64 b180_0, .int .i64 b180_1, .int .i64 b180_2, .int .i64 b180_3, .int .i64 b180_4, .int .i64 b180_5, .str b180_6]⟩)]⟩ := by
  unfold L_ref1_GetSeg_4 at h
  rcases brk h with ⟨h0, k0⟩ | ⟨h0, k0⟩
  · subst h0
    replace h := k0
    have h := Option.some.inj h
    refine hc.ret hfin (fn := Try.f32) (by kernel_rfl) (orc := []) (m := 3) (d := .tup [.agg [.int .i64 0, .int .i64 0, .int .i64 0, .int .i64 0, .int .i64 0, .int .i64 0, .str ByteArray.empty], .int .i64 300]) (by kernel_rfl) .nil ?_ ?_
    · rw [← h]; exact Le.of rfl
    · rw [← h]; rfl
  · subst h0
    replace h := k0
    have h := Option.some.inj h
    refine hc.ret hfin (fn := Try.f32) (by kernel_rfl) (orc := []) (m := 4) (d := .tup [.agg [.int .i64 b180_0, .int .i64 b180_1, .int .i64 b180_2, .int .i64 b180_3, .int .i64 b180_4, .int .i64 b180_5, .str b180_6], .int .i64 0]) (by kernel_rfl) .nil ?_ ?_
    · rw [← h]; exact Le.of rfl
    · rw [← h]; rfl

theorem g_ref1_GetSeg_3 {c : Cx} (hc : Is c Try.prog ty 32 103) (N : Nat) {r : GSeg × Int} (hfin : c.Fin [] (d_ref1_GetSeg r) []) (b164_0 : Int) (b164_1 : Int) (b164_2 : Int) (b164_3 : Int) (b164_4 : Int) (b164_5 : Int) (b164_6 : ByteArray) (b180_0 : Int) (b180_1 : Int) (b180_2 : Int) (b180_3 : Int) (b180_4 : Int) (b180_5 : Int) (b180_6 : ByteArray) (t11 : Bool) (h : L_ref1_GetSeg_3 N b164_0 b164_1 b164_2 b164_3 b164_4 b164_5 b164_6 b180_0 b180_1 b180_2 b180_3 b180_4 b180_5 b180_6 t11 = some r) : c.Goes (items (bodyOf Try.f32) [.b 0, .c 63]) ⟨[(8, .ptr 164 0), (10, .ptr 180 0), (11, .bool t11)], [(164, some ⟨false, 0, [.int .i64 b164_0, .int .i64 b164_1, .int .i64 b164_2, .int .i64 b164_3, .int .i64 b164_4, .int .i64 b164_5, .str b164_6]⟩), (180, some ⟨false, 0, [.int .i64 b180_0, .int .i64 b180_1, .int .i64 b180_2, .int .i64 b180_3, .int .i64 b180_4, .int .i64 b180_5, .str b180_6]⟩)]⟩ := by
  unfold L_ref1_GetSeg_3 at h
  rcases brk h with ⟨h0, h⟩ | ⟨h0, h⟩
  · exact hc.jump (orc := [(14, [(2, { cv := some (.bool true) })])]) (m := 4) (kt := [8, 10, 100]) (kh := [(164, 164), (180, 180)]) (by kernel_rfl) (.cons (Le.tt h0) .nil) (g_ref1_GetSeg_4 hc N hfin b164_0 b164_1 b164_2 b164_3 b164_4 b164_5 b164_6 b180_0 b180_1 b180_2 b180_3 b180_4 b180_5 b180_6 true h)
  · obtain ⟨v1, h1, h⟩ := bind_of h
    exact hc.jump (orc := [(14, [(2, { cv := some (.bool false) }), (4, { r := d_ref1_SegMay v1 })])]) (m := 4) (kt := [8, 10, 100]) (kh := [(164, 164), (180, 180)]) (by kernel_rfl) (.cons (Le.ff h0) (.cons (c_ref1_SegMay N (GSeg.mk b180_0 b180_1 b180_2 b180_3 b180_4 b180_5 b180_6) h1) .nil)) (g_ref1_GetSeg_4 hc N hfin b164_0 b164_1 b164_2 b164_3 b164_4 b164_5 b164_6 b180_0 b180_1 b180_2 b180_3 b180_4 b180_5 b180_6 (!v1) h)

theorem g_ref1_GetSeg_2 {c : Cx} (hc : Is c Try.prog ty 32 103) (N : Nat) {r : GSeg × Int} (hfin : c.Fin [] (d_ref1_GetSeg r) []) (t0 : Int) (t1 : ByteArray) (t2 : Int) (t3 : Int) (b164_0 : Int) (b164_1 : Int) (b164_2 : Int) (b164_3 : Int) (b164_4 : Int) (b164_5 : Int) (b164_6 : ByteArray) (b180_0 : Int) (b180_1 : Int) (b180_2 : Int) (b180_3 : Int) (b180_4 : Int) (b180_5 : Int) (b180_6 : ByteArray) (t11 : Bool) (t34 : Bool) (h : L_ref1_GetSeg_2 N t0 t1 t2 t3 b164_0 b164_1 b164_2 b164_3 b164_4 b164_5 b164_6 b180_0 b180_1 b180_2 b180_3 b180_4 b180_5 b180_6 t11 t34 = some r) : c.Goes (items (bodyOf Try.f32) [.c 207, .b 0, .c 63]) ⟨[(0, .int .i64 t0), (1, .str t1), (2, .int .i64 t2), (3, .int .i64 t3), (8, .ptr 164 0), (10, .ptr 180 0), (11, .bool t11), (34, .bool t34)], [(164, some ⟨false, 0, [.int .i64 b164_0, .int .i64 b164_1, .int .i64 b164_2, .int .i64 b164_3, .int .i64 b164_4, .int .i64 b164_5, .str b164_6]⟩), (180, some ⟨false, 0, [.int .i64 b180_0, .int .i64 b180_1, .int .i64 b180_2, .int .i64 b180_3, .int .i64 b180_4, .int .i64 b180_5, .str b180_6]⟩)]⟩ := by
  unfold L_ref1_GetSeg_2 at h
  rcases brk h with ⟨h0, k0⟩ | ⟨h0, k0⟩
  · subst h0
    replace h := k0
    obtain ⟨h1, h⟩ := chk h
    obtain ⟨v1, h2, h⟩ := bind_of h
    obtain ⟨h3, h⟩ := chk h
    obtain ⟨v2, h4, h⟩ := bind_of h
    obtain ⟨h5, h⟩ := chk h
    obtain ⟨h6, h⟩ := chk h
    obtain ⟨h7, h⟩ := chk h
    rcases brk h with ⟨h8, h⟩ | ⟨h8, h⟩
    · obtain ⟨v3, h9, h⟩ := bind_of h
      exact hc.jump (orc := [(6, [(2, { r := d_ref1_Of v1 })]), (7, [(2, { r := d_ref1_Of v2 })]), (10, [(3, { cv := some (.bool true) }), (8, { r := d_ref1_pseudo v3 })])]) (m := 10) (kt := [8, 10, 11]) (kh := [(164, 164), (180, 180)]) (by kernel_rfl) (.cons (h1) (.cons (c_ref1_Of N (t1.extract 4 8) h2) (.cons (h3) (.cons (c_ref1_Of N (t1.extract 8 12) h4) (.cons (h5) (.cons (h6) (.cons (h7) (.cons (Le.tt h8) (.cons (c_ref1_pseudo N t0 t1 t2 t3 h9) .nil))))))))) (g_ref1_GetSeg_3 hc N hfin b164_0 b164_1 b164_2 b164_3 b164_4 b164_5 b164_6 b180_0 b180_1 b180_2 v1 v2 (IntKind.i64.wrap (bt t1 13)) (t1.extract 20 t1.size) (v3 == 65535) h)
    · exact hc.jump (orc := [(6, [(2, { r := d_ref1_Of v1 })]), (7, [(2, { r := d_ref1_Of v2 })]), (10, [(3, { cv := some (.bool false) })])]) (m := 10) (kt := [8, 10, 11]) (kh := [(164, 164), (180, 180)]) (by kernel_rfl) (.cons (h1) (.cons (c_ref1_Of N (t1.extract 4 8) h2) (.cons (h3) (.cons (c_ref1_Of N (t1.extract 8 12) h4) (.cons (h5) (.cons (h6) (.cons (h7) (.cons (Le.ff h8) .nil)))))))) (g_ref1_GetSeg_3 hc N hfin b164_0 b164_1 b164_2 b164_3 b164_4 b164_5 b164_6 b180_0 b180_1 b180_2 v1 v2 (IntKind.i64.wrap (bt t1 13)) (t1.extract 20 t1.size) false h)
  · subst h0
    replace h := k0
    rcases brk h with ⟨h1, h⟩ | ⟨h1, h⟩
    · obtain ⟨h2, h⟩ := chk h
      obtain ⟨h3, h⟩ := chk h
      obtain ⟨v1, h4, h⟩ := bind_of h
      rcases brk h with ⟨h5, h⟩ | ⟨h5, h⟩
      · obtain ⟨h6, h⟩ := chk h
        obtain ⟨v2, h7, h⟩ := bind_of h
        rcases brk h with ⟨h8, h⟩ | ⟨h8, h⟩
        · exact hc.jump (orc := [(11, [(2, { cv := some (.bool true) })]), (13, [(2, { r := d_ref1_Of v1 }), (6, { cv := some (.bool true) }), (9, { r := d_ref1_Of v2 }), (11, { cv := some (.bool true) })])]) (m := 7) (kt := [8, 10, 11]) (kh := [(164, 164), (180, 180)]) (by kernel_rfl) (.cons (Le.tt h1) (.cons (h2) (.cons (h3) (.cons (c_ref1_Of N (t1.extract 4 6) h4) (.cons (Le.tt h5) (.cons (h6) (.cons (c_ref1_Of N (t1.extract 6 8) h7) (.cons (Le.tt h8) .nil)))))))) (g_ref1_GetSeg_3 hc N hfin b164_0 b164_1 b164_2 b164_3 b164_4 b164_5 b164_6 b180_0 b180_1 b180_2 b180_3 b180_4 b180_5 (t1.extract 8 t1.size) true h)
        · obtain ⟨v3, h9, h⟩ := bind_of h
          exact hc.jump (orc := [(11, [(2, { cv := some (.bool true) })]), (13, [(2, { r := d_ref1_Of v1 }), (6, { cv := some (.bool true) }), (9, { r := d_ref1_Of v2 }), (11, { cv := some (.bool false) }), (16, { r := d_ref1_pseudo v3 })])]) (m := 7) (kt := [8, 10, 11]) (kh := [(164, 164), (180, 180)]) (by kernel_rfl) (.cons (Le.tt h1) (.cons (h2) (.cons (h3) (.cons (c_ref1_Of N (t1.extract 4 6) h4) (.cons (Le.tt h5) (.cons (h6) (.cons (c_ref1_Of N (t1.extract 6 8) h7) (.cons (Le.ff h8) (.cons (c_ref1_pseudo N t0 t1 t2 t3 h9) .nil))))))))) (g_ref1_GetSeg_3 hc N hfin b164_0 b164_1 b164_2 b164_3 b164_4 b164_5 b164_6 b180_0 b180_1 b180_2 b180_3 b180_4 b180_5 (t1.extract 8 t1.size) (v3 == 65535) h)
      · exact hc.jump (orc := [(11, [(2, { cv := some (.bool true) })]), (13, [(2, { r := d_ref1_Of v1 }), (6, { cv := some (.bool false) })])]) (m := 7) (kt := [8, 10, 11]) (kh := [(164, 164), (180, 180)]) (by kernel_rfl) (.cons (Le.tt h1) (.cons (h2) (.cons (h3) (.cons (c_ref1_Of N (t1.extract 4 6) h4) (.cons (Le.ff h5) .nil))))) (g_ref1_GetSeg_3 hc N hfin b164_0 b164_1 b164_2 b164_3 b164_4 b164_5 b164_6 b180_0 b180_1 b180_2 b180_3 b180_4 b180_5 (t1.extract 8 t1.size) false h)
    · exact hc.jump (orc := [(11, [(2, { cv := some (.bool false) })])]) (m := 5) (kt := [8, 10, 11]) (kh := [(164, 164), (180, 180)]) (by kernel_rfl) (.cons (Le.ff h1) .nil) (g_ref1_GetSeg_3 hc N hfin b164_0 b164_1 b164_2 b164_3 b164_4 b164_5 b164_6 b180_0 b180_1 b180_2 b180_3 b180_4 b180_5 b180_6 t11 h)

theorem g_ref1_GetSeg_1 {c : Cx} (hc : Is c Try.prog ty 32 103) (N : Nat) {r : GSeg × Int} (hfin : c.Fin [] (d_ref1_GetSeg r) []) (t0 : Int) (t1 : ByteArray) (t2 : Int) (t3 : Int) (b164_0 : Int) (b164_1 : Int) (b164_2 : Int) (b164_3 : Int) (b164_4 : Int) (b164_5 : Int) (b164_6 : ByteArray) (t24 : Bool) (h : L_ref1_GetSeg_1 N t0 t1 t2 t3 b164_0 b164_1 b164_2 b164_3 b164_4 b164_5 b164_6 t24 = some r) : c.Goes (items (bodyOf Try.f32) [.c 13, .c 7]) ⟨[(0, .int .i64 t0), (1, .str t1), (2, .int .i64 t2), (3, .int .i64 t3), (8, .ptr 164 0), (24, .bool t24)], [(164, some ⟨false, 0, [.int .i64 b164_0, .int .i64 b164_1, .int .i64 b164_2, .int .i64 b164_3, .int .i64 b164_4, .int .i64 b164_5, .str b164_6]⟩)]⟩ := by
  unfold L_ref1_GetSeg_1 at h
  rcases brk h with ⟨h0, k0⟩ | ⟨h0, k0⟩
  · subst h0
    replace h := k0
    have h := Option.some.inj h
    refine hc.ret hfin (fn := Try.f32) (by kernel_rfl) (orc := []) (m := 3) (d := .tup [.agg [.int .i64 0, .int .i64 0, .int .i64 0, .int .i64 0, .int .i64 0, .int .i64 0, .str ByteArray.empty], .int .i64 300]) (by kernel_rfl) .nil ?_ ?_
    · rw [← h]; exact Le.of rfl
    · rw [← h]; rfl
  · subst h0
    replace h := k0
    obtain ⟨h1, h⟩ := chk h
    obtain ⟨v1, h2, h⟩ := bind_of h
    obtain ⟨h3, h⟩ := chk h
    obtain ⟨v2, h4, h⟩ := bind_of h
    rcases brk h with ⟨h5, h⟩ | ⟨h5, h⟩
    · exact hc.jump (orc := [(3, [(3, { r := d_ref1_Of v1 }), (6, { r := d_ref1_Of v2 })]), (5, [(2, { cv := some (.bool true) })])]) (m := 10) (kt := [0, 1, 2, 3, 8, 10, 11, 34]) (kh := [(164, 164), (180, 180)]) (by kernel_rfl) (.cons (h1) (.cons (c_ref1_Of N (t1.extract 0 2) h2) (.cons (h3) (.cons (c_ref1_Of N (t1.extract 2 4) h4) (.cons (Le.tt h5) .nil))))) (g_ref1_GetSeg_2 hc N hfin t0 t1 t2 t3 b164_0 b164_1 b164_2 b164_3 b164_4 b164_5 b164_6 t0 v1 v2 0 0 0 ByteArray.empty false (decide ((t1.size : Int) ≥ 20)) h)
    · exact hc.jump (orc := [(3, [(3, { r := d_ref1_Of v1 }), (6, { r := d_ref1_Of v2 })]), (5, [(2, { cv := some (.bool false) })])]) (m := 10) (kt := [0, 1, 2, 3, 8, 10, 11, 34]) (kh := [(164, 164), (180, 180)]) (by kernel_rfl) (.cons (h1) (.cons (c_ref1_Of N (t1.extract 0 2) h2) (.cons (h3) (.cons (c_ref1_Of N (t1.extract 2 4) h4) (.cons (Le.ff h5) .nil))))) (g_ref1_GetSeg_2 hc N hfin t0 t1 t2 t3 b164_0 b164_1 b164_2 b164_3 b164_4 b164_5 b164_6 t0 v1 v2 0 0 0 ByteArray.empty false false h)

theorem g_ref1_GetSeg_0 {c : Cx} (hc : Is c Try.prog ty 32 103) (N : Nat) {r : GSeg × Int} (hfin : c.Fin [] (d_ref1_GetSeg r) []) (x0 : Int) (x1 : ByteArray) (x2 : Int) (x3 : Int) (h : L_ref1_GetSeg N x0 x1 x2 x3 = some r) : c.Goes (items (bodyOf Try.f32) [.c 1]) ⟨[(0, .int .i64 x0), (1, .str x1), (2, .int .i64 x2), (3, .int .i64 x3)], []⟩ := by
  unfold L_ref1_GetSeg at h
  obtain ⟨v1, h0, h⟩ := bind_of h
  rcases brk h with ⟨h1, h⟩ | ⟨h1, h⟩
  · exact hc.jump (orc := [(1, [(1, { r := d_ref1_within v1 }), (3, { cv := some (.bool true) })])]) (m := 5) (kt := [0, 1, 2, 3, 8, 24]) (kh := [(164, 164)]) (by kernel_rfl) (.cons (c_ref1_within N x2 32 h0) (.cons (Le.tt h1) .nil)) (g_ref1_GetSeg_1 hc N hfin x0 x1 x2 x3 0 0 0 0 0 0 ByteArray.empty true h)
  · obtain ⟨v2, h2, h⟩ := bind_of h
    rcases brk h with ⟨h3, h⟩ | ⟨h3, h⟩
    · exact hc.jump (orc := [(1, [(1, { r := d_ref1_within v1 }), (3, { cv := some (.bool false) }), (5, { r := d_ref1_within v2 }), (8, { cv := some (.bool true) })])]) (m := 5) (kt := [0, 1, 2, 3, 8, 24]) (kh := [(164, 164)]) (by kernel_rfl) (.cons (c_ref1_within N x2 32 h0) (.cons (Le.ff h1) (.cons (c_ref1_within N x3 32 h2) (.cons (Le.tt h3) .nil)))) (g_ref1_GetSeg_1 hc N hfin x0 x1 x2 x3 0 0 0 0 0 0 ByteArray.empty true h)
    · exact hc.jump (orc := [(1, [(1, { r := d_ref1_within v1 }), (3, { cv := some (.bool false) }), (5, { r := d_ref1_within v2 }), (8, { cv := some (.bool false) })])]) (m := 5) (kt := [0, 1, 2, 3, 8, 24]) (kh := [(164, 164)]) (by kernel_rfl) (.cons (c_ref1_within N x2 32 h0) (.cons (Le.ff h1) (.cons (c_ref1_within N x3 32 h2) (.cons (Le.ff h3) .nil)))) (g_ref1_GetSeg_1 hc N hfin x0 x1 x2 x3 0 0 0 0 0 0 ByteArray.empty (decide ((x1.size : Int) < 8)) h)

theorem c_ref1_GetSeg (N : Nat) (x0 : Int) (x1 : ByteArray) (x2 : Int) (x3 : Int) {r : GSeg × Int} (h : L_ref1_GetSeg N x0 x1 x2 x3 = some r) : Con Try.prog 32 [.int .i64 x0, .str x1, .int .i64 x2, .int .i64 x3] [] (d_ref1_GetSeg r) [] :=
  con_intro ok mix (fn := Try.f32) (body := bodyOf Try.f32) (by kernel_rfl) (by kernel_rfl) (by kernel_rfl) rfl (Nat.le_of_ble_eq_true (by kernel_rfl)) fun c h1 h2 h3 h4 hfin => g_ref1_GetSeg_0 ⟨h1, h2, h3, h4⟩ N hfin x0 x1 x2 x3 h
/-! ### wharfage/wharfageref1.FlowOf -/
def L_ref1_FlowOf_1 (N : Nat) (b116_0 : Int) (b116_1 : Int) (b116_2 : Int) (b116_3 : Int) (b116_4 : Int) (b124_0 : Int) (b124_1 : Int) (b124_2 : Int) (b124_3 : Int) (b124_4 : Int) (b124_5 : Int) (b124_6 : ByteArray) (b140_0 : Int) (b140_1 : Int) (b140_2 : Int) (b140_3 : Int) (b140_4 : Int) (b140_5 : ByteArray) (t33 : Bool) : Option (GFlow × GSeg × Int) :=
  bif t33 then
    some ((GFlow.mk 0 0 0 0 0), (GSeg.mk 0 0 0 0 0 0 ByteArray.empty), 3)
  else
    (L_ref1_GetSeg N b140_2 b140_5 b140_0 b140_1).bind fun v1 =>
    bif (v1.2 != 0) then
      some ((GFlow.mk 0 0 0 0 0), (GSeg.mk 0 0 0 0 0 0 ByteArray.empty), 1)
    else
      some ((GFlow.mk b140_0 b140_1 b140_2 v1.1.Sport v1.1.Dport), v1.1, 0)
def L_ref1_FlowOf (N : Nat) (x0 : ByteArray) : Option (GFlow × GSeg × Int) :=
  (L_ref1_GetIp N x0).bind fun v1 =>
  bif (v1.2.1 != 0) then
    some ((GFlow.mk 0 0 0 0 0), (GSeg.mk 0 0 0 0 0 0 ByteArray.empty), v1.2.1)
  else
    bif (v1.1.Proto != 6) then
      bif (v1.1.Proto != 17) then
        L_ref1_FlowOf_1 N 0 0 0 0 0 0 0 0 0 0 0 ByteArray.empty v1.1.Src v1.1.Dst v1.1.Proto v1.1.Ttl v1.1.Id v1.1.Body true
      else
        L_ref1_FlowOf_1 N 0 0 0 0 0 0 0 0 0 0 0 ByteArray.empty v1.1.Src v1.1.Dst v1.1.Proto v1.1.Ttl v1.1.Id v1.1.Body (v1.1.Dst != 167772161)
    else
      L_ref1_FlowOf_1 N 0 0 0 0 0 0 0 0 0 0 0 ByteArray.empty v1.1.Src v1.1.Dst v1.1.Proto v1.1.Ttl v1.1.Id v1.1.Body (v1.1.Dst != 167772161)
def d_ref1_FlowOf (r : GFlow × GSeg × Int) : D := .tup [.agg [.int .i64 r.1.Src, .int .i64 r.1.Dst, .int .i64 r.1.Proto, .int .i64 r.1.Sport, .int .i64 r.1.Dport], .agg [.int .i64 r.2.1.Proto, .int .i64 r.2.1.Sport, .int .i64 r.2.1.Dport, .int .i64 r.2.1.Seq, .int .i64 r.2.1.Ack, .int .i64 r.2.1.Flags, .str r.2.1.Body], .int .i64 r.2.2]
theorem g_ref1_FlowOf_1 {c : Cx} (hc : Is c Try.prog ty 39 64) (N : Nat) {r : GFlow × GSeg × Int} (hfin : c.Fin [] (d_ref1_FlowOf r) []) (b116_0 : Int) (b116_1 : Int) (b116_2 : Int) (b116_3 : Int) (b116_4 : Int) (b124_0 : Int) (b124_1 : Int) (b124_2 : Int) (b124_3 : Int) (b124_4 : Int) (b124_5 : Int) (b124_6 : ByteArray) (b140_0 : Int) (b140_1 : Int) (b140_2 : Int) (b140_3 : Int) (b140_4 : Int) (b140_5 : ByteArray) (t33 : Bool) (h : L_ref1_FlowOf_1 N b116_0 b116_1 b116_2 b116_3 b116_4 b124_0 b124_1 b124_2 b124_3 b124_4 b124_5 b124_6 b140_0 b140_1 b140_2 b140_3 b140_4 b140_5 t33 = some r) : c.Goes (items (bodyOf Try.f39) [.c 55, .c 31]) ⟨[(2, .ptr 116 0), (3, .ptr 124 0), (5, .ptr 140 0), (33, .bool t33)], [(116, some ⟨false, 0, [.int .i64 b116_0, .int .i64 b116_1, .int .i64 b116_2, .int .i64 b116_3, .int .i64 b116_4]⟩), (124, some ⟨false, 0, [.int .i64 b124_0, .int .i64 b124_1, .int .i64 b124_2, .int .i64 b124_3, .int .i64 b124_4, .int .i64 b124_5, .str b124_6]⟩), (140, some ⟨false, 0, [.int .i64 b140_0, .int .i64 b140_1, .int .i64 b140_2, .int .i64 b140_3, .int .i64 b140_4, .str b140_5]⟩)]⟩ := by
  unfold L_ref1_FlowOf_1 at h
  rcases brk h with ⟨h0, k0⟩ | ⟨h0, k0⟩
  · subst h0
    replace h := k0
    have h := Option.some.inj h
    refine hc.ret hfin (fn := Try.f39) (by kernel_rfl) (orc := []) (m := 3) (d := .tup [.agg [.int .i64 0, .int .i64 0, .int .i64 0, .int .i64 0, .int .i64 0], .agg [.int .i64 0, .int .i64 0, .int .i64 0, .int .i64 0, .int .i64 0, .int .i64 0, .str ByteArray.empty], .int .i64 3]) (by kernel_rfl) .nil ?_ ?_
    · rw [← h]; exact Le.of rfl
    · rw [← h]; rfl
  · subst h0
    replace h := k0
    obtain ⟨v1, h1, h⟩ := bind_of h
    rcases brk h with ⟨h2, h⟩ | ⟨h2, h⟩
    · have h := Option.some.inj h
      refine hc.ret hfin (fn := Try.f39) (by kernel_rfl) (orc := [(6, [(8, { r := d_ref1_GetSeg v1 })]), (7, [(1, { cv := some (.bool true) })])]) (m := 10) (d := .tup [.agg [.int .i64 0, .int .i64 0, .int .i64 0, .int .i64 0, .int .i64 0], .agg [.int .i64 0, .int .i64 0, .int .i64 0, .int .i64 0, .int .i64 0, .int .i64 0, .str ByteArray.empty], .int .i64 1]) (by kernel_rfl) (.cons (c_ref1_GetSeg N b140_2 b140_5 b140_0 b140_1 h1) (.cons (Le.tt h2) .nil)) ?_ ?_
      · rw [← h]; exact Le.of rfl
      · rw [← h]; rfl
    · have h := Option.some.inj h
      refine hc.ret hfin (fn := Try.f39) (by kernel_rfl) (orc := [(6, [(8, { r := d_ref1_GetSeg v1 })]), (7, [(1, { cv := some (.bool false) })])]) (m := 11) (d := .tup [.agg [.int .i64 b140_0, .int .i64 b140_1, .int .i64 b140_2, .int .i64 v1.1.Sport, .int .i64 v1.1.Dport], .agg [.int .i64 v1.1.Proto, .int .i64 v1.1.Sport, .int .i64 v1.1.Dport, .int .i64 v1.1.Seq, .int .i64 v1.1.Ack, .int .i64 v1.1.Flags, .str v1.1.Body], .int .i64 0]) (by kernel_rfl) (.cons (c_ref1_GetSeg N b140_2 b140_5 b140_0 b140_1 h1) (.cons (Le.ff h2) .nil)) ?_ ?_
      · rw [← h]; exact Le.of rfl
      · rw [← h]; rfl

theorem g_ref1_FlowOf_0 {c : Cx} (hc : Is c Try.prog ty 39 64) (N : Nat) {r : GFlow × GSeg × Int} (hfin : c.Fin [] (d_ref1_FlowOf r) []) (x0 : ByteArray) (h : L_ref1_FlowOf N x0 = some r) : c.Goes (items (bodyOf Try.f39) [.c 1]) ⟨[(0, .str x0)], []⟩ := by
  unfold L_ref1_FlowOf at h
  obtain ⟨v1, h0, h⟩ := bind_of h
  rcases brk h with ⟨h1, h⟩ | ⟨h1, h⟩
  · have h := Option.some.inj h
    refine hc.ret hfin (fn := Try.f39) (by kernel_rfl) (orc := [(1, [(1, { r := d_ref1_GetIp v1 })]), (2, [(1, { cv := some (.bool true) })])]) (m := 10) (d := .tup [.agg [.int .i64 0, .int .i64 0, .int .i64 0, .int .i64 0, .int .i64 0], .agg [.int .i64 0, .int .i64 0, .int .i64 0, .int .i64 0, .int .i64 0, .int .i64 0, .str ByteArray.empty], .int .i64 v1.2.1]) (by kernel_rfl) (.cons (c_ref1_GetIp N x0 h0) (.cons (Le.tt h1) .nil)) ?_ ?_
    · rw [← h]; exact Le.of rfl
    · rw [← h]; rfl
  · rcases brk h with ⟨h2, h⟩ | ⟨h2, h⟩
    · rcases brk h with ⟨h3, h⟩ | ⟨h3, h⟩
      · exact hc.jump (orc := [(1, [(1, { r := d_ref1_GetIp v1 })]), (2, [(1, { cv := some (.bool false) })]), (4, [(3, { cv := some (.bool true) }), (8, { cv := some (.bool true) })])]) (m := 12) (kt := [2, 3, 5, 33]) (kh := [(116, 116), (124, 124), (140, 140)]) (by kernel_rfl) (.cons (c_ref1_GetIp N x0 h0) (.cons (Le.ff h1) (.cons (Le.tt h2) (.cons (Le.tt h3) .nil)))) (g_ref1_FlowOf_1 hc N hfin 0 0 0 0 0 0 0 0 0 0 0 ByteArray.empty v1.1.Src v1.1.Dst v1.1.Proto v1.1.Ttl v1.1.Id v1.1.Body true h)
      · exact hc.jump (orc := [(1, [(1, { r := d_ref1_GetIp v1 })]), (2, [(1, { cv := some (.bool false) })]), (4, [(3, { cv := some (.bool true) }), (8, { cv := some (.bool false) })])]) (m := 12) (kt := [2, 3, 5, 33]) (kh := [(116, 116), (124, 124), (140, 140)]) (by kernel_rfl) (.cons (c_ref1_GetIp N x0 h0) (.cons (Le.ff h1) (.cons (Le.tt h2) (.cons (Le.ff h3) .nil)))) (g_ref1_FlowOf_1 hc N hfin 0 0 0 0 0 0 0 0 0 0 0 ByteArray.empty v1.1.Src v1.1.Dst v1.1.Proto v1.1.Ttl v1.1.Id v1.1.Body (v1.1.Dst != 167772161) h)
    · exact hc.jump (orc := [(1, [(1, { r := d_ref1_GetIp v1 })]), (2, [(1, { cv := some (.bool false) })]), (4, [(3, { cv := some (.bool false) })])]) (m := 12) (kt := [2, 3, 5, 33]) (kh := [(116, 116), (124, 124), (140, 140)]) (by kernel_rfl) (.cons (c_ref1_GetIp N x0 h0) (.cons (Le.ff h1) (.cons (Le.ff h2) .nil))) (g_ref1_FlowOf_1 hc N hfin 0 0 0 0 0 0 0 0 0 0 0 ByteArray.empty v1.1.Src v1.1.Dst v1.1.Proto v1.1.Ttl v1.1.Id v1.1.Body (v1.1.Dst != 167772161) h)

theorem c_ref1_FlowOf (N : Nat) (x0 : ByteArray) {r : GFlow × GSeg × Int} (h : L_ref1_FlowOf N x0 = some r) : Con Try.prog 39 [.str x0] [] (d_ref1_FlowOf r) [] :=
  con_intro ok mix (fn := Try.f39) (body := bodyOf Try.f39) (by kernel_rfl) (by kernel_rfl) (by kernel_rfl) rfl (Nat.le_of_ble_eq_true (by kernel_rfl)) fun c h1 h2 h3 h4 hfin => g_ref1_FlowOf_0 ⟨h1, h2, h3, h4⟩ N hfin x0 h
/-! ### wharfage/wharfageref19.classed -/
def L_ref19_classed (N : Nat) (x0 : GEvent) (x1 : Int) : Option (GOut) :=
  if 0 ≤ x1 ∧ x1 < ((4 : Nat) : Int) then
  some (GOut.mk ([]) ([(GEvent.mk (([0, 2, 3, 4]).getD x1.toNat default) x0.Role x0.Site x0.Node x0.To x0.Flow)]))
  else none
def d_ref19_classed (r : GOut) : D := .agg [.sl true (eL eStr r.Sent) r.Sent.length r.Sent.length, .sl true (eL eEvent r.Events) r.Events.length r.Events.length]
theorem g_ref19_classed_0 {c : Cx} (hc : Is c Try.prog ty 76 13) (N : Nat) {r : GOut} (hfin : c.Fin [] (d_ref19_classed r) []) (x0 : GEvent) (x1 : Int) (h : L_ref19_classed N x0 x1 = some r) : c.Goes (items (bodyOf Try.f76) [.c 1]) ⟨[(0, .agg [.int .i64 x0.Kind, .int .i64 x0.Role, .int .i64 x0.Site, .int .i64 x0.Node, .int .i64 x0.To, .int .i64 x0.Flow.Src, .int .i64 x0.Flow.Dst, .int .i64 x0.Flow.Proto, .int .i64 x0.Flow.Sport, .int .i64 x0.Flow.Dport]), (1, .int .i64 x1)], []⟩ := by
  unfold L_ref19_classed at h
  obtain ⟨h0, h⟩ := chk h
  have h := Option.some.inj h
  refine hc.ret hfin (fn := Try.f76) (by kernel_rfl) (orc := [(1, [(2, { cv := some (.ptr 140 (x1.toNat * 1 + 0)) }), (3, { cv := some (.int .i64 (([0, 2, 3, 4]).getD x1.toNat default)) })]), (2, [(2, { frz := true })])]) (m := 6) (d := .agg [.nils, .sl true (eL eEvent ([(GEvent.mk (([0, 2, 3, 4]).getD x1.toNat default) x0.Role x0.Site x0.Node x0.To x0.Flow)])) 1 1]) (by kernel_rfl) (.cons (h0) (.cons (Le.pt (b := 140) (k := x1.toNat * 1)) (.cons (ld_ne (xs := [0, 2, 3, 4]) (eInt_len .i64) (ixl h0) (o := 0) (by decide)) (.cons (Le.of (ld_hd (xs := [0, 2, 3, 4]) (eInt_len .i64) (ixl h0) (o := 0) (by decide))) .nil)))) ?_ ?_
  · rw [← h]; exact Le.agg ((.cons (Le.nils) (.cons (Le.of rfl) .nil)))
  · rw [← h]; rfl

theorem c_ref19_classed (N : Nat) (x0 : GEvent) (x1 : Int) {r : GOut} (h : L_ref19_classed N x0 x1 = some r) : Con Try.prog 76 [.agg [.int .i64 x0.Kind, .int .i64 x0.Role, .int .i64 x0.Site, .int .i64 x0.Node, .int .i64 x0.To, .int .i64 x0.Flow.Src, .int .i64 x0.Flow.Dst, .int .i64 x0.Flow.Proto, .int .i64 x0.Flow.Sport, .int .i64 x0.Flow.Dport], .int .i64 x1] [] (d_ref19_classed r) [] :=
  con_intro ok mix (fn := Try.f76) (body := bodyOf Try.f76) (by kernel_rfl) (by kernel_rfl) (by kernel_rfl) rfl (Nat.le_of_ble_eq_true (by kernel_rfl)) fun c h1 h2 h3 h4 hfin => g_ref19_classed_0 ⟨h1, h2, h3, h4⟩ N hfin x0 x1 h
end Go.Proofs.Ytobhmonmeocfmaa.Lf
